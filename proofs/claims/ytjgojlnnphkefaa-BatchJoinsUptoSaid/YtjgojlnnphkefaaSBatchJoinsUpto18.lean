import Derived.Test.YtjgojlnnphkefaaSBatchJoinsUpto14
import Derived.Test.YtjgojlnnphkefaaSBatchJoinsUpto15
import Derived.Test.YtjgojlnnphkefaaSBatchJoinsUpto16
import Derived.Test.YtjgojlnnphkefaaSBatchJoinsUpto17
import Derived.Test.YtjgojlnnphkefaaRows
import Derived.JoinedCond
import Derived.Deep.CondSized
import Derived.WalkKit
import Derived.ProofKit
import Derived.OpenShut
import Derived.ShutString
import Derived.ChangeOld
import Derived.Below
import Derived.SizedLaws
section
namespace Go.Proofs.Ytjgojlnnphkefaa.Form.BatchJoinsU
open Go.RowKit Go.Proofs.Ytjgojlnnphkefaa.P Go.Proofs.YtjgojlnnphkefaaW.PrintWords Go.Proofs.YtjgojlnnphkefaaW.PrintLast
set_option linter.unusedVariables false
def Pure : Prop := ∀ (l0 : List (List (List Int))) (a1 : Int), (l0.length ≤ maxLen ∧ l0.length * 24 ≤ 140737488351232 ∧ ∀ y1 ∈ l0, y1.length ≤ maxLen ∧ y1.length * 24 ≤ 140737488351232 ∧ ∀ y2 ∈ y1, y2.length ≤ maxLen ∧ y2.length * 8 ≤ 140737488351232 ∧ ∀ y3 ∈ y2, (Lit.int .u64 y3).wf = true) → ((Lit.int .i64 a1).wf = true) → (((1 + (l0.map (fun y4 => (1 + (y4.map (fun y5 => (1 + (y5.map (fun y6 => 1)).sum))).sum))).sum)) ≤ 1048576) → ∃ k, conclavelaw29_BatchJoins.f k l0 a1 = some true
end Go.Proofs.Ytjgojlnnphkefaa.Form.BatchJoinsU
end
section
namespace Go.Proofs.Ytjgojlnnphkefaa.Plain
open Go.RowKit Go.Proofs.YtjgojlnnphkefaaW.PrintWords Go.Proofs.YtjgojlnnphkefaaW.PrintLast Go.Proofs.YtjgojlnnphkefaaW.PrintMore
set_option linter.unusedVariables false
set_option linter.unusedSimpArgs false
theorem w64 {x : Int} (h0 : -9223372036854775808 ≤ x) (h1 : x ≤ 9223372036854775807) : wrap64 x = x := by unfold wrap64; omega
def Bytes (l : List Int) : Prop := ∀ x ∈ l, 0 ≤ x ∧ x < 256
theorem Bytes.take {l : List Int} (h : Bytes l) (n : Nat) : Bytes (l.take n) := fun x hx => h x (List.mem_of_mem_take hx)
theorem Bytes.drop {l : List Int} (h : Bytes l) (n : Nat) : Bytes (l.drop n) := fun x hx => h x (List.mem_of_mem_drop hx)
theorem Bytes.append {a b : List Int} (h : Bytes a) (h' : Bytes b) : Bytes (a ++ b) := fun x hx => (List.mem_append.1 hx).elim (h x) (h' x)
theorem rd_at {l : List Int} {i : Nat} (h : i < l.length) : rd l (i : Int) = l[i] := by simp [rd, h]
theorem drop_at {l : List Int} {i : Nat} (h : i < l.length) : l.drop i = rd l (i : Int) :: l.drop (i + 1) := by rw [rd_at h, List.drop_eq_getElem_cons h]
end Go.Proofs.Ytjgojlnnphkefaa.Plain
end
section
namespace Go.Proofs.Ytjgojlnnphkefaa.Plain
open Go.RowKit Go.Proofs.Ytjgojlnnphkefaa.P Go.Proofs.YtjgojlnnphkefaaW.PrintWords Go.Proofs.YtjgojlnnphkefaaW.PrintLast Go.Proofs.YtjgojlnnphkefaaW.PrintMore
set_option linter.unusedVariables false
set_option linter.unusedSimpArgs false
def below (p : Int) (l : List Int) : Bool := l.all fun x => decide (x < p)
def U64 (l : List Int) : Prop := ∀ x ∈ l, 0 ≤ x ∧ x < 18446744073709551616
end Go.Proofs.Ytjgojlnnphkefaa.Plain
end
section
namespace Go.Proofs.Ytjgojlnnphkefaa.Plain
open Go.RowKit Go.Proofs.Ytjgojlnnphkefaa.P Go.Proofs.YtjgojlnnphkefaaW.PrintWords Go.Proofs.YtjgojlnnphkefaaW.PrintLast Go.Proofs.YtjgojlnnphkefaaW.PrintMore
set_option linter.unusedVariables false
set_option linter.unusedSimpArgs false
theorem fSame_ev (a b : List Int) (he : a.length = b.length) (hl : a.length ≤ 9223372036854775807) : ∀ (d i : Nat), i + d = a.length → Ev (fun k => conclaveref01_Same.l0 k a b (i : Int)) (decide (a.drop i = b.drop i)) := by
  intro d
  induction d with
  | zero =>
    intro i hi
    refine Ev.step (f := fun _ => some true) (fun k => ?_) (by rw [List.drop_eq_nil_of_le (by omega), List.drop_eq_nil_of_le (by omega)]; exact Ev.now _)
    simp only [conclaveref01_Same.l0]
    rw [if_neg (by omega)]
  | succ d ih =>
    intro i hi
    have hlt : i < a.length := by omega
    have hlt2 : i < b.length := by omega
    rw [drop_at hlt, drop_at hlt2]
    by_cases hp : rd a (i : Int) = rd b (i : Int)
    · refine Ev.step (f := fun k => conclaveref01_Same.l0 k a b ((i + 1 : Nat) : Int)) (fun k => ?_) (by rw [hp]; simpa using ih (i + 1) (by omega))
      simp only [conclaveref01_Same.l0]
      rw [if_pos (by omega), if_pos (by omega), if_pos (by omega), if_pos hp, w64 (by omega) (by omega)]; rfl
    · refine Ev.step (f := fun k => some false) (fun k => ?_) (by rw [show decide (rd a (i : Int) :: a.drop (i + 1) = rd b (i : Int) :: b.drop (i + 1)) = false by simp [hp]]; exact Ev.now _)
      simp only [conclaveref01_Same.l0]
      rw [if_pos (by omega), if_pos (by omega), if_pos (by omega), if_neg hp]
theorem fSame_f (a b : List Int) (hl : a.length ≤ 9223372036854775807) : Ev (fun k => conclaveref01_Same.f k a b) (decide (a = b)) := by
  unfold conclaveref01_Same.f
  by_cases he : a.length = b.length
  · simp only [if_pos (show (a.length : Int) = (b.length : Int) by omega)]
    exact fSame_ev a b he hl a.length 0 (by omega)
  · simp only [if_neg (show ¬ (a.length : Int) = (b.length : Int) by omega)]
    rw [show decide (a = b) = false by simp; intro h; exact he (by rw [h])]
    exact Ev.now _
end Go.Proofs.Ytjgojlnnphkefaa.Plain
end
section
namespace Go.Proofs.Ytjgojlnnphkefaa.Plain
open Go.RowKit Go.Proofs.Ytjgojlnnphkefaa.P Go.Proofs.YtjgojlnnphkefaaW.PrintWords Go.Proofs.YtjgojlnnphkefaaW.PrintLast Go.Proofs.YtjgojlnnphkefaaW.PrintMore
set_option linter.unusedVariables false
set_option linter.unusedSimpArgs false
def zeros (W : Int) : List Int := List.replicate W.toNat 0
def block (rows : List (List Int)) (W : Int) (i : Nat) : List Int := rows.getD i (zeros W)
theorem rd5 (rows : List (List Int)) (i : Nat) : rd_L5 rows (i : Int) = rows.getD i [] := by simp [rd_L5]
theorem clone1 (l : List Int) (h : l.length < 17592186044416) : slices_Clone_uint64_uint64_59.f l = some l := by
  unfold slices_Clone_uint64_uint64_59.f
  simp [h]
end Go.Proofs.Ytjgojlnnphkefaa.Plain
end
section
namespace Go.Proofs.Ytjgojlnnphkefaa.Plain
open Go.RowKit Go.Proofs.Ytjgojlnnphkefaa.P Go.Proofs.YtjgojlnnphkefaaW.PrintWords Go.Proofs.YtjgojlnnphkefaaW.PrintLast Go.Proofs.YtjgojlnnphkefaaW.PrintMore
set_option linter.unusedVariables false
set_option linter.unusedSimpArgs false
def Short (rows : List (List Int)) : Prop := rows.length ≤ 9223372036854775807 ∧ ∀ y ∈ rows, y.length ≤ 9223372036854775807 ∧ U64 y
theorem Short.at {rows : List (List Int)} (h : Short rows) (i : Nat) : (rows.getD i []).length ≤ 9223372036854775807 ∧ U64 (rows.getD i []) := by
  rw [List.getD_eq_getElem?_getD]
  rcases Nat.lt_or_ge i rows.length with hi | hi
  · rw [List.getElem?_eq_getElem hi]; exact h.2 _ (List.getElem_mem hi)
  · rw [List.getElem?_eq_none hi]; exact ⟨by simp, fun x hx => by cases hx⟩
end Go.Proofs.Ytjgojlnnphkefaa.Plain
end
section
namespace Go.Proofs.Ytjgojlnnphkefaa.Plain
open Go.RowKit Go.Proofs.Ytjgojlnnphkefaa.P Go.Proofs.YtjgojlnnphkefaaW.PrintWords Go.Proofs.YtjgojlnnphkefaaW.PrintLast Go.Proofs.YtjgojlnnphkefaaW.PrintMore
set_option linter.unusedVariables false
set_option linter.unusedSimpArgs false
theorem anchored29 : Ev (fun k => conclavelaw29_anchored.f k) true := Ev.of conclavelaw29_anchored.mono (k := 40) (by decide +kernel)
theorem getD_len {l : List (List Int)} {M : Nat} (h : ∀ x ∈ l, x.length ≤ M) (i : Nat) : (l.getD i []).length ≤ M := by
  rw [List.getD_eq_getElem?_getD]
  rcases Nat.lt_or_ge i l.length with hi | hi
  · rw [List.getElem?_eq_getElem hi]; exact h _ (List.getElem_mem hi)
  · rw [List.getElem?_eq_none hi]; simp
theorem rows_refl_l (a : List (List Int)) (h0 : a.length ≤ 9223372036854775807) (h : ∀ x ∈ a, x.length ≤ 9223372036854775807) : ∀ (d i : Nat), i + d = a.length → Ev (fun k => conclaveref01_Rows.l0 k a a (i : Int)) true := by
  intro d
  induction d with
  | zero =>
    intro i hi
    refine Ev.step (f := fun _ => some true) (fun k => ?_) (Ev.now _)
    simp only [conclaveref01_Rows.l0]
    rw [if_neg (by omega)]
  | succ d ih =>
    intro i hi
    have hs := fSame_f (a.getD i []) (a.getD i []) (getD_len h i)
    rw [decide_eq_true rfl] at hs
    refine Ev.step (fun k => by
      simp only [conclaveref01_Rows.l0]
      rw [if_pos (by omega), if_pos (by omega), if_pos (by omega), rd5, w64 (by omega) (by omega)]) (Ev.bind (f := fun k t => if t = true then conclaveref01_Rows.l0 k a a ((i : Int) + 1) else some false) hs ?_)
    simp only [if_true]
    exact ih (i + 1) (by omega)
theorem rows_refl (a : List (List Int)) (h0 : a.length ≤ 9223372036854775807) (h : ∀ x ∈ a, x.length ≤ 9223372036854775807) : Ev (fun k => conclaveref01_Rows.f k a a) true := by
  unfold conclaveref01_Rows.f
  have e := rows_refl_l a h0 h a.length 0 (by omega)
  rw [show ((0 : Nat) : Int) = 0 from rfl] at e
  exact Ev.congr (fun k => if_pos rfl) e
theorem rd6 (l : List (List (List Int))) (i : Nat) : rd_L6 l (i : Int) = l.getD i [] := by simp [rd_L6]
theorem concat_l (l : List (List (List Int))) (h0 : l.length ≤ 9223372036854775807) : ∀ (d i : Nat) (x : List (List Int)), i + d = l.length → x.length + (l.drop i).flatten.length < 5864062014805 →
    Ev (fun k => slices_Concat_uint64_uint64.l0 k x l (l.length : Int) (i : Int)) (x ++ (l.drop i).flatten) := by
  intro d
  induction d with
  | zero =>
    intro i x hi hx
    refine Ev.step (f := fun _ => some x) (fun k => ?_) (by rw [List.drop_eq_nil_of_le (by omega)]; simpa using Ev.now _)
    simp only [slices_Concat_uint64_uint64.l0]
    rw [if_neg (by omega)]
  | succ d ih =>
    intro i x hi hx
    have hlt : i < l.length := by omega
    have hd : l.drop i = l.getD i [] :: l.drop (i + 1) := by rw [List.drop_eq_getElem_cons hlt]; simp [hlt]
    rw [hd, List.flatten_cons] at hx ⊢
    rw [List.length_append] at hx
    have h := ih (i + 1) (x ++ l.getD i []) (by omega) (by rw [List.length_append]; omega)
    rw [List.append_assoc] at h
    refine Ev.step (fun k => ?_) h
    simp only [slices_Concat_uint64_uint64.l0]
    rw [if_pos (by omega), if_pos (by omega), if_pos (by omega), if_pos (by rw [rd6]; omega), rd6, w64 (by omega) (by omega)]
    rfl
theorem concat_f (l : List (List (List Int))) (h0 : l.length ≤ 9223372036854775807) (h : l.flatten.length < 5864062014805) : Ev (fun k => slices_Concat_uint64_uint64.f k l) l.flatten := by
  unfold slices_Concat_uint64_uint64.f
  have e := concat_l l h0 l.length 0 [] (by omega) (by simpa using h)
  rw [List.drop_zero, List.nil_append, show ((0 : Nat) : Int) = 0 from rfl] at e
  exact e
theorem join_l (y : List (List Int)) (h0 : y.length < 5864062014805) (h : ∀ x ∈ y, x.length < 17592186044416) : ∀ (d i : Nat), i + d = y.length → Ev (fun k => batch_Join.l0 k (y.take i) y (y.length : Int) (i : Int)) (y, 0) := by
  intro d
  induction d with
  | zero =>
    intro i hi
    refine Ev.step (f := fun _ => some (y, 0)) (fun k => ?_) (Ev.now _)
    simp only [batch_Join.l0]
    rw [if_neg (by omega), List.take_of_length_le (by omega)]
  | succ d ih =>
    intro i hi
    have hlt : i < y.length := by omega
    have hg : y.getD i [] = y[i] := by simp [hlt]
    have hc := clone1 (y.getD i []) (by rw [hg]; exact h _ (List.getElem_mem hlt))
    refine Ev.step (fun k => ?_) (ih (i + 1) (by omega))
    simp only [batch_Join.l0]
    rw [if_pos (by omega), if_pos (by omega), if_pos (by omega), rd5, hc, Option.bind_some, if_pos (by rw [List.length_take]; omega), w64 (by omega) (by omega), List.take_succ_eq_append_getElem hlt, hg]
    rfl
theorem join_f (l : List (List (List Int))) (n : Nat) (h0 : l.length ≤ 9223372036854775807) (h : l.flatten.length < 5864062014805) (hn : n ≤ l.flatten.length) (hs : ∀ x ∈ l.flatten, x.length < 17592186044416) : Ev (fun k => batch_Join.f k l (n : Int)) (l.flatten.take n, 0) := by
  unfold batch_Join.f
  refine Ev.bind (f := fun k t => _) (concat_f l h0 h) ?_
  have e := join_l (l.flatten.take n) (by rw [List.length_take]; omega) (fun x hx => hs x (List.mem_of_mem_take hx)) (l.flatten.take n).length 0 (by omega)
  rw [List.take_zero, show ((0 : Nat) : Int) = 0 from rfl] at e
  refine Ev.congr (fun k => if_neg (by omega)) (Ev.step (fun k => ?_) e)
  simp only [batch_Join.j0]
  rw [decide_eq_false (show ¬ (n : Int) > (l.flatten.length : Int) by omega), if_neg Bool.false_ne_true, if_pos (by omega), if_pos (by omega), Option.bind_some, Int.toNat_natCast]
end Go.Proofs.Ytjgojlnnphkefaa.Plain
end
section
namespace Go.Proofs.Ytjgojlnnphkefaa.Pure
open Go.RowKit Go.Proofs.Ytjgojlnnphkefaa.P Go.Proofs.YtjgojlnnphkefaaW.PrintWords Go.Proofs.YtjgojlnnphkefaaW.PrintLast Plain
theorem copy1 (l : List Int) (h : l.length < 17592186044416) : conclaveref01_Copy.f l = some l := by
  unfold conclaveref01_Copy.f
  simp [h]
theorem copyRows_l (y : List (List Int)) (h0 : y.length < 5864062014805) (h : ∀ x ∈ y, x.length < 17592186044416) : ∀ (d i : Nat), i + d = y.length → Ev (fun k => conclaveref01_CopyRows.l0 k y (y.take i) (i : Int)) y := by
  intro d
  induction d with
  | zero =>
    intro i hi
    refine Ev.step (f := fun _ => some y) (fun k => ?_) (Ev.now _)
    simp only [conclaveref01_CopyRows.l0]
    rw [if_neg (by omega), List.take_of_length_le (by omega)]
  | succ d ih =>
    intro i hi
    have hlt : i < y.length := by omega
    have hg : y.getD i [] = y[i] := by simp [hlt]
    have hc := copy1 (y.getD i []) (by rw [hg]; exact h _ (List.getElem_mem hlt))
    refine Ev.step (fun k => ?_) (ih (i + 1) (by omega))
    simp only [conclaveref01_CopyRows.l0]
    rw [if_pos (by omega), if_pos (by omega), rd5, hc, Option.bind_some, if_pos (by rw [List.length_take]; omega), w64 (by omega) (by omega), List.take_succ_eq_append_getElem hlt, hg]
    rfl
theorem copyRows_f (y : List (List Int)) (h0 : y.length < 5864062014805) (h : ∀ x ∈ y, x.length < 17592186044416) : Ev (fun k => conclaveref01_CopyRows.f k y) y := by
  unfold conclaveref01_CopyRows.f
  have e := copyRows_l y h0 h y.length 0 (by omega)
  rw [List.take_zero, show ((0 : Nat) : Int) = 0 from rfl] at e
  exact e
def joinOf (l : List (List (List Int))) (n : Int) : List (List Int) × Int := if 0 ≤ n ∧ n ≤ (l.flatten.length : Int) then (l.flatten.take n.toNat, 0) else ([], 2)
theorem rJoin_l (l : List (List (List Int))) (n : Int) (h0 : l.length ≤ 9223372036854775807) (hs : ∀ x ∈ l, x.length < 5864062014805 ∧ ∀ y ∈ x, y.length < 17592186044416) (ht : l.flatten.length < 5864062014805) : ∀ (d i : Nat) (x : List (List Int)), i + d = l.length → x ++ (l.drop i).flatten = l.flatten →
    Ev (fun k => conclaveref29_Join.l0 k l n x (i : Int)) (joinOf l n) := by
  intro d
  induction d with
  | zero =>
    intro i x hi hx
    rw [List.drop_eq_nil_of_le (by omega), List.flatten_nil, List.append_nil] at hx
    subst hx
    refine Ev.step (f := fun _ => some (joinOf l n)) (fun k => ?_) (Ev.now _)
    simp only [conclaveref29_Join.l0]
    rw [if_neg (by omega)]
    unfold joinOf
    by_cases h1 : n < 0
    · rw [if_pos h1, if_neg (by omega)]
    · rw [if_neg h1]
      by_cases h2 : n > (l.flatten.length : Int)
      · rw [if_pos h2, if_neg (by omega)]
      · rw [if_neg h2, if_pos (by omega), if_pos (by omega), if_pos (by omega)]
  | succ d ih =>
    intro i x hi hx
    have hlt : i < l.length := by omega
    have hd : l.drop i = l.getD i [] :: l.drop (i + 1) := by rw [List.drop_eq_getElem_cons hlt]; simp [hlt]
    have hg : l.getD i [] = l[i] := by simp [hlt]
    have hm := hs _ (List.getElem_mem hlt)
    rw [← hg] at hm
    have hlen : x.length + (l.getD i []).length < 5864062014805 := by
      have := congrArg List.length hx
      rw [hd, List.flatten_cons, List.length_append, List.length_append] at this
      omega
    rw [hd, List.flatten_cons, ← List.append_assoc] at hx
    refine Ev.step (fun k => by
      simp only [conclaveref29_Join.l0]
      rw [if_pos (by omega), if_pos (by omega), rd6, w64 (by omega) (by omega)]) (Ev.bind (f := fun k t => if x.length + t.length < 5864062014805 then conclaveref29_Join.l0 k l n (x ++ t) ((i : Int) + 1) else none) (copyRows_f _ hm.1 hm.2) ?_)
    exact Ev.congr (fun k => if_pos hlen) (ih (i + 1) _ (by omega) hx)
theorem pJoin_f (l : List (List (List Int))) (n : Int) (h0 : l.length ≤ 9223372036854775807) (ht : l.flatten.length < 5864062014805) (hs : ∀ x ∈ l.flatten, x.length < 17592186044416) : Ev (fun k => batch_Join.f k l n) (joinOf l n) := by
  unfold joinOf
  by_cases h : 0 ≤ n ∧ n ≤ (l.flatten.length : Int)
  · rw [if_pos h]
    obtain ⟨m, rfl⟩ := Int.eq_ofNat_of_zero_le h.1
    rw [Int.toNat_natCast]
    exact join_f l m h0 ht (by omega) hs
  · rw [if_neg h]
    unfold batch_Join.f
    refine Ev.bind (f := fun k t => _) (concat_f l h0 ht) ?_
    have bad : ∀ t, Ev (fun k => batch_Join.j0 k n t true) ([], 2) := fun t => Ev.step (f := fun _ => some ([], 2)) (fun k => by simp only [batch_Join.j0, if_true]) (Ev.now _)
    by_cases h1 : n < 0
    · exact Ev.congr (fun k => if_pos h1) (bad _)
    · refine Ev.congr (fun k => if_neg h1) ?_
      rw [decide_eq_true (show n > (l.flatten.length : Int) by omega)]
      exact bad _
theorem bulk_flat : ∀ (l : List (List (List Int))), l.flatten.length ≤ (l.map (fun y => (1 + (y.map (fun z => (1 + (z.map (fun _ => 1)).sum))).sum))).sum
  | [] => by simp
  | x :: l => by
    have ih := bulk_flat l
    have h : ∀ y : List (List Int), y.length ≤ (y.map (fun z => (1 + (z.map (fun _ => 1)).sum))).sum := by
      intro y
      induction y with
      | nil => simp
      | cons a y ih => simp only [List.map_cons, List.sum_cons, List.length_cons]; omega
    have hx := h x
    simp only [List.flatten_cons, List.length_append, List.map_cons, List.sum_cons]
    omega
theorem BatchJoinsU : Form.BatchJoinsU.Pure := by
  intro l n hl hn hB
  have hb := bulk_flat l
  have hflat : l.flatten.length ≤ 1048576 := by omega
  have hlen : l.length ≤ 9223372036854775807 := by have := hl.1; simp only [maxLen] at this; omega
  have hs : ∀ x ∈ l, x.length < 5864062014805 ∧ ∀ y ∈ x, y.length < 17592186044416 := fun x hx => ⟨by have := (hl.2.2 x hx).2.1; omega, fun y hy => by have := ((hl.2.2 x hx).2.2 y hy).2.1; omega⟩
  have hs2 : ∀ x ∈ l.flatten, x.length < 17592186044416 := fun x hx => by
    obtain ⟨y, hy, hx⟩ := List.mem_flatten.1 hx
    exact (hs y hy).2 x hx
  refine Ev.rounds ?_
  unfold conclavelaw29_BatchJoins.f
  refine Ev.bind (f := fun k t => _) (pJoin_f l n hlen (by omega) hs2) ?_
  have hr := rJoin_l l n hlen hs (by omega) l.length 0 [] (by omega) (by simp)
  rw [show ((0 : Nat) : Int) = 0 from rfl] at hr
  refine Ev.bind (f := fun k t => _) hr ?_
  have hsame : Ev (fun k => conclaveref01_Rows.f k (joinOf l n).1 (joinOf l n).1) true := by
    unfold joinOf
    split
    · refine rows_refl _ (by rw [List.length_take]; omega) (fun x hx => ?_)
      have := hs2 x (List.mem_of_mem_take hx)
      omega
    · exact rows_refl _ (by simp) (fun x hx => by cases hx)
  refine Ev.bind (f := fun k t => _) hsame ?_
  simp only [if_true]
  exact Ev.bind (f := fun k t => some t) anchored29 (Ev.now _)
end Go.Proofs.Ytjgojlnnphkefaa.Pure
end
section
namespace Go.Proofs.Ytjgojlnnphkefaa.batchJoinsU
open Go.ChangeShapes Go.WideShapes Go.ChangeAt Go.RowKit Go.Proofs.YtjgojlnnphkefaaW.PrintWords Go.Proofs.Ytjgojlnnphkefaa.P Go.Proofs.Ytjgojlnnphkefaa.Form.BatchJoinsU
set_option linter.unusedVariables false
theorem own : ownKnob Try.prog.godebug = none := by kernel_rfl
theorem laidOut : laidOutB Try.prog = true := by kernel_rfl
set_option maxRecDepth 100000 in
theorem contract (H : Type) (enc : TypeId × Value → H) (W : World) (base : Nat) (args : Array Value) (ds gs : List (DataW H)) (before : List MemPlace)
    (hval0 : ∀ (j : Nat) t v, Try.f5.params[j]? = some t → args[j]? = some v → Value.okWide Try.prog W .any base t v)
    (hW : DataW.Whole enc Try.prog Try.f5.params.toList Rows.batchJoinsSpec.vars false W args.toList ds gs before) (hk : Rows.uptoSmall H (ds ++ gs) = true)
    (hsz0 : (DataW.weightsEach Try.prog (Try.f5.params.toList ++ Rows.batchJoinsSpec.plain.varTypes Try.prog) (ds ++ gs)).all (· ≤ reachBytes) = true) :
    Calls Try.prog 5 args W fun e W' => ∃ v, e = .returned v ∧ Rows.batchJoinsSpec.post enc Try.prog Try.f5 false true false false W args v W' := by
  have hsz : (DataW.weightsEach Try.prog (Try.f5.params.toList ++ Rows.batchJoinsSpec.plain.varTypes Try.prog) (ds ++ gs)).all (· ≤ reachBytes) = true := hsz0
  have hval : ∀ (j : Nat) t v, Try.f5.params[j]? = some t → args[j]? = some v → Value.okWide Try.prog W .any base t v := hval0
  have hW' := hW
  obtain ⟨p, q, hA0, hV, rfl, hfz, hnd⟩ := hW
  have hA : DataW.TrodAll enc Try.prog W 0 (fun _ => true) true Try.f5.params.toList args.toList ds p := hA0
  rw [Try.params5] at hA hval hsz
  obtain ⟨v0, vs0, d0, ds0, p0, q0, hargs, rfl, rfl, h0, r0⟩ := trodAll_cons hA
  obtain ⟨v1, vs1, d1, ds1, p1, q1, rfl, rfl, rfl, h1, r1⟩ := trodAll_cons r0
  obtain ⟨rfl, rfl, rfl⟩ := trodAll_nil r1
  obtain rfl : args = #[v0, v1] := by cases args; simp_all
  obtain ⟨rfl, rfl⟩ := trodVars_none hV
  have k0_ := h0
  have lt0 : ∀ x ∈ p0, x.block < W.heap.size := by obtain ⟨m, hm⟩ := k0_; exact DataW.trod_lt m _ _ _ hm
  obtain ⟨b0, len0, cap0, rfl⟩ := okWide_slice Try.underlying42 (hval 0 42 v0 rfl rfl)
  obtain ⟨l0, ⟨A0, c0, hcs0, hc0, hr0⟩, F0, G0⟩ := Open.opensB_at (Open.opensB_slice (d := (Kd.slice 64 (Kd.slice 65 (Kd.int .u64)))) Try.underlying42 (by kernel_rfl) (show 0 < 1 from by decide) (B := 24) (by kernel_rfl) (Open.opensB_slice (d := (Kd.slice 65 (Kd.int .u64))) Try.underlying41 (by kernel_rfl) (show 0 < 1 from by decide) (B := 24) (by kernel_rfl) (Open.opensB_slice (d := (Kd.int .u64)) Try.underlying64 (by kernel_rfl) (show 0 < 1 from by decide) (B := 8) (by kernel_rfl) (Open.opensB_plain (Open.opens_int Try.underlying65 (by kernel_rfl)))))) h0 hsz (j := 0) rfl rfl
  simp [Value.cells] at hcs0
  obtain ⟨rfl, rfl, rfl⟩ := hcs0
  obtain ⟨a1, rfl, rfl, rfl, w1⟩ := open_int Try.underlying3 (hval 1 3 v1 rfl rfl) h1
  have hB : Rows.uptoBulkAll _ ≤ 1048576 := of_decide_eq_true hk
  simp only [List.append_nil, Rows.uptoBulkAll, Rows.uptoBulk] at hB
  have G0' : (1 + (l0.map (fun y7 => (1 + (y7.map (fun y8 => (1 + (y8.map (fun y9 => 1)).sum))).sum))).sum) ≤ Rows.uptoBulk d0 := G0
  have hBB : ((1 + (l0.map (fun y4 => (1 + (y4.map (fun y5 => (1 + (y5.map (fun y6 => 1)).sum))).sum))).sum)) ≤ 1048576 := by omega
  clear hA0 hval0 hsz0 hsz
  obtain ⟨k, h⟩ := Pure.BatchJoinsU _ _ F0 w1 hBB
  refine (conclavelaw29_BatchJoins.calls k _ _ _ _ true W hr0 hc0 h rfl).mono fun e W' hee => ?_
  obtain ⟨he, bel⟩ := hee
  have bel : Below W.heap.size W W' := by first | exact bel | exact bel.below
  subst he
  exact ⟨_, rfl, _, _, _, [], _, [], hW', trodAll_mk1 (shut_bool Try.underlying4 _), (trodAll_cons_mk (Below.trod laidOut (by kernel_rfl) (of_decide_eq_true (by kernel_rfl)) k0_ bel lt0) (trodAll_cons_mk (shut_int Try.underlying3 w1) trodAll_mk0)), rfl, bel.frame _, fun h => by cases h⟩
set_option maxRecDepth 100000 in
theorem lifted (os : Os) (started : os.Started) (H : Type) (enc : TypeId × Value → H) (F : Stop.Interp) :
    ReturnsInHanded {} Try.checked os 5 .any ((Rows.OpenSpec.upto Rows.batchJoinsSpec).pre6 enc Try.prog Try.f5 Rows.batchJoinsUptoRow.domain false) (((Rows.OpenSpec.upto Rows.batchJoinsSpec).at F).post enc Try.prog Try.f5 false true false false) := by
  refine returnsInHanded_of_cond_sized (C := Try.checked) (s := Rows.OpenSpec.upto Rows.batchJoinsSpec) (k := Rows.uptoSmall) rfl own started (by kernel_rfl) Try.func5
    (OpenSpec.witness (enc := enc) (C := Try.checked) (s := Rows.OpenSpec.upto Rows.batchJoinsSpec) (k := Rows.uptoSmall) rfl false ⟨#[], #[.slice none 0 0, .int .i64 0], []⟩ 8 (by kernel_rfl) (by kernel_rfl) (by kernel_rfl)
      (x := ([.nil, .lit (.int .i64 0)], [], [])) (by kernel_rfl) rfl (by kernel_rfl)) ?_
  intro W base args ds gs before hval hW _ hk hsz _
  exact contract H enc W base args ds gs before hval hW hk hsz
theorem proved : Rows.BatchJoinsUptoSaid :=
  OpenClaim.holds_of_cond 5 Try.f5 rfl rfl rfl rfl rfl rfl rfl ⟨rfl, rfl, rfl, rfl, rfl⟩ rfl rfl rfl rfl rfl (by kernel_rfl) Try.func5 (by kernel_rfl)
    (of_decide_eq_true (by kernel_rfl)) (by unfold Func.isWrapper; first | (rw [if_pos (by decide +kernel)]; kernel_rfl) | (rw [if_neg (by decide +kernel)]; exact ⟨rfl, rfl⟩))
    (fun os started H enc _ F => lifted os started H enc F)
end Go.Proofs.Ytjgojlnnphkefaa.batchJoinsU
namespace Go.Proofs.Ytjgojlnnphkefaa
theorem batchJoinsUpto_holds : Rows.BatchJoinsUptoSaid := batchJoinsU.proved
end Go.Proofs.Ytjgojlnnphkefaa
end
