import Derived.Test.YtjgojlnnphkefaaSBatchBack13
import Derived.Test.YtjgojlnnphkefaaSBatchBack14
import Derived.Test.YtjgojlnnphkefaaSBatchBack15
import Derived.Test.YtjgojlnnphkefaaSBatchBack16
import Derived.Test.YtjgojlnnphkefaaRows
import Derived.WalkKit
import Derived.ProofKit
import Derived.OpenShut
import Derived.ShutString
import Derived.ChangeOld
import Derived.Below
import Derived.SizedLaws
section
namespace Go.Proofs.Ytjgojlnnphkefaa.Form.BatchBack
open Go.RowKit Go.Proofs.Ytjgojlnnphkefaa.P Go.Proofs.YtjgojlnnphkefaaW.PrintWords Go.Proofs.YtjgojlnnphkefaaW.PrintLast
set_option linter.unusedVariables false
def Pure : Prop := ∀ (a0_0 : Int) (a0_1 : Int) (a0_2 : Int) (a0_3 : Int) (a0_4 : Int) (a0_5 : Int) (a0_6 : Int) (a0_7 : Int) (l1 : List (List Int)), ((Lit.int .u8 a0_0).wf = true) → ((Lit.int .i64 a0_1).wf = true) → ((Lit.int .i64 a0_2).wf = true) → ((Lit.int .i64 a0_3).wf = true) → ((Lit.int .i64 a0_4).wf = true) → ((Lit.int .i64 a0_5).wf = true) → ((Lit.int .i64 a0_6).wf = true) → ((Lit.int .i64 a0_7).wf = true) → (l1.length ≤ maxLen ∧ l1.length * 24 ≤ 140737488351232 ∧ ∀ y6 ∈ l1, y6.length ≤ maxLen ∧ y6.length * 8 ≤ 140737488351232 ∧ ∀ y7 ∈ y6, (Lit.int .u64 y7).wf = true) → ∃ k, conclavelaw29_BatchBack.f k a0_0 a0_1 a0_2 a0_3 a0_4 a0_5 a0_6 a0_7 l1 = some true
end Go.Proofs.Ytjgojlnnphkefaa.Form.BatchBack
end
section
namespace Go.Proofs.Ytjgojlnnphkefaa.Plain
open Go.RowKit Go.Proofs.YtjgojlnnphkefaaW.PrintWords Go.Proofs.YtjgojlnnphkefaaW.PrintLast Go.Proofs.YtjgojlnnphkefaaW.PrintMore
set_option linter.unusedVariables false
set_option linter.unusedSimpArgs false
theorem w64 {x : Int} (h0 : -9223372036854775808 ≤ x) (h1 : x ≤ 9223372036854775807) : wrap64 x = x := by unfold wrap64; omega
theorem wf_u8 {x : Int} (h : (Lit.int .u8 x).wf = true) : 0 ≤ x ∧ x < 256 := by
  simp [Lit.wf, IntKind.min, IntKind.max, IntKind.bits, IntKind.signed] at h; omega
theorem wf_u64 {x : Int} (h : (Lit.int .u64 x).wf = true) : 0 ≤ x ∧ x < 18446744073709551616 := by
  simp [Lit.wf, IntKind.min, IntKind.max, IntKind.bits, IntKind.signed] at h; omega
def Bytes (l : List Int) : Prop := ∀ x ∈ l, 0 ≤ x ∧ x < 256
theorem Bytes.take {l : List Int} (h : Bytes l) (n : Nat) : Bytes (l.take n) := fun x hx => h x (List.mem_of_mem_take hx)
theorem Bytes.drop {l : List Int} (h : Bytes l) (n : Nat) : Bytes (l.drop n) := fun x hx => h x (List.mem_of_mem_drop hx)
theorem Bytes.append {a b : List Int} (h : Bytes a) (h' : Bytes b) : Bytes (a ++ b) := fun x hx => (List.mem_append.1 hx).elim (h x) (h' x)
theorem rd_at {l : List Int} {i : Nat} (h : i < l.length) : rd l (i : Int) = l[i] := by simp [rd, h]
theorem drop_at {l : List Int} {i : Nat} (h : i < l.length) : l.drop i = rd l (i : Int) :: l.drop (i + 1) := by rw [rd_at h, List.drop_eq_getElem_cons h]
end Go.Proofs.Ytjgojlnnphkefaa.Plain
end
section
namespace Go.Proofs.Ytjgojlnnphkefaa.Plain
open Go.RowKit Go.Proofs.Ytjgojlnnphkefaa.P Go.Proofs.YtjgojlnnphkefaaW.PrintWords Go.Proofs.YtjgojlnnphkefaaW.PrintLast Go.Proofs.YtjgojlnnphkefaaW.PrintMore
set_option linter.unusedVariables false
set_option linter.unusedSimpArgs false
def prime (f : Int) : Int := if f = 1 then 2013265921 else if f = 2 then 18446744069414584321 else 0
def below (p : Int) (l : List Int) : Bool := l.all fun x => decide (x < p)
theorem below_cons (p x : Int) (l : List Int) : below p (x :: l) = (decide (x < p) && below p l) := rfl
def isF (f : Int) : Bool := decide (f = 1) || decide (f = 2)
def inF (f : Int) (l : List Int) : Bool := isF f && below (prime f) l
def U64 (l : List Int) : Prop := ∀ x ∈ l, 0 ≤ x ∧ x < 18446744073709551616
theorem u64_of_wf {l : List Int} (h : ∀ x ∈ l, (Lit.int .u64 x).wf = true) : U64 l := fun x hx => wf_u64 (h x hx)
theorem reckoner_in_ev (p : Int) (b : Bool) (l : List Int) (hl : l.length ≤ 9223372036854775807) : ∀ (d i : Nat), i + d = l.length → Ev (fun k => field_reckoner_in.l0 k l (l.length : Int) (i : Int) p b) (below p (l.drop i)) := by
  intro d
  induction d with
  | zero =>
    intro i hi
    refine Ev.step (f := fun _ => some true) (fun k => ?_) (by rw [List.drop_eq_nil_of_le (by omega)]; exact Ev.now _)
    simp only [field_reckoner_in.l0]
    rw [if_neg (by omega)]
  | succ d ih =>
    intro i hi
    have hlt : i < l.length := by omega
    rw [drop_at hlt, below_cons]
    by_cases hp : rd l (i : Int) ≥ p
    · refine Ev.step (f := fun _ => some false) (fun k => ?_) (by rw [show decide (rd l (i : Int) < p) = false by simpa using hp]; exact Ev.now _)
      simp only [field_reckoner_in.l0]
      rw [if_pos (by omega), if_pos (by omega), if_pos (by omega), if_pos hp]
    · refine Ev.step (f := fun k => field_reckoner_in.l0 k l (l.length : Int) ((i + 1 : Nat) : Int) p b) (fun k => ?_) (by rw [show decide (rd l (i : Int) < p) = true by simp; omega]; simpa using ih (i + 1) (by omega))
      simp only [field_reckoner_in.l0]
      rw [if_pos (by omega), if_pos (by omega), if_pos (by omega), if_neg hp, w64 (by omega) (by omega)]; rfl
theorem asked_f (f : Int) (l : List Int) (hl : l.length ≤ 9223372036854775807) : Ev (fun k => field_asked.f k f l) (if inF f l then (prime f, decide (f = 2), 0) else (0, false, 2)) := by
  unfold field_asked.f field_of.f inF isF prime
  by_cases h1 : f = 1
  · subst h1
    simp only [if_true, Option.bind_some, decide_true, Bool.true_or, Bool.true_and]
    refine Ev.bind (f := fun _ t => if t = true then some (2013265921, false, 0) else some (0, false, 2)) (reckoner_in_ev 2013265921 false l hl l.length 0 (by omega)) ?_
    by_cases hb : below 2013265921 l = true
    · simp only [List.drop_zero, hb, if_true]; exact Ev.now _
    · simp only [List.drop_zero, hb, if_false]; exact Ev.now _
  · by_cases h2 : f = 2
    · subst h2
      simp only [if_neg h1, if_true, Option.bind_some, decide_true, Bool.or_true, Bool.true_and]
      refine Ev.bind (f := fun _ t => if t = true then some (18446744069414584321, true, 0) else some (0, false, 2)) (reckoner_in_ev 18446744069414584321 true l hl l.length 0 (by omega)) ?_
      by_cases hb : below 18446744069414584321 l = true
      · simp only [List.drop_zero, hb, if_true]; exact Ev.now _
      · simp only [List.drop_zero, hb, if_false]; exact Ev.now _
    · simp only [if_neg h1, if_neg h2, Option.bind_some, show decide (f = 1) = false by simpa using h1, show decide (f = 2) = false by simpa using h2, Bool.or_false, Bool.false_and, Bool.false_eq_true, if_false]
      exact Ev.now _
theorem In_f (f : Int) (l : List Int) (hl : l.length ≤ 9223372036854775807) : Ev (fun k => field_In.f k f l) (inF f l) := by
  unfold field_In.f
  refine Ev.bind (f := fun _ bt => some (bt.2.2 == 0)) (asked_f f l hl) ?_
  by_cases h : inF f l = true
  · simp only [if_pos h]; rw [h]; exact Ev.now _
  · simp only [if_neg h]; rw [Bool.eq_false_iff.2 h]; exact Ev.now _
end Go.Proofs.Ytjgojlnnphkefaa.Plain
end
section
namespace Go.Proofs.Ytjgojlnnphkefaa.Plain
open Go.RowKit Go.Proofs.Ytjgojlnnphkefaa.P Go.Proofs.YtjgojlnnphkefaaW.PrintWords Go.Proofs.YtjgojlnnphkefaaW.PrintLast Go.Proofs.YtjgojlnnphkefaaW.PrintMore
set_option linter.unusedVariables false
set_option linter.unusedSimpArgs false
theorem ite_b (b x : Bool) : (if b = true then some x else some false) = some (b && x) := by cases b <;> rfl
theorem ite_p (p : Prop) [Decidable p] (x : Bool) : (if p then some x else some false) = some (decide p && x) := by by_cases h : p <;> simp [h]
def mayP (f N K T S E D W : Int) : Bool := isF f && decide (1 ≤ N ∧ N ≤ 64 ∧ 1 ≤ K ∧ K ≤ 64 ∧ 1 ≤ W ∧ W ≤ 64 ∧ 0 ≤ T ∧ K + T ≤ 64 ∧ 0 ≤ S ∧ S ≤ 64 ∧ 0 ≤ E ∧ E ≤ 64 ∧ 0 ≤ D ∧ D ≤ 1024)
theorem mayP_at {f N K T S E D W : Int} (h : mayP f N K T S E D W = true) : isF f = true ∧ 1 ≤ N ∧ N ≤ 64 ∧ 1 ≤ K ∧ K ≤ 64 ∧ 1 ≤ W ∧ W ≤ 64 ∧ 0 ≤ T ∧ K + T ≤ 64 ∧ 0 ≤ S ∧ S ≤ 64 ∧ 0 ≤ E ∧ E ≤ 64 ∧ 0 ≤ D ∧ D ≤ 1024 := by
  unfold mayP at h
  rw [Bool.and_eq_true, decide_eq_true_eq] at h
  exact h
theorem planMay_f (f N K T S E D W : Int) : plan_May.f f N K T S E D W = some (mayP f N K T S E D W) := by
  have wi : ∀ a lo hi, plan_within.f a lo hi = some (decide (lo ≤ a) && decide (a ≤ hi)) := by
    intro a lo hi
    unfold plan_within.f
    by_cases h : a ≥ lo
    · rw [if_pos h, decide_eq_true h]; rfl
    · rw [if_neg h, decide_eq_false h]; rfl
  unfold plan_May.f
  simp only [wi, Option.bind_some, ite_b, ite_p]
  unfold mayP isF
  by_cases h1 : f = 1
  · rw [if_pos h1]
    congr 1
    rw [Bool.eq_iff_iff]
    simp only [Bool.and_eq_true, Bool.or_eq_true, decide_eq_true_eq]
    unfold wrap64
    omega
  · rw [if_neg h1]
    congr 1
    rw [Bool.eq_iff_iff]
    simp only [Bool.and_eq_true, Bool.or_eq_true, decide_eq_true_eq]
    unfold wrap64
    omega
theorem refMay_f (f N K T S E D W : Int) (hf : -9223372036854775808 ≤ f ∧ f ≤ 9223372036854775807) : conclaveref12_May.f f N K T S E D W = some (mayP f N K T S E D W) := by
  have wi : ∀ a lo hi, conclaveref12_within.f a lo hi = some (decide (lo ≤ a) && decide (a ≤ hi)) := by
    intro a lo hi
    unfold conclaveref12_within.f
    by_cases h : a ≥ lo
    · rw [if_pos h, decide_eq_true h]; rfl
    · rw [if_neg h, decide_eq_false h]; rfl
  unfold conclaveref12_May.f
  simp only [wi, Option.bind_some, ite_b, ite_p]
  unfold mayP isF
  congr 1
  rw [Bool.eq_iff_iff]
  simp only [Bool.and_eq_true, Bool.or_eq_true, decide_eq_true_eq]
  unfold wrap64
  omega
end Go.Proofs.Ytjgojlnnphkefaa.Plain
end
section
namespace Go.Proofs.Ytjgojlnnphkefaa.Plain
open Go.RowKit Go.Proofs.Ytjgojlnnphkefaa.P Go.Proofs.YtjgojlnnphkefaaW.PrintWords Go.Proofs.YtjgojlnnphkefaaW.PrintLast Go.Proofs.YtjgojlnnphkefaaW.PrintMore
set_option linter.unusedVariables false
set_option linter.unusedSimpArgs false
theorem fSame_ev (a b : List Int) (he : a.length = b.length) (hl : a.length ≤ 9223372036854775807) : ∀ (d i : Nat), i + d = a.length → Ev (fun k => conclaveref01_Same.l0 k a b (i : Int)) (decide (a.drop i = b.drop i)) := by
  intro d
  induction d with
  | zero =>
    intro i hi
    refine Ev.step (f := fun _ => some true) (fun k => ?_) (by rw [List.drop_eq_nil_of_le (by omega), List.drop_eq_nil_of_le (by omega)]; exact Ev.now _)
    simp only [conclaveref01_Same.l0]
    rw [if_neg (by omega)]
  | succ d ih =>
    intro i hi
    have hlt : i < a.length := by omega
    have hlt2 : i < b.length := by omega
    rw [drop_at hlt, drop_at hlt2]
    by_cases hp : rd a (i : Int) = rd b (i : Int)
    · refine Ev.step (f := fun k => conclaveref01_Same.l0 k a b ((i + 1 : Nat) : Int)) (fun k => ?_) (by rw [hp]; simpa using ih (i + 1) (by omega))
      simp only [conclaveref01_Same.l0]
      rw [if_pos (by omega), if_pos (by omega), if_pos (by omega), if_pos hp, w64 (by omega) (by omega)]; rfl
    · refine Ev.step (f := fun k => some false) (fun k => ?_) (by rw [show decide (rd a (i : Int) :: a.drop (i + 1) = rd b (i : Int) :: b.drop (i + 1)) = false by simp [hp]]; exact Ev.now _)
      simp only [conclaveref01_Same.l0]
      rw [if_pos (by omega), if_pos (by omega), if_pos (by omega), if_neg hp]
theorem fSame_f (a b : List Int) (hl : a.length ≤ 9223372036854775807) : Ev (fun k => conclaveref01_Same.f k a b) (decide (a = b)) := by
  unfold conclaveref01_Same.f
  by_cases he : a.length = b.length
  · simp only [if_pos (show (a.length : Int) = (b.length : Int) by omega)]
    exact fSame_ev a b he hl a.length 0 (by omega)
  · simp only [if_neg (show ¬ (a.length : Int) = (b.length : Int) by omega)]
    rw [show decide (a = b) = false by simp; intro h; exact he (by rw [h])]
    exact Ev.now _
end Go.Proofs.Ytjgojlnnphkefaa.Plain
end
section
namespace Go.Proofs.Ytjgojlnnphkefaa.Plain
open Go.RowKit Go.Proofs.Ytjgojlnnphkefaa.P Go.Proofs.YtjgojlnnphkefaaW.PrintWords Go.Proofs.YtjgojlnnphkefaaW.PrintLast Go.Proofs.YtjgojlnnphkefaaW.PrintMore
set_option linter.unusedVariables false
set_option linter.unusedSimpArgs false
def countOf (may : Bool) (K n : Int) : Int × Int := if may = true ∧ 0 ≤ n then (if n > 4096 then (0, 4) else ((n + K - 1) / K, 0)) else (0, 2)
theorem pCount_f (f N K T S E D W n : Int) (hn : -9223372036854775808 ≤ n ∧ n ≤ 9223372036854775807) :
    Ev (fun k => batch_Count.f k f N K T S E D W n) (countOf (mayP f N K T S E D W) K n) := by
  unfold batch_Count.f countOf
  rw [planMay_f]
  simp only [Option.bind_some]
  cases hm : mayP f N K T S E D W with
  | false =>
    simp only [Bool.false_eq_true, if_false, false_and]
    exact Ev.step (f := fun _ => some (0, 2)) (fun k => by simp [batch_Count.j0]) (Ev.now _)
  | true =>
    obtain ⟨_, _, _, hk, hk2, _⟩ := mayP_at hm
    simp only [if_true, true_and]
    by_cases h0 : 0 ≤ n
    · rw [if_pos h0]
      by_cases h1 : n > 4096
      · rw [if_pos h1]
        exact Ev.step (f := fun _ => some (0, 4)) (fun k => by simp only [batch_Count.j0]; rw [if_neg (by simp; omega), if_pos h1]) (Ev.now _)
      · rw [if_neg h1]
        refine Ev.step (f := fun _ => some ((n + K - 1) / K, 0)) (fun k => ?_) (Ev.now _)
        simp only [batch_Count.j0]
        rw [if_neg (by simp; omega), if_neg h1, if_neg (by omega), w64 (x := n + K) (by omega) (by omega), w64 (x := n + K - 1) (by omega) (by omega), Int.tdiv_eq_ediv_of_nonneg (by omega), w64]
        · have := Int.ediv_nonneg (a := n + K - 1) (b := K) (by omega) (by omega); omega
        · have := Int.ediv_le_self K (a := n + K - 1) (by omega); omega
    · rw [if_neg h0]
      exact Ev.step (f := fun _ => some (0, 2)) (fun k => by simp only [batch_Count.j0]; rw [if_pos (by simp; omega)]) (Ev.now _)
theorem ceil_lt {n K j : Int} (hk : 0 < K) : j < (n + K - 1) / K ↔ j * K < n := by
  have h := Int.le_ediv_iff_mul_le hk (a := j + 1) (b := n + K - 1)
  have e : (j + 1) * K = j * K + K := by rw [Int.add_mul, Int.one_mul]
  rw [e] at h
  omega
def zeros (W : Int) : List Int := List.replicate W.toNat 0
def block (rows : List (List Int)) (W : Int) (i : Nat) : List Int := rows.getD i (zeros W)
def allOf (rows : List (List Int)) (W : Int) (m : Nat) : List (List Int) := (List.range m).map (block rows W)
def roundOf (rows : List (List Int)) (K : Nat) (W : Int) (r : Nat) : List (List Int) := (List.range K).map fun j => block rows W (r * K + j)
def cut29 (rows : List (List Int)) (K : Nat) (W : Int) (m : Nat) : List (List (List Int)) := (List.range m).map (roundOf rows K W)
def wide (rows : List (List Int)) (W : Int) : Bool := rows.all fun x => decide ((x.length : Int) = W)
def fieldly (rows : List (List Int)) (f : Int) : Bool := rows.all fun x => inF f x
def many (rows : List (List Int)) (K : Int) : Int := ((rows.length : Int) + K - 1) / K
def splitOf (may : Bool) (f K W : Int) (rows : List (List Int)) : List (List (List Int)) × Int :=
  if may = true ∧ fieldly rows f = true then (if wide rows W = true then (if rows.length > 4096 then ([], 4) else (cut29 rows K.toNat W (many rows K).toNat, 0)) else ([], 3)) else ([], 2)
theorem allOf_succ (rows : List (List Int)) (W : Int) (m : Nat) : allOf rows W (m + 1) = allOf rows W m ++ [block rows W m] := by simp [allOf, List.range_succ]
theorem cut29_succ (rows : List (List Int)) (K : Nat) (W : Int) (m : Nat) : cut29 rows K W (m + 1) = cut29 rows K W m ++ [roundOf rows K W m] := by simp [cut29, List.range_succ]
theorem allOf_len (rows : List (List Int)) (W : Int) (m : Nat) : (allOf rows W m).length = m := by simp [allOf]
theorem cut29_len (rows : List (List Int)) (K : Nat) (W : Int) (m : Nat) : (cut29 rows K W m).length = m := by simp [cut29]
theorem roundOf_len (rows : List (List Int)) (K : Nat) (W : Int) (m : Nat) : (roundOf rows K W m).length = K := by simp [roundOf]
theorem allOf_cut (rows : List (List Int)) (K : Nat) (W : Int) (m r : Nat) (h : (r + 1) * K ≤ m) : ((allOf rows W m).take ((r + 1) * K)).drop (r * K) = roundOf rows K W r := by
  have e : (r + 1) * K = r * K + K := by rw [Nat.add_mul, Nat.one_mul]
  apply List.ext_getElem
  · rw [List.length_drop, List.length_take, allOf_len, roundOf_len]; omega
  · intro i h1 h2
    rw [roundOf_len] at h2
    simp [allOf, roundOf]
theorem block_len (rows : List (List Int)) (W : Int) (hw : wide rows W = true) (h0 : 0 ≤ W) (i : Nat) : ((block rows W i).length : Int) = W := by
  unfold block
  rw [List.getD_eq_getElem?_getD]
  rcases Nat.lt_or_ge i rows.length with h | h
  · rw [List.getElem?_eq_getElem h]
    have := List.all_eq_true.1 hw _ (List.getElem_mem h)
    simpa using this
  · rw [List.getElem?_eq_none h]
    simp [zeros]
    omega
theorem drop_atL {α : Type} [Inhabited α] {l : List (List α)} {i : Nat} (h : i < l.length) : l.drop i = l.getD i [] :: l.drop (i + 1) := by
  rw [List.drop_eq_getElem_cons h, List.getD_eq_getElem?_getD, List.getElem?_eq_getElem h]; rfl
theorem rd5 (rows : List (List Int)) (i : Nat) : rd_L5 rows (i : Int) = rows.getD i [] := by simp [rd_L5]
theorem rd5_block {rows : List (List Int)} {W : Int} {i : Nat} (h : i < rows.length) : rd_L5 rows (i : Int) = block rows W i := by
  rw [rd5, block, List.getD_eq_getElem?_getD, List.getD_eq_getElem?_getD, List.getElem?_eq_getElem h]; rfl
theorem clone1 (l : List Int) (h : l.length < 17592186044416) : slices_Clone_uint64_uint64_59.f l = some l := by
  unfold slices_Clone_uint64_uint64_59.f
  simp [h]
theorem clone2 (l : List (List Int)) (h : l.length < 5864062014805) : slices_Clone_uint64_uint64_60.f l = some l := by
  unfold slices_Clone_uint64_uint64_60.f
  simp [h]
section
variable (f N K T S E D W : Int) (rows : List (List Int))
theorem pSplit_l2 (m : Nat) (hK : 1 ≤ K) (hK2 : K ≤ 64) (hm : (m : Int) ≤ 4160) : ∀ (d i : Nat), i + d = m →
    Ev (fun k => batch_Split.l2 k (allOf rows W (m * K.toNat)) (cut29 rows K.toNat W i) (m : Int) (i : Int) f N K T S E D W) (cut29 rows K.toNat W m, 0) := by
  intro d
  induction d with
  | zero =>
    intro i hi
    refine Ev.step (f := fun _ => some (cut29 rows K.toNat W i, 0)) (fun k => ?_) (by rw [show i = m by omega]; exact Ev.now _)
    simp only [batch_Split.l2]
    rw [if_neg (by omega)]
  | succ d ih =>
    intro i hi
    obtain ⟨q, hq⟩ : ∃ q : Nat, K = q := ⟨K.toNat, by omega⟩
    subst hq
    have e1 : ((i : Int) * (q : Int)) = ((i * q : Nat) : Int) := by simp
    have e2 : (((i : Int) + 1) * (q : Int)) = (((i + 1) * q : Nat) : Int) := by simp
    have b1 : i * q ≤ 4160 * 64 := Nat.mul_le_mul (by omega) (by omega)
    have b2 : (i + 1) * q ≤ 4160 * 64 := Nat.mul_le_mul (by omega) (by omega)
    have b3 : (i + 1) * q ≤ m * q := Nat.mul_le_mul_right _ (by omega)
    have b4 : (i + 1) * q = i * q + q := by rw [Nat.add_mul, Nat.one_mul]
    refine Ev.step (fun k => ?_) (ih (i + 1) (by omega))
    simp only [batch_Split.l2, Int.toNat_natCast]
    rw [if_pos (by omega), w64 (x := (i : Int) + 1) (by omega) (by omega), e1, e2, w64 (x := ((i * q : Nat) : Int)) (by omega) (by omega), w64 (x := (((i + 1) * q : Nat) : Int)) (by omega) (by omega),
      if_pos (by omega), if_pos (by omega), if_pos (by rw [allOf_len]; omega)]
    simp only [Int.toNat_natCast]
    rw [allOf_cut _ _ _ _ _ b3, clone2 _ (by rw [roundOf_len]; omega)]
    simp only [Option.bind_some]
    rw [if_pos (by rw [cut29_len]; omega), cut29_succ]
    rfl
theorem pSplit_l1 (m : Nat) (hK : 1 ≤ K) (hK2 : K ≤ 64) (hW : 0 ≤ W) (hW2 : W ≤ 64) (hm : (m : Int) ≤ 4160) (hl : rows.length ≤ 4096) (hw : wide rows W = true) : ∀ (d i : Nat), i + d = m * K.toNat →
    Ev (fun k => batch_Split.l1 k rows (m : Int) (allOf rows W i) ((m * K.toNat : Nat) : Int) (i : Int) f N K T S E D W) (cut29 rows K.toNat W m, 0) := by
  intro d
  have hb : m * K.toNat ≤ 4160 * 64 := Nat.mul_le_mul (by omega) (by omega)
  induction d with
  | zero =>
    intro i hi
    refine Ev.step (fun k => ?_) (pSplit_l2 f N K T S E D W rows m hK hK2 hm m 0 (by omega))
    simp only [batch_Split.l1]
    rw [if_neg (by omega), show i = m * K.toNat by omega]
    rfl
  | succ d ih =>
    intro i hi
    refine Ev.step (fun k => ?_) (ih (i + 1) (by omega))
    simp only [batch_Split.l1]
    rw [if_pos (by omega), allOf_succ]
    have hlen := block_len rows W hw hW i
    by_cases h : i < rows.length
    · rw [if_pos (by omega), if_pos (by omega), rd5_block (W := W) h, clone1 _ (by omega)]
      simp only [Option.bind_some]
      rw [if_pos (by rw [allOf_len]; omega), w64 (by omega) (by omega)]
      rfl
    · rw [if_neg (by omega), if_pos hW, if_pos (by omega), if_pos (by rw [allOf_len]; omega), w64 (by omega) (by omega)]
      have e : block rows W i = List.replicate W.toNat 0 := by
        unfold block zeros
        rw [List.getD_eq_getElem?_getD, List.getElem?_eq_none (by omega)]; rfl
      rw [e]
      rfl
end
end Go.Proofs.Ytjgojlnnphkefaa.Plain
end
section
namespace Go.Proofs.Ytjgojlnnphkefaa.Plain
open Go.RowKit Go.Proofs.Ytjgojlnnphkefaa.P Go.Proofs.YtjgojlnnphkefaaW.PrintWords Go.Proofs.YtjgojlnnphkefaaW.PrintLast Go.Proofs.YtjgojlnnphkefaaW.PrintMore
set_option linter.unusedVariables false
set_option linter.unusedSimpArgs false
theorem fieldly_drop (rows : List (List Int)) (f : Int) (i : Nat) (h : i < rows.length) : fieldly (rows.drop i) f = (inF f (rows.getD i []) && fieldly (rows.drop (i + 1)) f) := by
  rw [drop_atL h]; simp [fieldly]
theorem wide_drop (rows : List (List Int)) (W : Int) (i : Nat) (h : i < rows.length) : wide (rows.drop i) W = (decide (((rows.getD i []).length : Int) = W) && wide (rows.drop (i + 1)) W) := by
  rw [drop_atL h]; simp [wide]
theorem wide_take (rows : List (List Int)) (W : Int) (i : Nat) (h : i < rows.length) : wide (rows.take (i + 1)) W = (wide (rows.take i) W && decide (((rows.getD i []).length : Int) = W)) := by
  rw [List.take_succ_eq_append_getElem h]
  unfold wide
  rw [List.all_append, List.getD_eq_getElem?_getD, List.getElem?_eq_getElem h]
  simp only [List.all_cons, List.all_nil, Bool.and_true]
  rfl
def Short (rows : List (List Int)) : Prop := rows.length ≤ 9223372036854775807 ∧ ∀ y ∈ rows, y.length ≤ 9223372036854775807 ∧ U64 y
theorem Short.at {rows : List (List Int)} (h : Short rows) (i : Nat) : (rows.getD i []).length ≤ 9223372036854775807 ∧ U64 (rows.getD i []) := by
  rw [List.getD_eq_getElem?_getD]
  rcases Nat.lt_or_ge i rows.length with hi | hi
  · rw [List.getElem?_eq_getElem hi]; exact h.2 _ (List.getElem_mem hi)
  · rw [List.getElem?_eq_none hi]; exact ⟨by simp, fun x hx => by cases hx⟩
theorem many_nonneg (rows : List (List Int)) {K : Int} (hK : 1 ≤ K) : 0 ≤ many rows K := Int.ediv_nonneg (by omega) (by omega)
theorem many_le (rows : List (List Int)) {K : Int} (hK : 1 ≤ K) (hK2 : K ≤ 64) (hl : rows.length ≤ 4096) : many rows K ≤ 4160 := by
  have := Int.ediv_le_self K (a := (rows.length : Int) + K - 1) (by omega)
  unfold many
  omega
section
variable (f N K T S E D W : Int) (rows : List (List Int))
def fin29 (b : Bool) : List (List (List Int)) × Int := if b = true then ([], 3) else if rows.length > 4096 then ([], 4) else (cut29 rows K.toNat W (many rows K).toNat, 0)
theorem fin29_many (h : rows.length > 4096) : fin29 K W rows false = ([], 4) := by unfold fin29; rw [if_neg Bool.false_ne_true, if_pos h]
theorem fin29_few (h : ¬ rows.length > 4096) : fin29 K W rows false = (cut29 rows K.toNat W (many rows K).toNat, 0) := by unfold fin29; rw [if_neg Bool.false_ne_true, if_neg h]
theorem count_many (h : rows.length > 4096) : countOf true K (rows.length : Int) = (0, 4) := by unfold countOf; rw [if_pos ⟨rfl, by omega⟩, if_pos (by omega)]
theorem count_few (h : ¬ rows.length > 4096) : countOf true K (rows.length : Int) = (many rows K, 0) := by unfold countOf many; rw [if_pos ⟨rfl, by omega⟩, if_neg (by omega)]
theorem fin29_split : (if fieldly rows f = true then fin29 K W rows (!(wide rows W)) else ([], 2)) = splitOf true f K W rows := by
  unfold splitOf fin29
  cases fieldly rows f <;> cases wide rows W <;> simp
theorem pSplit_l0 (hm : mayP f N K T S E D W = true) (hs : Short rows) : ∀ (d i : Nat) (b : Bool), i + d = rows.length → (b = false → wide (rows.take i) W = true) →
    Ev (fun k => batch_Split.l0 k rows b rows (rows.length : Int) (i : Int) f N K T S E D W) (if fieldly (rows.drop i) f = true then fin29 K W rows (b || !(wide (rows.drop i) W)) else ([], 2)) := by
  obtain ⟨_, _, _, hK, hK2, hW, hW2, _⟩ := mayP_at hm
  intro d
  induction d with
  | zero =>
    intro i b hi hb
    have hdrop : rows.drop i = [] := List.drop_eq_nil_of_le (by omega)
    have htake : rows.take i = rows := List.take_of_length_le (by omega)
    rw [hdrop, if_pos (show fieldly [] f = true from rfl), show wide ([] : List (List Int)) W = true from rfl, Bool.not_true, Bool.or_false]
    rw [htake] at hb
    have hc := pCount_f f N K T S E D W (rows.length : Int) ⟨by omega, by have := hs.1; omega⟩
    rw [hm] at hc
    refine Ev.step (fun k => by simp only [batch_Split.l0]; rw [if_neg (by omega)]) (Ev.bind (f := fun k bt => _) hc ?_)
    cases b with
    | true => simp only [if_true]; exact Ev.now _
    | false =>
      have hw := hb rfl
      by_cases hl : rows.length > 4096
      · rw [count_many K rows hl, fin29_many K W rows hl]
        exact Ev.congr (fun _ => by simp) (Ev.now _)
      · rw [count_few K rows hl, fin29_few K W rows hl]
        simp only [Bool.false_eq_true, if_false, if_true]
        have hm0 := many_nonneg rows hK
        have hm1 := many_le rows hK hK2 (by omega)
        obtain ⟨m, hmm⟩ : ∃ m : Nat, many rows K = m := ⟨(many rows K).toNat, by omega⟩
        obtain ⟨q, hq⟩ : ∃ q : Nat, K = q := ⟨K.toNat, by omega⟩
        have e := pSplit_l1 f N K T S E D W rows m hK hK2 (by omega) hW2 (by omega) (by omega) hw (m * K.toNat) 0 (by omega)
        have b1 : m * q ≤ 4160 * 64 := Nat.mul_le_mul (by omega) (by omega)
        have e2 : wrap64 ((m : Int) * K) = ((m * K.toNat : Nat) : Int) := by
          rw [hq, show ((m : Int) * (q : Int)) = ((m * q : Nat) : Int) by simp, w64 (by omega) (by omega)]
          rfl
        rw [hmm]
        simp only [e2]
        exact e
  | succ d ih =>
    intro i b hi hb
    have hlt : i < rows.length := by omega
    have hsh := hs.at i
    have hin := In_f f (rows.getD i []) hsh.1
    rw [fieldly_drop _ _ _ hlt]
    have hstep : ∀ k, batch_Split.l0 (k + 1) rows b rows (rows.length : Int) (i : Int) f N K T S E D W = ((field_In.f k f (rows.getD i [])).bind fun t180 => (if t180 = true then (if b = true then (batch_Split.l0 k rows true rows (rows.length : Int) ((i + 1 : Nat) : Int) f N K T S E D W) else (batch_Split.l0 k rows (((rows.getD i []).length : Int) != W) rows (rows.length : Int) ((i + 1 : Nat) : Int) f N K T S E D W)) else (some (([] : List (List (List Int))), 2)))) := by
      intro k
      have := hs.1
      simp only [batch_Split.l0]
      rw [if_pos (by omega), if_pos (by omega), if_pos (by omega), w64 (by omega) (by omega), rd5]
      rfl
    refine Ev.step hstep (Ev.bind (f := fun k t => _) hin ?_)
    cases hi2 : inF f (rows.getD i []) with
    | false => simp only [Bool.false_eq_true, if_false, Bool.false_and]; exact Ev.now _
    | true =>
      simp only [if_true, Bool.true_and]
      cases b with
      | true =>
        have h := ih (i + 1) true (by omega) (fun h => by cases h)
        simp only [if_true, Bool.true_or] at h ⊢
        exact h
      | false =>
        simp only [Bool.false_eq_true, if_false, Bool.false_or]
        have htk := wide_take rows W i hlt
        rw [wide_drop _ _ _ hlt]
        by_cases hlen : ((rows.getD i []).length : Int) = W
        · have h := ih (i + 1) false (by omega) (fun _ => by rw [htk, hb rfl, decide_eq_true hlen]; rfl)
          rw [show (((rows.getD i []).length : Int) != W) = false from bne_eq_false_iff_eq.2 hlen, decide_eq_true hlen, Bool.true_and]
          rw [Bool.false_or] at h
          exact h
        · have h := ih (i + 1) true (by omega) (fun h => by cases h)
          rw [show (((rows.getD i []).length : Int) != W) = true from bne_iff_ne.2 hlen, decide_eq_false hlen, Bool.false_and, Bool.not_false]
          rw [Bool.true_or] at h
          exact h
theorem pSplit_f (hs : Short rows) : Ev (fun k => batch_Split.f k f N K T S E D W rows) (splitOf (mayP f N K T S E D W) f K W rows) := by
  unfold batch_Split.f
  rw [planMay_f]
  simp only [Option.bind_some]
  cases hm : mayP f N K T S E D W with
  | false => simp only [Bool.false_eq_true, if_false, splitOf, false_and]; exact Ev.now _
  | true =>
    simp only [if_true]
    have h := pSplit_l0 f N K T S E D W rows hm hs rows.length 0 false (by omega) (fun _ => rfl)
    rw [List.drop_zero, Bool.false_or, fin29_split, show ((0 : Nat) : Int) = 0 from rfl] at h
    exact h
end
end Go.Proofs.Ytjgojlnnphkefaa.Plain
end
section
namespace Go.Proofs.Ytjgojlnnphkefaa.Plain
open Go.RowKit Go.Proofs.Ytjgojlnnphkefaa.P Go.Proofs.YtjgojlnnphkefaaW.PrintWords Go.Proofs.YtjgojlnnphkefaaW.PrintLast Go.Proofs.YtjgojlnnphkefaaW.PrintMore
set_option linter.unusedVariables false
set_option linter.unusedSimpArgs false
theorem anchored29 : Ev (fun k => conclavelaw29_anchored.f k) true := Ev.of conclavelaw29_anchored.mono (k := 40) (by decide +kernel)
theorem getD_len {l : List (List Int)} {M : Nat} (h : ∀ x ∈ l, x.length ≤ M) (i : Nat) : (l.getD i []).length ≤ M := by
  rw [List.getD_eq_getElem?_getD]
  rcases Nat.lt_or_ge i l.length with hi | hi
  · rw [List.getElem?_eq_getElem hi]; exact h _ (List.getElem_mem hi)
  · rw [List.getElem?_eq_none hi]; simp
theorem rows_refl_l (a : List (List Int)) (h0 : a.length ≤ 9223372036854775807) (h : ∀ x ∈ a, x.length ≤ 9223372036854775807) : ∀ (d i : Nat), i + d = a.length → Ev (fun k => conclaveref01_Rows.l0 k a a (i : Int)) true := by
  intro d
  induction d with
  | zero =>
    intro i hi
    refine Ev.step (f := fun _ => some true) (fun k => ?_) (Ev.now _)
    simp only [conclaveref01_Rows.l0]
    rw [if_neg (by omega)]
  | succ d ih =>
    intro i hi
    have hs := fSame_f (a.getD i []) (a.getD i []) (getD_len h i)
    rw [decide_eq_true rfl] at hs
    refine Ev.step (fun k => by
      simp only [conclaveref01_Rows.l0]
      rw [if_pos (by omega), if_pos (by omega), if_pos (by omega), rd5, w64 (by omega) (by omega)]) (Ev.bind (f := fun k t => if t = true then conclaveref01_Rows.l0 k a a ((i : Int) + 1) else some false) hs ?_)
    simp only [if_true]
    exact ih (i + 1) (by omega)
theorem rows_refl (a : List (List Int)) (h0 : a.length ≤ 9223372036854775807) (h : ∀ x ∈ a, x.length ≤ 9223372036854775807) : Ev (fun k => conclaveref01_Rows.f k a a) true := by
  unfold conclaveref01_Rows.f
  have e := rows_refl_l a h0 h a.length 0 (by omega)
  rw [show ((0 : Nat) : Int) = 0 from rfl] at e
  exact Ev.congr (fun k => if_pos rfl) e
theorem rd6 (l : List (List (List Int))) (i : Nat) : rd_L6 l (i : Int) = l.getD i [] := by simp [rd_L6]
theorem splitOf_ok {may : Bool} {f K W : Int} {rows : List (List Int)} (h : (splitOf may f K W rows).2 = 0) : may = true ∧ fieldly rows f = true ∧ wide rows W = true ∧ rows.length ≤ 4096 ∧ (splitOf may f K W rows) = (cut29 rows K.toNat W (many rows K).toNat, 0) := by
  unfold splitOf at h ⊢
  by_cases h1 : may = true ∧ fieldly rows f = true
  · rw [if_pos h1] at h ⊢
    by_cases h2 : wide rows W = true
    · rw [if_pos h2] at h ⊢
      by_cases h3 : rows.length > 4096
      · rw [if_pos h3] at h; cases h
      · rw [if_neg h3]; exact ⟨h1.1, h1.2, h2, by omega, rfl⟩
    · rw [if_neg h2] at h; cases h
  · rw [if_neg h1] at h; cases h
theorem splitOf_bad {may : Bool} {f K W : Int} {rows : List (List Int)} (h : (splitOf may f K W rows).2 ≠ 0) : (splitOf may f K W rows).1 = [] := by
  unfold splitOf at h ⊢
  by_cases h1 : may = true ∧ fieldly rows f = true
  · rw [if_pos h1] at h ⊢
    by_cases h2 : wide rows W = true
    · rw [if_pos h2] at h ⊢
      by_cases h3 : rows.length > 4096
      · rw [if_pos h3]
      · rw [if_neg h3] at h; exact absurd rfl h
    · rw [if_neg h2]
  · rw [if_neg h1]
theorem block_short (rows : List (List Int)) {W : Int} (h0 : 0 ≤ W) (h1 : W ≤ 64) (hw : wide rows W = true) (i : Nat) : (block rows W i).length ≤ 64 := by
  have := block_len rows W hw h0 i
  omega
theorem concat_l (l : List (List (List Int))) (h0 : l.length ≤ 9223372036854775807) : ∀ (d i : Nat) (x : List (List Int)), i + d = l.length → x.length + (l.drop i).flatten.length < 5864062014805 →
    Ev (fun k => slices_Concat_uint64_uint64.l0 k x l (l.length : Int) (i : Int)) (x ++ (l.drop i).flatten) := by
  intro d
  induction d with
  | zero =>
    intro i x hi hx
    refine Ev.step (f := fun _ => some x) (fun k => ?_) (by rw [List.drop_eq_nil_of_le (by omega)]; simpa using Ev.now _)
    simp only [slices_Concat_uint64_uint64.l0]
    rw [if_neg (by omega)]
  | succ d ih =>
    intro i x hi hx
    have hlt : i < l.length := by omega
    have hd : l.drop i = l.getD i [] :: l.drop (i + 1) := by rw [List.drop_eq_getElem_cons hlt]; simp [hlt]
    rw [hd, List.flatten_cons] at hx ⊢
    rw [List.length_append] at hx
    have h := ih (i + 1) (x ++ l.getD i []) (by omega) (by rw [List.length_append]; omega)
    rw [List.append_assoc] at h
    refine Ev.step (fun k => ?_) h
    simp only [slices_Concat_uint64_uint64.l0]
    rw [if_pos (by omega), if_pos (by omega), if_pos (by omega), if_pos (by rw [rd6]; omega), rd6, w64 (by omega) (by omega)]
    rfl
theorem concat_f (l : List (List (List Int))) (h0 : l.length ≤ 9223372036854775807) (h : l.flatten.length < 5864062014805) : Ev (fun k => slices_Concat_uint64_uint64.f k l) l.flatten := by
  unfold slices_Concat_uint64_uint64.f
  have e := concat_l l h0 l.length 0 [] (by omega) (by simpa using h)
  rw [List.drop_zero, List.nil_append, show ((0 : Nat) : Int) = 0 from rfl] at e
  exact e
theorem join_l (y : List (List Int)) (h0 : y.length < 5864062014805) (h : ∀ x ∈ y, x.length < 17592186044416) : ∀ (d i : Nat), i + d = y.length → Ev (fun k => batch_Join.l0 k (y.take i) y (y.length : Int) (i : Int)) (y, 0) := by
  intro d
  induction d with
  | zero =>
    intro i hi
    refine Ev.step (f := fun _ => some (y, 0)) (fun k => ?_) (Ev.now _)
    simp only [batch_Join.l0]
    rw [if_neg (by omega), List.take_of_length_le (by omega)]
  | succ d ih =>
    intro i hi
    have hlt : i < y.length := by omega
    have hg : y.getD i [] = y[i] := by simp [hlt]
    have hc := clone1 (y.getD i []) (by rw [hg]; exact h _ (List.getElem_mem hlt))
    refine Ev.step (fun k => ?_) (ih (i + 1) (by omega))
    simp only [batch_Join.l0]
    rw [if_pos (by omega), if_pos (by omega), if_pos (by omega), rd5, hc, Option.bind_some, if_pos (by rw [List.length_take]; omega), w64 (by omega) (by omega), List.take_succ_eq_append_getElem hlt, hg]
    rfl
theorem join_f (l : List (List (List Int))) (n : Nat) (h0 : l.length ≤ 9223372036854775807) (h : l.flatten.length < 5864062014805) (hn : n ≤ l.flatten.length) (hs : ∀ x ∈ l.flatten, x.length < 17592186044416) : Ev (fun k => batch_Join.f k l (n : Int)) (l.flatten.take n, 0) := by
  unfold batch_Join.f
  refine Ev.bind (f := fun k t => _) (concat_f l h0 h) ?_
  have e := join_l (l.flatten.take n) (by rw [List.length_take]; omega) (fun x hx => hs x (List.mem_of_mem_take hx)) (l.flatten.take n).length 0 (by omega)
  rw [List.take_zero, show ((0 : Nat) : Int) = 0 from rfl] at e
  refine Ev.congr (fun k => if_neg (by omega)) (Ev.step (fun k => ?_) e)
  simp only [batch_Join.j0]
  rw [decide_eq_false (show ¬ (n : Int) > (l.flatten.length : Int) by omega), if_neg Bool.false_ne_true, if_pos (by omega), if_pos (by omega), Option.bind_some, Int.toNat_natCast]
theorem flatten_cut (rows : List (List Int)) (K : Nat) (W : Int) (m : Nat) : (cut29 rows K W m).flatten = allOf rows W (m * K) := by
  induction m with
  | zero => simp [cut29, allOf]
  | succ m ih =>
    rw [cut29_succ, List.flatten_append, ih, Nat.add_mul, Nat.one_mul]
    simp [allOf, roundOf, List.range_add, Function.comp_def]
theorem take_allOf (rows : List (List Int)) (W : Int) (M : Nat) (h : rows.length ≤ M) : (allOf rows W M).take rows.length = rows := by
  apply List.ext_getElem
  · rw [List.length_take, allOf_len]; omega
  · intro i h1 h2
    simp [allOf, block, List.getD_eq_getElem?_getD, List.getElem?_eq_getElem h2]
end Go.Proofs.Ytjgojlnnphkefaa.Plain
end
section
namespace Go.Proofs.Ytjgojlnnphkefaa.Pure
open Go.RowKit Go.Proofs.Ytjgojlnnphkefaa.P Go.Proofs.YtjgojlnnphkefaaW.PrintWords Go.Proofs.YtjgojlnnphkefaaW.PrintLast Plain
theorem back_l (f N K T S E D W : Int) (rows : List (List Int)) (l : List (List (List Int))) (h0 : l.length ≤ 9223372036854775807) (hK : ∀ x ∈ l, (x.length : Int) = K) (hm : mayP f N K T S E D W = true) (hf : -9223372036854775808 ≤ f ∧ f ≤ 9223372036854775807) (hs : Short rows) : ∀ (d i : Nat), i + d = l.length →
    Ev (fun k => conclavelaw29_BatchBack.l0 k rows l (l.length : Int) 0 rows 0 (i : Int) f N K T S E D W) true := by
  intro d
  induction d with
  | zero =>
    intro i hi
    refine Ev.step (fun k => by simp only [conclavelaw29_BatchBack.l0]; rw [if_neg (by omega)]) (Ev.bind (f := fun k t => _) anchored29 ?_)
    simp only [if_true]
    rw [refMay_f _ _ _ _ _ _ _ _ hf, hm]
    simp only [Option.bind_some, if_true]
    exact Ev.bind (f := fun k t => some t) (rows_refl rows hs.1 (fun x hx => (hs.2 x hx).1)) (Ev.now _)
  | succ d ih =>
    intro i hi
    have hlt : i < l.length := by omega
    have hg : l.getD i [] = l[i] := by simp [hlt]
    refine Ev.step (fun k => ?_) (ih (i + 1) (by omega))
    simp only [conclavelaw29_BatchBack.l0]
    rw [if_pos (by omega), if_pos (by omega), rd6, if_pos (by rw [hg]; exact hK _ (List.getElem_mem hlt)), w64 (by omega) (by omega)]
    rfl
theorem BatchBack : Form.BatchBack.Pure := by
  intro f N K T S E D W rows hf hN hK hT hS hE hD hW hr
  have hf8 := wf_u8 hf
  have hs : Short rows := ⟨by have := hr.1; simp only [maxLen] at this; omega, fun y hy => ⟨by have := (hr.2.2 y hy).1; simp only [maxLen] at this; omega, u64_of_wf (hr.2.2 y hy).2.2⟩⟩
  refine Ev.rounds ?_
  unfold conclavelaw29_BatchBack.f
  refine Ev.bind (f := fun k t => _) (pSplit_f f N K T S E D W rows hs) ?_
  refine Ev.bind (f := fun k t => _) (pCount_f f N K T S E D W (rows.length : Int) ⟨by omega, by have := hs.1; omega⟩) ?_
  by_cases h : (splitOf (mayP f N K T S E D W) f K W rows).2 = 0
  · obtain ⟨hm, _, hw, hl, e⟩ := splitOf_ok h
    obtain ⟨_, _, _, hK1, hK2, hW1, hW2, _⟩ := mayP_at hm
    rw [e, hm, count_few K rows (by omega)]
    have h1 := many_le rows hK1 hK2 hl
    have h2 := many_nonneg rows hK1
    obtain ⟨m, hmm⟩ : ∃ m : Nat, many rows K = m := ⟨(many rows K).toNat, by omega⟩
    have hlen : rows.length ≤ m * K.toNat := by
      have := (ceil_lt (n := (rows.length : Int)) (K := K) (j := many rows K) (by omega))
      obtain ⟨q, hq⟩ : ∃ q : Nat, K = q := ⟨K.toNat, by omega⟩
      have h3 : ¬ many rows K * K < (rows.length : Int) := fun hc => absurd (this.2 hc) (by unfold many; omega)
      rw [hmm, hq, show ((m : Int) * (q : Int)) = ((m * q : Nat) : Int) by simp] at h3
      rw [hq, Int.toNat_natCast]
      omega
    have hb : m * K.toNat ≤ 4160 * 64 := Nat.mul_le_mul (by omega) (by omega)
    have hj := join_f (cut29 rows K.toNat W m) rows.length (by rw [cut29_len]; omega) (by rw [flatten_cut, allOf_len]; omega) (by rw [flatten_cut, allOf_len]; omega) (fun x hx => by
      rw [flatten_cut] at hx
      simp only [allOf, List.mem_map] at hx
      obtain ⟨j, _, rfl⟩ := hx
      have := block_short rows (by omega) hW2 hw j
      omega)
    rw [flatten_cut, take_allOf rows W _ hlen] at hj
    rw [hmm, Int.toNat_natCast]
    simp only [if_true]
    refine Ev.bind (f := fun k t => _) hj ?_
    have e0 := back_l f N K T S E D W rows (cut29 rows K.toNat W m) (by rw [cut29_len]; omega) (fun x hx => by
      simp only [cut29, List.mem_map] at hx
      obtain ⟨r, _, rfl⟩ := hx
      rw [roundOf_len]
      omega) hm ⟨by omega, by omega⟩ hs m 0 (by rw [cut29_len]; omega)
    rw [cut29_len, show ((0 : Nat) : Int) = 0 from rfl] at e0
    exact e0
  · have hb := splitOf_bad h
    simp only [if_neg h, hb]
    exact Ev.bind (f := fun k t => if t = true then some true else some false) anchored29 (Ev.now _)
end Go.Proofs.Ytjgojlnnphkefaa.Pure
end
section
namespace Go.Proofs.Ytjgojlnnphkefaa.batchBack
open Go.ChangeShapes Go.WideShapes Go.ChangeAt Go.RowKit Go.Proofs.YtjgojlnnphkefaaW.PrintWords Go.Proofs.Ytjgojlnnphkefaa.P Go.Proofs.Ytjgojlnnphkefaa.Form.BatchBack
set_option linter.unusedVariables false
theorem own : ownKnob Try.prog.godebug = none := by kernel_rfl
theorem laidOut : laidOutB Try.prog = true := by kernel_rfl
set_option maxRecDepth 100000 in
theorem lifted (os : Os) (started : os.Started) (H : Type) (enc : TypeId × Value → H) :
    ReturnsInHanded {} Try.checked os 6 .any (Rows.batchBackSpec.pre6 enc Try.prog Try.f6 Rows.batchBackRow.domain false) (Rows.batchBackSpec.post enc Try.prog Try.f6 false true false false) := by
  refine returnsInHanded_of_change_sized (C := Try.checked) own started (by kernel_rfl) Try.func6
    (ChangeSpec.witness6 (enc := enc) (C := Try.checked) false ⟨#[], #[.agg #[.int .u8 0, .int .i64 0, .int .i64 0, .int .i64 0, .int .i64 0, .int .i64 0, .int .i64 0, .int .i64 0], .slice none 0 0], []⟩ 8 (by kernel_rfl) (by kernel_rfl) (by kernel_rfl) (by kernel_rfl)) ?_
  intro W base args ds gs before hval0 hW hcnd hsz0 _
  have hsz : (DataW.weightsEach Try.prog (Try.f6.params.toList ++ Rows.batchBackSpec.plain.varTypes Try.prog) (ds ++ gs)).all (· ≤ reachBytes) = true := hsz0
  have hval : ∀ (j : Nat) t v, Try.f6.params[j]? = some t → args[j]? = some v → Value.okWide Try.prog W .any base t v := hval0
  have hW' := hW
  obtain ⟨p, q, hA0, hV, rfl, hfz, hnd⟩ := hW
  have hA : DataW.TrodAll enc Try.prog W 0 (fun _ => true) true Try.f6.params.toList args.toList ds p := hA0
  rw [Try.params6] at hA hval hsz
  obtain ⟨v0, vs0, d0, ds0, p0, q0, hargs, rfl, rfl, h0, r0⟩ := trodAll_cons hA
  obtain ⟨v1, vs1, d1, ds1, p1, q1, rfl, rfl, rfl, h1, r1⟩ := trodAll_cons r0
  obtain ⟨rfl, rfl, rfl⟩ := trodAll_nil r1
  obtain rfl : args = #[v0, v1] := by cases args; simp_all
  obtain ⟨rfl, rfl⟩ := trodVars_none hV
  have k0_ := h0
  have lt0 : ∀ x ∈ p0, x.block < W.heap.size := by obtain ⟨m, hm⟩ := k0_; exact DataW.trod_lt m _ _ _ hm
  obtain ⟨z0, rfl, _⟩ := okWide_struct Try.underlying40 (hval 0 40 v0 rfl rfl)
  obtain ⟨⟨a0_0, a0_1, a0_2, a0_3, a0_4, a0_5, a0_6, a0_7⟩, K0, ⟨F0_0, F0_1, F0_2, F0_3, F0_4, F0_5, F0_6, F0_7⟩⟩ := Open.opens_at (Open.opens_struct Try.underlying40 (by kernel_rfl) (by kernel_rfl) (by kernel_rfl) (Open.opensL_cons (Open.opens_int Try.underlying38 (by kernel_rfl)) (Open.opensL_cons (Open.opens_int Try.underlying3 (by kernel_rfl)) (Open.opensL_cons (Open.opens_int Try.underlying3 (by kernel_rfl)) (Open.opensL_cons (Open.opens_int Try.underlying3 (by kernel_rfl)) (Open.opensL_cons (Open.opens_int Try.underlying3 (by kernel_rfl)) (Open.opensL_cons (Open.opens_int Try.underlying3 (by kernel_rfl)) (Open.opensL_cons (Open.opens_int Try.underlying3 (by kernel_rfl)) (Open.opensL_one (Open.opens_int Try.underlying3 (by kernel_rfl)))))))))) id id (fun _ => rfl)) h0 hsz (j := 0) rfl rfl
  have hz0 : ∀ cs : List Value, (z0.toList = cs) → z0 = cs.toArray := fun cs h => by rw [← h]
  obtain ⟨cs0, hcs0, K0'⟩ : ∃ cs, z0.toList = cs ∧ _ := ⟨_, rfl, K0⟩
  obtain ⟨_, _, rfl, rfl, ⟨_, _, rfl, rfl, ⟨_, _, rfl, rfl, ⟨_, _, rfl, rfl, ⟨_, _, rfl, rfl, ⟨_, _, rfl, rfl, ⟨_, _, rfl, rfl, rfl⟩⟩⟩⟩⟩⟩⟩ := K0'
  obtain rfl := hz0 _ hcs0
  have k1_ := h1
  have lt1 : ∀ x ∈ p1, x.block < W.heap.size := by obtain ⟨m, hm⟩ := k1_; exact DataW.trod_lt m _ _ _ hm
  obtain ⟨b1, len1, cap1, rfl⟩ := okWide_slice Try.underlying41 (hval 1 41 v1 rfl rfl)
  obtain ⟨l1, ⟨A1, c1, hcs1, hc1, hr1⟩, F1⟩ := Open.opens_at (Open.opens_slice (d := (Kd.slice 65 (Kd.int .u64))) Try.underlying41 (by kernel_rfl) (show 0 < 1 from by decide) (B := 24) (by kernel_rfl) (Open.opens_slice (d := (Kd.int .u64)) Try.underlying64 (by kernel_rfl) (show 0 < 1 from by decide) (B := 8) (by kernel_rfl) (Open.opens_int Try.underlying65 (by kernel_rfl)))) h1 hsz (j := 1) rfl rfl
  simp [Value.cells] at hcs1
  obtain ⟨rfl, rfl, rfl⟩ := hcs1
  clear hA0 hval0 hsz0 hsz
  obtain ⟨k, h⟩ := Pure.BatchBack _ _ _ _ _ _ _ _ _ F0_0 F0_1 F0_2 F0_3 F0_4 F0_5 F0_6 F0_7 F1
  refine (conclavelaw29_BatchBack.calls k _ _ _ _ _ _ _ _ _ _ _ true W hr1 hc1 h rfl).mono fun e W' hee => ?_
  obtain ⟨he, bel⟩ := hee
  have bel : Below W.heap.size W W' := by first | exact bel | exact bel.below
  subst he
  exact ⟨_, rfl, _, _, _, [], _, [], hW', trodAll_mk1 (shut_bool Try.underlying4 _), (trodAll_cons_mk (Below.trod laidOut (by kernel_rfl) (of_decide_eq_true (by kernel_rfl)) k0_ bel lt0) (trodAll_cons_mk (Below.trod laidOut (by kernel_rfl) (of_decide_eq_true (by kernel_rfl)) k1_ bel lt1) trodAll_mk0)), rfl, bel.frame _, fun h => by cases h⟩
theorem over : Rows.batchBackRow.holds Try.pinned (OpenSpec.ofChange Rows.batchBackSpec) :=
  OpenClaim.holds_of_wide 6 Try.f6 rfl rfl rfl rfl rfl rfl rfl ⟨rfl, rfl, rfl, rfl, rfl⟩ rfl rfl rfl rfl rfl (by kernel_rfl) Try.func6 (by kernel_rfl)
    (of_decide_eq_true (by kernel_rfl)) (by unfold Func.isWrapper; first | (rw [if_pos (by decide +kernel)]; kernel_rfl) | (rw [if_neg (by decide +kernel)]; exact ⟨rfl, rfl⟩))
    (fun os started H enc _ => lifted os started H enc)
theorem proved : Rows.BatchBackSaid := over
end Go.Proofs.Ytjgojlnnphkefaa.batchBack
namespace Go.Proofs.Ytjgojlnnphkefaa
theorem batchBack_holds : Rows.BatchBackSaid := batchBack.proved
end Go.Proofs.Ytjgojlnnphkefaa
end
