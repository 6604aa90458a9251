import Derived.Test.YtclanpkekocndaaSPadsApart12
import Derived.Test.YtclanpkekocndaaSPadsApart13
import Derived.Test.YtclanpkekocndaaSPadsApart14
import Derived.Test.YtclanpkekocndaaRows
import Derived.WalkKit
import Derived.ProofKit
import Derived.OpenShut
import Derived.ShutString
import Derived.ChangeOld
import Derived.Below
import Derived.SizedLaws
section
namespace Go.Proofs.Ytclanpkekocndaa.Form.PadsApart
open Go.RowKit Go.Proofs.Ytclanpkekocndaa.P Go.Proofs.YtclanpkekocndaaW.PrintWords Go.Proofs.YtclanpkekocndaaW.PrintLast
set_option linter.unusedVariables false
def Pure : Prop := ∀ (a0_0 : Int) (a0_1 : Int) (a0_2 : Int) (a0_3 : Int) (a0_4 : Int) (a0_5 : Int) (a0_6 : Int) (a0_7 : Int) (l1 : List Int), ((Lit.int .u8 a0_0).wf = true) → ((Lit.int .i64 a0_1).wf = true) → ((Lit.int .i64 a0_2).wf = true) → ((Lit.int .i64 a0_3).wf = true) → ((Lit.int .i64 a0_4).wf = true) → ((Lit.int .i64 a0_5).wf = true) → ((Lit.int .i64 a0_6).wf = true) → ((Lit.int .i64 a0_7).wf = true) → (l1.length ≤ maxLen ∧ l1.length * 8 ≤ 140737488351232 ∧ ∀ y1 ∈ l1, (Lit.int .u64 y1).wf = true) → ∃ k, conclavelaw19_PadsApart.f k a0_0 a0_1 a0_2 a0_3 a0_4 a0_5 a0_6 a0_7 l1 = some true
end Go.Proofs.Ytclanpkekocndaa.Form.PadsApart
end
section
namespace Go.Proofs.Ytclanpkekocndaa.Plain
open Go.RowKit Go.Proofs.YtclanpkekocndaaW.PrintWords Go.Proofs.YtclanpkekocndaaW.PrintLast Go.Proofs.YtclanpkekocndaaW.PrintMore
set_option linter.unusedVariables false
set_option linter.unusedSimpArgs false
theorem w64 {x : Int} (h0 : -9223372036854775808 ≤ x) (h1 : x ≤ 9223372036854775807) : wrap64 x = x := by unfold wrap64; omega
theorem wu64 (x : Int) : IntKind.u64.wrap x = x % 18446744073709551616 := by simp [IntKind.wrap, IntKind.bits, IntKind.signed]
theorem wu64_in {x : Int} (h0 : 0 ≤ x) (h1 : x < 18446744073709551616) : IntKind.u64.wrap x = x := by rw [wu64]; omega
theorem wf_u8 {x : Int} (h : (Lit.int .u8 x).wf = true) : 0 ≤ x ∧ x < 256 := by
  simp [Lit.wf, IntKind.min, IntKind.max, IntKind.bits, IntKind.signed] at h; omega
theorem wf_u64 {x : Int} (h : (Lit.int .u64 x).wf = true) : 0 ≤ x ∧ x < 18446744073709551616 := by
  simp [Lit.wf, IntKind.min, IntKind.max, IntKind.bits, IntKind.signed] at h; omega
theorem wf_i64 {x : Int} (h : (Lit.int .i64 x).wf = true) : -9223372036854775808 ≤ x ∧ x ≤ 9223372036854775807 := by
  simp [Lit.wf, IntKind.min, IntKind.max, IntKind.bits, IntKind.signed] at h; omega
def Bytes (l : List Int) : Prop := ∀ x ∈ l, 0 ≤ x ∧ x < 256
theorem Bytes.take {l : List Int} (h : Bytes l) (n : Nat) : Bytes (l.take n) := fun x hx => h x (List.mem_of_mem_take hx)
theorem Bytes.drop {l : List Int} (h : Bytes l) (n : Nat) : Bytes (l.drop n) := fun x hx => h x (List.mem_of_mem_drop hx)
theorem Bytes.append {a b : List Int} (h : Bytes a) (h' : Bytes b) : Bytes (a ++ b) := fun x hx => (List.mem_append.1 hx).elim (h x) (h' x)
theorem rd_at {l : List Int} {i : Nat} (h : i < l.length) : rd l (i : Int) = l[i] := by simp [rd, h]
theorem drop_at {l : List Int} {i : Nat} (h : i < l.length) : l.drop i = rd l (i : Int) :: l.drop (i + 1) := by rw [rd_at h, List.drop_eq_getElem_cons h]
end Go.Proofs.Ytclanpkekocndaa.Plain
end
section
namespace Go.Proofs.Ytclanpkekocndaa.Plain
open Go.RowKit Go.Proofs.Ytclanpkekocndaa.P Go.Proofs.YtclanpkekocndaaW.PrintWords Go.Proofs.YtclanpkekocndaaW.PrintLast Go.Proofs.YtclanpkekocndaaW.PrintMore
set_option linter.unusedVariables false
set_option linter.unusedSimpArgs false
def prime (f : Int) : Int := if f = 1 then 2013265921 else if f = 2 then 18446744069414584321 else 0
def below (p : Int) (l : List Int) : Bool := l.all fun x => decide (x < p)
theorem below_cons (p x : Int) (l : List Int) : below p (x :: l) = (decide (x < p) && below p l) := rfl
def isF (f : Int) : Bool := decide (f = 1) || decide (f = 2)
def inF (f : Int) (l : List Int) : Bool := isF f && below (prime f) l
def U64 (l : List Int) : Prop := ∀ x ∈ l, 0 ≤ x ∧ x < 18446744073709551616
theorem u64_of_wf {l : List Int} (h : ∀ x ∈ l, (Lit.int .u64 x).wf = true) : U64 l := fun x hx => wf_u64 (h x hx)
theorem isF_or {f : Int} (h : isF f = true) : f = 1 ∨ f = 2 := by simpa [isF] using h
theorem prime_pos {f : Int} (h : isF f = true) : 0 < prime f := by
  unfold prime; rcases isF_or h with rfl | rfl <;> decide
theorem reckoner_in_ev (p : Int) (b : Bool) (l : List Int) (hl : l.length ≤ 9223372036854775807) : ∀ (d i : Nat), i + d = l.length → Ev (fun k => field_reckoner_in.l0 k l (l.length : Int) (i : Int) p b) (below p (l.drop i)) := by
  intro d
  induction d with
  | zero =>
    intro i hi
    refine Ev.step (f := fun _ => some true) (fun k => ?_) (by rw [List.drop_eq_nil_of_le (by omega)]; exact Ev.now _)
    simp only [field_reckoner_in.l0]
    rw [if_neg (by omega)]
  | succ d ih =>
    intro i hi
    have hlt : i < l.length := by omega
    rw [drop_at hlt, below_cons]
    by_cases hp : rd l (i : Int) ≥ p
    · refine Ev.step (f := fun _ => some false) (fun k => ?_) (by rw [show decide (rd l (i : Int) < p) = false by simpa using hp]; exact Ev.now _)
      simp only [field_reckoner_in.l0]
      rw [if_pos (by omega), if_pos (by omega), if_pos (by omega), if_pos hp]
    · refine Ev.step (f := fun k => field_reckoner_in.l0 k l (l.length : Int) ((i + 1 : Nat) : Int) p b) (fun k => ?_) (by rw [show decide (rd l (i : Int) < p) = true by simp; omega]; simpa using ih (i + 1) (by omega))
      simp only [field_reckoner_in.l0]
      rw [if_pos (by omega), if_pos (by omega), if_pos (by omega), if_neg hp, w64 (by omega) (by omega)]; rfl
theorem asked_f (f : Int) (l : List Int) (hl : l.length ≤ 9223372036854775807) : Ev (fun k => field_asked.f k f l) (if inF f l then (prime f, decide (f = 2), 0) else (0, false, 2)) := by
  unfold field_asked.f field_of.f inF isF prime
  by_cases h1 : f = 1
  · subst h1
    simp only [if_true, Option.bind_some, decide_true, Bool.true_or, Bool.true_and]
    refine Ev.bind (f := fun _ t => if t = true then some (2013265921, false, 0) else some (0, false, 2)) (reckoner_in_ev 2013265921 false l hl l.length 0 (by omega)) ?_
    by_cases hb : below 2013265921 l = true
    · simp only [List.drop_zero, hb, if_true]; exact Ev.now _
    · simp only [List.drop_zero, hb, if_false]; exact Ev.now _
  · by_cases h2 : f = 2
    · subst h2
      simp only [if_neg h1, if_true, Option.bind_some, decide_true, Bool.or_true, Bool.true_and]
      refine Ev.bind (f := fun _ t => if t = true then some (18446744069414584321, true, 0) else some (0, false, 2)) (reckoner_in_ev 18446744069414584321 true l hl l.length 0 (by omega)) ?_
      by_cases hb : below 18446744069414584321 l = true
      · simp only [List.drop_zero, hb, if_true]; exact Ev.now _
      · simp only [List.drop_zero, hb, if_false]; exact Ev.now _
    · simp only [if_neg h1, if_neg h2, Option.bind_some, show decide (f = 1) = false by simpa using h1, show decide (f = 2) = false by simpa using h2, Bool.or_false, Bool.false_and, Bool.false_eq_true, if_false]
      exact Ev.now _
end Go.Proofs.Ytclanpkekocndaa.Plain
end
section
namespace Go.Proofs.Ytclanpkekocndaa.Plain
open Go.RowKit Go.Proofs.Ytclanpkekocndaa.P Go.Proofs.YtclanpkekocndaaW.PrintWords Go.Proofs.YtclanpkekocndaaW.PrintLast Go.Proofs.YtclanpkekocndaaW.PrintMore
set_option linter.unusedVariables false
set_option linter.unusedSimpArgs false
theorem P_f (f : Int) : conclaveref01_P.f f = some (prime f) := by
  unfold conclaveref01_P.f prime; split
  · rfl
  · split <;> rfl
end Go.Proofs.Ytclanpkekocndaa.Plain
end
section
namespace Go.Proofs.Ytclanpkekocndaa.Plain
open Go.RowKit Go.Proofs.Ytclanpkekocndaa.P Go.Proofs.YtclanpkekocndaaW.PrintWords Go.Proofs.YtclanpkekocndaaW.PrintLast Go.Proofs.YtclanpkekocndaaW.PrintMore
set_option linter.unusedVariables false
set_option linter.unusedSimpArgs false
theorem fSame_ev (a b : List Int) (he : a.length = b.length) (hl : a.length ≤ 9223372036854775807) : ∀ (d i : Nat), i + d = a.length → Ev (fun k => conclaveref01_Same.l0 k a b (i : Int)) (decide (a.drop i = b.drop i)) := by
  intro d
  induction d with
  | zero =>
    intro i hi
    refine Ev.step (f := fun _ => some true) (fun k => ?_) (by rw [List.drop_eq_nil_of_le (by omega), List.drop_eq_nil_of_le (by omega)]; exact Ev.now _)
    simp only [conclaveref01_Same.l0]
    rw [if_neg (by omega)]
  | succ d ih =>
    intro i hi
    have hlt : i < a.length := by omega
    have hlt2 : i < b.length := by omega
    rw [drop_at hlt, drop_at hlt2]
    by_cases hp : rd a (i : Int) = rd b (i : Int)
    · refine Ev.step (f := fun k => conclaveref01_Same.l0 k a b ((i + 1 : Nat) : Int)) (fun k => ?_) (by rw [hp]; simpa using ih (i + 1) (by omega))
      simp only [conclaveref01_Same.l0]
      rw [if_pos (by omega), if_pos (by omega), if_pos (by omega), if_pos hp, w64 (by omega) (by omega)]; rfl
    · refine Ev.step (f := fun k => some false) (fun k => ?_) (by rw [show decide (rd a (i : Int) :: a.drop (i + 1) = rd b (i : Int) :: b.drop (i + 1)) = false by simp [hp]]; exact Ev.now _)
      simp only [conclaveref01_Same.l0]
      rw [if_pos (by omega), if_pos (by omega), if_pos (by omega), if_neg hp]
theorem fSame_f (a b : List Int) (hl : a.length ≤ 9223372036854775807) : Ev (fun k => conclaveref01_Same.f k a b) (decide (a = b)) := by
  unfold conclaveref01_Same.f
  by_cases he : a.length = b.length
  · simp only [if_pos (show (a.length : Int) = (b.length : Int) by omega)]
    exact fSame_ev a b he hl a.length 0 (by omega)
  · simp only [if_neg (show ¬ (a.length : Int) = (b.length : Int) by omega)]
    rw [show decide (a = b) = false by simp; intro h; exact he (by rw [h])]
    exact Ev.now _
end Go.Proofs.Ytclanpkekocndaa.Plain
end
section
namespace Go.Proofs.Ytclanpkekocndaa.Plain
open Go.RowKit Go.Proofs.Ytclanpkekocndaa.P Go.Proofs.YtclanpkekocndaaW.PrintWords Go.Proofs.YtclanpkekocndaaW.PrintLast Go.Proofs.YtclanpkekocndaaW.PrintMore
set_option linter.unusedVariables false
set_option linter.unusedSimpArgs false
theorem Prime_f (f : Int) : Ev (fun k => field_Prime.f k f) (if isF f then (prime f, 0) else (0, 2)) := by
  unfold field_Prime.f
  refine Ev.bind (f := fun _ bt => some (bt.1, bt.2.2)) (asked_f f [] (by simp)) ?_
  have e : inF f [] = isF f := by simp [inF, below]
  rw [e]
  by_cases h : isF f = true
  · simp only [h, if_true]; exact Ev.now _
  · simp only [Bool.eq_false_iff.2 h, Bool.false_eq_true, if_false]; exact Ev.now _
def takeOf (f : Int) (l : List Int) (at_ many : Int) : List Int × Int × Int :=
  if isF f = true ∧ 0 ≤ at_ ∧ at_ ≤ l.length ∧ 0 ≤ many then (if many > l.length - at_ then ([], 0, 7) else (((l.drop at_.toNat).take many.toNat).map (· % prime f), at_ + many, 0)) else ([], 0, 2)
theorem Take_l0 (p next : Int) (hp : 0 < p) : ∀ (d i : Nat) (x : List Int), i + d = x.length → x.length ≤ 9223372036854775807 → (∀ y ∈ x.drop i, 0 ≤ y) →
    Ev (fun k => pads_Take.l0 k x next p (x.length : Int) (i : Int)) (x.take i ++ (x.drop i).map (· % p), next, 0) := by
  intro d
  induction d with
  | zero =>
    intro i x hi hx hu
    refine Ev.step (f := fun _ => some (x, next, 0)) (fun k => ?_) (by rw [List.drop_eq_nil_of_le (by omega), List.take_of_length_le (by omega)]; simpa using Ev.now _)
    simp only [pads_Take.l0]
    rw [if_neg (by omega)]
  | succ d ih =>
    intro i x hi hx hu
    have hlt : i < x.length := by omega
    have h0 : 0 ≤ rd x (i : Int) := hu _ (by rw [drop_at hlt]; exact List.mem_cons_self ..)
    have e := ih (i + 1) (x.set i (rd x (i : Int) % p)) (by simp; omega) (by simpa using hx) (fun y hy => by
      rw [List.drop_set_of_lt (by omega)] at hy
      exact hu y (by rw [drop_at hlt]; exact List.mem_cons_of_mem _ hy))
    rw [List.drop_set_of_lt (by omega), List.length_set] at e
    have e2 : (x.set i (rd x (i : Int) % p)).take (i + 1) = x.take i ++ [rd x (i : Int) % p] := by
      rw [List.take_set, List.take_succ_eq_append_getElem hlt, List.set_append_right _ _ (by rw [List.length_take]; omega)]
      simp [Nat.min_eq_left (Nat.le_of_lt hlt)]
    rw [e2] at e
    refine Ev.step (f := fun k => pads_Take.l0 k (x.set i (rd x (i : Int) % p)) next p (x.length : Int) ((i + 1 : Nat) : Int)) (fun k => ?_) (by rw [drop_at hlt]; simpa using e)
    simp only [pads_Take.l0]
    rw [if_pos (by omega), if_pos (by omega), if_pos (by omega), if_neg (by omega), w64 (by omega) (by omega), Int.tmod_eq_emod_of_nonneg h0]
    rfl
theorem cut_at (l : List Int) {a m : Int} (ha : 0 ≤ a) (hm : 0 ≤ m) : (l.take (a + m).toNat).drop a.toNat = (l.drop a.toNat).take m.toNat := by
  rw [List.drop_take, show (a + m).toNat - a.toNat = m.toNat by omega]
theorem Take_f (f : Int) (l : List Int) (at_ many : Int) (hl : l.length ≤ 17592186043904) (hu : U64 l) (ha : -9223372036854775808 ≤ at_ ∧ at_ ≤ 9223372036854775807) (hm : -9223372036854775808 ≤ many ∧ many ≤ 9223372036854775807) :
    Ev (fun k => pads_Take.f k f l at_ many) (takeOf f l at_ many) := by
  unfold pads_Take.f takeOf
  refine Ev.bind (f := fun k bt => _) (Prime_f f) ?_
  by_cases hf : isF f = true
  · simp only [hf, if_true, true_and]
    have hp := prime_pos hf
    have bad : ∀ x p, Ev (fun k => pads_Take.j0 k l at_ many x p true) ([], 0, 2) := fun x p => Ev.step (f := fun _ => some ([], 0, 2)) (fun k => by simp [pads_Take.j0]) (Ev.now _)
    unfold pads_within.f
    by_cases h0 : at_ ≥ 0
    · simp only [if_pos h0, Option.bind_some]
      by_cases h1 : at_ ≤ (l.length : Int)
      · simp only [show decide (at_ ≤ (l.length : Int)) = true by simpa using h1, if_true]
        by_cases h2 : many < 0
        · simp only [show decide (many < 0) = true by simpa using h2]
          rw [if_neg (by omega)]
          exact bad _ _
        · simp only [show decide (many < 0) = false by simpa using h2]
          rw [if_pos (by omega)]
          by_cases h3 : many > (l.length : Int) - at_
          · rw [if_pos h3]
            refine Ev.step (f := fun _ => some ([], 0, 7)) (fun k => ?_) (Ev.now _)
            simp only [pads_Take.j0, Bool.false_eq_true, if_false]
            rw [w64 (by omega) (by omega), if_pos h3]
          · rw [if_neg h3]
            have hlen : ((l.drop at_.toNat).take many.toNat).length = many.toNat := by simp; omega
            refine Ev.step (f := fun k => pads_Take.l0 k ((l.drop at_.toNat).take many.toNat) (at_ + many) (prime f) (((l.drop at_.toNat).take many.toNat).length : Int) 0) (fun k => ?_) ?_
            · simp only [pads_Take.j0, Bool.false_eq_true, if_false]
              rw [w64 (x := (l.length : Int) - at_) (by omega) (by omega), if_neg h3, w64 (x := at_ + many) (by omega) (by omega), if_pos h0, if_pos (by omega), if_pos (by omega), cut_at l h0 (by omega), if_pos (by simp; omega)]
              rfl
            · have := Take_l0 (prime f) (at_ + many) hp ((l.drop at_.toNat).take many.toNat).length 0 ((l.drop at_.toNat).take many.toNat) (by omega) (by omega) (fun y hy => (hu y (List.mem_of_mem_drop (List.mem_of_mem_take (List.mem_of_mem_drop hy)))).1)
              simpa using this
      · simp only [show decide (at_ ≤ (l.length : Int)) = false by simpa using h1, Bool.false_eq_true, if_false]
        rw [if_neg (by omega)]
        exact bad _ _
    · simp only [if_neg h0, Option.bind_some, Bool.false_eq_true, if_false]
      rw [if_neg (by omega)]
      exact bad _ _
  · simp only [hf, Bool.false_eq_true, if_false, false_and]
    simp only [if_neg (show ¬ (2 : Int) = 0 by decide)]
    exact Ev.now _
theorem anchored19_f : Ev (fun k => conclavelaw19_anchored.f k) true := by
  unfold conclavelaw19_anchored.f
  refine Ev.bind (f := fun k bt => _) (Take_f 1 [7, 2013265922, 9] 1 2 (by decide) (by intro x hx; simp at hx; omega) (by omega) (by omega)) ?_
  refine Ev.bind (f := fun k bt => _) (Take_f 1 [7] 1 1 (by decide) (by intro x hx; simp at hx; omega) (by omega) (by omega)) ?_
  have e1 : takeOf 1 [7, 2013265922, 9] 1 2 = ([1, 9], 3, 0) := by decide
  have e2 : takeOf 1 [7] 1 1 = ([], 0, 7) := by decide
  rw [e1, e2]
  simp only [if_true]
  exact Ev.bind (f := fun k t => some t) (fSame_f [1, 9] [1, 9] (by simp)) (by simpa using Ev.now _)
end Go.Proofs.Ytclanpkekocndaa.Plain
end
section
namespace Go.Proofs.Ytclanpkekocndaa.Plain
open Go.RowKit Go.Proofs.Ytclanpkekocndaa.P Go.Proofs.YtclanpkekocndaaW.PrintWords Go.Proofs.YtclanpkekocndaaW.PrintLast Go.Proofs.YtclanpkekocndaaW.PrintMore
set_option linter.unusedVariables false
set_option linter.unusedSimpArgs false
def planOf (f n k t s e d w : Int) : Bool := isF f && (decide (1 ≤ n ∧ n ≤ 64) && (decide (1 ≤ k ∧ k ≤ 64) && (decide (1 ≤ w ∧ w ≤ 64) && (decide (0 ≤ t ∧ k + t ≤ 64) && (decide (0 ≤ s ∧ s ≤ 64) && (decide (0 ≤ e ∧ e ≤ 64) && decide (0 ≤ d ∧ d ≤ 1024)))))))
def I64 (x : Int) : Prop := -9223372036854775808 ≤ x ∧ x ≤ 9223372036854775807
theorem pwithin_f (x a b : Int) : plan_within.f x a b = some (decide (a ≤ x ∧ x ≤ b)) := by
  unfold plan_within.f
  by_cases h : x ≥ a
  · rw [if_pos h]; congr 1; simp; omega
  · rw [if_neg h]; congr 1; symm; simp; omega
theorem rwithin_f (x a b : Int) : conclaveref12_within.f x a b = some (decide (a ≤ x ∧ x ≤ b)) := by
  unfold conclaveref12_within.f
  by_cases h : x ≥ a
  · rw [if_pos h]; congr 1; simp; omega
  · rw [if_neg h]; congr 1; symm; simp; omega
theorem and_step {a b : Bool} {x : Option Bool} (h : a = true → x = some b) : (if a = true then x else some false) = some (a && b) := by
  cases a
  · rfl
  · simpa using h rfl
theorem May_f {f n k t s e d w : Int} (hk : I64 k) (ht : I64 t) : plan_May.f f n k t s e d w = some (planOf f n k t s e d w) := by
  unfold plan_May.f planOf
  simp only [pwithin_f, Option.bind_some]
  have main : (if decide (1 ≤ n ∧ n ≤ 64) = true then if decide (1 ≤ k ∧ k ≤ 64) = true then if decide (1 ≤ w ∧ w ≤ 64) = true then if decide (0 ≤ t ∧ t ≤ 64) = true then if wrap64 (k + t) ≤ 64 then if decide (0 ≤ s ∧ s ≤ 64) = true then if decide (0 ≤ e ∧ e ≤ 64) = true then some (decide (0 ≤ d ∧ d ≤ 1024)) else some false else some false else some false else some false else some false else some false else some false) =
      some (decide (1 ≤ n ∧ n ≤ 64) && (decide (1 ≤ k ∧ k ≤ 64) && (decide (1 ≤ w ∧ w ≤ 64) && (decide (0 ≤ t ∧ k + t ≤ 64) && (decide (0 ≤ s ∧ s ≤ 64) && (decide (0 ≤ e ∧ e ≤ 64) && decide (0 ≤ d ∧ d ≤ 1024))))))) := by
    refine and_step fun _ => and_step fun h2 => and_step fun _ => ?_
    have h2 := of_decide_eq_true h2
    have last : (if decide (0 ≤ s ∧ s ≤ 64) = true then if decide (0 ≤ e ∧ e ≤ 64) = true then some (decide (0 ≤ d ∧ d ≤ 1024)) else some false else some false) = some (decide (0 ≤ s ∧ s ≤ 64) && (decide (0 ≤ e ∧ e ≤ 64) && decide (0 ≤ d ∧ d ≤ 1024))) := and_step fun _ => and_step fun _ => rfl
    rw [last]
    by_cases h3 : 0 ≤ t ∧ t ≤ 64
    · rw [if_pos (by simpa using h3), w64 (by omega) (by omega)]
      by_cases h4 : k + t ≤ 64
      · rw [if_pos h4, show decide (0 ≤ t ∧ k + t ≤ 64) = true by simp [h3, h4]]; rfl
      · rw [if_neg h4, show decide (0 ≤ t ∧ k + t ≤ 64) = false by simp [h4]]; rfl
    · rw [if_neg (by simpa using h3), show decide (0 ≤ t ∧ k + t ≤ 64) = false by simp; omega]; rfl
  by_cases h1 : f = 1
  · subst h1; rw [if_pos rfl, main]; rfl
  · rw [if_neg h1]
    by_cases h2 : f = 2
    · subst h2; rw [if_pos rfl, main]; rfl
    · rw [if_neg h2]; simp [isF, h1, h2]
theorem rMay_f {f n k t s e d w : Int} (hf : 0 ≤ f ∧ f < 256) (hk : I64 k) (ht : I64 t) : conclaveref12_May.f f n k t s e d w = some (planOf f n k t s e d w) := by
  unfold conclaveref12_May.f planOf
  simp only [rwithin_f, Option.bind_some]
  rw [show isF f = decide (1 ≤ wrap64 f ∧ wrap64 f ≤ 2) by rw [w64 (by omega) (by omega)]; unfold isF; by_cases h : f = 1 <;> by_cases h' : f = 2 <;> simp [h, h'] <;> omega]
  refine and_step fun _ => and_step fun _ => and_step fun h2 => and_step fun _ => ?_
  have h2 := of_decide_eq_true h2
  rw [w64 (x := 64 - k) (by omega) (by omega), show decide (0 ≤ t ∧ t ≤ 64 - k) = decide (0 ≤ t ∧ k + t ≤ 64) by congr 1; simp; omega]
  exact and_step fun _ => and_step fun _ => and_step fun _ => rfl
theorem plan_facts {f n k t s e d w : Int} (h : planOf f n k t s e d w = true) : isF f = true ∧ (1 ≤ k ∧ k ≤ 64) ∧ (1 ≤ w ∧ w ≤ 64) ∧ 0 ≤ t ∧ k + t ≤ 64 := by
  simp only [planOf, Bool.and_eq_true, decide_eq_true_eq] at h
  exact ⟨h.1, h.2.2.1, h.2.2.2.1, h.2.2.2.2.1⟩
theorem mul_range {t w : Int} (ht : 0 ≤ t ∧ t ≤ 64) (hw : 1 ≤ w ∧ w ≤ 64) : 0 ≤ t * w ∧ t * w ≤ 4096 := by
  have h1 : t * w ≤ 64 * w := Int.mul_le_mul_of_nonneg_right ht.2 (by omega)
  exact ⟨Int.mul_nonneg ht.1 (by omega), by omega⟩
def rowsOf (w : Int) (l : List Int) : Nat → Nat → List (List Int)
  | _, 0 => []
  | i, d + 1 => ((l.take (((i : Int) + 1) * w).toNat).drop ((i : Int) * w).toNat) :: rowsOf w l (i + 1) d
theorem rowsOf_len (w : Int) (l : List Int) : ∀ d i, (rowsOf w l i d).length = d
  | 0, i => rfl
  | d + 1, i => by simp [rowsOf, rowsOf_len w l d (i + 1)]
def blocksOf (f n k t s e d w : Int) (l : List Int) (at_ : Int) : List (List Int) × Int × Int :=
  if planOf f n k t s e d w = true then (if (takeOf f l at_ (t * w)).2.2 = 0 then (rowsOf w (takeOf f l at_ (t * w)).1 0 t.toNat, (takeOf f l at_ (t * w)).2.1, 0) else ([], 0, (takeOf f l at_ (t * w)).2.2)) else ([], 0, 2)
theorem takeOf_ok {f : Int} {l : List Int} {at_ many : Int} (h : (takeOf f l at_ many).2.2 = 0) : isF f = true ∧ 0 ≤ at_ ∧ 0 ≤ many ∧ at_ + many ≤ l.length ∧ takeOf f l at_ many = (((l.drop at_.toNat).take many.toNat).map (· % prime f), at_ + many, 0) ∧ (takeOf f l at_ many).1.length = many.toNat := by
  unfold takeOf at h ⊢
  split at h
  · rename_i hc
    rw [if_pos hc]
    split at h
    · simp at h
    · rename_i h2
      rw [if_neg h2]
      exact ⟨hc.1, hc.2.1, hc.2.2.2, by omega, rfl, by simp; omega⟩
  · simp at h
theorem cut_ok {x w t : Int} {m : Nat} (h0 : 0 ≤ x) (h1 : x < t) (ht : t ≤ 64) (hw : 1 ≤ w ∧ w ≤ 64) (hm : (m : Int) = t * w) : 0 ≤ x * w ∧ x * w ≤ (x + 1) * w ∧ (x + 1) * w ≤ m ∧ (x + 1) * w ≤ 4096 := by
  have e1 : (x + 1) * w = x * w + w := by rw [Int.add_mul, Int.one_mul]
  have e2 : (x + 1) * w ≤ t * w := Int.mul_le_mul_of_nonneg_right (by omega) (by omega)
  have e3 := (mul_range (t := t) ⟨by omega, ht⟩ hw).2
  exact ⟨Int.mul_nonneg h0 (by omega), by omega, by omega, by omega⟩
theorem Blocks_l0 (f n k t s e dd w next : Int) (l : List Int) (ht : 0 ≤ t ∧ t ≤ 64) (hw : 1 ≤ w ∧ w ≤ 64) (hl : (l.length : Int) = t * w) : ∀ (d i : Nat) (acc : List (List Int)), (i : Int) + d = t → acc.length = i →
    Ev (fun q => pads_Blocks.l0 q acc next l t (i : Int) f n k t s e dd w) (acc ++ rowsOf w l i d, next, 0) := by
  intro d
  induction d with
  | zero =>
    intro i acc hi ha
    refine Ev.step (f := fun _ => some (acc, next, 0)) (fun q => ?_) (by simpa [rowsOf] using Ev.now _)
    simp only [pads_Blocks.l0]
    rw [if_neg (by omega)]
  | succ d ih =>
    intro i acc hi ha
    have c := cut_ok (x := (i : Int)) (t := t) (w := w) (m := l.length) (by omega) (by omega) ht.2 hw hl
    refine Ev.step (f := fun q => pads_Blocks.l0 q (acc ++ [(l.take (((i : Int) + 1) * w).toNat).drop ((i : Int) * w).toNat]) next l t ((i + 1 : Nat) : Int) f n k t s e dd w) (fun q => ?_) (by simpa [rowsOf] using ih (i + 1) (acc ++ [(l.take (((i : Int) + 1) * w).toNat).drop ((i : Int) * w).toNat]) (by omega) (by simp [ha]))
    simp only [pads_Blocks.l0]
    rw [if_pos (by omega), w64 (x := (i : Int) + 1) (by omega) (by omega), w64 (x := (i : Int) * w) (by omega) (by omega), w64 (x := ((i : Int) + 1) * w) (by omega) (by omega), if_pos c.1, if_pos c.2.1, if_pos c.2.2.1, if_pos (by omega)]
    rfl
theorem Blocks_f (f n k t s e d w : Int) (l : List Int) (at_ : Int) (hk : I64 k) (ht : I64 t) (hl : l.length ≤ 17592186043904) (hu : U64 l) (ha : I64 at_) : Ev (fun q => pads_Blocks.f q f n k t s e d w l at_) (blocksOf f n k t s e d w l at_) := by
  unfold pads_Blocks.f blocksOf
  simp only [May_f hk ht, Option.bind_some]
  by_cases h : planOf f n k t s e d w = true
  · simp only [h, if_true]
    obtain ⟨hf, hk', hw', ht0, ht1⟩ := plan_facts h
    have hm := mul_range (t := t) (w := w) ⟨ht0, by omega⟩ hw'
    simp only [w64 (x := t * w) (by omega) (by omega)]
    refine Ev.bind (f := fun q bt => _) (Take_f f l at_ (t * w) hl hu ha ⟨by omega, by omega⟩) ?_
    by_cases hE : (takeOf f l at_ (t * w)).2.2 = 0
    · simp only [hE, if_true]
      obtain ⟨_, _, _, _, _, hlen⟩ := takeOf_ok hE
      have := Blocks_l0 f n k t s e d w (takeOf f l at_ (t * w)).2.1 (takeOf f l at_ (t * w)).1 ⟨ht0, by omega⟩ hw' (by rw [hlen]; omega) t.toNat 0 [] (by omega) rfl
      simpa using this
    · simp only [if_neg hE]; exact Ev.now _
  · simp only [if_neg h]; exact Ev.now _
def roundsOf (f n k t s e d w : Int) (l : List Int) (at_ : Int) : Int × Int :=
  if planOf f n k t s e d w = true ∧ 0 ≤ at_ ∧ at_ ≤ l.length then (if t * w = 0 then (65536, 0) else (if ((l.length : Int) - at_) / (t * w) > 65536 then (65536, 0) else (((l.length : Int) - at_) / (t * w), 0))) else (0, 2)
theorem Rounds_f (f n k t s e d w : Int) (l : List Int) (at_ : Int) (hk : I64 k) (ht : I64 t) (hl : l.length ≤ 17592186043904) (ha : I64 at_) : Ev (fun q => pads_Rounds.f q f n k t s e d w l at_) (roundsOf f n k t s e d w l at_) := by
  unfold pads_Rounds.f roundsOf
  simp only [May_f hk ht, Option.bind_some]
  have bad : Ev (fun q => pads_Rounds.j0 q l at_ true f n k t s e d w) (0, 2) := Ev.step (f := fun _ => some (0, 2)) (fun q => by simp [pads_Rounds.j0]) (Ev.now _)
  by_cases h : planOf f n k t s e d w = true
  · simp only [h, if_true, true_and]
    obtain ⟨hf, hk', hw', ht0, ht1⟩ := plan_facts h
    have hm := mul_range (t := t) (w := w) ⟨ht0, by omega⟩ hw'
    have hwi : pads_within.f l at_ = some (decide (0 ≤ at_ ∧ at_ ≤ (l.length : Int))) := by
      unfold pads_within.f
      by_cases h0 : at_ ≥ 0
      · rw [if_pos h0]; congr 1; simp; omega
      · rw [if_neg h0]; congr 1; symm; simp; omega
    simp only [hwi, Option.bind_some]
    by_cases hin : 0 ≤ at_ ∧ at_ ≤ (l.length : Int)
    · rw [if_pos hin]
      simp only [show decide (0 ≤ at_ ∧ at_ ≤ (l.length : Int)) = true by simpa using hin, Bool.not_true]
      have hd0 : 0 ≤ ((l.length : Int) - at_) / (t * w) := Int.ediv_nonneg (by omega) hm.1
      have hd1 : ((l.length : Int) - at_) / (t * w) ≤ (l.length : Int) - at_ := Int.ediv_le_self _ (by omega)
      by_cases hz : t * w = 0
      · rw [if_pos hz]
        refine Ev.step (f := fun _ => some (65536, 0)) (fun q => ?_) (Ev.now _)
        simp only [pads_Rounds.j0, Bool.false_eq_true, if_false]
        rw [w64 (x := t * w) (by omega) (by omega), if_pos hz]
      · rw [if_neg hz]
        refine Ev.step (f := fun _ => some (mn (((l.length : Int) - at_) / (t * w)) 65536, 0)) (fun q => ?_) ?_
        · simp only [pads_Rounds.j0, Bool.false_eq_true, if_false]
          rw [w64 (x := t * w) (by omega) (by omega), if_neg hz, w64 (x := (l.length : Int) - at_) (by omega) (by omega), wu64_in (x := t * w) (by omega) (by omega), wu64_in (x := (l.length : Int) - at_) (by omega) (by omega), if_neg hz, Int.tdiv_eq_ediv_of_nonneg (by omega), wu64_in (x := ((l.length : Int) - at_) / (t * w)) (by omega) (by omega)]
          rw [w64]
          · unfold mn; split <;> omega
          · unfold mn; split <;> omega
        · by_cases hg : ((l.length : Int) - at_) / (t * w) > 65536
          · rw [if_pos hg, show mn (((l.length : Int) - at_) / (t * w)) 65536 = 65536 by unfold mn; split <;> omega]; exact Ev.now _
          · rw [if_neg hg, show mn (((l.length : Int) - at_) / (t * w)) 65536 = ((l.length : Int) - at_) / (t * w) by unfold mn; split <;> omega]; exact Ev.now _
    · rw [if_neg hin]
      simp only [show decide (0 ≤ at_ ∧ at_ ≤ (l.length : Int)) = false by simpa using hin, Bool.not_false]
      exact bad
  · rw [if_neg (by simp [h])]
    simp only [if_neg h]; exact bad
end Go.Proofs.Ytclanpkekocndaa.Plain
end
section
namespace Go.Proofs.Ytclanpkekocndaa.Pure
open Go.RowKit Go.Proofs.Ytclanpkekocndaa.P Go.Proofs.Ytclanpkekocndaa.Plain Go.Proofs.YtclanpkekocndaaW.PrintWords Go.Proofs.YtclanpkekocndaaW.PrintLast
set_option linter.unusedVariables false
set_option linter.unusedSimpArgs false
theorem rowsOf_get (w : Int) (l : List Int) : ∀ (d i j : Nat), j < d → (rowsOf w l i d)[j]? = some ((l.take ((((i + j : Nat) : Int) + 1) * w).toNat).drop (((i + j : Nat) : Int) * w).toNat)
  | 0, i, j, h => by omega
  | d + 1, i, 0, h => by simp [rowsOf]
  | d + 1, i, j + 1, h => by
    simp only [rowsOf, List.getElem?_cons_succ]
    rw [rowsOf_get w l d (i + 1) j (by omega), show i + 1 + j = i + (j + 1) by omega]
section
variable (f n k t s e dd w : Int) (tape : List Int)
theorem pad_at (hf : isF f = true) (ht : 0 ≤ t ∧ t ≤ 64) (hw : 1 ≤ w ∧ w ≤ 64) (at_ : Int) (ha : 0 ≤ at_) (hin : at_ + t * w ≤ tape.length) (i j : Nat) (hi : (i : Int) < t) (hj : (j : Int) < w) :
    (j : Int) < ((rd_L2 (rowsOf w (((tape.drop at_.toNat).take (t * w).toNat).map (· % prime f)) 0 t.toNat) (i : Int)).length : Int) ∧
    rd (rd_L2 (rowsOf w (((tape.drop at_.toNat).take (t * w).toNat).map (· % prime f)) 0 t.toNat) (i : Int)) (j : Int) = rd tape (at_ + (i : Int) * w + (j : Int)) % prime f ∧ 0 ≤ at_ + (i : Int) * w + (j : Int) ∧ at_ + (i : Int) * w + (j : Int) < tape.length := by
  obtain ⟨l, hl⟩ : ∃ l, l = ((tape.drop at_.toNat).take (t * w).toNat).map (· % prime f) := ⟨_, rfl⟩
  have hm := mul_range (t := t) (w := w) ht hw
  have hlen : (l.length : Int) = t * w := by rw [hl]; simp; omega
  have c := cut_ok (x := (i : Int)) (t := t) (w := w) (m := l.length) (by omega) hi ht.2 hw hlen
  have e1 : ((i : Int) + 1) * w = (i : Int) * w + w := by rw [Int.add_mul, Int.one_mul]
  rw [← hl]
  have hr : rd_L2 (rowsOf w l 0 t.toNat) (i : Int) = (l.take (((i : Int) + 1) * w).toNat).drop ((i : Int) * w).toNat := by
    have := rowsOf_get w l t.toNat 0 i (by omega)
    simp only [Nat.zero_add] at this
    simp [rd_L2, this]
  rw [hr]
  have hlt : j < ((l.take (((i : Int) + 1) * w).toNat).drop ((i : Int) * w).toNat).length := by simp; omega
  refine ⟨by omega, ?_, by omega, by omega⟩
  rw [rd_at hlt, List.getElem_drop, List.getElem_take]
  rw [show at_ + (i : Int) * w + (j : Int) = ((at_.toNat + (((i : Int) * w).toNat + j) : Nat) : Int) by omega, rd_at (by omega)]
  subst hl
  simp [List.getElem_map, List.getElem_take, List.getElem_drop]
theorem l2_ev (hf : isF f = true) (hU : U64 tape) (ht : 0 ≤ t ∧ t ≤ 64) (hw : 1 ≤ w ∧ w ≤ 64) (at_ : Int) (ha : 0 ≤ at_) (hin : at_ + t * w ≤ tape.length) (hlen : tape.length ≤ 17592186043904) (x5 x8 x10 : Int) (i : Nat) (hi : (i : Int) < t)
    (hnext : Ev (fun q => conclavelaw19_PadsApart.l1 q tape x5 at_ x8 (rowsOf w (((tape.drop at_.toNat).take (t * w).toNat).map (· % prime f)) 0 t.toNat) x10 ((i + 1 : Nat) : Int) f n k t s e dd w) true) : ∀ (d j : Nat), (j : Int) + d = w →
    Ev (fun q => conclavelaw19_PadsApart.l2 q tape x5 at_ x8 (rowsOf w (((tape.drop at_.toNat).take (t * w).toNat).map (· % prime f)) 0 t.toNat) x10 (i : Int) (j : Int) f n k t s e dd w) true := by
  have hp := prime_pos hf
  have hm := mul_range (t := t) (w := w) ht hw
  have hiw := mul_range (t := (i : Int)) (w := w) ⟨by omega, by omega⟩ hw
  intro d
  induction d with
  | zero =>
    intro j hj
    refine Ev.step (f := fun q => conclavelaw19_PadsApart.l1 q tape x5 at_ x8 (rowsOf w (((tape.drop at_.toNat).take (t * w).toNat).map (· % prime f)) 0 t.toNat) x10 ((i + 1 : Nat) : Int) f n k t s e dd w) (fun q => ?_) hnext
    simp only [conclavelaw19_PadsApart.l2]
    rw [if_neg (by omega), w64 (by omega) (by omega)]; rfl
  | succ d ih =>
    intro j hj
    obtain ⟨h1, h2, h3, h4⟩ := pad_at f t w tape hf ht hw at_ ha hin i j hi (by omega)
    have hn : 0 ≤ rd tape (at_ + (i : Int) * w + (j : Int)) := by
      rw [show at_ + (i : Int) * w + (j : Int) = ((at_ + (i : Int) * w + (j : Int)).toNat : Int) by omega, rd_at (by omega)]
      exact (hU _ (List.getElem_mem _)).1
    refine Ev.step (f := fun q => conclavelaw19_PadsApart.l2 q tape x5 at_ x8 (rowsOf w (((tape.drop at_.toNat).take (t * w).toNat).map (· % prime f)) 0 t.toNat) x10 (i : Int) ((j + 1 : Nat) : Int) f n k t s e dd w) (fun q => ?_) (ih (j + 1) (by omega))
    simp only [conclavelaw19_PadsApart.l2]
    rw [if_pos (by omega), if_pos (by omega), if_pos (by rw [rowsOf_len]; omega), if_pos (by omega), if_pos h1]
    rw [w64 (x := (i : Int) * w) (by omega) (by omega), w64 (x := at_ + (i : Int) * w) (by omega) (by omega), w64 (x := at_ + (i : Int) * w + (j : Int)) (by omega) (by omega), if_pos h3, if_pos h4, P_f, Option.bind_some, if_neg (by omega), h2, Int.tmod_eq_emod_of_nonneg hn, if_pos rfl, w64 (by omega) (by omega)]
    rfl
theorem l1_ev (hf : isF f = true) (hU : U64 tape) (ht : 0 ≤ t ∧ t ≤ 64) (hw : 1 ≤ w ∧ w ≤ 64) (at_ : Int) (ha : 0 ≤ at_) (hin : at_ + t * w ≤ tape.length) (hlen : tape.length ≤ 17592186043904) (x5 x8 x10 : Int)
    (hnext : Ev (fun q => conclavelaw19_PadsApart.l0 q tape x5 x10 (wrap64 (x8 + 1)) f n k t s e dd w) true) : ∀ (d i : Nat), (i : Int) + d = t →
    Ev (fun q => conclavelaw19_PadsApart.l1 q tape x5 at_ x8 (rowsOf w (((tape.drop at_.toNat).take (t * w).toNat).map (· % prime f)) 0 t.toNat) x10 (i : Int) f n k t s e dd w) true := by
  intro d
  induction d with
  | zero =>
    intro i hi
    refine Ev.step (f := fun q => conclavelaw19_PadsApart.l0 q tape x5 x10 (wrap64 (x8 + 1)) f n k t s e dd w) (fun q => ?_) hnext
    simp only [conclavelaw19_PadsApart.l1]
    rw [if_neg (by omega)]
  | succ d ih =>
    intro i hi
    have hin2 := l2_ev f n k t s e dd w tape hf hU ht hw at_ ha hin hlen x5 x8 x10 i (by omega) (ih (i + 1) (by omega)) w.toNat 0 (by omega)
    refine Ev.step (f := fun q => conclavelaw19_PadsApart.l2 q tape x5 at_ x8 (rowsOf w (((tape.drop at_.toNat).take (t * w).toNat).map (· % prime f)) 0 t.toNat) x10 (i : Int) 0 f n k t s e dd w) (fun q => ?_) (by simpa using hin2)
    simp only [conclavelaw19_PadsApart.l1]
    rw [if_pos (by omega)]
theorem l0_ev (hpl : planOf f n k t s e dd w = true) (hk : I64 k) (ht64 : I64 t) (hU : U64 tape) (hlen : tape.length ≤ 17592186043904) (m : Int) (hm0 : 0 ≤ m) (hm1 : m ≤ 65536) (hmin : m < 40 → 0 < t * w ∧ m * (t * w) ≤ tape.length ∧ (tape.length : Int) < (m + 1) * (t * w)) (hmin2 : m * (t * w) ≤ tape.length) : ∀ (d i : Nat), (i : Int) + d = (if m < 40 then m else 40) →
    Ev (fun q => conclavelaw19_PadsApart.l0 q tape m ((i : Int) * (t * w)) (i : Int) f n k t s e dd w) true := by
  obtain ⟨hf, hk', hw', ht0, ht1⟩ := plan_facts hpl
  have hm := mul_range (t := t) (w := w) ⟨ht0, by omega⟩ hw'
  have ev_tail : ∀ i : Nat, (i : Int) = (if m < 40 then m else 40) → Ev (fun q => conclavelaw19_PadsApart.j1 q tape m ((i : Int) * (t * w)) (i : Int) false f n k t s e dd w) true := by
    intro i hi
    by_cases h40 : m < 40
    · rw [if_pos h40] at hi
      obtain ⟨h1, h2, h3⟩ := hmin h40
      refine Ev.step (f := fun q => (pads_Blocks.f q f n k t s e dd w tape ((i : Int) * (t * w))).bind fun bt => (conclavelaw19_anchored.f q).bind fun t333 => if t333 = true then some (bt.2.2 == 7) else some false) (fun q => ?_) ?_
      · simp only [conclavelaw19_PadsApart.j1, Bool.false_eq_true, if_false]
        rw [if_neg (by omega)]
      · rw [hi]
        have hmt : 0 ≤ m * (t * w) := Int.mul_nonneg hm0 hm.1
        have e1 : (m + 1) * (t * w) = m * (t * w) + t * w := by rw [Int.add_mul, Int.one_mul]
        refine Ev.bind (f := fun q bt => _) (Blocks_f f n k t s e dd w tape (m * (t * w)) hk ht64 hlen hU ⟨by omega, by omega⟩) ?_
        refine Ev.bind (f := fun q bt => _) anchored19_f ?_
        have : (blocksOf f n k t s e dd w tape (m * (t * w))).2.2 = 7 := by
          unfold blocksOf
          have e2 : takeOf f tape (m * (t * w)) (t * w) = ([], 0, 7) := by unfold takeOf; rw [if_pos ⟨hf, by omega, by omega, by omega⟩, if_pos (by omega)]
          rw [if_pos hpl, e2, if_neg (by decide)]
        simp only [this, if_true, beq_self_eq_true]
        exact Ev.now _
    · refine Ev.step (f := fun q => (conclavelaw19_anchored.f q).bind fun t => some t) (fun q => ?_) (Ev.bind (f := fun _ t => some t) anchored19_f (Ev.now _))
      simp only [conclavelaw19_PadsApart.j1, Bool.false_eq_true, if_false]
      rw [if_pos (by omega)]
  intro d
  induction d with
  | zero =>
    intro i hi
    have hi' : (i : Int) = (if m < 40 then m else 40) := by omega
    refine Ev.step (f := fun q => conclavelaw19_PadsApart.j1 q tape m ((i : Int) * (t * w)) (i : Int) false f n k t s e dd w) (fun q => ?_) (ev_tail i hi')
    simp only [conclavelaw19_PadsApart.l0]
    by_cases hlt : (i : Int) < m
    · rw [if_pos hlt, show decide ((i : Int) < 40) = false by simp; split at hi' <;> omega]
    · rw [if_neg hlt]
  | succ d ih =>
    intro i hi
    have hlt : (i : Int) < m ∧ (i : Int) < 40 := by split at hi <;> omega
    have hit : 0 ≤ (i : Int) * (t * w) := Int.mul_nonneg (by omega) hm.1
    have e1 : ((i : Int) + 1) * (t * w) = (i : Int) * (t * w) + t * w := by rw [Int.add_mul, Int.one_mul]
    have e2 : ((i : Int) + 1) * (t * w) ≤ m * (t * w) := Int.mul_le_mul_of_nonneg_right (by omega) hm.1
    have et : takeOf f tape ((i : Int) * (t * w)) (t * w) = (((tape.drop ((i : Int) * (t * w)).toNat).take (t * w).toNat).map (· % prime f), (i : Int) * (t * w) + t * w, 0) := by
      unfold takeOf; rw [if_pos ⟨hf, by omega, by omega, by omega⟩, if_neg (by omega)]
    have eb : blocksOf f n k t s e dd w tape ((i : Int) * (t * w)) = (rowsOf w (((tape.drop ((i : Int) * (t * w)).toNat).take (t * w).toNat).map (· % prime f)) 0 t.toNat, (i : Int) * (t * w) + t * w, 0) := by
      unfold blocksOf; rw [if_pos hpl, et, if_pos rfl]
    have hnext : Ev (fun q => conclavelaw19_PadsApart.l0 q tape m ((i : Int) * (t * w) + t * w) (wrap64 ((i : Int) + 1)) f n k t s e dd w) true := by
      rw [w64 (by omega) (by omega)]
      have := ih (i + 1) (by omega)
      rw [show ((i + 1 : Nat) : Int) = (i : Int) + 1 by omega, e1] at this
      exact this
    have h1 := l1_ev f n k t s e dd w tape hf hU ⟨ht0, by omega⟩ hw' ((i : Int) * (t * w)) hit (by omega) hlen m (i : Int) ((i : Int) * (t * w) + t * w) hnext t.toNat 0 (by omega)
    refine Ev.step (f := fun q => conclavelaw19_PadsApart.j1 q tape m ((i : Int) * (t * w)) (i : Int) true f n k t s e dd w) (fun q => ?_) ?_
    · simp only [conclavelaw19_PadsApart.l0]
      rw [if_pos hlt.1, show decide ((i : Int) < 40) = true by simpa using hlt.2]
    · refine Ev.step (f := fun q => (pads_Blocks.f q f n k t s e dd w tape ((i : Int) * (t * w))).bind fun bt => if bt.2.2 = 0 then (if bt.2.1 = (i : Int) * (t * w) + t * w then conclavelaw19_PadsApart.j2 q tape m ((i : Int) * (t * w)) (i : Int) bt.1 bt.2.1 ((bt.1.length : Int) != t) f n k t s e dd w else conclavelaw19_PadsApart.j2 q tape m ((i : Int) * (t * w)) (i : Int) bt.1 bt.2.1 true f n k t s e dd w) else conclavelaw19_PadsApart.j2 q tape m ((i : Int) * (t * w)) (i : Int) bt.1 bt.2.1 true f n k t s e dd w) (fun q => ?_) ?_
      · simp only [conclavelaw19_PadsApart.j1, if_true]
        rw [w64 (x := t * w) (by omega) (by omega), w64 (x := (i : Int) * (t * w) + t * w) (by omega) (by omega)]
      · refine Ev.bind (f := fun q bt => _) (Blocks_f f n k t s e dd w tape ((i : Int) * (t * w)) hk ht64 hlen hU ⟨by omega, by omega⟩) ?_
        rw [eb]
        simp only [if_true, rowsOf_len]
        rw [show (((t.toNat : Nat) : Int) != t) = false by simp; omega]
        refine Ev.step (f := fun q => conclavelaw19_PadsApart.l1 q tape m ((i : Int) * (t * w)) (i : Int) (rowsOf w (((tape.drop ((i : Int) * (t * w)).toNat).take (t * w).toNat).map (· % prime f)) 0 t.toNat) ((i : Int) * (t * w) + t * w) 0 f n k t s e dd w) (fun q => ?_) (by simpa using h1)
        simp only [conclavelaw19_PadsApart.j2, Bool.false_eq_true, if_false]
end
theorem PadsApart : Form.PadsApart.Pure := by
  intro f n k t s e dd w l hf hn hk ht hs he hd hw hl
  obtain ⟨hl0, hl8, hu⟩ := hl
  have hf := wf_u8 hf
  have hk := wf_i64 hk
  have ht := wf_i64 ht
  have hU := u64_of_wf hu
  have hlen : l.length ≤ 17592186043904 := by omega
  refine Ev.rounds ?_
  unfold conclavelaw19_PadsApart.f
  refine Ev.bind (f := fun q bt => _) (Rounds_f f n k t s e dd w l 0 hk ht hlen ⟨by omega, by omega⟩) ?_
  simp only [rMay_f hf hk ht, Option.bind_some]
  by_cases hpl : planOf f n k t s e dd w = true
  · simp only [hpl, if_true]
    obtain ⟨hF, hk', hw', ht0, ht1⟩ := plan_facts hpl
    have hm := mul_range (t := t) (w := w) ⟨ht0, by omega⟩ hw'
    have fin : ∀ m : Int, 0 ≤ m → m ≤ 65536 → (m < 40 → 0 < t * w ∧ m * (t * w) ≤ l.length ∧ (l.length : Int) < (m + 1) * (t * w)) → m * (t * w) ≤ l.length → Ev (fun q => conclavelaw19_PadsApart.l0 q l m 0 0 f n k t s e dd w) true := by
      intro m h0 h1 h2 h3
      have := l0_ev f n k t s e dd w l hpl hk ht hU hlen m h0 h1 h2 h3 (if m < 40 then m else 40).toNat 0 (by split <;> omega)
      simpa using this
    unfold roundsOf
    rw [if_pos ⟨hpl, by omega, by omega⟩]
    by_cases hz : t * w = 0
    · rw [if_pos hz]
      simp only [if_true]
      exact fin 65536 (by omega) (by omega) (by omega) (by rw [hz]; omega)
    · rw [if_neg hz]
      have hd0 : 0 ≤ ((l.length : Int) - 0) / (t * w) := Int.ediv_nonneg (by omega) hm.1
      have hd2 : ((l.length : Int) - 0) / (t * w) * (t * w) ≤ (l.length : Int) - 0 := Int.ediv_mul_le _ hz
      have hd3 : (l.length : Int) - 0 < (((l.length : Int) - 0) / (t * w) + 1) * (t * w) := Int.lt_ediv_add_one_mul_self _ (by omega)
      by_cases hg : ((l.length : Int) - 0) / (t * w) > 65536
      · rw [if_pos hg]
        simp only [if_true]
        refine fin 65536 (by omega) (by omega) (by omega) ?_
        have : 65536 * (t * w) ≤ ((l.length : Int) - 0) / (t * w) * (t * w) := Int.mul_le_mul_of_nonneg_right (by omega) hm.1
        omega
      · rw [if_neg hg]
        simp only [if_true]
        exact fin _ hd0 (by omega) (fun _ => ⟨by omega, by omega, by omega⟩) (by omega)
  · simp only [if_neg hpl]
    have e : roundsOf f n k t s e dd w l 0 = (0, 2) := by unfold roundsOf; rw [if_neg (fun h => hpl h.1)]
    refine Ev.bind (f := fun q t => _) anchored19_f ?_
    rw [e]
    simp only [if_true, beq_self_eq_true]
    exact Ev.now _
end Go.Proofs.Ytclanpkekocndaa.Pure
end
section
namespace Go.Proofs.Ytclanpkekocndaa.padsApart
open Go.ChangeShapes Go.WideShapes Go.ChangeAt Go.RowKit Go.Proofs.YtclanpkekocndaaW.PrintWords Go.Proofs.Ytclanpkekocndaa.P Go.Proofs.Ytclanpkekocndaa.Form.PadsApart
set_option linter.unusedVariables false
theorem own : ownKnob Try.prog.godebug = none := by kernel_rfl
theorem laidOut : laidOutB Try.prog = true := by kernel_rfl
set_option maxRecDepth 100000 in
theorem lifted (os : Os) (started : os.Started) (H : Type) (enc : TypeId × Value → H) :
    ReturnsInHanded {} Try.checked os 6 .any (Rows.padsApartSpec.pre6 enc Try.prog Try.f6 Rows.padsApartRow.domain false) (Rows.padsApartSpec.post enc Try.prog Try.f6 false true false false) := by
  refine returnsInHanded_of_change_sized (C := Try.checked) own started (by kernel_rfl) Try.func6
    (ChangeSpec.witness6 (enc := enc) (C := Try.checked) false ⟨#[], #[.agg #[.int .u8 0, .int .i64 0, .int .i64 0, .int .i64 0, .int .i64 0, .int .i64 0, .int .i64 0, .int .i64 0], .slice none 0 0], []⟩ 8 (by kernel_rfl) (by kernel_rfl) (by kernel_rfl) (by kernel_rfl)) ?_
  intro W base args ds gs before hval0 hW hcnd hsz0 _
  have hsz : (DataW.weightsEach Try.prog (Try.f6.params.toList ++ Rows.padsApartSpec.plain.varTypes Try.prog) (ds ++ gs)).all (· ≤ reachBytes) = true := hsz0
  have hval : ∀ (j : Nat) t v, Try.f6.params[j]? = some t → args[j]? = some v → Value.okWide Try.prog W .any base t v := hval0
  have hW' := hW
  obtain ⟨p, q, hA0, hV, rfl, hfz, hnd⟩ := hW
  have hA : DataW.TrodAll enc Try.prog W 0 (fun _ => true) true Try.f6.params.toList args.toList ds p := hA0
  rw [Try.params6] at hA hval hsz
  obtain ⟨v0, vs0, d0, ds0, p0, q0, hargs, rfl, rfl, h0, r0⟩ := trodAll_cons hA
  obtain ⟨v1, vs1, d1, ds1, p1, q1, rfl, rfl, rfl, h1, r1⟩ := trodAll_cons r0
  obtain ⟨rfl, rfl, rfl⟩ := trodAll_nil r1
  obtain rfl : args = #[v0, v1] := by cases args; simp_all
  obtain ⟨rfl, rfl⟩ := trodVars_none hV
  have k0_ := h0
  have lt0 : ∀ x ∈ p0, x.block < W.heap.size := by obtain ⟨m, hm⟩ := k0_; exact DataW.trod_lt m _ _ _ hm
  obtain ⟨z0, rfl, _⟩ := okWide_struct Try.underlying46 (hval 0 46 v0 rfl rfl)
  obtain ⟨⟨a0_0, a0_1, a0_2, a0_3, a0_4, a0_5, a0_6, a0_7⟩, K0, ⟨F0_0, F0_1, F0_2, F0_3, F0_4, F0_5, F0_6, F0_7⟩⟩ := Open.opens_at (Open.opens_struct Try.underlying46 (by kernel_rfl) (by kernel_rfl) (by kernel_rfl) (Open.opensL_cons (Open.opens_int Try.underlying38 (by kernel_rfl)) (Open.opensL_cons (Open.opens_int Try.underlying3 (by kernel_rfl)) (Open.opensL_cons (Open.opens_int Try.underlying3 (by kernel_rfl)) (Open.opensL_cons (Open.opens_int Try.underlying3 (by kernel_rfl)) (Open.opensL_cons (Open.opens_int Try.underlying3 (by kernel_rfl)) (Open.opensL_cons (Open.opens_int Try.underlying3 (by kernel_rfl)) (Open.opensL_cons (Open.opens_int Try.underlying3 (by kernel_rfl)) (Open.opensL_one (Open.opens_int Try.underlying3 (by kernel_rfl)))))))))) id id (fun _ => rfl)) h0 hsz (j := 0) rfl rfl
  have hz0 : ∀ cs : List Value, (z0.toList = cs) → z0 = cs.toArray := fun cs h => by rw [← h]
  obtain ⟨cs0, hcs0, K0'⟩ : ∃ cs, z0.toList = cs ∧ _ := ⟨_, rfl, K0⟩
  obtain ⟨_, _, rfl, rfl, ⟨_, _, rfl, rfl, ⟨_, _, rfl, rfl, ⟨_, _, rfl, rfl, ⟨_, _, rfl, rfl, ⟨_, _, rfl, rfl, ⟨_, _, rfl, rfl, rfl⟩⟩⟩⟩⟩⟩⟩ := K0'
  obtain rfl := hz0 _ hcs0
  have k1_ := h1
  have lt1 : ∀ x ∈ p1, x.block < W.heap.size := by obtain ⟨m, hm⟩ := k1_; exact DataW.trod_lt m _ _ _ hm
  obtain ⟨b1, len1, cap1, rfl⟩ := okWide_slice Try.underlying36 (hval 1 36 v1 rfl rfl)
  obtain ⟨l1, ⟨A1, c1, hcs1, hc1, hr1⟩, F1⟩ := Open.opens_at (Open.opens_slice (d := (Kd.int .u64)) Try.underlying36 (by kernel_rfl) (show 0 < 1 from by decide) (B := 8) (by kernel_rfl) (Open.opens_int Try.underlying32 (by kernel_rfl))) h1 hsz (j := 1) rfl rfl
  simp [Value.cells] at hcs1
  obtain ⟨rfl, rfl, rfl⟩ := hcs1
  clear hA0 hval0 hsz0 hsz
  obtain ⟨k, h⟩ := Pure.PadsApart _ _ _ _ _ _ _ _ _ F0_0 F0_1 F0_2 F0_3 F0_4 F0_5 F0_6 F0_7 F1
  refine (conclavelaw19_PadsApart.calls k _ _ _ _ _ _ _ _ _ _ _ true W hr1 hc1 h rfl).mono fun e W' hee => ?_
  obtain ⟨he, bel⟩ := hee
  have bel : Below W.heap.size W W' := by first | exact bel | exact bel.below
  subst he
  exact ⟨_, rfl, _, _, _, [], _, [], hW', trodAll_mk1 (shut_bool Try.underlying4 _), (trodAll_cons_mk (Below.trod laidOut (by kernel_rfl) (of_decide_eq_true (by kernel_rfl)) k0_ bel lt0) (trodAll_cons_mk (Below.trod laidOut (by kernel_rfl) (of_decide_eq_true (by kernel_rfl)) k1_ bel lt1) trodAll_mk0)), rfl, bel.frame _, fun h => by cases h⟩
theorem over : Rows.padsApartRow.holds Try.pinned (OpenSpec.ofChange Rows.padsApartSpec) :=
  OpenClaim.holds_of_wide 6 Try.f6 rfl rfl rfl rfl rfl rfl rfl ⟨rfl, rfl, rfl, rfl, rfl⟩ rfl rfl rfl rfl rfl (by kernel_rfl) Try.func6 (by kernel_rfl)
    (of_decide_eq_true (by kernel_rfl)) (by unfold Func.isWrapper; first | (rw [if_pos (by decide +kernel)]; kernel_rfl) | (rw [if_neg (by decide +kernel)]; exact ⟨rfl, rfl⟩))
    (fun os started H enc _ => lifted os started H enc)
theorem proved : Rows.PadsApartSaid := over
end Go.Proofs.Ytclanpkekocndaa.padsApart
namespace Go.Proofs.Ytclanpkekocndaa
theorem padsApart_holds : Rows.PadsApartSaid := padsApart.proved
end Go.Proofs.Ytclanpkekocndaa
end
