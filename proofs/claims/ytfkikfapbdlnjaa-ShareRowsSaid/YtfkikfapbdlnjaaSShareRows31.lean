import Derived.Test.YtfkikfapbdlnjaaSShareRows14
import Derived.Test.YtfkikfapbdlnjaaSShareRows15
import Derived.Test.YtfkikfapbdlnjaaSShareRows16
import Derived.Test.YtfkikfapbdlnjaaSShareRows17
import Derived.Test.YtfkikfapbdlnjaaSShareRows18
import Derived.Test.YtfkikfapbdlnjaaSShareRows19
import Derived.Test.YtfkikfapbdlnjaaSShareRows20
import Derived.Test.YtfkikfapbdlnjaaSShareRows21
import Derived.Test.YtfkikfapbdlnjaaSShareRows22
import Derived.Test.YtfkikfapbdlnjaaSShareRows24
import Derived.Test.YtfkikfapbdlnjaaSShareRows25
import Derived.Test.YtfkikfapbdlnjaaSShareRows26
import Derived.Test.YtfkikfapbdlnjaaSShareRows27
import Derived.Test.YtfkikfapbdlnjaaSShareRows29
import Derived.Test.YtfkikfapbdlnjaaSShareRows30
import Derived.Shelf.Bits.Mul64
section
namespace Go.Proofs.Ytfkikfapbdlnjaa.Form.ShareRows
open Go.RowKit Go.Proofs.Ytfkikfapbdlnjaa.P Go.Proofs.YtfkikfapbdlnjaaW.PrintWords Go.Proofs.YtfkikfapbdlnjaaW.PrintLast
set_option linter.unusedVariables false
def Pure : Prop := ∀ (a0_0 : Int) (a0_1 : Int) (a0_2 : Int) (a0_3 : Int) (a0_4 : Int) (a0_5 : Int) (a0_6 : Int) (a0_7 : Int) (l1_0 : List (List Int)) (l1_1 : List (List Int)), ((Lit.int .u8 a0_0).wf = true) → ((Lit.int .i64 a0_1).wf = true) → ((Lit.int .i64 a0_2).wf = true) → ((Lit.int .i64 a0_3).wf = true) → ((Lit.int .i64 a0_4).wf = true) → ((Lit.int .i64 a0_5).wf = true) → ((Lit.int .i64 a0_6).wf = true) → ((Lit.int .i64 a0_7).wf = true) → (l1_0.length ≤ maxLen ∧ l1_0.length * 24 ≤ 140737488351232 ∧ ∀ y1 ∈ l1_0, y1.length ≤ maxLen ∧ y1.length * 8 ≤ 140737488351232 ∧ ∀ y2 ∈ y1, (Lit.int .u64 y2).wf = true) → (l1_1.length ≤ maxLen ∧ l1_1.length * 24 ≤ 140737488351232 ∧ ∀ y3 ∈ l1_1, y3.length ≤ maxLen ∧ y3.length * 8 ≤ 140737488351232 ∧ ∀ y4 ∈ y3, (Lit.int .u64 y4).wf = true) → ∃ k, conclavelaw14_ShareRows.f k a0_0 a0_1 a0_2 a0_3 a0_4 a0_5 a0_6 a0_7 l1_0 l1_1 = some true
end Go.Proofs.Ytfkikfapbdlnjaa.Form.ShareRows
end
section
namespace Go.Proofs.Ytfkikfapbdlnjaa.Form.ShareSums
open Go.RowKit Go.Proofs.Ytfkikfapbdlnjaa.P Go.Proofs.YtfkikfapbdlnjaaW.PrintWords Go.Proofs.YtfkikfapbdlnjaaW.PrintLast
set_option linter.unusedVariables false
def Pure : Prop := ∀ (a0_0 : Int) (a0_1 : Int) (a0_2 : Int) (a0_3 : Int) (a0_4 : Int) (a0_5 : Int) (a0_6 : Int) (a0_7 : Int) (l1_0 : List (List Int)) (l1_1 : List (List Int)) (l2_0 : List (List Int)) (l2_1 : List (List Int)), ((Lit.int .u8 a0_0).wf = true) → ((Lit.int .i64 a0_1).wf = true) → ((Lit.int .i64 a0_2).wf = true) → ((Lit.int .i64 a0_3).wf = true) → ((Lit.int .i64 a0_4).wf = true) → ((Lit.int .i64 a0_5).wf = true) → ((Lit.int .i64 a0_6).wf = true) → ((Lit.int .i64 a0_7).wf = true) → (l1_0.length ≤ maxLen ∧ l1_0.length * 24 ≤ 140737488351232 ∧ ∀ y1 ∈ l1_0, y1.length ≤ maxLen ∧ y1.length * 8 ≤ 140737488351232 ∧ ∀ y2 ∈ y1, (Lit.int .u64 y2).wf = true) → (l1_1.length ≤ maxLen ∧ l1_1.length * 24 ≤ 140737488351232 ∧ ∀ y3 ∈ l1_1, y3.length ≤ maxLen ∧ y3.length * 8 ≤ 140737488351232 ∧ ∀ y4 ∈ y3, (Lit.int .u64 y4).wf = true) → (l2_0.length ≤ maxLen ∧ l2_0.length * 24 ≤ 140737488351232 ∧ ∀ y5 ∈ l2_0, y5.length ≤ maxLen ∧ y5.length * 8 ≤ 140737488351232 ∧ ∀ y6 ∈ y5, (Lit.int .u64 y6).wf = true) → (l2_1.length ≤ maxLen ∧ l2_1.length * 24 ≤ 140737488351232 ∧ ∀ y7 ∈ l2_1, y7.length ≤ maxLen ∧ y7.length * 8 ≤ 140737488351232 ∧ ∀ y8 ∈ y7, (Lit.int .u64 y8).wf = true) → ∃ k, conclavelaw14_ShareSums.f k a0_0 a0_1 a0_2 a0_3 a0_4 a0_5 a0_6 a0_7 l1_0 l1_1 l2_0 l2_1 = some true
end Go.Proofs.Ytfkikfapbdlnjaa.Form.ShareSums
end
section
namespace Go.Proofs.Ytfkikfapbdlnjaa.Plain
open Go.RowKit Go.Proofs.YtfkikfapbdlnjaaW.PrintWords Go.Proofs.YtfkikfapbdlnjaaW.PrintLast Go.Proofs.YtfkikfapbdlnjaaW.PrintMore
set_option linter.unusedVariables false
set_option linter.unusedSimpArgs false
theorem w64 {x : Int} (h0 : -9223372036854775808 ≤ x) (h1 : x ≤ 9223372036854775807) : wrap64 x = x := by unfold wrap64; omega
theorem wu64 (x : Int) : IntKind.u64.wrap x = x % 18446744073709551616 := by simp [IntKind.wrap, IntKind.bits, IntKind.signed]
theorem wu64_in {x : Int} (h0 : 0 ≤ x) (h1 : x < 18446744073709551616) : IntKind.u64.wrap x = x := by rw [wu64]; omega
theorem wf_u8 {x : Int} (h : (Lit.int .u8 x).wf = true) : 0 ≤ x ∧ x < 256 := by
  simp [Lit.wf, IntKind.min, IntKind.max, IntKind.bits, IntKind.signed] at h; omega
theorem wf_u64 {x : Int} (h : (Lit.int .u64 x).wf = true) : 0 ≤ x ∧ x < 18446744073709551616 := by
  simp [Lit.wf, IntKind.min, IntKind.max, IntKind.bits, IntKind.signed] at h; omega
def Bytes (l : List Int) : Prop := ∀ x ∈ l, 0 ≤ x ∧ x < 256
theorem Bytes.take {l : List Int} (h : Bytes l) (n : Nat) : Bytes (l.take n) := fun x hx => h x (List.mem_of_mem_take hx)
theorem Bytes.drop {l : List Int} (h : Bytes l) (n : Nat) : Bytes (l.drop n) := fun x hx => h x (List.mem_of_mem_drop hx)
theorem Bytes.append {a b : List Int} (h : Bytes a) (h' : Bytes b) : Bytes (a ++ b) := fun x hx => (List.mem_append.1 hx).elim (h x) (h' x)
theorem rd_at {l : List Int} {i : Nat} (h : i < l.length) : rd l (i : Int) = l[i] := by simp [rd, h]
theorem drop_at {l : List Int} {i : Nat} (h : i < l.length) : l.drop i = rd l (i : Int) :: l.drop (i + 1) := by rw [rd_at h, List.drop_eq_getElem_cons h]
end Go.Proofs.Ytfkikfapbdlnjaa.Plain
end
section
namespace Go.Proofs.Ytfkikfapbdlnjaa.Plain
open Go.RowKit Go.Proofs.Ytfkikfapbdlnjaa.P Go.Proofs.YtfkikfapbdlnjaaW.PrintWords Go.Proofs.YtfkikfapbdlnjaaW.PrintLast Go.Proofs.YtfkikfapbdlnjaaW.PrintMore
set_option linter.unusedVariables false
set_option linter.unusedSimpArgs false
def prime (f : Int) : Int := if f = 1 then 2013265921 else if f = 2 then 18446744069414584321 else 0
def below (p : Int) (l : List Int) : Bool := l.all fun x => decide (x < p)
theorem below_cons (p x : Int) (l : List Int) : below p (x :: l) = (decide (x < p) && below p l) := rfl
theorem below_iff {p : Int} {l : List Int} : below p l = true ↔ ∀ x ∈ l, x < p := by simp [below]
def isF (f : Int) : Bool := decide (f = 1) || decide (f = 2)
def inF (f : Int) (l : List Int) : Bool := isF f && below (prime f) l
def U64 (l : List Int) : Prop := ∀ x ∈ l, 0 ≤ x ∧ x < 18446744073709551616
theorem u64_of_wf {l : List Int} (h : ∀ x ∈ l, (Lit.int .u64 x).wf = true) : U64 l := fun x hx => wf_u64 (h x hx)
theorem isF_or {f : Int} (h : isF f = true) : f = 1 ∨ f = 2 := by simpa [isF] using h
theorem prime_zero {f : Int} (h : isF f = false) : prime f = 0 := by
  have h' : ¬ f = 1 ∧ ¬ f = 2 := by simpa [isF] using h
  unfold prime; rw [if_neg h'.1, if_neg h'.2]
theorem prime_pos {f : Int} (h : isF f = true) : 0 < prime f := by
  unfold prime; rcases isF_or h with rfl | rfl <;> decide
theorem reckoner_in_ev (p : Int) (b : Bool) (l : List Int) (hl : l.length ≤ 9223372036854775807) : ∀ (d i : Nat), i + d = l.length → Ev (fun k => field_reckoner_in.l0 k l (l.length : Int) (i : Int) p b) (below p (l.drop i)) := by
  intro d
  induction d with
  | zero =>
    intro i hi
    refine Ev.step (f := fun _ => some true) (fun k => ?_) (by rw [List.drop_eq_nil_of_le (by omega)]; exact Ev.now _)
    simp only [field_reckoner_in.l0]
    rw [if_neg (by omega)]
  | succ d ih =>
    intro i hi
    have hlt : i < l.length := by omega
    rw [drop_at hlt, below_cons]
    by_cases hp : rd l (i : Int) ≥ p
    · refine Ev.step (f := fun _ => some false) (fun k => ?_) (by rw [show decide (rd l (i : Int) < p) = false by simpa using hp]; exact Ev.now _)
      simp only [field_reckoner_in.l0]
      rw [if_pos (by omega), if_pos (by omega), if_pos (by omega), if_pos hp]
    · refine Ev.step (f := fun k => field_reckoner_in.l0 k l (l.length : Int) ((i + 1 : Nat) : Int) p b) (fun k => ?_) (by rw [show decide (rd l (i : Int) < p) = true by simp; omega]; simpa using ih (i + 1) (by omega))
      simp only [field_reckoner_in.l0]
      rw [if_pos (by omega), if_pos (by omega), if_pos (by omega), if_neg hp, w64 (by omega) (by omega)]; rfl
theorem asked_f (f : Int) (l : List Int) (hl : l.length ≤ 9223372036854775807) : Ev (fun k => field_asked.f k f l) (if inF f l then (prime f, decide (f = 2), 0) else (0, false, 2)) := by
  unfold field_asked.f field_of.f inF isF prime
  by_cases h1 : f = 1
  · subst h1
    simp only [if_true, Option.bind_some, decide_true, Bool.true_or, Bool.true_and]
    refine Ev.bind (f := fun _ t => if t = true then some (2013265921, false, 0) else some (0, false, 2)) (reckoner_in_ev 2013265921 false l hl l.length 0 (by omega)) ?_
    by_cases hb : below 2013265921 l = true
    · simp only [List.drop_zero, hb, if_true]; exact Ev.now _
    · simp only [List.drop_zero, hb, if_false]; exact Ev.now _
  · by_cases h2 : f = 2
    · subst h2
      simp only [if_neg h1, if_true, Option.bind_some, decide_true, Bool.or_true, Bool.true_and]
      refine Ev.bind (f := fun _ t => if t = true then some (18446744069414584321, true, 0) else some (0, false, 2)) (reckoner_in_ev 18446744069414584321 true l hl l.length 0 (by omega)) ?_
      by_cases hb : below 18446744069414584321 l = true
      · simp only [List.drop_zero, hb, if_true]; exact Ev.now _
      · simp only [List.drop_zero, hb, if_false]; exact Ev.now _
    · simp only [if_neg h1, if_neg h2, Option.bind_some, show decide (f = 1) = false by simpa using h1, show decide (f = 2) = false by simpa using h2, Bool.or_false, Bool.false_and, Bool.false_eq_true, if_false]
      exact Ev.now _
theorem In_f (f : Int) (l : List Int) (hl : l.length ≤ 9223372036854775807) : Ev (fun k => field_In.f k f l) (inF f l) := by
  unfold field_In.f
  refine Ev.bind (f := fun _ bt => some (bt.2.2 == 0)) (asked_f f l hl) ?_
  by_cases h : inF f l = true
  · simp only [if_pos h]; rw [h]; exact Ev.now _
  · simp only [if_neg h]; rw [Bool.eq_false_iff.2 h]; exact Ev.now _
end Go.Proofs.Ytfkikfapbdlnjaa.Plain
end
section
namespace Go.Proofs.Ytfkikfapbdlnjaa.Plain
open Go.RowKit Go.Proofs.Ytfkikfapbdlnjaa.P Go.Proofs.YtfkikfapbdlnjaaW.PrintWords Go.Proofs.YtfkikfapbdlnjaaW.PrintLast Go.Proofs.YtfkikfapbdlnjaaW.PrintMore
set_option linter.unusedVariables false
set_option linter.unusedSimpArgs false
theorem ite_b (b x : Bool) : (if b = true then some x else some false) = some (b && x) := by cases b <;> rfl
theorem ite_p (p : Prop) [Decidable p] (x : Bool) : (if p then some x else some false) = some (decide p && x) := by by_cases h : p <;> simp [h]
def mayP (f N K T S E D W : Int) : Bool := isF f && decide (1 ≤ N ∧ N ≤ 64 ∧ 1 ≤ K ∧ K ≤ 64 ∧ 1 ≤ W ∧ W ≤ 64 ∧ 0 ≤ T ∧ K + T ≤ 64 ∧ 0 ≤ S ∧ S ≤ 64 ∧ 0 ≤ E ∧ E ≤ 64 ∧ 0 ≤ D ∧ D ≤ 1024)
theorem mayP_at {f N K T S E D W : Int} (h : mayP f N K T S E D W = true) : isF f = true ∧ 1 ≤ N ∧ N ≤ 64 ∧ 1 ≤ K ∧ K ≤ 64 ∧ 1 ≤ W ∧ W ≤ 64 ∧ 0 ≤ T ∧ K + T ≤ 64 ∧ 0 ≤ S ∧ S ≤ 64 ∧ 0 ≤ E ∧ E ≤ 64 ∧ 0 ≤ D ∧ D ≤ 1024 := by
  unfold mayP at h
  rw [Bool.and_eq_true, decide_eq_true_eq] at h
  exact h
theorem planMay_f (f N K T S E D W : Int) : plan_May.f f N K T S E D W = some (mayP f N K T S E D W) := by
  have wi : ∀ a lo hi, plan_within.f a lo hi = some (decide (lo ≤ a) && decide (a ≤ hi)) := by
    intro a lo hi
    unfold plan_within.f
    by_cases h : a ≥ lo
    · rw [if_pos h, decide_eq_true h]; rfl
    · rw [if_neg h, decide_eq_false h]; rfl
  unfold plan_May.f
  simp only [wi, Option.bind_some, ite_b, ite_p]
  unfold mayP isF
  by_cases h1 : f = 1
  · rw [if_pos h1]
    congr 1
    rw [Bool.eq_iff_iff]
    simp only [Bool.and_eq_true, Bool.or_eq_true, decide_eq_true_eq]
    unfold wrap64
    omega
  · rw [if_neg h1]
    congr 1
    rw [Bool.eq_iff_iff]
    simp only [Bool.and_eq_true, Bool.or_eq_true, decide_eq_true_eq]
    unfold wrap64
    omega
theorem refMay_f (f N K T S E D W : Int) (hf : -9223372036854775808 ≤ f ∧ f ≤ 9223372036854775807) : conclaveref12_May.f f N K T S E D W = some (mayP f N K T S E D W) := by
  have wi : ∀ a lo hi, conclaveref12_within.f a lo hi = some (decide (lo ≤ a) && decide (a ≤ hi)) := by
    intro a lo hi
    unfold conclaveref12_within.f
    by_cases h : a ≥ lo
    · rw [if_pos h, decide_eq_true h]; rfl
    · rw [if_neg h, decide_eq_false h]; rfl
  unfold conclaveref12_May.f
  simp only [wi, Option.bind_some, ite_b, ite_p]
  unfold mayP isF
  congr 1
  rw [Bool.eq_iff_iff]
  simp only [Bool.and_eq_true, Bool.or_eq_true, decide_eq_true_eq]
  unfold wrap64
  omega
end Go.Proofs.Ytfkikfapbdlnjaa.Plain
end
section
namespace Go.Proofs.Ytfkikfapbdlnjaa.Plain
open Go.RowKit Go.Proofs.Ytfkikfapbdlnjaa.P Go.Proofs.YtfkikfapbdlnjaaW.PrintWords Go.Proofs.YtfkikfapbdlnjaaW.PrintLast Go.Proofs.YtfkikfapbdlnjaaW.PrintMore
set_option linter.unusedVariables false
set_option linter.unusedSimpArgs false
theorem P_f (f : Int) : conclaveref01_P.f f = some (prime f) := by
  unfold conclaveref01_P.f prime; split
  · rfl
  · split <;> rfl
theorem rIn_ev (p : Int) (l : List Int) (hl : l.length ≤ 9223372036854775807) : ∀ (d i : Nat), i + d = l.length → Ev (fun k => conclaveref01_In.l0 k l p (i : Int)) (below p (l.drop i) && (p != 0)) := by
  intro d
  induction d with
  | zero =>
    intro i hi
    refine Ev.step (f := fun _ => some (p != 0)) (fun k => ?_) (by rw [List.drop_eq_nil_of_le (by omega)]; exact Ev.now _)
    simp only [conclaveref01_In.l0]
    rw [if_neg (by omega)]
  | succ d ih =>
    intro i hi
    have hlt : i < l.length := by omega
    rw [drop_at hlt, below_cons]
    by_cases hp : rd l (i : Int) ≥ p
    · refine Ev.step (f := fun _ => some false) (fun k => ?_) (by rw [show decide (rd l (i : Int) < p) = false by simpa using hp]; exact Ev.now _)
      simp only [conclaveref01_In.l0]
      rw [if_pos (by omega), if_pos (by omega), if_pos hp]
    · refine Ev.step (f := fun k => conclaveref01_In.l0 k l p ((i + 1 : Nat) : Int)) (fun k => ?_) (by rw [show decide (rd l (i : Int) < p) = true by simp; omega]; simpa using ih (i + 1) (by omega))
      simp only [conclaveref01_In.l0]
      rw [if_pos (by omega), if_pos (by omega), if_neg hp, w64 (by omega) (by omega)]; rfl
theorem rIn_f (f : Int) (l : List Int) (hu : U64 l) (hl : l.length ≤ 9223372036854775807) : Ev (fun k => conclaveref01_In.f k f l) (inF f l) := by
  unfold conclaveref01_In.f
  rw [P_f]
  simp only [Option.bind_some]
  have h := rIn_ev (prime f) l hl l.length 0 (by omega)
  rw [List.drop_zero] at h
  have e : (below (prime f) l && (prime f != 0)) = inF f l := by
    unfold inF
    cases hf : isF f with
    | true => have := prime_pos hf; rw [show (prime f != 0) = true by simp; omega]; simp
    | false => rw [prime_zero hf]; simp
  rw [← e]; exact h
end Go.Proofs.Ytfkikfapbdlnjaa.Plain
end
section
namespace Go.Proofs.Ytfkikfapbdlnjaa.Plain
open Go.RowKit Go.Proofs.Ytfkikfapbdlnjaa.P Go.Proofs.YtfkikfapbdlnjaaW.PrintWords Go.Proofs.YtfkikfapbdlnjaaW.PrintLast Go.Proofs.YtfkikfapbdlnjaaW.PrintMore
set_option linter.unusedVariables false
set_option linter.unusedSimpArgs false
theorem fSame_ev (a b : List Int) (he : a.length = b.length) (hl : a.length ≤ 9223372036854775807) : ∀ (d i : Nat), i + d = a.length → Ev (fun k => conclaveref01_Same.l0 k a b (i : Int)) (decide (a.drop i = b.drop i)) := by
  intro d
  induction d with
  | zero =>
    intro i hi
    refine Ev.step (f := fun _ => some true) (fun k => ?_) (by rw [List.drop_eq_nil_of_le (by omega), List.drop_eq_nil_of_le (by omega)]; exact Ev.now _)
    simp only [conclaveref01_Same.l0]
    rw [if_neg (by omega)]
  | succ d ih =>
    intro i hi
    have hlt : i < a.length := by omega
    have hlt2 : i < b.length := by omega
    rw [drop_at hlt, drop_at hlt2]
    by_cases hp : rd a (i : Int) = rd b (i : Int)
    · refine Ev.step (f := fun k => conclaveref01_Same.l0 k a b ((i + 1 : Nat) : Int)) (fun k => ?_) (by rw [hp]; simpa using ih (i + 1) (by omega))
      simp only [conclaveref01_Same.l0]
      rw [if_pos (by omega), if_pos (by omega), if_pos (by omega), if_pos hp, w64 (by omega) (by omega)]; rfl
    · refine Ev.step (f := fun k => some false) (fun k => ?_) (by rw [show decide (rd a (i : Int) :: a.drop (i + 1) = rd b (i : Int) :: b.drop (i + 1)) = false by simp [hp]]; exact Ev.now _)
      simp only [conclaveref01_Same.l0]
      rw [if_pos (by omega), if_pos (by omega), if_pos (by omega), if_neg hp]
theorem fSame_f (a b : List Int) (hl : a.length ≤ 9223372036854775807) : Ev (fun k => conclaveref01_Same.f k a b) (decide (a = b)) := by
  unfold conclaveref01_Same.f
  by_cases he : a.length = b.length
  · simp only [if_pos (show (a.length : Int) = (b.length : Int) by omega)]
    exact fSame_ev a b he hl a.length 0 (by omega)
  · simp only [if_neg (show ¬ (a.length : Int) = (b.length : Int) by omega)]
    rw [show decide (a = b) = false by simp; intro h; exact he (by rw [h])]
    exact Ev.now _
end Go.Proofs.Ytfkikfapbdlnjaa.Plain
end
section
namespace Go.Proofs.Ytfkikfapbdlnjaa.Plain
open Go.RowKit Go.Proofs Go.Proofs.Ytfkikfapbdlnjaa.P Go.Proofs.YtfkikfapbdlnjaaW.PrintWords Go.Proofs.YtfkikfapbdlnjaaW.PrintLast Go.Proofs.YtfkikfapbdlnjaaW.PrintMore
set_option linter.unusedVariables false
set_option linter.unusedSimpArgs false
def iota (a : Int) (m : Nat) : List Int := (List.range m).map fun (j : Nat) => a + (j : Int)
theorem iota_len (a : Int) (m : Nat) : (iota a m).length = m := by simp [iota]
theorem iota_succ (a : Int) (m : Nat) : iota a (m + 1) = iota a m ++ [a + (m : Int)] := by simp [iota, List.range_succ]
theorem iota_rd (a : Int) {m : Nat} {i : Nat} (h : i < m) : rd (iota a m) (i : Int) = a + (i : Int) := by
  simp [rd, iota, List.getD_eq_getElem?_getD, h]
theorem iota_append (a : Int) (m n : Nat) : iota a m ++ iota (a + (m : Int)) n = iota a (m + n) := by
  induction n with
  | zero => simp [iota]
  | succ n ih => rw [iota_succ, ← List.append_assoc, ih, ← Nat.add_assoc, iota_succ]; congr 2; omega
theorem collectG {β : Type} {F : Nat → List Int → Int → Option β} {c : List Int → β} (a m : Int) (ha : 0 ≤ a) (ha1 : a ≤ 128) (hm : 0 ≤ m) (hm1 : m ≤ 128)
    (hF : ∀ k l i, F (k + 1) l i = if i < m then (if l.length < 17592186044416 then (F k (l ++ [IntKind.u64.wrap (wrap64 (a + i))]) (wrap64 (i + 1))) else (none)) else (some (c l))) :
    ∀ (d i : Nat), ((i + d : Nat) : Int) = m → Ev (fun k => F k (iota a i) (i : Int)) (c (iota a m.toNat)) := by
  intro d
  induction d with
  | zero =>
    intro i hi
    refine Ev.step (f := fun _ => some (c (iota a m.toNat))) (fun k => ?_) (Ev.now _)
    rw [hF, if_neg (by omega), show m.toNat = i by omega]
  | succ d ih =>
    intro i hi
    have e1 : wrap64 ((i : Int) + 1) = ((i + 1 : Nat) : Int) := by rw [w64 (by omega) (by omega)]; rfl
    have e2 : IntKind.u64.wrap (wrap64 (a + (i : Int))) = a + (i : Int) := by rw [w64 (by omega) (by omega)]; exact wu64_in (by omega) (by omega)
    refine Ev.step (f := fun k => F k (iota a (i + 1)) ((i + 1 : Nat) : Int)) (fun k => ?_) (ih (i + 1) (by omega))
    rw [hF, if_pos (by omega), if_pos (by rw [iota_len]; omega), e1, e2, iota_succ]
section
variable {f N K T S E D W : Int}
theorem Data_f (h : mayP f N K T S E D W = true) : Ev (fun k => points_Data.f k f N K T S E D W) (iota 0 K.toNat, 0) := by
  obtain ⟨hf, h1, h2, h3, h4, h5, h6, h7, h8, _⟩ := mayP_at h
  unfold points_Data.f
  simp only [planMay_f, h, Option.bind_some, if_true]
  exact collectG (F := fun k l i => points_Data.l0 k l i f N K T S E D W) (c := fun l => (l, 0)) 0 K (by omega) (by omega) (by omega) (by omega) (fun k l i => by simp only [points_Data.l0]) K.toNat 0 (by omega)
theorem Pads_f (h : mayP f N K T S E D W = true) : Ev (fun k => points_Pads.f k f N K T S E D W) (iota K T.toNat, 0) := by
  obtain ⟨hf, h1, h2, h3, h4, h5, h6, h7, h8, _⟩ := mayP_at h
  unfold points_Pads.f
  simp only [planMay_f, h, Option.bind_some, if_true]
  exact collectG (F := fun k l i => points_Pads.l0 k l i f N K T S E D W) (c := fun l => (l, 0)) K T (by omega) (by omega) (by omega) (by omega) (fun k l i => by simp only [points_Pads.l0]) T.toNat 0 (by omega)
theorem Workers_f (h : mayP f N K T S E D W = true) : Ev (fun k => points_Workers.f k f N K T S E D W) (iota (K + T) N.toNat, 0) := by
  obtain ⟨hf, h1, h2, h3, h4, h5, h6, h7, h8, _⟩ := mayP_at h
  unfold points_Workers.f
  simp only [planMay_f, h, Option.bind_some, if_true]
  exact collectG (F := fun k l i => points_Workers.l0 k l i f N K T S E D W) (c := fun l => (l, 0)) (K + T) N (by omega) (by omega) (by omega) (by omega) (fun k l i => by simp only [points_Workers.l0]; rw [w64 (x := K + T) (by omega) (by omega)]) N.toNat 0 (by omega)
theorem from_f (a m : Int) (ha : 0 ≤ a) (ha1 : a ≤ 128) (hm : 0 ≤ m) (hm1 : m ≤ 128) : Ev (fun k => conclaveref13_from.f k a m) (iota a m.toNat) := by
  unfold conclaveref13_from.f
  exact collectG (F := fun k l i => conclaveref13_from.l0 k a m l i) (c := fun l => l) a m ha ha1 hm hm1 (fun k l i => by simp only [conclaveref13_from.l0]) m.toNat 0 (by omega)
theorem Inner_f (h : mayP f N K T S E D W = true) : Ev (fun k => conclaveref13_Inner.f k f N K T S E D W) (iota 0 (K + T).toNat) := by
  obtain ⟨hf, h1, h2, h3, h4, h5, h6, h7, h8, _⟩ := mayP_at h
  unfold conclaveref13_Inner.f
  simp only [w64 (x := K + T) (by omega) (by omega)]
  exact Ev.bind (f := fun _ t => some t) (from_f 0 (K + T) (by omega) (by omega) (by omega) (by omega)) (Ev.now _)
theorem Outer_f (h : mayP f N K T S E D W = true) : Ev (fun k => conclaveref13_Outer.f k f N K T S E D W) (iota (K + T) N.toNat) := by
  obtain ⟨hf, h1, h2, h3, h4, h5, h6, h7, h8, _⟩ := mayP_at h
  unfold conclaveref13_Outer.f
  simp only [w64 (x := K + T) (by omega) (by omega)]
  exact Ev.bind (f := fun _ t => some t) (from_f (K + T) N (by omega) (by omega) (by omega) (by omega)) (Ev.now _)
end
end Go.Proofs.Ytfkikfapbdlnjaa.Plain
end
section
namespace Go.Proofs.Ytfkikfapbdlnjaa.Plain
open Go.RowKit Go.Proofs Go.Proofs.Ytfkikfapbdlnjaa.P Go.Proofs.Ytfkikfapbdlnjaa.Mth Go.Proofs.YtfkikfapbdlnjaaW.PrintWords Go.Proofs.YtfkikfapbdlnjaaW.PrintLast Go.Proofs.YtfkikfapbdlnjaaW.PrintMore
set_option linter.unusedVariables false
set_option linter.unusedSimpArgs false
set_option linter.unusedSectionVars false
def Fld (f : Int) (p : Nat) : Prop := (f = 1 ∧ p = 2013265921) ∨ (f = 2 ∧ p = 18446744069414584321)
variable {f : Int} {p : Nat} [NeZero p]
theorem Fld.pr (h : Fld f p) : Pr p := by rcases h with ⟨_, rfl⟩ | ⟨_, rfl⟩; exact small_pr; exact large_pr
theorem Fld.prime (h : Fld f p) : prime f = (p : Int) := by rcases h with ⟨rfl, rfl⟩ | ⟨rfl, rfl⟩ <;> rfl
theorem Fld.lt (h : Fld f p) : p < 18446744073709551616 := by rcases h with ⟨_, rfl⟩ | ⟨_, rfl⟩ <;> decide
theorem Fld.gt (h : Fld f p) : 2013265920 < p := by rcases h with ⟨_, rfl⟩ | ⟨_, rfl⟩ <;> decide
theorem Fld.isF (h : Fld f p) : isF f = true := by rcases h with ⟨rfl, _⟩ | ⟨rfl, _⟩ <;> rfl
theorem fld_of (h : isF f = true) : ∃ p : Nat, ∃ _ : NeZero p, Fld f p := by
  rcases isF_or h with rfl | rfl
  · exact ⟨2013265921, ⟨by decide⟩, .inl ⟨rfl, rfl⟩⟩
  · exact ⟨18446744069414584321, ⟨by decide⟩, .inr ⟨rfl, rfl⟩⟩
abbrev tI (x : Fin p) : Int := ((x.val : Nat) : Int)
theorem tI_inj {x y : Fin p} (h : tI x = tI y) : x = y := Fin.ext (by unfold tI at h; omega)
theorem tI_zero : tI (0 : Fin p) = 0 := rfl
theorem tI_one (hF : Fld f p) : tI (1 : Fin p) = 1 := by
  show ((1 % p : Nat) : Int) = 1
  rw [Nat.mod_eq_of_lt (by have := hF.gt; omega)]; rfl
theorem tI_c {n : Nat} (h : n < p) : (n : Int) = tI (cF p n) := by
  show (n : Int) = ((n % p : Nat) : Int)
  rw [Nat.mod_eq_of_lt h]
theorem inF_map (hF : Fld f p) (L : List (Fin p)) : inF f (L.map tI) = true := by
  unfold inF
  rw [hF.isF, hF.prime, Bool.true_and, below_iff]
  intro x hx
  obtain ⟨y, _, rfl⟩ := List.mem_map.1 hx
  have := y.isLt
  simp only [tI]; omega
theorem lift (hF : Fld f p) {l : List Int} (hu : U64 l) (hb : below (Plain.prime f) l = true) : ∃ L : List (Fin p), l = L.map tI := by
  induction l with
  | nil => exact ⟨[], rfl⟩
  | cons x l ih =>
    obtain ⟨L, rfl⟩ := ih (fun y hy => hu y (List.mem_cons_of_mem _ hy)) (by rw [below_cons] at hb; exact (Bool.and_eq_true_iff.1 hb).2)
    have h0 := hu x (List.mem_cons_self ..)
    have h1 := below_iff.1 hb x (List.mem_cons_self ..)
    rw [hF.prime] at h1
    exact ⟨⟨x.toNat, by omega⟩ :: L, by simp only [List.map_cons, tI]; rw [show ((x.toNat : Nat) : Int) = x by omega]⟩
theorem md {a : Nat} (h : p ≤ a) (h2 : a < p + p) : a % p = a - p := by rw [Nat.mod_eq_sub_mod h, Nat.mod_eq_of_lt (by omega)]
theorem add_f (hF : Fld f p) (b : Bool) (x y : Fin p) : field_reckoner_add.f (p : Int) b (tI x) (tI y) = some (tI (x + y)) := by
  have h1 := x.isLt
  have h2 := y.isLt
  have h3 := hF.lt
  unfold field_reckoner_add.f tI
  rw [if_pos (by omega), Fin.val_add]
  by_cases c : (18446744073709551616 : Int) ≤ (x.val : Int) + (y.val : Int)
  · rw [if_pos c, wu64, md (by omega) (by omega)]
    congr 1; omega
  · rw [if_neg c]
    by_cases c2 : (p : Int) ≤ (x.val : Int) + (y.val : Int)
    · rw [if_pos c2, wu64, md (by omega) (by omega)]
      congr 1; omega
    · rw [if_neg c2, Nat.mod_eq_of_lt (by omega)]
      congr 1
theorem sub_f (hF : Fld f p) (b : Bool) (x y : Fin p) : field_reckoner_sub.f (p : Int) b (tI x) (tI y) = some (tI (x - y)) := by
  have h1 := x.isLt
  have h2 := y.isLt
  have h3 := hF.lt
  unfold field_reckoner_sub.f tI
  rw [if_pos (by omega), Fin.sub_def]
  by_cases c : (x.val : Int) < (y.val : Int)
  · rw [if_pos c, wu64]
    simp only
    rw [Nat.mod_eq_of_lt (by omega)]
    congr 1; omega
  · rw [if_neg c]
    simp only
    rw [md (by omega) (by omega)]
    congr 1; omega
theorem mul64_f (x y : Nat) (hx : x < 18446744073709551616) (hy : y < 18446744073709551616) : bits_Mul64.f (x : Int) (y : Int) = some (((x * y / 18446744073709551616 : Nat) : Int), ((x * y % 18446744073709551616 : Nat) : Int)) := by
  obtain ⟨bd, bt, bw, hhi⟩ := Lib.mul64_hi x y hx hy
  have ba := Lib.half_mul_le (a := x / 4294967296) (b := y / 4294967296) (by omega) (by omega)
  have bb := Lib.half_mul_le (a := x / 4294967296) (b := y % 4294967296) (by omega) (by omega)
  have bc := Lib.half_mul_le (a := x % 4294967296) (b := y / 4294967296) (by omega) (by omega)
  have ba' : x / 4294967296 * (y / 4294967296) < 18446744073709551616 := by omega
  have bb' : x / 4294967296 * (y % 4294967296) < 18446744073709551616 := by omega
  have bc' : x % 4294967296 * (y / 4294967296) < 18446744073709551616 := by omega
  have bh1 : x / 4294967296 * (y / 4294967296) + (x / 4294967296 * (y % 4294967296) + x % 4294967296 * (y % 4294967296) / 4294967296) / 4294967296 < 18446744073709551616 := by omega
  have bh : x / 4294967296 * (y / 4294967296) + (x / 4294967296 * (y % 4294967296) + x % 4294967296 * (y % 4294967296) / 4294967296) / 4294967296 + ((x / 4294967296 * (y % 4294967296) + x % 4294967296 * (y % 4294967296) / 4294967296) % 4294967296 + x % 4294967296 * (y / 4294967296)) / 4294967296 < 18446744073709551616 := by omega
  unfold bits_Mul64.f
  simp only [Mul64.maskN x hx, Mul64.maskN y hy, Mul64.divN, Mul64.mulN, Mul64.addN, Mul64.wrapN _ bd, Mul64.wrapN _ bb', Mul64.wrapN _ bt, Mul64.maskN _ bt, Mul64.wrapN _ bc', Mul64.wrapN _ bw, Mul64.wrapN _ ba', Mul64.wrapN _ bh1, Mul64.wrapN _ bh, Mul64.wrapM]
  rw [hhi]
theorem fold3 (t T M r : Fin p) (h : t - 1 = t * t) : r - T + M * (t - 1) = (T * t + M) * (t * t) + r := by
  have h2 : t * (t * t) = -1 := by
    have : t * (t * t) = t * t - t := by rw [← h]; grind
    rw [this, ← h]; grind
  have h3 : (T * t + M) * (t * t) + r = T * (t * (t * t)) + M * (t * t) + r := by grind
  rw [h3, h2, ← h]; grind
theorem mul_f (hF : Fld f p) (x y : Fin p) : field_reckoner_mul.f (p : Int) (decide (f = 2)) (tI x) (tI y) = some (tI (x * y)) := by
  have h1 := x.isLt
  have h2 := y.isLt
  have h3 := hF.lt
  unfold field_reckoner_mul.f
  rw [show bits_Mul64.f (tI x) (tI y) = _ from mul64_f x.val y.val (by omega) (by omega), Option.bind_some]
  have hF' := hF
  rcases hF with ⟨rfl, rfl⟩ | ⟨rfl, hp⟩
  · have hb : x.val * y.val ≤ 2013265920 * 2013265920 := Nat.mul_le_mul (by omega) (by omega)
    rw [if_neg (by decide), if_pos (by omega), if_pos (by decide), if_neg (by decide), Int.tmod_eq_emod_of_nonneg (by omega)]
    simp only [tI, Fin.val_mul]
    congr 1
    rw [Nat.mod_eq_of_lt (show x.val * y.val < 18446744073709551616 by omega)]
    rfl
  · rw [if_pos (by decide)]
    obtain ⟨H, hH⟩ : ∃ H, H = x.val * y.val / 18446744073709551616 := ⟨_, rfl⟩
    obtain ⟨R, hR⟩ : ∃ R, R = x.val * y.val % 18446744073709551616 := ⟨_, rfl⟩
    have hxy : x.val * y.val < 18446744073709551616 * 18446744073709551616 := Nat.mul_lt_mul'' (by omega) (by omega)
    have hHl : H < 18446744073709551616 := by omega
    have e0 : x.val * y.val = (H / 4294967296 * 4294967296 + H % 4294967296) * 18446744073709551616 + R := by omega
    rw [← hH, ← hR]
    have hm := Mul64.maskN H hHl
    have hd := Mul64.divN H
    have hw : IntKind.u64.wrap (IntKind.u64.wrap (((H % 4294967296 : Nat) : Int) * 4294967296) - ((H % 4294967296 : Nat) : Int)) = (((H % 4294967296) * 4294967295 : Nat) : Int) := by rw [wu64, wu64]; omega
    have eT : ((H / 4294967296 : Nat) : Int) = tI (cF p (H / 4294967296)) := tI_c (by omega)
    have eM : (((H % 4294967296) * 4294967295 : Nat) : Int) = tI (cF p ((H % 4294967296) * 4294967295)) := tI_c (by omega)
    have eR : (if (R : Int) ≥ (p : Int) then some (IntKind.u64.wrap ((R : Int) - (p : Int))) else some (R : Int)) = some (tI (cF p R)) := by
      by_cases c : (R : Int) ≥ (p : Int)
      · rw [if_pos c, wu64]
        simp only [tI, cF_val]
        rw [md (by omega) (by omega)]
        congr 1; omega
      · rw [if_neg c]
        simp only [tI, cF_val]
        rw [Nat.mod_eq_of_lt (by omega)]
    have key : cF p R - cF p (H / 4294967296) + cF p ((H % 4294967296) * 4294967295) = x * y := by
      have a1 : x * y = cF p (x.val * y.val) := by rw [cF_mul, cF_self, cF_self]
      have a2 : cF p 18446744073709551616 = cF p 4294967296 - 1 := by
        have b1 := cF_add (p := p) p 4294967295
        have b2 := cF_add (p := p) 4294967295 1
        rw [cF_p, show p + 4294967295 = 18446744073709551616 by omega] at b1
        rw [cF_one] at b2
        rw [b1, b2]; grind
      have a3 : cF p 18446744073709551616 = cF p 4294967296 * cF p 4294967296 := by rw [← cF_mul]
      have a4 : cF p (H % 4294967296 * 4294967295) = cF p (H % 4294967296) * (cF p 4294967296 - 1) := by
        have b2 := cF_add (p := p) 4294967295 1
        rw [cF_one] at b2
        rw [cF_mul, b2]; grind
      have a5 : cF p (x.val * y.val) = (cF p (H / 4294967296) * cF p 4294967296 + cF p (H % 4294967296)) * cF p 18446744073709551616 + cF p R := by rw [e0, cF_add, cF_mul, cF_add, cF_mul]
      rw [a1, a5, a3, a4]
      rw [a2] at a3
      exact fold3 _ _ _ _ a3
    rw [hm, hd, hw, eT, eM]
    by_cases c : (R : Int) ≥ (p : Int)
    · rw [if_pos c] at eR ⊢
      rw [Option.some.inj eR, sub_f hF', Option.bind_some, add_f hF', Option.bind_some, key]
    · rw [if_neg c] at eR ⊢
      rw [Option.some.inj eR, sub_f hF', Option.bind_some, add_f hF', Option.bind_some, key]
theorem and_one (n : Nat) (h : n < 18446744073709551616) : Go.bits .and .u64 (n : Int) 1 = ((n % 2 : Nat) : Int) := by
  have h2 := bits_and_u64_nat n 1 h (by omega)
  rw [Nat.and_one_is_mod] at h2
  exact h2
theorem pow_ev (hF : Fld f p) : ∀ (n : Nat), n < 18446744073709551616 → ∀ (x acc : Fin p), Ev (fun k => field_reckoner_pow.l0 k (tI x) (n : Int) (tI acc) (p : Int) (decide (f = 2))) (tI (acc * pw x n)) := by
  intro n
  induction n using Nat.strongRecOn with
  | ind n ih =>
    intro hn x acc
    by_cases h0 : n = 0
    · subst h0
      refine Ev.step (f := fun _ => some (tI acc)) (fun k => ?_) (by rw [show acc * pw x 0 = acc by simp only [pw]; grind]; exact Ev.now _)
      simp only [field_reckoner_pow.l0]
      rw [if_neg (by omega)]
    · have hd : (n : Int) / 2 = ((n / 2 : Nat) : Int) := by omega
      have hn2 := Nat.div_add_mod n 2
      by_cases h1 : n % 2 = 1
      · have e : acc * pw x n = (acc * x) * pw (x * x) (n / 2) := by
          rw [pw_sq]
          have : pw x n = x * pw x (2 * (n / 2)) := by
            have e2 : n = 2 * (n / 2) + 1 := by omega
            rw [show pw x n = pw x (2 * (n / 2) + 1) from by rw [← e2]]; rfl
          rw [this]; grind
        rw [e]
        refine Ev.step (f := fun k => field_reckoner_pow.l0 k (tI (x * x)) ((n / 2 : Nat) : Int) (tI (acc * x)) (p : Int) (decide (f = 2))) (fun k => ?_) (ih (n / 2) (by omega) (by omega) _ _)
        simp only [field_reckoner_pow.l0]
        rw [if_pos (by omega), and_one n hn, h1, if_pos (by rfl), mul_f hF, Option.bind_some, mul_f hF, Option.bind_some, hd]
      · have e : acc * pw x n = acc * pw (x * x) (n / 2) := by
          rw [pw_sq, show 2 * (n / 2) = n by omega]
        rw [e]
        refine Ev.step (f := fun k => field_reckoner_pow.l0 k (tI (x * x)) ((n / 2 : Nat) : Int) (tI acc) (p : Int) (decide (f = 2))) (fun k => ?_) (ih (n / 2) (by omega) (by omega) _ _)
        simp only [field_reckoner_pow.l0]
        rw [if_pos (by omega), and_one n hn, if_neg (by omega), mul_f hF, Option.bind_some, hd]
theorem inv_f (hF : Fld f p) (x : Fin p) : Ev (fun k => field_reckoner_inv.f k (p : Int) (decide (f = 2)) (tI x)) (tI (iv x)) := by
  have h1 := hF.gt
  have h2 := hF.lt
  unfold field_reckoner_inv.f field_reckoner_pow.f
  refine Ev.bind (f := fun _ t => some t) ?_ (Ev.now _)
  have h := pow_ev hF (p - 2) (by omega) x 1
  rw [show (1 : Fin p) * pw x (p - 2) = iv x by unfold iv; grind, tI_one hF] at h
  rw [show IntKind.u64.wrap ((p : Int) - 2) = ((p - 2 : Nat) : Int) by rw [wu64]; omega]
  exact h
theorem askedM_f (hF : Fld f p) (L : List (Fin p)) (hl : L.length ≤ 9223372036854775807) : Ev (fun k => field_asked.f k f (L.map tI)) ((p : Int), decide (f = 2), 0) := by
  have h := asked_f f (L.map tI) (by simpa using hl)
  rw [inF_map hF, if_pos rfl, hF.prime] at h
  exact h
theorem Mul_f (hF : Fld f p) (x y : Fin p) : Ev (fun k => field_Mul.f k f (tI x) (tI y)) (tI (x * y), 0) := by
  unfold field_Mul.f
  refine Ev.bind (f := fun k t => _) (askedM_f hF [x, y] (by simp)) ?_
  simp only [if_true, mul_f hF, Option.bind_some]
  exact Ev.now _
theorem Sub_f (hF : Fld f p) (x y : Fin p) : Ev (fun k => field_Sub.f k f (tI x) (tI y)) (tI (x - y), 0) := by
  unfold field_Sub.f
  refine Ev.bind (f := fun k t => _) (askedM_f hF [x, y] (by simp)) ?_
  simp only [if_true, sub_f hF, Option.bind_some]
  exact Ev.now _
theorem iMul_f (hF : Fld f p) (x y : Fin p) : Ev (fun k => interp_reckoner_mul.f k f (tI x) (tI y)) (tI (x * y)) := by
  unfold interp_reckoner_mul.f
  exact Ev.bind (f := fun _ t => some t.1) (Mul_f hF x y) (Ev.now _)
theorem iSub_f (hF : Fld f p) (x y : Fin p) : Ev (fun k => interp_reckoner_sub.f k f (tI x) (tI y)) (tI (x - y)) := by
  unfold interp_reckoner_sub.f
  exact Ev.bind (f := fun _ t => some t.1) (Sub_f hF x y) (Ev.now _)
end Go.Proofs.Ytfkikfapbdlnjaa.Plain
end
section
namespace Go.Proofs.Ytfkikfapbdlnjaa.Plain
open Go.RowKit Go.Proofs Go.Proofs.Ytfkikfapbdlnjaa.P Go.Proofs.Ytfkikfapbdlnjaa.Mth Go.Proofs.YtfkikfapbdlnjaaW.PrintWords Go.Proofs.YtfkikfapbdlnjaaW.PrintLast Go.Proofs.YtfkikfapbdlnjaaW.PrintMore
set_option linter.unusedVariables false
set_option linter.unusedSimpArgs false
set_option linter.unusedSectionVars false
variable {f : Int} {p : Nat} [NeZero p]
def arr (n : Nat) (g : Nat → Fin p) : List Int := (List.range n).map fun j => tI (g j)
theorem arr_len (n : Nat) (g : Nat → Fin p) : (arr n g).length = n := by simp [arr]
theorem rd_arr {n i : Nat} (hi : i < n) (g : Nat → Fin p) : rd (arr n g) (i : Int) = tI (g i) := by
  rw [rd_at (by rw [arr_len]; exact hi)]
  simp [arr]
theorem set_arr {n i : Nat} (hi : i < n) (g : Nat → Fin p) (v : Fin p) : (arr n g).set i (tI v) = arr n (upd g i v) := by
  apply List.ext_getElem
  · simp [arr]
  · intro j h1 h2
    rw [List.getElem_set]
    simp only [arr, List.getElem_map, List.getElem_range, upd]
    by_cases c : i = j
    · subst c; simp
    · rw [if_neg c, if_neg (Ne.symm c)]
theorem arr_congr {n : Nat} {g h : Nat → Fin p} (e : ∀ j, j < n → g j = h j) : arr n g = arr n h := by
  apply List.ext_getElem
  · simp [arr]
  · intro j h1 h2
    simp only [arr, List.getElem_map, List.getElem_range]
    rw [e j (by simpa [arr] using h1)]
theorem rep_arr (n : Nat) : List.replicate n (0 : Int) = arr n (fun _ => (0 : Fin p)) := by
  apply List.ext_getElem
  · simp [arr]
  · intro j h1 h2
    simp [arr, tI_zero]
theorem arr_snoc (n : Nat) (g : Nat → Fin p) : arr n g ++ [tI (g n)] = arr (n + 1) g := by simp [arr, List.range_succ]
theorem arr_of (L : List (Fin p)) : L.map tI = arr L.length (fun j => L.getD j 0) := by
  apply List.ext_getElem
  · simp [arr]
  · intro j h1 h2
    have h3 : j < L.length := by simpa using h1
    simp [arr, List.getD_eq_getElem?_getD, h3]
theorem arr_lift (hF : Fld f p) {l : List Int} (hu : U64 l) (hi : inF f l = true) : ∃ x : Nat → Fin p, l = arr l.length x := by
  unfold inF at hi
  obtain ⟨L, rfl⟩ := lift hF hu (Bool.and_eq_true_iff.1 hi).2
  exact ⟨_, by rw [List.length_map]; exact arr_of L⟩
theorem arr_map (n : Nat) (x : Nat → Fin p) : arr n x = ((List.range n).map x).map tI := by simp [arr]
theorem inF_arr (hF : Fld f p) (n : Nat) (x : Nat → Fin p) : inF f (arr n x) = true := by rw [arr_map]; exact inF_map hF _
theorem u64_arr (hF : Fld f p) (n : Nat) (x : Nat → Fin p) : U64 (arr n x) := by
  intro y hy
  rw [arr_map] at hy
  obtain ⟨z, _, rfl⟩ := List.mem_map.1 hy
  have := z.isLt
  have := hF.lt
  simp only [tI]; omega
theorem askedA_f (hF : Fld f p) (n : Nat) (x : Nat → Fin p) (hn : n ≤ 1048576) : Ev (fun k => field_asked.f k f (arr n x)) ((p : Int), decide (f = 2), 0) := by
  rw [arr_map]; exact askedM_f hF _ (by simp; omega)
theorem Batch0 (hF : Fld f p) (n : Nat) (hn : n ≤ 1048576) (x : Nat → Fin p) (hne : ∀ j, j < n → x j ≠ 0) (r : List Int × Int)
    (hr : ∀ g : Nat → Fin p, (∀ j, j < n → g j = prodR j x) → Ev (fun k => field_Batch.l1 k (arr n x) (arr n g) (tI (iv (prodR n x))) ((n : Int) - 1) (p : Int) (decide (f = 2))) r) :
    ∀ (d i : Nat) (g : Nat → Fin p), i + d = n → (∀ j, j < i → g j = prodR j x) → Ev (fun k => field_Batch.l0 k (arr n x) (arr n g) (tI (prodR i x)) (arr n x) (n : Int) (i : Int) (p : Int) (decide (f = 2))) r := by
  intro d
  induction d with
  | zero =>
    intro i g hi hg
    obtain rfl : i = n := by omega
    refine Ev.step (f := fun k => (field_reckoner_inv.f k (p : Int) (decide (f = 2)) (tI (prodR i x))).bind fun t => field_Batch.l1 k (arr i x) (arr i g) t ((i : Int) - 1) (p : Int) (decide (f = 2))) (fun k => ?_) ?_
    · simp only [field_Batch.l0]
      rw [if_neg (by omega), arr_len, w64 (by omega) (by omega)]
    · exact Ev.bind (f := fun k t => field_Batch.l1 k (arr i x) (arr i g) t ((i : Int) - 1) (p : Int) (decide (f = 2))) (inv_f hF _) (hr g hg)
  | succ d ih =>
    intro i g hi hg
    have h0 : ¬ tI (x i) = 0 := fun h => hne i (by omega) (tI_inj (h.trans tI_zero.symm))
    refine Ev.step (f := fun k => field_Batch.l0 k (arr n x) (arr n (upd g i (prodR i x))) (tI (prodR (i + 1) x)) (arr n x) (n : Int) ((i + 1 : Nat) : Int) (p : Int) (decide (f = 2))) (fun k => ?_) ?_
    · simp only [field_Batch.l0]
      rw [if_pos (by omega), if_pos (by omega), arr_len, if_pos (by omega), rd_arr (by omega), if_neg h0, arr_len, if_pos (by omega), mul_f hF, Option.bind_some, Int.toNat_natCast, set_arr (by omega), w64 (by omega) (by omega)]
      rfl
    · refine ih (i + 1) _ (by omega) fun j hj => ?_
      by_cases c : j = i
      · subst c; rw [upd_self]
      · rw [upd_ne _ _ c]; exact hg j (by omega)
theorem Batch1 (hF : Fld f p) (n : Nat) (hn : n ≤ 1048576) (x : Nat → Fin p) (hne : ∀ j, j < n → x j ≠ 0) : ∀ (m : Nat) (g : Nat → Fin p), m ≤ n → (∀ j, j < m → g j = prodR j x) → (∀ j, m ≤ j → j < n → g j = iv (x j)) →
    Ev (fun k => field_Batch.l1 k (arr n x) (arr n g) (tI (iv (prodR m x))) ((m : Int) - 1) (p : Int) (decide (f = 2))) (arr n (fun j => iv (x j)), 0) := by
  intro m
  induction m with
  | zero =>
    intro g hm h1 h2
    refine Ev.step (f := fun _ => some (arr n g, 0)) (fun k => ?_) (by rw [arr_congr (g := g) (h := fun j => iv (x j)) fun j hj => h2 j (by omega) hj]; exact Ev.now _)
    simp only [field_Batch.l1]
    rw [if_neg (by omega)]
  | succ m ih =>
    intro g hm h1 h2
    have hx := mul_iv hF.pr (hne m (by omega))
    have hP := mul_iv hF.pr (prodR_ne hF.pr (n := m) (g := x) fun j hj => hne j (by omega))
    have e1 : g m * iv (prodR (m + 1) x) = iv (x m) := by
      rw [h1 m (by omega)]
      simp only [prodR]
      rw [iv_mulb]
      have : prodR m x * (iv (prodR m x) * iv (x m)) = (prodR m x * iv (prodR m x)) * iv (x m) := by grind
      rw [this, hP]; grind
    have e2 : iv (prodR (m + 1) x) * x m = iv (prodR m x) := by
      simp only [prodR]
      rw [iv_mulb]
      have : iv (prodR m x) * iv (x m) * x m = iv (prodR m x) * (x m * iv (x m)) := by grind
      rw [this, hx]; grind
    refine Ev.step (f := fun k => field_Batch.l1 k (arr n x) (arr n (upd g m (iv (x m)))) (tI (iv (prodR m x))) ((m : Int) - 1) (p : Int) (decide (f = 2))) (fun k => ?_) ?_
    · simp only [field_Batch.l1]
      rw [show ((m + 1 : Nat) : Int) - 1 = (m : Int) by omega, if_pos (by omega), if_pos (by omega), arr_len, if_pos (by omega), rd_arr (by omega), mul_f hF, Option.bind_some, arr_len, if_pos (by omega), rd_arr (by omega), mul_f hF, Option.bind_some, Int.toNat_natCast, e1, e2, set_arr (by omega), w64 (by omega) (by omega)]
    · refine ih _ (by omega) (fun j hj => ?_) fun j h3 h4 => ?_
      · rw [upd_ne _ _ (by omega)]; exact h1 j (by omega)
      · by_cases c : j = m
        · subst c; rw [upd_self]
        · rw [upd_ne _ _ c]; exact h2 j (by omega) h4
theorem Batch_f (hF : Fld f p) (n : Nat) (hn : n ≤ 1048576) (x : Nat → Fin p) (hne : ∀ j, j < n → x j ≠ 0) : Ev (fun k => field_Batch.f k f (arr n x)) (arr n (fun j => iv (x j)), 0) := by
  unfold field_Batch.f
  refine Ev.bind (f := fun k t => _) (askedA_f hF n x hn) ?_
  simp only [if_true, arr_len, Int.toNat_natCast, if_pos (show (0 : Int) ≤ (n : Int) by omega), if_pos (show n ≤ 35184372088832 by omega)]
  rw [rep_arr (p := p)]
  have h := Batch0 hF n hn x hne (arr n (fun j => iv (x j)), 0) (fun g hg => Batch1 hF n hn x hne n g (Nat.le_refl _) hg (fun j h1 h2 => absurd h1 (by omega))) n 0 (fun _ => 0) (by omega) (fun j hj => absurd hj (by omega))
  rw [show tI (prodR 0 x) = 1 from tI_one hF] at h
  exact h
def dif (n : Nat) (x : Nat → Fin p) (i : Nat) : Fin p := prodR n fun j => if j = i then 1 else x i - x j
def wt (n : Nat) (x : Nat → Fin p) (i : Nat) : Fin p := iv (dif n x i)
def bas (n : Nat) (x : Nat → Fin p) (z : Fin p) (i : Nat) : Fin p := wt n x i * prodR n fun j => if j = i then 1 else z - x j
theorem dif_ne (hF : Fld f p) {n : Nat} {x : Nat → Fin p} (hu : ∀ i j, i < n → j < n → i ≠ j → x i ≠ x j) {i : Nat} (hi : i < n) : dif n x i ≠ 0 := by
  refine prodR_ne hF.pr fun j hj => ?_
  by_cases c : j = i
  · rw [if_pos c]; exact pr_one_ne hF.pr
  · rw [if_neg c]
    intro h
    exact hu i j hi hj (Ne.symm c) (by have : x i = x i - x j + x j := by grind
                                       rw [this, h]; grind)
theorem weights1 (hF : Fld f p) (n : Nat) (hn : n ≤ 1048576) (x g : Nat → Fin p) (i : Nat) (hi : i < n) (r : List Int × Int)
    (hr : Ev (fun k => interp_weights.l0 k f (arr n x) (arr n (upd g i (dif n x i))) (arr n x) (n : Int) ((i + 1 : Nat) : Int) f) r) :
    ∀ (d j : Nat), j + d = n → Ev (fun k => interp_weights.l1 k f (arr n x) (arr n g) (i : Int) (tI (x i)) (tI (prodR j fun j => if j = i then 1 else x i - x j)) (arr n x) (n : Int) (i : Int) (arr n x) (n : Int) (j : Int) f) r := by
  intro d
  induction d with
  | zero =>
    intro j hj
    obtain rfl : j = n := by omega
    refine Ev.step (f := fun k => interp_weights.l0 k f (arr j x) (arr j (upd g i (dif j x i))) (arr j x) (j : Int) ((i + 1 : Nat) : Int) f) (fun k => ?_) hr
    simp only [interp_weights.l1]
    rw [if_neg (by omega), if_pos (by omega), arr_len, if_pos (by omega), Int.toNat_natCast, set_arr hi, w64 (by omega) (by omega)]
    rfl
  | succ d ih =>
    intro j hj
    by_cases c : j = i
    · subst c
      refine Ev.step (f := fun k => interp_weights.l1 k f (arr n x) (arr n g) (j : Int) (tI (x j)) (tI (prodR (j + 1) fun t => if t = j then 1 else x j - x t)) (arr n x) (n : Int) (j : Int) (arr n x) (n : Int) ((j + 1 : Nat) : Int) f) (fun k => ?_) (ih (j + 1) (by omega))
      simp only [interp_weights.l1]
      rw [if_pos (by omega), if_pos (by omega), arr_len, if_pos (by omega), if_pos trivial, w64 (by omega) (by omega)]
      rw [show (prodR (j + 1) fun t => if t = j then (1 : Fin p) else x j - x t) = prodR j fun t => if t = j then 1 else x j - x t by simp only [prodR, if_true]; grind]
      rfl
    · refine Ev.step (f := fun k => (interp_reckoner_sub.f k f (tI (x i)) (tI (x j))).bind fun t => (interp_reckoner_mul.f k f (tI (prodR j fun j => if j = i then 1 else x i - x j)) t).bind fun t2 => interp_weights.l1 k f (arr n x) (arr n g) (i : Int) (tI (x i)) t2 (arr n x) (n : Int) (i : Int) (arr n x) (n : Int) ((j + 1 : Nat) : Int) f) (fun k => ?_) ?_
      · simp only [interp_weights.l1]
        rw [if_pos (by omega), if_pos (by omega), arr_len, if_pos (by omega), if_neg (by omega), rd_arr (by omega), w64 (by omega) (by omega)]
        rfl
      · refine Ev.bind (f := fun k t => (interp_reckoner_mul.f k f (tI (prodR j fun j => if j = i then 1 else x i - x j)) t).bind fun t2 => interp_weights.l1 k f (arr n x) (arr n g) (i : Int) (tI (x i)) t2 (arr n x) (n : Int) (i : Int) (arr n x) (n : Int) ((j + 1 : Nat) : Int) f) (iSub_f hF _ _) ?_
        refine Ev.bind (f := fun k t2 => interp_weights.l1 k f (arr n x) (arr n g) (i : Int) (tI (x i)) t2 (arr n x) (n : Int) (i : Int) (arr n x) (n : Int) ((j + 1 : Nat) : Int) f) (iMul_f hF _ _) ?_
        have := ih (j + 1) (by omega)
        rw [show (prodR (j + 1) fun t => if t = i then (1 : Fin p) else x i - x t) = (prodR j fun t => if t = i then 1 else x i - x t) * (x i - x j) by simp only [prodR, if_neg c]] at this
        exact this
theorem weights0 (hF : Fld f p) (n : Nat) (hn : n ≤ 1048576) (x : Nat → Fin p) (hu : ∀ i j, i < n → j < n → i ≠ j → x i ≠ x j) : ∀ (d i : Nat) (g : Nat → Fin p), i + d = n → (∀ j, j < i → g j = dif n x j) →
    Ev (fun k => interp_weights.l0 k f (arr n x) (arr n g) (arr n x) (n : Int) (i : Int) f) (arr n (wt n x), 0) := by
  intro d
  induction d with
  | zero =>
    intro i g hi hg
    obtain rfl : i = n := by omega
    refine Ev.step (f := fun k => (field_Batch.f k f (arr i g)).bind fun t => some (t.1, t.2)) (fun k => ?_) ?_
    · simp only [interp_weights.l0]
      rw [if_neg (by omega)]
    · rw [arr_congr (g := g) (h := dif i x) hg]
      exact Ev.bind (f := fun _ t => some (t.1, t.2)) (Batch_f hF i hn (dif i x) fun j hj => dif_ne hF hu hj) (Ev.now _)
  | succ d ih =>
    intro i g hi hg
    refine Ev.step (f := fun k => interp_weights.l1 k f (arr n x) (arr n g) (i : Int) (tI (x i)) 1 (arr n x) (n : Int) (i : Int) (arr n x) (n : Int) 0 f) (fun k => ?_) ?_
    · simp only [interp_weights.l0]
      rw [if_pos (by omega), if_pos (by omega), arr_len, if_pos (by omega), rd_arr (by omega)]
    · have h := weights1 hF n hn x g i (by omega) _ (ih (i + 1) (upd g i (dif n x i)) (by omega) fun j hj => by
        by_cases c : j = i
        · subst c; rw [upd_self]
        · rw [upd_ne _ _ c]; exact hg j (by omega)) n 0 (by omega)
      rw [show tI (prodR 0 fun j => if j = i then (1 : Fin p) else x i - x j) = 1 from tI_one hF] at h
      exact h
theorem weights_f (hF : Fld f p) (n : Nat) (hn : n ≤ 1048576) (x : Nat → Fin p) (hu : ∀ i j, i < n → j < n → i ≠ j → x i ≠ x j) : Ev (fun k => interp_weights.f k f (arr n x)) (arr n (wt n x), 0) := by
  unfold interp_weights.f
  simp only [arr_len, Int.toNat_natCast, if_pos (show (0 : Int) ≤ (n : Int) by omega), if_pos (show n ≤ 35184372088832 by omega)]
  rw [rep_arr (p := p)]
  exact weights0 hF n hn x hu n 0 _ (by omega) fun j hj => absurd hj (by omega)
theorem basis1 (hF : Fld f p) (n : Nat) (hn : n ≤ 1048576) (x w : Nat → Fin p) (z : Fin p) : ∀ (d i : Nat) (g : Nat → Fin p), i + d = n → (∀ j, j < i → g j = w j * prodR n fun t => if t = j then 1 else z - x t) → (∀ j, i ≤ j → j < n → g j = w j * prodR (n - (j + 1)) fun t => z - x (j + 1 + t)) →
    Ev (fun k => interp_basis_1.l1 k (tI z) (arr n g) (tI (prodR i fun t => z - x t)) (n : Int) (i : Int) (arr n x) f) (arr n (fun i => w i * prodR n fun t => if t = i then 1 else z - x t)) := by
  intro d
  induction d with
  | zero =>
    intro i g hi h1 h2
    obtain rfl : i = n := by omega
    refine Ev.step (f := fun _ => some (arr i g)) (fun k => ?_) (by rw [arr_congr h1]; exact Ev.now _)
    simp only [interp_basis_1.l1]
    rw [if_neg (by omega)]
  | succ d ih =>
    intro i g hi h1 h2
    refine Ev.step (f := fun k => (interp_reckoner_mul.f k f (tI (g i)) (tI (prodR i fun t => z - x t))).bind fun t => (interp_reckoner_sub.f k f (tI z) (tI (x i))).bind fun t2 => (interp_reckoner_mul.f k f (tI (prodR i fun t => z - x t)) t2).bind fun t3 => interp_basis_1.l1 k (tI z) ((arr n g).set i t) t3 (n : Int) ((i + 1 : Nat) : Int) (arr n x) f) (fun k => ?_) ?_
    · simp only [interp_basis_1.l1]
      rw [if_pos (by omega), if_pos (by omega), arr_len, if_pos (by omega), rd_arr (by omega)]
      simp only [arr_len, if_pos (show (i : Int) < (n : Int) by omega)]
      rw [rd_arr (by omega), w64 (by omega) (by omega), Int.toNat_natCast]
      rfl
    · refine Ev.bind (f := fun k t => (interp_reckoner_sub.f k f (tI z) (tI (x i))).bind fun t2 => (interp_reckoner_mul.f k f (tI (prodR i fun t => z - x t)) t2).bind fun t3 => interp_basis_1.l1 k (tI z) ((arr n g).set i t) t3 (n : Int) ((i + 1 : Nat) : Int) (arr n x) f) (iMul_f hF _ _) ?_
      refine Ev.bind (f := fun k t2 => (interp_reckoner_mul.f k f (tI (prodR i fun t => z - x t)) t2).bind fun t3 => interp_basis_1.l1 k (tI z) ((arr n g).set i (tI (g i * prodR i fun t => z - x t))) t3 (n : Int) ((i + 1 : Nat) : Int) (arr n x) f) (iSub_f hF _ _) ?_
      refine Ev.bind (f := fun k t3 => interp_basis_1.l1 k (tI z) ((arr n g).set i (tI (g i * prodR i fun t => z - x t))) t3 (n : Int) ((i + 1 : Nat) : Int) (arr n x) f) (iMul_f hF _ _) ?_
      rw [set_arr (by omega)]
      refine ih (i + 1) _ (by omega) (fun j hj => ?_) fun j h3 h4 => ?_
      · by_cases c : j = i
        · subst c
          rw [upd_self, h2 j (by omega) (by omega), prodR_skip n j (by omega)]
          grind
        · rw [upd_ne _ _ c]; exact h1 j (by omega)
      · rw [upd_ne _ _ (by omega)]; exact h2 j (by omega) h4
theorem basis0 (hF : Fld f p) (n : Nat) (hn : n ≤ 1048576) (x w : Nat → Fin p) (z : Fin p) : ∀ (m : Nat) (g : Nat → Fin p), m ≤ n → (∀ j, m ≤ j → j < n → g j = w j * prodR (n - (j + 1)) fun t => z - x (j + 1 + t)) →
    Ev (fun k => interp_basis_1.l0 k (tI z) (arr n g) (tI (prodR (n - m) fun t => z - x (m + t))) ((m : Int) - 1) (arr n x) f (arr n w)) (arr n (fun i => w i * prodR n fun t => if t = i then 1 else z - x t)) := by
  intro m
  induction m with
  | zero =>
    intro g hm h2
    refine Ev.step (f := fun k => interp_basis_1.l1 k (tI z) (arr n g) 1 (n : Int) 0 (arr n x) f) (fun k => ?_) ?_
    · simp only [interp_basis_1.l0]
      rw [if_neg (by omega), arr_len]
    · have h := basis1 hF n hn x w z n 0 g (by omega) (fun j hj => absurd hj (by omega)) (fun j h1 h3 => h2 j h1 h3)
      rw [show tI (prodR 0 fun t => z - x t) = 1 from tI_one hF] at h
      exact h
  | succ m ih =>
    intro g hm h2
    refine Ev.step (f := fun k => (interp_reckoner_mul.f k f (tI (w m)) (tI (prodR (n - (m + 1)) fun t => z - x (m + 1 + t)))).bind fun t => (interp_reckoner_sub.f k f (tI z) (tI (x m))).bind fun t2 => (interp_reckoner_mul.f k f (tI (prodR (n - (m + 1)) fun t => z - x (m + 1 + t))) t2).bind fun t3 => interp_basis_1.l0 k (tI z) ((arr n g).set m t) t3 ((m : Int) - 1) (arr n x) f (arr n w)) (fun k => ?_) ?_
    · simp only [interp_basis_1.l0]
      rw [show ((m + 1 : Nat) : Int) - 1 = (m : Int) by omega, if_pos (by omega), if_pos (by omega), arr_len, if_pos (by omega), rd_arr (by omega)]
      simp only [arr_len, if_pos (show (m : Int) < (n : Int) by omega)]
      rw [rd_arr (by omega), w64 (by omega) (by omega), Int.toNat_natCast]
    · refine Ev.bind (f := fun k t => (interp_reckoner_sub.f k f (tI z) (tI (x m))).bind fun t2 => (interp_reckoner_mul.f k f (tI (prodR (n - (m + 1)) fun t => z - x (m + 1 + t))) t2).bind fun t3 => interp_basis_1.l0 k (tI z) ((arr n g).set m t) t3 ((m : Int) - 1) (arr n x) f (arr n w)) (iMul_f hF _ _) ?_
      refine Ev.bind (f := fun k t2 => (interp_reckoner_mul.f k f (tI (prodR (n - (m + 1)) fun t => z - x (m + 1 + t))) t2).bind fun t3 => interp_basis_1.l0 k (tI z) ((arr n g).set m (tI (w m * prodR (n - (m + 1)) fun t => z - x (m + 1 + t)))) t3 ((m : Int) - 1) (arr n x) f (arr n w)) (iSub_f hF _ _) ?_
      refine Ev.bind (f := fun k t3 => interp_basis_1.l0 k (tI z) ((arr n g).set m (tI (w m * prodR (n - (m + 1)) fun t => z - x (m + 1 + t)))) t3 ((m : Int) - 1) (arr n x) f (arr n w)) (iMul_f hF _ _) ?_
      rw [set_arr (by omega)]
      have := ih (upd g m (w m * prodR (n - (m + 1)) fun t => z - x (m + 1 + t))) (by omega) fun j h3 h4 => by
        by_cases c : j = m
        · subst c; rw [upd_self]
        · rw [upd_ne _ _ c]; exact h2 j (by omega) h4
      rw [show n - m = (n - (m + 1)) + 1 by omega, prodR_first (n - (m + 1)) m fun t => z - x t] at this
      rw [show (prodR (n - (m + 1)) fun t => z - x (m + 1 + t)) * (z - x m) = (z - x m) * prodR (n - (m + 1)) fun t => z - x (m + 1 + t) by grind]
      exact this
theorem basis_f (hF : Fld f p) (n : Nat) (hn : n ≤ 1048576) (x : Nat → Fin p) (z : Fin p) : Ev (fun k => interp_basis_1.f k (tI z) (arr n x) f (arr n (wt n x))) (arr n (bas n x z)) := by
  unfold interp_basis_1.f
  simp only [arr_len, Int.toNat_natCast, if_pos (show (0 : Int) ≤ (n : Int) by omega), if_pos (show n ≤ 35184372088832 by omega)]
  rw [rep_arr (p := p), w64 (by omega) (by omega)]
  have h := basis0 hF n hn x (wt n x) z n (fun _ => 0) (Nat.le_refl _) (fun j h1 h2 => absurd h1 (by omega))
  rw [Nat.sub_self, show tI (prodR 0 fun t => z - x (n + t)) = 1 from tI_one hF] at h
  exact h
end Go.Proofs.Ytfkikfapbdlnjaa.Plain
end
section
namespace Go.Proofs.Ytfkikfapbdlnjaa.Plain
open Go.RowKit Go.Proofs Go.Proofs.Ytfkikfapbdlnjaa.P Go.Proofs.Ytfkikfapbdlnjaa.Mth Go.Proofs.YtfkikfapbdlnjaaW.PrintWords Go.Proofs.YtfkikfapbdlnjaaW.PrintLast Go.Proofs.YtfkikfapbdlnjaaW.PrintMore
set_option linter.unusedVariables false
set_option linter.unusedSimpArgs false
set_option linter.unusedSectionVars false
variable {f : Int} {p : Nat} [NeZero p]
theorem Pp_f (hF : Fld f p) : conclaveref01_P.f f = some (p : Int) := by rw [P_f, hF.prime]
theorem rSum_m (hF : Fld f p) (x y : Fin p) : conclaveref01_Sum.f (p : Int) (tI x) (tI y) = some (tI (x + y)) := by
  have h1 := x.isLt
  have h2 := y.isLt
  have h3 := hF.lt
  unfold conclaveref01_Sum.f tI
  rw [Fin.val_add, wu64_in (x := (p : Int) - (y.val : Int)) (by omega) (by omega)]
  by_cases c : (x.val : Int) ≥ (p : Int) - (y.val : Int)
  · rw [if_pos c, wu64, md (by omega) (by omega)]
    congr 1; omega
  · rw [if_neg c, wu64, Nat.mod_eq_of_lt (by omega)]
    congr 1; omega
theorem rLess_m (hF : Fld f p) (x y : Fin p) : conclaveref01_Less.f (p : Int) (tI x) (tI y) = some (tI (x - y)) := by
  have h1 := x.isLt
  have h2 := y.isLt
  have h3 := hF.lt
  unfold conclaveref01_Less.f tI
  rw [Fin.sub_def]
  by_cases c : (x.val : Int) ≥ (y.val : Int)
  · rw [if_pos c, wu64]
    simp only
    rw [md (by omega) (by omega)]
    congr 1; omega
  · rw [if_neg c, wu64, wu64]
    simp only
    rw [Nat.mod_eq_of_lt (by omega)]
    congr 1; omega
theorem shr_n (b : Nat) (i : Nat) (hi : i ≤ 63) : shr .u64 (b : Int) (i : Int) = ((b / 2 ^ i : Nat) : Int) := by
  unfold shr
  rw [show ((i : Int)).toNat = i by omega, Nat.min_eq_left (by simp only [IntKind.bits]; omega)]
  push_cast
  rfl
theorem half_bit (b i : Nat) : b / 2 ^ i = 2 * (b / 2 ^ (i + 1)) + (b / 2 ^ i) % 2 := by
  rw [Nat.pow_succ, ← Nat.div_div_eq_div_mul]; omega
theorem rTimes_ev (hF : Fld f p) (a : Fin p) (b : Nat) (hb : b < 18446744073709551616) : ∀ j : Nat, j ≤ 64 → Ev (fun k => conclaveref01_Times.l0 k (p : Int) (tI a) (b : Int) (tI (cF p (b / 2 ^ j) * a)) ((j : Int) - 1)) (tI (cF p b * a)) := by
  intro j
  induction j with
  | zero =>
    intro _
    refine Ev.step (f := fun _ => some (tI (cF p b * a))) (fun k => ?_) (Ev.now _)
    simp only [conclaveref01_Times.l0]
    rw [if_neg (by omega), Nat.pow_zero, Nat.div_one]
  | succ j ih =>
    intro hj
    have hh := half_bit b j
    have hlt : b / 2 ^ j < 18446744073709551616 := Nat.lt_of_le_of_lt (Nat.div_le_self _ _) hb
    have e2 : cF p 2 = 1 + 1 := by rw [← cF_one, ← cF_add]
    have e1 : cF p (b / 2 ^ j) = cF p (b / 2 ^ (j + 1)) + cF p (b / 2 ^ (j + 1)) + cF p (b / 2 ^ j % 2) := by
      conv => lhs; rw [hh]
      rw [cF_add, cF_mul, e2]; grind
    refine Ev.step (f := fun k => conclaveref01_Times.l0 k (p : Int) (tI a) (b : Int) (tI (cF p (b / 2 ^ j) * a)) ((j : Int) - 1)) (fun k => ?_) (ih (by omega))
    simp only [conclaveref01_Times.l0]
    rw [show ((j + 1 : Nat) : Int) - 1 = (j : Int) by omega, if_pos (by omega), rSum_m hF, Option.bind_some, wu64_in (x := (j : Int)) (by omega) (by omega), if_pos (by omega), shr_n b j (by omega), and_one _ hlt, w64 (x := (j : Int) - 1) (by omega) (by omega)]
    by_cases c : b / 2 ^ j % 2 = 1
    · rw [c, if_pos (by rfl), rSum_m hF, Option.bind_some]
      rw [c, cF_one] at e1
      rw [show cF p (b / 2 ^ (j + 1)) * a + cF p (b / 2 ^ (j + 1)) * a + a = cF p (b / 2 ^ j) * a by rw [e1]; grind]
    · rw [if_neg (by omega)]
      rw [show b / 2 ^ j % 2 = 0 by omega, cF_zero] at e1
      rw [show cF p (b / 2 ^ (j + 1)) * a + cF p (b / 2 ^ (j + 1)) * a = cF p (b / 2 ^ j) * a by rw [e1]; grind]
theorem rTimes_m (hF : Fld f p) (x y : Fin p) : Ev (fun k => conclaveref01_Times.f k (p : Int) (tI x) (tI y)) (tI (x * y)) := by
  unfold conclaveref01_Times.f
  have h1 := hF.lt
  have hb : y.val < 18446744073709551616 := by have := y.isLt; omega
  have h := rTimes_ev hF x y.val hb 64 (by omega)
  rw [Nat.div_eq_of_lt (show y.val < 2 ^ 64 from hb), cF_zero, cF_self, show (0 : Fin p) * x = 0 by grind, show y * x = x * y by grind, tI_zero] at h
  exact h
theorem rPower_ev (hF : Fld f p) (a : Fin p) (n : Nat) (hn : n < 18446744073709551616) : ∀ j : Nat, j ≤ 64 → Ev (fun k => conclaveref01_Power.l0 k (p : Int) (tI a) (n : Int) (tI (pw a (n / 2 ^ j))) ((j : Int) - 1)) (tI (pw a n)) := by
  intro j
  induction j with
  | zero =>
    intro _
    refine Ev.step (f := fun _ => some (tI (pw a n))) (fun k => ?_) (Ev.now _)
    simp only [conclaveref01_Power.l0]
    rw [if_neg (by omega), Nat.pow_zero, Nat.div_one]
  | succ j ih =>
    intro hj
    have hh := half_bit n j
    have hlt : n / 2 ^ j < 18446744073709551616 := Nat.lt_of_le_of_lt (Nat.div_le_self _ _) hn
    have e1 : pw a (n / 2 ^ j) = pw a (n / 2 ^ (j + 1)) * pw a (n / 2 ^ (j + 1)) * pw a (n / 2 ^ j % 2) := by
      conv => lhs; rw [hh]
      rw [pw_add, show 2 * (n / 2 ^ (j + 1)) = n / 2 ^ (j + 1) + n / 2 ^ (j + 1) by omega, pw_add]
    refine Ev.step (f := fun k => (conclaveref01_Times.f k (p : Int) (tI (pw a (n / 2 ^ (j + 1)))) (tI (pw a (n / 2 ^ (j + 1))))).bind fun t => if ((n / 2 ^ j % 2 : Nat) : Int) = 1 then ((conclaveref01_Times.f k (p : Int) t (tI a)).bind fun t2 => conclaveref01_Power.l0 k (p : Int) (tI a) (n : Int) t2 ((j : Int) - 1)) else conclaveref01_Power.l0 k (p : Int) (tI a) (n : Int) t ((j : Int) - 1)) (fun k => ?_) ?_
    · simp only [conclaveref01_Power.l0]
      rw [show ((j + 1 : Nat) : Int) - 1 = (j : Int) by omega, if_pos (by omega), wu64_in (x := (j : Int)) (by omega) (by omega), shr_n n j (by omega), and_one _ hlt, w64 (x := (j : Int) - 1) (by omega) (by omega)]
      simp only [if_pos (show (0 : Int) ≤ (j : Int) by omega)]
    · refine Ev.bind (f := fun k t => if ((n / 2 ^ j % 2 : Nat) : Int) = 1 then ((conclaveref01_Times.f k (p : Int) t (tI a)).bind fun t2 => conclaveref01_Power.l0 k (p : Int) (tI a) (n : Int) t2 ((j : Int) - 1)) else conclaveref01_Power.l0 k (p : Int) (tI a) (n : Int) t ((j : Int) - 1)) (rTimes_m hF _ _) ?_
      by_cases c : n / 2 ^ j % 2 = 1
      · simp only [c, if_pos (show ((1 : Nat) : Int) = 1 from rfl)]
        refine Ev.bind (f := fun k t2 => conclaveref01_Power.l0 k (p : Int) (tI a) (n : Int) t2 ((j : Int) - 1)) (rTimes_m hF _ _) ?_
        rw [c, pw_1] at e1
        rw [← e1]
        exact ih (by omega)
      · simp only [if_neg (show ¬ ((n / 2 ^ j % 2 : Nat) : Int) = 1 by omega)]
        rw [show n / 2 ^ j % 2 = 0 by omega, show pw a 0 = 1 from rfl] at e1
        rw [show pw a (n / 2 ^ (j + 1)) * pw a (n / 2 ^ (j + 1)) = pw a (n / 2 ^ j) by rw [e1]; grind]
        exact ih (by omega)
theorem rTurned_m (hF : Fld f p) (x : Fin p) : Ev (fun k => conclaveref01_Turned.f k (p : Int) (tI x)) (tI (iv x)) := by
  have h1 := hF.lt
  have h2 := hF.gt
  unfold conclaveref01_Turned.f conclaveref01_Power.f
  refine Ev.bind (f := fun _ t => some t) ?_ (Ev.now _)
  simp only [if_neg (show ¬ (p : Int) = 0 by omega)]
  have h := rPower_ev hF x (p - 2) (by omega) 64 (by omega)
  rw [Nat.div_eq_of_lt (show p - 2 < 2 ^ 64 by omega), show pw x 0 = 1 from rfl, tI_one hF] at h
  rw [show IntKind.u64.wrap ((p : Int) - 2) = ((p - 2 : Nat) : Int) by rw [wu64]; omega, show (1 : Int) % (p : Int) = 1 from Int.emod_eq_of_lt (by omega) (by omega)]
  exact h
end Go.Proofs.Ytfkikfapbdlnjaa.Plain
end
section
namespace Go.Proofs.Ytfkikfapbdlnjaa.Plain
open Go.RowKit Go.Proofs Go.Proofs.Ytfkikfapbdlnjaa.P Go.Proofs.Ytfkikfapbdlnjaa.Mth Go.Proofs.YtfkikfapbdlnjaaW.PrintWords Go.Proofs.YtfkikfapbdlnjaaW.PrintLast Go.Proofs.YtfkikfapbdlnjaaW.PrintMore
set_option linter.unusedVariables false
set_option linter.unusedSimpArgs false
set_option linter.unusedSectionVars false
variable {f : Int} {p : Nat} [NeZero p]
def Dist (l : List Int) : Prop := ∀ i j : Nat, j < i → i < l.length → rd l (i : Int) ≠ rd l (j : Int)
theorem twice_no {F0 : Nat → List Int → Int → Option Int} {F1 : Nat → List Int → Int → Int → Option Int}
    (e0 : ∀ k l i, F0 (k + 1) l i = if i < (l.length : Int) then F1 k l i 0 else some 0)
    (e1 : ∀ k l i j, F1 (k + 1) l i j = if j < i then (if 0 ≤ i then (if i < (l.length : Int) then (if 0 ≤ j then (if j < (l.length : Int) then (if (rd l i) = (rd l j) then (some 6) else (F1 k l i (wrap64 (j + 1)))) else (none)) else (none)) else (none)) else (none)) else (F0 k l (wrap64 (i + 1))))
    (l : List Int) (hl : l.length ≤ 1048576) (h : Dist l) : ∀ (d i : Nat), i + d = l.length → Ev (fun k => F0 k l (i : Int)) 0 := by
  intro d
  induction d with
  | zero =>
    intro i hi
    refine Ev.step (f := fun _ => some 0) (fun k => ?_) (Ev.now _)
    rw [e0, if_neg (by omega)]
  | succ d ih =>
    intro i hi
    refine Ev.step (f := fun k => F1 k l (i : Int) 0) (fun k => by rw [e0, if_pos (by omega)]) ?_
    have : ∀ (e j : Nat), j + e = i → Ev (fun k => F1 k l (i : Int) (j : Int)) 0 := by
      intro e
      induction e with
      | zero =>
        intro j hj
        refine Ev.step (f := fun k => F0 k l ((i + 1 : Nat) : Int)) (fun k => ?_) (ih (i + 1) (by omega))
        rw [e1, if_neg (by omega), w64 (by omega) (by omega)]; rfl
      | succ e ihe =>
        intro j hj
        refine Ev.step (f := fun k => F1 k l (i : Int) ((j + 1 : Nat) : Int)) (fun k => ?_) (ihe (j + 1) (by omega))
        rw [e1, if_pos (by omega), if_pos (by omega), if_pos (by omega), if_pos (by omega), if_pos (by omega), if_neg (h i j (by omega) (by omega)), w64 (by omega) (by omega)]; rfl
    exact this i 0 (by omega)
theorem twice_yes {F0 : Nat → List Int → Int → Option Int} {F1 : Nat → List Int → Int → Int → Option Int}
    (e0 : ∀ k l i, F0 (k + 1) l i = if i < (l.length : Int) then F1 k l i 0 else some 0)
    (e1 : ∀ k l i j, F1 (k + 1) l i j = if j < i then (if 0 ≤ i then (if i < (l.length : Int) then (if 0 ≤ j then (if j < (l.length : Int) then (if (rd l i) = (rd l j) then (some 6) else (F1 k l i (wrap64 (j + 1)))) else (none)) else (none)) else (none)) else (none)) else (F0 k l (wrap64 (i + 1))))
    (l : List Int) (hl : l.length ≤ 1048576) (i0 j0 : Nat) (hj0 : j0 < i0) (hi0 : i0 < l.length) (h : rd l (i0 : Int) = rd l (j0 : Int)) : ∀ (d i : Nat), i + d = i0 → Ev (fun k => F0 k l (i : Int)) 6 := by
  have inner : ∀ (i : Nat), i ≤ i0 → (i = i0 ∨ Ev (fun k => F0 k l ((i + 1 : Nat) : Int)) 6) → Ev (fun k => F0 k l (i : Int)) 6 := by
    intro i hi hn
    refine Ev.step (f := fun k => F1 k l (i : Int) 0) (fun k => by rw [e0, if_pos (by omega)]) ?_
    have : ∀ (e j : Nat), j + e = i → (i = i0 → j ≤ j0) → Ev (fun k => F1 k l (i : Int) (j : Int)) 6 := by
      intro e
      induction e with
      | zero =>
        intro j hj hk
        have hn' : Ev (fun k => F0 k l ((i + 1 : Nat) : Int)) 6 := hn.resolve_left fun c => by have := hk c; omega
        refine Ev.step (f := fun k => F0 k l ((i + 1 : Nat) : Int)) (fun k => ?_) hn'
        rw [e1, if_neg (by omega), w64 (by omega) (by omega)]; rfl
      | succ e ihe =>
        intro j hj hk
        by_cases c : rd l (i : Int) = rd l (j : Int)
        · refine Ev.step (f := fun _ => some 6) (fun k => ?_) (Ev.now _)
          rw [e1, if_pos (by omega), if_pos (by omega), if_pos (by omega), if_pos (by omega), if_pos (by omega), if_pos c]
        · refine Ev.step (f := fun k => F1 k l (i : Int) ((j + 1 : Nat) : Int)) (fun k => ?_) (ihe (j + 1) (by omega) fun ci => ?_)
          · rw [e1, if_pos (by omega), if_pos (by omega), if_pos (by omega), if_pos (by omega), if_pos (by omega), if_neg c, w64 (by omega) (by omega)]; rfl
          · have := hk ci
            by_cases cj : j = j0
            · exact absurd (by rw [ci, cj]; exact h) c
            · omega
    exact this i 0 (by omega) fun _ => by omega
  intro d
  induction d with
  | zero => intro i hi; exact inner i (by omega) (Or.inl (by omega))
  | succ d ih => intro i hi; exact inner i (by omega) (Or.inr (ih (i + 1) (by omega)))
open Classical in
noncomputable def dup (l : List Int) : Int := if Dist l then 0 else 6
theorem dup_no {l : List Int} (h : Dist l) : dup l = 0 := by unfold dup; rw [if_pos h]
theorem dup_yes {l : List Int} (h : ¬ Dist l) : dup l = 6 := by unfold dup; rw [if_neg h]
theorem twice_ev {F0 : Nat → List Int → Int → Option Int} {F1 : Nat → List Int → Int → Int → Option Int}
    (e0 : ∀ k l i, F0 (k + 1) l i = if i < (l.length : Int) then F1 k l i 0 else some 0)
    (e1 : ∀ k l i j, F1 (k + 1) l i j = if j < i then (if 0 ≤ i then (if i < (l.length : Int) then (if 0 ≤ j then (if j < (l.length : Int) then (if (rd l i) = (rd l j) then (some 6) else (F1 k l i (wrap64 (j + 1)))) else (none)) else (none)) else (none)) else (none)) else (F0 k l (wrap64 (i + 1))))
    (l : List Int) (hl : l.length ≤ 1048576) : Ev (fun k => F0 k l 0) (dup l) := by
  by_cases c : Dist l
  · rw [dup_no c]; exact twice_no e0 e1 l hl c l.length 0 (by omega)
  · rw [dup_yes c]
    unfold Dist at c
    simp only [Classical.not_forall, Classical.not_not] at c
    obtain ⟨i, j, h1, h2, h3⟩ := c
    exact twice_yes e0 e1 l hl i j h1 h2 h3 i 0 (by omega)
noncomputable def cod (b : Bool) (l : List Int) (n : Nat) : Int := if b = true then (if l.length = n then (if l.length > 512 then 4 else dup l) else 3) else 2
theorem twice_f (l : List Int) (hu : U64 l) (hl : l.length ≤ 1048576) : Ev (fun k => interp_twice.f k l) (dup l) := by
  unfold interp_twice.f
  have hall : (l.all fun x => decide (0 ≤ x) && decide (x < 18446744073709551616)) = true := by
    rw [List.all_eq_true]; intro x hx; have := hu x hx; simp; omega
  simp only [if_pos hall]
  exact twice_ev (F0 := interp_twice.l0) (F1 := interp_twice.l1) (fun _ _ _ => rfl) (fun _ _ _ _ => rfl) l hl
theorem may_f (xs ys zs : List Int) (hu : U64 xs) (h1 : xs.length ≤ 9223372036854775807) (h2 : ys.length ≤ 9223372036854775807) (h3 : zs.length ≤ 512) : Ev (fun k => interp_may.f k f xs ys zs) (cod (inF f xs && inF f ys && inF f zs) xs ys.length) := by
  unfold interp_may.f
  have bad : Ev (fun k => interp_may.j0 k xs ys zs true) 2 := Ev.step (f := fun _ => some 2) (fun k => by simp only [interp_may.j0, if_true]) (Ev.now _)
  have good : Ev (fun k => interp_may.j0 k xs ys zs false) (cod true xs ys.length) := by
    refine Ev.step (f := fun k => _) (fun k => rfl) ?_
    simp only [interp_may.j0, Bool.false_eq_true, if_false]
    unfold cod
    rw [if_pos rfl]
    by_cases c1 : xs.length = ys.length
    · simp only [if_pos c1, if_pos (show (xs.length : Int) = (ys.length : Int) by omega)]
      by_cases c2 : xs.length > 512
      · simp only [if_pos c2, if_pos (show (xs.length : Int) > 512 by omega)]; exact Ev.now _
      · simp only [if_neg c2, if_neg (show ¬ (xs.length : Int) > 512 by omega), if_neg (show ¬ (zs.length : Int) > 512 by omega)]
        exact Ev.bind (f := fun _ t => some t) (twice_f xs hu (by omega)) (Ev.now _)
    · simp only [if_neg c1, if_neg (show ¬ (xs.length : Int) = (ys.length : Int) by omega)]; exact Ev.now _
  refine Ev.bind (f := fun k t => _) (In_f f xs h1) ?_
  cases hx : inF f xs
  · simp only [Bool.false_eq_true, if_false, Bool.false_and]
    simpa [cod] using bad
  · simp only [if_true, Bool.true_and]
    refine Ev.bind (f := fun k t => _) (In_f f ys h2) ?_
    cases hy : inF f ys
    · simp only [Bool.false_eq_true, if_false, Bool.false_and]
      simpa [cod] using bad
    · simp only [if_true, Bool.true_and]
      refine Ev.bind (f := fun k t => _) (In_f f zs (by omega)) ?_
      cases hz : inF f zs
      · simpa [cod] using bad
      · simpa using good
theorem rBad_f (xs ys : List Int) (n : Nat) (hu : U64 xs) (hv : U64 ys) (h1 : xs.length ≤ 9223372036854775807) (h2 : ys.length ≤ 9223372036854775807) : Ev (fun k => conclaveref07_Bad.f k f xs ys (n : Int)) (cod (inF f xs && inF f ys) xs n) := by
  unfold conclaveref07_Bad.f
  have bad : Ev (fun k => conclaveref07_Bad.j0 k xs (n : Int) true) 2 := Ev.step (f := fun _ => some 2) (fun k => by simp only [conclaveref07_Bad.j0, if_true]) (Ev.now _)
  have good : Ev (fun k => conclaveref07_Bad.j0 k xs (n : Int) false) (cod true xs n) := by
    refine Ev.step (f := fun k => _) (fun k => rfl) ?_
    simp only [conclaveref07_Bad.j0, Bool.false_eq_true, if_false]
    unfold cod
    rw [if_pos rfl]
    by_cases c1 : xs.length = n
    · simp only [if_pos c1, if_pos (show (xs.length : Int) = (n : Int) by omega)]
      by_cases c2 : xs.length > 512
      · simp only [if_pos c2, if_pos (show (xs.length : Int) > 512 by omega)]; exact Ev.now _
      · simp only [if_neg c2, if_neg (show ¬ (xs.length : Int) > 512 by omega)]
        exact twice_ev (F0 := conclaveref07_Bad.l0) (F1 := conclaveref07_Bad.l1) (fun _ _ _ => rfl) (fun _ _ _ _ => rfl) xs (by omega)
    · simp only [if_neg c1, if_neg (show ¬ (xs.length : Int) = (n : Int) by omega)]; exact Ev.now _
  refine Ev.bind (f := fun k t => _) (rIn_f f xs hu h1) ?_
  cases hx : inF f xs
  · simp only [Bool.false_eq_true, if_false, Bool.false_and]
    simpa [cod] using bad
  · simp only [if_true, Bool.true_and]
    refine Ev.bind (f := fun k t => _) (rIn_f f ys hv h2) ?_
    cases hy : inF f ys
    · simpa [cod] using bad
    · simpa using good
theorem dist_arr {n : Nat} {x : Nat → Fin p} (h : Dist (arr n x)) : ∀ i j, i < n → j < n → i ≠ j → x i ≠ x j := by
  intro i j hi hj hij he
  rcases Nat.lt_or_gt_of_ne hij with c | c
  · refine h j i c (by rw [arr_len]; exact hj) ?_
    rw [rd_arr hi, rd_arr hj, he]
  · refine h i j c (by rw [arr_len]; exact hi) ?_
    rw [rd_arr hi, rd_arr hj, he]
theorem cod_good (hF : Fld f p) {n : Nat} {x : Nat → Fin p} (hn : n ≤ 512) (hu : Dist (arr n x)) : cod true (arr n x) n = 0 := by
  unfold cod
  rw [if_pos rfl, arr_len, if_pos rfl, if_neg (by omega), dup_no hu]
theorem mayG (hF : Fld f p) {n m : Nat} (x y z : Nat → Fin p) (hn : n ≤ 512) (hm : m ≤ 512) (hu : Dist (arr n x)) : Ev (fun k => interp_may.f k f (arr n x) (arr n y) (arr m z)) 0 := by
  have h := may_f (f := f) (arr n x) (arr n y) (arr m z) (u64_arr hF n x) (by rw [arr_len]; omega) (by rw [arr_len]; omega) (by rw [arr_len]; omega)
  rw [inF_arr hF, inF_arr hF, inF_arr hF, arr_len, show (true && true && true) = true from rfl, cod_good hF hn hu] at h
  exact h
theorem rBadG (hF : Fld f p) {n m : Nat} (x y : Nat → Fin p) (hn : n ≤ 512) (hm : m ≤ 512) (hu : Dist (arr n x)) : Ev (fun k => conclaveref07_Bad.f k f (arr n x) (arr m y) (n : Int)) 0 := by
  have h := rBad_f (f := f) (arr n x) (arr m y) n (u64_arr hF n x) (u64_arr hF m y) (by rw [arr_len]; omega) (by rw [arr_len]; omega)
  rw [inF_arr hF, inF_arr hF, show (true && true) = true from rfl, cod_good hF hn hu] at h
  exact h
theorem arr_one (z : Fin p) : [tI z] = arr 1 (fun _ => z) := rfl
theorem Change0 (hF : Fld f p) (n m : Nat) (hn : n ≤ 512) (hm : m ≤ 512) (x z : Nat → Fin p) : ∀ (d i : Nat), i + d = m → Ev (fun k => interp_Change.l0 k f (arr n x) (arr n (wt n x)) ((List.range i).map fun t => arr n (bas n x (z t))) (arr m z) (m : Int) (i : Int)) ((List.range m).map fun t => arr n (bas n x (z t)), 0) := by
  intro d
  induction d with
  | zero =>
    intro i hi
    obtain rfl : i = m := by omega
    refine Ev.step (f := fun _ => some ((List.range i).map fun t => arr n (bas n x (z t)), 0)) (fun k => ?_) (Ev.now _)
    simp only [interp_Change.l0]
    rw [if_neg (by omega)]
  | succ d ih =>
    intro i hi
    refine Ev.step (f := fun k => (interp_basis_1.f k (tI (z i)) (arr n x) f (arr n (wt n x))).bind fun t => interp_Change.l0 k f (arr n x) (arr n (wt n x)) (((List.range i).map fun t => arr n (bas n x (z t))) ++ [t]) (arr m z) (m : Int) ((i + 1 : Nat) : Int)) (fun k => ?_) ?_
    · simp only [interp_Change.l0]
      rw [if_pos (by omega), if_pos (by omega), arr_len, if_pos (by omega), rd_arr (by omega), w64 (by omega) (by omega)]
      simp only [List.length_map, List.length_range, if_pos (show i < 5864062014805 by omega)]
      rfl
    · refine Ev.bind (f := fun k t => interp_Change.l0 k f (arr n x) (arr n (wt n x)) (((List.range i).map fun t => arr n (bas n x (z t))) ++ [t]) (arr m z) (m : Int) ((i + 1 : Nat) : Int)) (basis_f hF n (by omega) x (z i)) ?_
      have := ih (i + 1) (by omega)
      rw [List.range_succ, List.map_append] at this
      exact this
theorem ChangeG (hF : Fld f p) (n m : Nat) (hn : n ≤ 512) (hm : m ≤ 512) (x z : Nat → Fin p) (hu : Dist (arr n x)) : Ev (fun k => interp_Change.f k f (arr n x) (arr m z)) ((List.range m).map fun t => arr n (bas n x (z t)), 0) := by
  unfold interp_Change.f
  refine Ev.bind (f := fun k t => _) (mayG hF x x z hn hm hu) ?_
  simp only [if_true]
  refine Ev.bind (f := fun k t => _) (weights_f hF n (by omega) x (dist_arr hu)) ?_
  simp only [if_true, arr_len]
  exact Change0 hF n m hn hm x z m 0 (by omega)
theorem Dot0 (hF : Fld f p) (n : Nat) (hn : n ≤ 1048576) (a y : Nat → Fin p) : ∀ (d i : Nat), i + d = n → Ev (fun k => field_Dot.l0 k (arr n y) (tI (sumR i fun t => a t * y t)) (arr n a) (n : Int) (i : Int) (p : Int) (decide (f = 2))) (tI (sumR n fun t => a t * y t), 0) := by
  intro d
  induction d with
  | zero =>
    intro i hi
    obtain rfl : i = n := by omega
    refine Ev.step (f := fun _ => some (tI (sumR i fun t => a t * y t), 0)) (fun k => ?_) (Ev.now _)
    simp only [field_Dot.l0]
    rw [if_neg (by omega)]
  | succ d ih =>
    intro i hi
    refine Ev.step (f := fun k => field_Dot.l0 k (arr n y) (tI (sumR (i + 1) fun t => a t * y t)) (arr n a) (n : Int) ((i + 1 : Nat) : Int) (p : Int) (decide (f = 2))) (fun k => ?_) (ih (i + 1) (by omega))
    simp only [field_Dot.l0]
    rw [if_pos (by omega), if_pos (by omega), arr_len, if_pos (by omega), arr_len, if_pos (by omega), rd_arr (by omega), rd_arr (by omega), mul_f hF, Option.bind_some, add_f hF, Option.bind_some, w64 (by omega) (by omega)]
    rfl
theorem DotG (hF : Fld f p) (n : Nat) (hn : n ≤ 1048576) (a y : Nat → Fin p) : Ev (fun k => field_Dot.f k f (arr n a) (arr n y)) (tI (sumR n fun t => a t * y t), 0) := by
  unfold field_Dot.f
  refine Ev.bind (f := fun k t => _) (askedA_f hF n a hn) ?_
  simp only [if_true]
  refine Ev.bind (f := fun k t => _) (a := true) ?_ ?_
  · have h := reckoner_in_ev (p : Int) (decide (f = 2)) (arr n y) (by rw [arr_len]; omega) (arr n y).length 0 (by omega)
    have e := inF_arr hF n y
    unfold inF at e
    rw [hF.prime] at e
    rw [List.drop_zero, (Bool.and_eq_true_iff.1 e).2] at h
    unfold field_reckoner_in.f
    exact h
  · refine Ev.step (f := fun k => _) (fun k => rfl) ?_
    simp only [field_Dot.j0, Bool.not_true, Bool.false_eq_true, if_false, arr_len, if_true]
    exact Dot0 hF n hn a y n 0 (by omega)
end Go.Proofs.Ytfkikfapbdlnjaa.Plain
end
