/- What the functions of the package field that ask for elements come to, in plain words. -/
import Derived.Test.YtclanpkekocndaaPlain
import Derived.Test.YtclanpkekocndaaPx16
import Derived.Test.YtclanpkekocndaaPx4
namespace Go.Proofs.Ytclanpkekocndaa.Plain
open Go.RowKit Go.Proofs.Ytclanpkekocndaa.P Go.Proofs.YtclanpkekocndaaW.PrintWords Go.Proofs.YtclanpkekocndaaW.PrintLast Go.Proofs.YtclanpkekocndaaW.PrintMore
set_option linter.unusedVariables false
set_option linter.unusedSimpArgs false

/-- A field's prime; 0: no field. -/
def prime (f : Int) : Int := if f = 1 then 2013265921 else if f = 2 then 18446744069414584321 else 0
/-- Are all of a list less than a number? -/
def below (p : Int) (l : List Int) : Bool := l.all fun x => decide (x < p)
theorem below_nil (p : Int) : below p [] = true := rfl
theorem below_cons (p x : Int) (l : List Int) : below p (x :: l) = (decide (x < p) && below p l) := rfl
theorem below_append (p : Int) (a b : List Int) : below p (a ++ b) = (below p a && below p b) := by simp [below]
theorem below_iff {p : Int} {l : List Int} : below p l = true ↔ ∀ x ∈ l, x < p := by simp [below]
def isF (f : Int) : Bool := decide (f = 1) || decide (f = 2)
/-- Is it a field, and are these its elements? -/
def inF (f : Int) (l : List Int) : Bool := isF f && below (prime f) l
/-- Numbers of 64 bits. -/
def U64 (l : List Int) : Prop := ∀ x ∈ l, 0 ≤ x ∧ x < 18446744073709551616
theorem u64_of_wf {l : List Int} (h : ∀ x ∈ l, (Lit.int .u64 x).wf = true) : U64 l := fun x hx => wf_u64 (h x hx)
theorem isF_or {f : Int} (h : isF f = true) : f = 1 ∨ f = 2 := by simpa [isF] using h
theorem prime_range (f : Int) : 0 ≤ prime f ∧ prime f < 18446744073709551616 := by
  unfold prime; split
  · omega
  · split <;> omega
theorem prime_zero {f : Int} (h : isF f = false) : prime f = 0 := by
  have h' : ¬ f = 1 ∧ ¬ f = 2 := by simpa [isF] using h
  unfold prime; rw [if_neg h'.1, if_neg h'.2]
theorem prime_pos {f : Int} (h : isF f = true) : 0 < prime f := by
  unfold prime; rcases isF_or h with rfl | rfl <;> decide
theorem reckoner_in_ev (p : Int) (b : Bool) (l : List Int) (hl : l.length ≤ 9223372036854775807) : ∀ (d i : Nat), i + d = l.length → Ev (fun k => field_reckoner_in.l0 k l (l.length : Int) (i : Int) p b) (below p (l.drop i)) := by
  intro d
  induction d with
  | zero =>
    intro i hi
    refine Ev.step (f := fun _ => some true) (fun k => ?_) (by rw [List.drop_eq_nil_of_le (by omega)]; exact Ev.now _)
    simp only [field_reckoner_in.l0]
    rw [if_neg (by omega)]
  | succ d ih =>
    intro i hi
    have hlt : i < l.length := by omega
    rw [drop_at hlt, below_cons]
    by_cases hp : rd l (i : Int) ≥ p
    · refine Ev.step (f := fun _ => some false) (fun k => ?_) (by rw [show decide (rd l (i : Int) < p) = false by simpa using hp]; exact Ev.now _)
      simp only [field_reckoner_in.l0]
      rw [if_pos (by omega), if_pos (by omega), if_pos (by omega), if_pos hp]
    · refine Ev.step (f := fun k => field_reckoner_in.l0 k l (l.length : Int) ((i + 1 : Nat) : Int) p b) (fun k => ?_) (by rw [show decide (rd l (i : Int) < p) = true by simp; omega]; simpa using ih (i + 1) (by omega))
      simp only [field_reckoner_in.l0]
      rw [if_pos (by omega), if_pos (by omega), if_pos (by omega), if_neg hp, w64 (by omega) (by omega)]; rfl
theorem asked_f (f : Int) (l : List Int) (hl : l.length ≤ 9223372036854775807) : Ev (fun k => field_asked.f k f l) (if inF f l then (prime f, decide (f = 2), 0) else (0, false, 2)) := by
  unfold field_asked.f field_of.f inF isF prime
  by_cases h1 : f = 1
  · subst h1
    simp only [if_true, Option.bind_some, decide_true, Bool.true_or, Bool.true_and]
    refine Ev.bind (f := fun _ t => if t = true then some (2013265921, false, 0) else some (0, false, 2)) (reckoner_in_ev 2013265921 false l hl l.length 0 (by omega)) ?_
    by_cases hb : below 2013265921 l = true
    · simp only [List.drop_zero, hb, if_true]; exact Ev.now _
    · simp only [List.drop_zero, hb, if_false]; exact Ev.now _
  · by_cases h2 : f = 2
    · subst h2
      simp only [if_neg h1, if_true, Option.bind_some, decide_true, Bool.or_true, Bool.true_and]
      refine Ev.bind (f := fun _ t => if t = true then some (18446744069414584321, true, 0) else some (0, false, 2)) (reckoner_in_ev 18446744069414584321 true l hl l.length 0 (by omega)) ?_
      by_cases hb : below 18446744069414584321 l = true
      · simp only [List.drop_zero, hb, if_true]; exact Ev.now _
      · simp only [List.drop_zero, hb, if_false]; exact Ev.now _
    · simp only [if_neg h1, if_neg h2, Option.bind_some, show decide (f = 1) = false by simpa using h1, show decide (f = 2) = false by simpa using h2, Bool.or_false, Bool.false_and, Bool.false_eq_true, if_false]
      exact Ev.now _
theorem In_f (f : Int) (l : List Int) (hl : l.length ≤ 9223372036854775807) : Ev (fun k => field_In.f k f l) (inF f l) := by
  unfold field_In.f
  refine Ev.bind (f := fun _ bt => some (bt.2.2 == 0)) (asked_f f l hl) ?_
  by_cases h : inF f l = true
  · simp only [if_pos h]; rw [h]; exact Ev.now _
  · simp only [if_neg h]; rw [Bool.eq_false_iff.2 h]; exact Ev.now _
theorem inF_isF {f : Int} {l : List Int} (h : inF f l = true) : isF f = true := by
  unfold inF at h; exact (Bool.and_eq_true_iff.1 h).1
end Go.Proofs.Ytclanpkekocndaa.Plain
