import Derived.Test.YtclanpkekocndaaSPadsChain11
import Derived.Test.YtclanpkekocndaaSPadsChain12
import Derived.Test.YtclanpkekocndaaRows
import Derived.WalkKit
import Derived.ProofKit
import Derived.OpenShut
import Derived.ShutString
import Derived.ChangeOld
import Derived.Below
import Derived.SizedLaws
section
namespace Go.Proofs.Ytclanpkekocndaa.Form.PadsChain
open Go.RowKit Go.Proofs.Ytclanpkekocndaa.P Go.Proofs.YtclanpkekocndaaW.PrintWords Go.Proofs.YtclanpkekocndaaW.PrintLast
set_option linter.unusedVariables false
/-- The one pure statement of the law. -/
def Pure : Prop := ∀ (a0 : Int) (l1 : List Int) (a2_0 : Int) (a2_1 : Int) (a2_2 : Int), ((Lit.int .u8 a0).wf = true) → (l1.length ≤ maxLen ∧ l1.length * 8 ≤ 140737488351232 ∧ ∀ y2 ∈ l1, (Lit.int .u64 y2).wf = true) → ((Lit.int .u8 a2_0).wf = true) → ((Lit.int .u8 a2_1).wf = true) → ((Lit.int .u8 a2_2).wf = true) → ∃ k, conclavelaw19_PadsChain.f k a0 l1 a2_0 a2_1 a2_2 = some true
end Go.Proofs.Ytclanpkekocndaa.Form.PadsChain
end
section
/- Plain lemmas on numbers and lists that the pure parts of this seat's laws share; no program in sight. -/
namespace Go.Proofs.Ytclanpkekocndaa.Plain
open Go.RowKit Go.Proofs.YtclanpkekocndaaW.PrintWords Go.Proofs.YtclanpkekocndaaW.PrintLast Go.Proofs.YtclanpkekocndaaW.PrintMore
set_option linter.unusedVariables false
set_option linter.unusedSimpArgs false

theorem w64 {x : Int} (h0 : -9223372036854775808 ≤ x) (h1 : x ≤ 9223372036854775807) : wrap64 x = x := by unfold wrap64; omega
theorem wf_u8 {x : Int} (h : (Lit.int .u8 x).wf = true) : 0 ≤ x ∧ x < 256 := by
  simp [Lit.wf, IntKind.min, IntKind.max, IntKind.bits, IntKind.signed] at h; omega
theorem wf_u64 {x : Int} (h : (Lit.int .u64 x).wf = true) : 0 ≤ x ∧ x < 18446744073709551616 := by
  simp [Lit.wf, IntKind.min, IntKind.max, IntKind.bits, IntKind.signed] at h; omega
/-- A list of bytes. -/
def Bytes (l : List Int) : Prop := ∀ x ∈ l, 0 ≤ x ∧ x < 256
theorem Bytes.take {l : List Int} (h : Bytes l) (n : Nat) : Bytes (l.take n) := fun x hx => h x (List.mem_of_mem_take hx)
theorem Bytes.drop {l : List Int} (h : Bytes l) (n : Nat) : Bytes (l.drop n) := fun x hx => h x (List.mem_of_mem_drop hx)
theorem Bytes.append {a b : List Int} (h : Bytes a) (h' : Bytes b) : Bytes (a ++ b) := fun x hx => (List.mem_append.1 hx).elim (h x) (h' x)

theorem rd_at {l : List Int} {i : Nat} (h : i < l.length) : rd l (i : Int) = l[i] := by simp [rd, h]
theorem drop_at {l : List Int} {i : Nat} (h : i < l.length) : l.drop i = rd l (i : Int) :: l.drop (i + 1) := by rw [rd_at h, List.drop_eq_getElem_cons h]

/-! ### numbers as bytes, the highest first -/
/-! ### bytes as a number -/
/-! ### sums -/
end Go.Proofs.Ytclanpkekocndaa.Plain
end
section
/- What the functions of the package field that ask for elements come to, in plain words. -/
namespace Go.Proofs.Ytclanpkekocndaa.Plain
open Go.RowKit Go.Proofs.Ytclanpkekocndaa.P Go.Proofs.YtclanpkekocndaaW.PrintWords Go.Proofs.YtclanpkekocndaaW.PrintLast Go.Proofs.YtclanpkekocndaaW.PrintMore
set_option linter.unusedVariables false
set_option linter.unusedSimpArgs false

/-- A field's prime; 0: no field. -/
def prime (f : Int) : Int := if f = 1 then 2013265921 else if f = 2 then 18446744069414584321 else 0
/-- Are all of a list less than a number? -/
def below (p : Int) (l : List Int) : Bool := l.all fun x => decide (x < p)
theorem below_cons (p x : Int) (l : List Int) : below p (x :: l) = (decide (x < p) && below p l) := rfl
def isF (f : Int) : Bool := decide (f = 1) || decide (f = 2)
/-- Is it a field, and are these its elements? -/
def inF (f : Int) (l : List Int) : Bool := isF f && below (prime f) l
/-- Numbers of 64 bits. -/
def U64 (l : List Int) : Prop := ∀ x ∈ l, 0 ≤ x ∧ x < 18446744073709551616
theorem u64_of_wf {l : List Int} (h : ∀ x ∈ l, (Lit.int .u64 x).wf = true) : U64 l := fun x hx => wf_u64 (h x hx)
theorem isF_or {f : Int} (h : isF f = true) : f = 1 ∨ f = 2 := by simpa [isF] using h
theorem prime_pos {f : Int} (h : isF f = true) : 0 < prime f := by
  unfold prime; rcases isF_or h with rfl | rfl <;> decide
theorem reckoner_in_ev (p : Int) (b : Bool) (l : List Int) (hl : l.length ≤ 9223372036854775807) : ∀ (d i : Nat), i + d = l.length → Ev (fun k => field_reckoner_in.l0 k l (l.length : Int) (i : Int) p b) (below p (l.drop i)) := by
  intro d
  induction d with
  | zero =>
    intro i hi
    refine Ev.step (f := fun _ => some true) (fun k => ?_) (by rw [List.drop_eq_nil_of_le (by omega)]; exact Ev.now _)
    simp only [field_reckoner_in.l0]
    rw [if_neg (by omega)]
  | succ d ih =>
    intro i hi
    have hlt : i < l.length := by omega
    rw [drop_at hlt, below_cons]
    by_cases hp : rd l (i : Int) ≥ p
    · refine Ev.step (f := fun _ => some false) (fun k => ?_) (by rw [show decide (rd l (i : Int) < p) = false by simpa using hp]; exact Ev.now _)
      simp only [field_reckoner_in.l0]
      rw [if_pos (by omega), if_pos (by omega), if_pos (by omega), if_pos hp]
    · refine Ev.step (f := fun k => field_reckoner_in.l0 k l (l.length : Int) ((i + 1 : Nat) : Int) p b) (fun k => ?_) (by rw [show decide (rd l (i : Int) < p) = true by simp; omega]; simpa using ih (i + 1) (by omega))
      simp only [field_reckoner_in.l0]
      rw [if_pos (by omega), if_pos (by omega), if_pos (by omega), if_neg hp, w64 (by omega) (by omega)]; rfl
theorem asked_f (f : Int) (l : List Int) (hl : l.length ≤ 9223372036854775807) : Ev (fun k => field_asked.f k f l) (if inF f l then (prime f, decide (f = 2), 0) else (0, false, 2)) := by
  unfold field_asked.f field_of.f inF isF prime
  by_cases h1 : f = 1
  · subst h1
    simp only [if_true, Option.bind_some, decide_true, Bool.true_or, Bool.true_and]
    refine Ev.bind (f := fun _ t => if t = true then some (2013265921, false, 0) else some (0, false, 2)) (reckoner_in_ev 2013265921 false l hl l.length 0 (by omega)) ?_
    by_cases hb : below 2013265921 l = true
    · simp only [List.drop_zero, hb, if_true]; exact Ev.now _
    · simp only [List.drop_zero, hb, if_false]; exact Ev.now _
  · by_cases h2 : f = 2
    · subst h2
      simp only [if_neg h1, if_true, Option.bind_some, decide_true, Bool.or_true, Bool.true_and]
      refine Ev.bind (f := fun _ t => if t = true then some (18446744069414584321, true, 0) else some (0, false, 2)) (reckoner_in_ev 18446744069414584321 true l hl l.length 0 (by omega)) ?_
      by_cases hb : below 18446744069414584321 l = true
      · simp only [List.drop_zero, hb, if_true]; exact Ev.now _
      · simp only [List.drop_zero, hb, if_false]; exact Ev.now _
    · simp only [if_neg h1, if_neg h2, Option.bind_some, show decide (f = 1) = false by simpa using h1, show decide (f = 2) = false by simpa using h2, Bool.or_false, Bool.false_and, Bool.false_eq_true, if_false]
      exact Ev.now _
end Go.Proofs.Ytclanpkekocndaa.Plain
end
section
/- The reference's functions that hold lists against each other, and copy bytes. -/
namespace Go.Proofs.Ytclanpkekocndaa.Plain
open Go.RowKit Go.Proofs.Ytclanpkekocndaa.P Go.Proofs.YtclanpkekocndaaW.PrintWords Go.Proofs.YtclanpkekocndaaW.PrintLast Go.Proofs.YtclanpkekocndaaW.PrintMore
set_option linter.unusedVariables false
set_option linter.unusedSimpArgs false

theorem fSame_ev (a b : List Int) (he : a.length = b.length) (hl : a.length ≤ 9223372036854775807) : ∀ (d i : Nat), i + d = a.length → Ev (fun k => conclaveref01_Same.l0 k a b (i : Int)) (decide (a.drop i = b.drop i)) := by
  intro d
  induction d with
  | zero =>
    intro i hi
    refine Ev.step (f := fun _ => some true) (fun k => ?_) (by rw [List.drop_eq_nil_of_le (by omega), List.drop_eq_nil_of_le (by omega)]; exact Ev.now _)
    simp only [conclaveref01_Same.l0]
    rw [if_neg (by omega)]
  | succ d ih =>
    intro i hi
    have hlt : i < a.length := by omega
    have hlt2 : i < b.length := by omega
    rw [drop_at hlt, drop_at hlt2]
    by_cases hp : rd a (i : Int) = rd b (i : Int)
    · refine Ev.step (f := fun k => conclaveref01_Same.l0 k a b ((i + 1 : Nat) : Int)) (fun k => ?_) (by rw [hp]; simpa using ih (i + 1) (by omega))
      simp only [conclaveref01_Same.l0]
      rw [if_pos (by omega), if_pos (by omega), if_pos (by omega), if_pos hp, w64 (by omega) (by omega)]; rfl
    · refine Ev.step (f := fun k => some false) (fun k => ?_) (by rw [show decide (rd a (i : Int) :: a.drop (i + 1) = rd b (i : Int) :: b.drop (i + 1)) = false by simp [hp]]; exact Ev.now _)
      simp only [conclaveref01_Same.l0]
      rw [if_pos (by omega), if_pos (by omega), if_pos (by omega), if_neg hp]
theorem fSame_f (a b : List Int) (hl : a.length ≤ 9223372036854775807) : Ev (fun k => conclaveref01_Same.f k a b) (decide (a = b)) := by
  unfold conclaveref01_Same.f
  by_cases he : a.length = b.length
  · simp only [if_pos (show (a.length : Int) = (b.length : Int) by omega)]
    exact fSame_ev a b he hl a.length 0 (by omega)
  · simp only [if_neg (show ¬ (a.length : Int) = (b.length : Int) by omega)]
    rw [show decide (a = b) = false by simp; intro h; exact he (by rw [h])]
    exact Ev.now _
end Go.Proofs.Ytclanpkekocndaa.Plain
end
section
/- The pads: what the program's Take and the reference's Take compute; plain lemmas. -/
namespace Go.Proofs.Ytclanpkekocndaa.Plain
open Go.RowKit Go.Proofs.Ytclanpkekocndaa.P Go.Proofs.YtclanpkekocndaaW.PrintWords Go.Proofs.YtclanpkekocndaaW.PrintLast Go.Proofs.YtclanpkekocndaaW.PrintMore
set_option linter.unusedVariables false
set_option linter.unusedSimpArgs false

theorem Prime_f (f : Int) : Ev (fun k => field_Prime.f k f) (if isF f then (prime f, 0) else (0, 2)) := by
  unfold field_Prime.f
  refine Ev.bind (f := fun _ bt => some (bt.1, bt.2.2)) (asked_f f [] (by simp)) ?_
  have e : inF f [] = isF f := by simp [inF, below]
  rw [e]
  by_cases h : isF f = true
  · simp only [h, if_true]; exact Ev.now _
  · simp only [Bool.eq_false_iff.2 h, Bool.false_eq_true, if_false]; exact Ev.now _
/-- What is taken off the tape. -/
def takeOf (f : Int) (l : List Int) (at_ many : Int) : List Int × Int × Int :=
  if isF f = true ∧ 0 ≤ at_ ∧ at_ ≤ l.length ∧ 0 ≤ many then (if many > l.length - at_ then ([], 0, 7) else (((l.drop at_.toNat).take many.toNat).map (· % prime f), at_ + many, 0)) else ([], 0, 2)
theorem Take_l0 (p next : Int) (hp : 0 < p) : ∀ (d i : Nat) (x : List Int), i + d = x.length → x.length ≤ 9223372036854775807 → (∀ y ∈ x.drop i, 0 ≤ y) →
    Ev (fun k => pads_Take.l0 k x next p (x.length : Int) (i : Int)) (x.take i ++ (x.drop i).map (· % p), next, 0) := by
  intro d
  induction d with
  | zero =>
    intro i x hi hx hu
    refine Ev.step (f := fun _ => some (x, next, 0)) (fun k => ?_) (by rw [List.drop_eq_nil_of_le (by omega), List.take_of_length_le (by omega)]; simpa using Ev.now _)
    simp only [pads_Take.l0]
    rw [if_neg (by omega)]
  | succ d ih =>
    intro i x hi hx hu
    have hlt : i < x.length := by omega
    have h0 : 0 ≤ rd x (i : Int) := hu _ (by rw [drop_at hlt]; exact List.mem_cons_self ..)
    have e := ih (i + 1) (x.set i (rd x (i : Int) % p)) (by simp; omega) (by simpa using hx) (fun y hy => by
      rw [List.drop_set_of_lt (by omega)] at hy
      exact hu y (by rw [drop_at hlt]; exact List.mem_cons_of_mem _ hy))
    rw [List.drop_set_of_lt (by omega), List.length_set] at e
    have e2 : (x.set i (rd x (i : Int) % p)).take (i + 1) = x.take i ++ [rd x (i : Int) % p] := by
      rw [List.take_set, List.take_succ_eq_append_getElem hlt, List.set_append_right _ _ (by rw [List.length_take]; omega)]
      simp [Nat.min_eq_left (Nat.le_of_lt hlt)]
    rw [e2] at e
    refine Ev.step (f := fun k => pads_Take.l0 k (x.set i (rd x (i : Int) % p)) next p (x.length : Int) ((i + 1 : Nat) : Int)) (fun k => ?_) (by rw [drop_at hlt]; simpa using e)
    simp only [pads_Take.l0]
    rw [if_pos (by omega), if_pos (by omega), if_pos (by omega), if_neg (by omega), w64 (by omega) (by omega), Int.tmod_eq_emod_of_nonneg h0]
    rfl
theorem cut_at (l : List Int) {a m : Int} (ha : 0 ≤ a) (hm : 0 ≤ m) : (l.take (a + m).toNat).drop a.toNat = (l.drop a.toNat).take m.toNat := by
  rw [List.drop_take, show (a + m).toNat - a.toNat = m.toNat by omega]
theorem Take_f (f : Int) (l : List Int) (at_ many : Int) (hl : l.length ≤ 17592186043904) (hu : U64 l) (ha : -9223372036854775808 ≤ at_ ∧ at_ ≤ 9223372036854775807) (hm : -9223372036854775808 ≤ many ∧ many ≤ 9223372036854775807) :
    Ev (fun k => pads_Take.f k f l at_ many) (takeOf f l at_ many) := by
  unfold pads_Take.f takeOf
  refine Ev.bind (f := fun k bt => _) (Prime_f f) ?_
  by_cases hf : isF f = true
  · simp only [hf, if_true, true_and]
    have hp := prime_pos hf
    have bad : ∀ x p, Ev (fun k => pads_Take.j0 k l at_ many x p true) ([], 0, 2) := fun x p => Ev.step (f := fun _ => some ([], 0, 2)) (fun k => by simp [pads_Take.j0]) (Ev.now _)
    unfold pads_within.f
    by_cases h0 : at_ ≥ 0
    · simp only [if_pos h0, Option.bind_some]
      by_cases h1 : at_ ≤ (l.length : Int)
      · simp only [show decide (at_ ≤ (l.length : Int)) = true by simpa using h1, if_true]
        by_cases h2 : many < 0
        · simp only [show decide (many < 0) = true by simpa using h2]
          rw [if_neg (by omega)]
          exact bad _ _
        · simp only [show decide (many < 0) = false by simpa using h2]
          rw [if_pos (by omega)]
          by_cases h3 : many > (l.length : Int) - at_
          · rw [if_pos h3]
            refine Ev.step (f := fun _ => some ([], 0, 7)) (fun k => ?_) (Ev.now _)
            simp only [pads_Take.j0, Bool.false_eq_true, if_false]
            rw [w64 (by omega) (by omega), if_pos h3]
          · rw [if_neg h3]
            have hlen : ((l.drop at_.toNat).take many.toNat).length = many.toNat := by simp; omega
            refine Ev.step (f := fun k => pads_Take.l0 k ((l.drop at_.toNat).take many.toNat) (at_ + many) (prime f) (((l.drop at_.toNat).take many.toNat).length : Int) 0) (fun k => ?_) ?_
            · simp only [pads_Take.j0, Bool.false_eq_true, if_false]
              rw [w64 (x := (l.length : Int) - at_) (by omega) (by omega), if_neg h3, w64 (x := at_ + many) (by omega) (by omega), if_pos h0, if_pos (by omega), if_pos (by omega), cut_at l h0 (by omega), if_pos (by simp; omega)]
              rfl
            · have := Take_l0 (prime f) (at_ + many) hp ((l.drop at_.toNat).take many.toNat).length 0 ((l.drop at_.toNat).take many.toNat) (by omega) (by omega) (fun y hy => (hu y (List.mem_of_mem_drop (List.mem_of_mem_take (List.mem_of_mem_drop hy)))).1)
              simpa using this
      · simp only [show decide (at_ ≤ (l.length : Int)) = false by simpa using h1, Bool.false_eq_true, if_false]
        rw [if_neg (by omega)]
        exact bad _ _
    · simp only [if_neg h0, Option.bind_some, Bool.false_eq_true, if_false]
      rw [if_neg (by omega)]
      exact bad _ _
  · simp only [hf, Bool.false_eq_true, if_false, false_and]
    simp only [if_neg (show ¬ (2 : Int) = 0 by decide)]
    exact Ev.now _
theorem anchored19_f : Ev (fun k => conclavelaw19_anchored.f k) true := by
  unfold conclavelaw19_anchored.f
  refine Ev.bind (f := fun k bt => _) (Take_f 1 [7, 2013265922, 9] 1 2 (by decide) (by intro x hx; simp at hx; omega) (by omega) (by omega)) ?_
  refine Ev.bind (f := fun k bt => _) (Take_f 1 [7] 1 1 (by decide) (by intro x hx; simp at hx; omega) (by omega) (by omega)) ?_
  have e1 : takeOf 1 [7, 2013265922, 9] 1 2 = ([1, 9], 3, 0) := by decide
  have e2 : takeOf 1 [7] 1 1 = ([], 0, 7) := by decide
  rw [e1, e2]
  simp only [if_true]
  exact Ev.bind (f := fun k t => some t) (fSame_f [1, 9] [1, 9] (by simp)) (by simpa using Ev.now _)
end Go.Proofs.Ytclanpkekocndaa.Plain
end
section
/- Proved: PadsChain: two calls of Take one behind the other take what one call takes. No condition beyond the statement's own. -/
namespace Go.Proofs.Ytclanpkekocndaa.Pure
open Go.RowKit Go.Proofs.Ytclanpkekocndaa.P Go.Proofs.Ytclanpkekocndaa.Plain Go.Proofs.YtclanpkekocndaaW.PrintWords Go.Proofs.YtclanpkekocndaaW.PrintLast
set_option linter.unusedVariables false
set_option linter.unusedSimpArgs false

theorem PadsChain : Form.PadsChain.Pure := by
  intro a l p q r ha hl hp hq hr
  obtain ⟨hl0, hl8, hu⟩ := hl
  have ha := wf_u8 ha
  have hp := wf_u8 hp
  have hq := wf_u8 hq
  have hr := wf_u8 hr
  have hU := u64_of_wf hu
  have hlen : l.length ≤ 17592186043904 := by omega
  obtain ⟨g, hgd⟩ : ∃ g, g = ((Int.tmod a 2) + 1) % 256 := ⟨_, rfl⟩
  have hg : isF g = true := by
    rw [hgd, Int.tmod_eq_emod_of_nonneg ha.1]
    have h2 := Int.emod_two_eq a
    rcases h2 with h2 | h2 <;> rw [h2] <;> decide
  refine Ev.rounds ?_
  unfold conclavelaw19_PadsChain.f
  rw [← hgd]
  simp only [w64 (x := p) (by omega) (by omega), w64 (x := q) (by omega) (by omega), w64 (x := r) (by omega) (by omega), w64 (x := p + q) (by omega) (by omega), w64 (x := q + r) (by omega) (by omega), w64 (x := p + q + r) (by omega) (by omega)]
  refine Ev.bind (f := fun k bt => _) (Take_f g l p q hlen hU (by omega) (by omega)) ?_
  by_cases h1 : p + q > (l.length : Int)
  · simp only [if_pos h1]
    refine Ev.bind (f := fun k t => _) anchored19_f ?_
    simp only [if_true]
    have : (takeOf g l p q).2.2 ≠ 0 := by
      unfold takeOf
      by_cases h2 : p ≤ (l.length : Int)
      · rw [if_pos ⟨hg, by omega, h2, by omega⟩, if_pos (by omega)]; decide
      · rw [if_neg (by omega)]; decide
    rw [bne_iff_ne.2 this]
    exact Ev.now _
  · simp only [if_neg h1]
    have e1 : takeOf g l p q = (((l.drop p.toNat).take q.toNat).map (· % prime g), p + q, 0) := by
      unfold takeOf
      rw [if_pos ⟨hg, by omega, by omega, by omega⟩, if_neg (by omega)]
    rw [e1]
    simp only
    refine Ev.bind (f := fun k bt => _) (Take_f g l (p + q) r hlen hU (by omega) (by omega)) ?_
    refine Ev.bind (f := fun k bt => _) (Take_f g l p (q + r) hlen hU (by omega) (by omega)) ?_
    by_cases h2 : p + q + r > (l.length : Int)
    · simp only [if_pos h2]
      have e2 : takeOf g l (p + q) r = ([], 0, 7) := by unfold takeOf; rw [if_pos ⟨hg, by omega, by omega, by omega⟩, if_pos (by omega)]
      have e3 : takeOf g l p (q + r) = ([], 0, 7) := by unfold takeOf; rw [if_pos ⟨hg, by omega, by omega, by omega⟩, if_pos (by omega)]
      rw [e2, e3]
      refine Ev.bind (f := fun k t => _) anchored19_f ?_
      simp only [if_true, beq_self_eq_true]
      exact Ev.now _
    · simp only [if_neg h2]
      have e2 : takeOf g l (p + q) r = (((l.drop (p + q).toNat).take r.toNat).map (· % prime g), p + q + r, 0) := by unfold takeOf; rw [if_pos ⟨hg, by omega, by omega, by omega⟩, if_neg (by omega)]
      have e3 : takeOf g l p (q + r) = (((l.drop p.toNat).take (q + r).toNat).map (· % prime g), p + (q + r), 0) := by unfold takeOf; rw [if_pos ⟨hg, by omega, by omega, by omega⟩, if_neg (by omega)]
      rw [e2, e3]
      refine Ev.bind (f := fun k t => _) anchored19_f ?_
      simp only [if_true, Int.add_assoc]
      unfold conclaveref01_Copy.f
      simp only [Option.bind_some, List.length_nil, Nat.zero_add, List.nil_append]
      simp only [if_pos (show ((List.drop p.toNat l).take q.toNat |>.map (· % prime g)).length < 17592186044416 by simp; omega), Option.bind_some]
      simp only [if_pos (show ((List.drop p.toNat l).take q.toNat |>.map (· % prime g)).length + ((l.drop (p + q).toNat).take r.toNat |>.map (· % prime g)).length < 17592186044416 by simp; omega)]
      have e4 : ((List.drop p.toNat l).take q.toNat).map (· % prime g) ++ ((l.drop (p + q).toNat).take r.toNat).map (· % prime g) = ((l.drop p.toNat).take (q + r).toNat).map (· % prime g) := by
        rw [← List.map_append]
        congr 1
        rw [show (q + r).toNat = q.toNat + r.toNat by omega, List.take_add, List.drop_drop, show p.toNat + q.toNat = (p + q).toNat by omega]
      rw [e4]
      exact Ev.bind (f := fun k t => some t) (fSame_f _ _ (by simp; omega)) (by simpa using Ev.now _)
end Go.Proofs.Ytclanpkekocndaa.Pure
end
section
-- Written by a program of ours: the row of the law, out of its pure statement and the printed walk.
namespace Go.Proofs.Ytclanpkekocndaa.padsChain
open Go.ChangeShapes Go.WideShapes Go.ChangeAt Go.RowKit Go.Proofs.YtclanpkekocndaaW.PrintWords Go.Proofs.Ytclanpkekocndaa.P Go.Proofs.Ytclanpkekocndaa.Form.PadsChain
set_option linter.unusedVariables false
theorem own : ownKnob Try.prog.godebug = none := by kernel_rfl
theorem laidOut : laidOutB Try.prog = true := by kernel_rfl
set_option maxRecDepth 100000 in
theorem lifted (os : Os) (started : os.Started) (H : Type) (enc : TypeId × Value → H) :
    ReturnsInHanded {} Try.checked os 4 .any (Rows.padsChainSpec.pre6 enc Try.prog Try.f4 Rows.padsChainRow.domain false) (Rows.padsChainSpec.post enc Try.prog Try.f4 false true false false) := by
  refine returnsInHanded_of_change_sized (C := Try.checked) own started (by kernel_rfl) Try.func4
    (ChangeSpec.witness6 (enc := enc) (C := Try.checked) false ⟨#[], #[.int .u8 0, .slice none 0 0, .agg #[.int .u8 0, .int .u8 0, .int .u8 0]], []⟩ 8 (by kernel_rfl) (by kernel_rfl) (by kernel_rfl) (by kernel_rfl)) ?_
  intro W base args ds gs before hval0 hW hcnd hsz0 _
  have hsz : (DataW.weightsEach Try.prog (Try.f4.params.toList ++ Rows.padsChainSpec.plain.varTypes Try.prog) (ds ++ gs)).all (· ≤ reachBytes) = true := hsz0
  have hval : ∀ (j : Nat) t v, Try.f4.params[j]? = some t → args[j]? = some v → Value.okWide Try.prog W .any base t v := hval0
  have hW' := hW
  obtain ⟨p, q, hA0, hV, rfl, hfz, hnd⟩ := hW
  have hA : DataW.TrodAll enc Try.prog W 0 (fun _ => true) true Try.f4.params.toList args.toList ds p := hA0
  rw [Try.params4] at hA hval hsz
  obtain ⟨v0, vs0, d0, ds0, p0, q0, hargs, rfl, rfl, h0, r0⟩ := trodAll_cons hA
  obtain ⟨v1, vs1, d1, ds1, p1, q1, rfl, rfl, rfl, h1, r1⟩ := trodAll_cons r0
  obtain ⟨v2, vs2, d2, ds2, p2, q2, rfl, rfl, rfl, h2, r2⟩ := trodAll_cons r1
  obtain ⟨rfl, rfl, rfl⟩ := trodAll_nil r2
  obtain rfl : args = #[v0, v1, v2] := by cases args; simp_all
  obtain ⟨rfl, rfl⟩ := trodVars_none hV
  obtain ⟨a0, rfl, rfl, rfl, w0⟩ := open_int Try.underlying5 (hval 0 5 v0 rfl rfl) h0
  have k1_ := h1
  have lt1 : ∀ x ∈ p1, x.block < W.heap.size := by obtain ⟨m, hm⟩ := k1_; exact DataW.trod_lt m _ _ _ hm
  obtain ⟨b1, len1, cap1, rfl⟩ := okWide_slice Try.underlying36 (hval 1 36 v1 rfl rfl)
  obtain ⟨l1, ⟨A1, c1, hcs1, hc1, hr1⟩, F1⟩ := Open.opens_at (Open.opens_slice (d := (Kd.int .u64)) Try.underlying36 (by kernel_rfl) (show 0 < 1 from by decide) (B := 8) (by kernel_rfl) (Open.opens_int Try.underlying32 (by kernel_rfl))) h1 hsz (j := 1) rfl rfl
  simp [Value.cells] at hcs1
  obtain ⟨rfl, rfl, rfl⟩ := hcs1
  have k2_ := h2
  have lt2 : ∀ x ∈ p2, x.block < W.heap.size := by obtain ⟨m, hm⟩ := k2_; exact DataW.trod_lt m _ _ _ hm
  obtain ⟨z2, rfl, _⟩ := Open.okWide_array Try.underlying37 (hval 2 37 v2 rfl rfl)
  obtain ⟨⟨a2_0, a2_1, a2_2⟩, K2, ⟨F2_0, F2_1, F2_2⟩⟩ := Open.opens_at (Open.opens_array (n := 3) Try.underlying37 (by kernel_rfl) (Open.opensL_rep rfl (Open.opensL_cons (Open.opens_int Try.underlying5 (by kernel_rfl)) (Open.opensL_cons (Open.opens_int Try.underlying5 (by kernel_rfl)) (Open.opensL_one (Open.opens_int Try.underlying5 (by kernel_rfl)))))) id id (fun _ => rfl)) h2 hsz (j := 2) rfl rfl
  have hz2 : ∀ cs : List Value, (z2.toList = cs) → z2 = cs.toArray := fun cs h => by rw [← h]
  obtain ⟨cs2, hcs2, K2'⟩ : ∃ cs, z2.toList = cs ∧ _ := ⟨_, rfl, K2⟩
  obtain ⟨_, _, rfl, rfl, ⟨_, _, rfl, rfl, rfl⟩⟩ := K2'
  obtain rfl := hz2 _ hcs2
  clear hA0 hval0 hsz0 hsz
  obtain ⟨k, h⟩ := Pure.PadsChain _ _ _ _ _ w0 F1 F2_0 F2_1 F2_2
  refine (conclavelaw19_PadsChain.calls k _ _ _ _ _ _ _ true W hr1 hc1 h rfl).mono fun e W' hee => ?_
  obtain ⟨he, bel⟩ := hee
  have bel : Below W.heap.size W W' := by first | exact bel | exact bel.below
  subst he
  exact ⟨_, rfl, _, _, _, [], _, [], hW', trodAll_mk1 (shut_bool Try.underlying4 _), (trodAll_cons_mk (shut_int Try.underlying5 w0) (trodAll_cons_mk (Below.trod laidOut (by kernel_rfl) (of_decide_eq_true (by kernel_rfl)) k1_ bel lt1) (trodAll_cons_mk (Below.trod laidOut (by kernel_rfl) (of_decide_eq_true (by kernel_rfl)) k2_ bel lt2) trodAll_mk0))), rfl, bel.frame _, fun h => by cases h⟩
theorem over : Rows.padsChainRow.holds Try.pinned (OpenSpec.ofChange Rows.padsChainSpec) :=
  OpenClaim.holds_of_wide 4 Try.f4 rfl rfl rfl rfl rfl rfl rfl ⟨rfl, rfl, rfl, rfl, rfl⟩ rfl rfl rfl rfl rfl (by kernel_rfl) Try.func4 (by kernel_rfl)
    (of_decide_eq_true (by kernel_rfl)) (by unfold Func.isWrapper; first | (rw [if_pos (by decide +kernel)]; kernel_rfl) | (rw [if_neg (by decide +kernel)]; exact ⟨rfl, rfl⟩))
    (fun os started H enc _ => lifted os started H enc)
theorem proved : Rows.PadsChainSaid := over
end Go.Proofs.Ytclanpkekocndaa.padsChain
namespace Go.Proofs.Ytclanpkekocndaa
/-- The row, under a short name, for the claim. -/
theorem padsChain_holds : Rows.PadsChainSaid := padsChain.proved
end Go.Proofs.Ytclanpkekocndaa
end
