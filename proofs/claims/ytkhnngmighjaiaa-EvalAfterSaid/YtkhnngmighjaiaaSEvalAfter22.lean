import Derived.Test.YtkhnngmighjaiaaSEvalAfter15
import Derived.Test.YtkhnngmighjaiaaSEvalAfter16
import Derived.Test.YtkhnngmighjaiaaSEvalAfter18
import Derived.Test.YtkhnngmighjaiaaSEvalAfter19
import Derived.Test.YtkhnngmighjaiaaSEvalAfter20
import Derived.Test.YtkhnngmighjaiaaSEvalAfter21
import Derived.Shelf.Bits.Mul64
import Derived.Test.YtkhnngmighjaiaaRows
import Derived.WalkKit
import Derived.ProofKit
import Derived.OpenShut
import Derived.ShutString
import Derived.ChangeOld
import Derived.Below
import Derived.SizedLaws
section
namespace Go.Proofs.Ytkhnngmighjaiaa.Form.EvalAfter
open Go.RowKit Go.Proofs.Ytkhnngmighjaiaa.P Go.Proofs.YtkhnngmighjaiaaW.PrintWords Go.Proofs.YtkhnngmighjaiaaW.PrintLast
set_option linter.unusedVariables false
def Wf70 (x : S70) : Prop := ((Lit.int .u8 x.f0).wf = true) ∧ ((Lit.int .i64 x.f1).wf = true) ∧ ((Lit.int .i64 x.f2).wf = true) ∧ (Lit.int .u64 x.f3).wf = true
theorem opens70 : Open.Opens Try.prog k70 70 Wf70 := Open.opens_struct Try.underlying70 (by kernel_rfl) (by kernel_rfl) (by kernel_rfl) (Open.opensL_cons (Open.opens_int Try.underlying68 (by kernel_rfl)) (Open.opensL_cons (Open.opens_int Try.underlying3 (by kernel_rfl)) (Open.opensL_cons (Open.opens_int Try.underlying3 (by kernel_rfl)) (Open.opensL_one (Open.opens_int Try.underlying54 (by kernel_rfl)))))) (fun x : S70 => (x.f0, x.f1, x.f2, x.f3)) (fun p => ⟨p.1, p.2.1, p.2.2.1, p.2.2.2⟩) (fun _ => rfl)
def Pure : Prop := ∀ (a0 : Int) (a1_0 : Int) (l1_1 : List (S70)) (l1_2 : List Int) (a1_3 : Int) (l1_4 : List (S70)) (l1_5 : List Int) (l2 : List Int), ((Lit.int .u8 a0).wf = true) → ((Lit.int .i64 a1_0).wf = true) → (l1_1.length ≤ maxLen ∧ l1_1.length * 32 ≤ 140737488351232 ∧ ∀ y7 ∈ l1_1, Wf70 y7) → (l1_2.length ≤ maxLen ∧ l1_2.length * 8 ≤ 140737488351232 ∧ ∀ y8 ∈ l1_2, (Lit.int .i64 y8).wf = true) → ((Lit.int .i64 a1_3).wf = true) → (l1_4.length ≤ maxLen ∧ l1_4.length * 32 ≤ 140737488351232 ∧ ∀ y9 ∈ l1_4, Wf70 y9) → (l1_5.length ≤ maxLen ∧ l1_5.length * 8 ≤ 140737488351232 ∧ ∀ y10 ∈ l1_5, (Lit.int .i64 y10).wf = true) → (l2.length ≤ maxLen ∧ l2.length * 8 ≤ 140737488351232 ∧ ∀ y11 ∈ l2, (Lit.int .u64 y11).wf = true) → ∃ k, conclavelaw11_EvalAfter.f k a0 a1_0 l1_1 l1_2 a1_3 l1_4 l1_5 l2 = some true
end Go.Proofs.Ytkhnngmighjaiaa.Form.EvalAfter
end
section
namespace Go.Proofs.Ytkhnngmighjaiaa.Plain
open Go.RowKit Go.Proofs.YtkhnngmighjaiaaW.PrintWords Go.Proofs.YtkhnngmighjaiaaW.PrintLast Go.Proofs.YtkhnngmighjaiaaW.PrintMore
set_option linter.unusedVariables false
set_option linter.unusedSimpArgs false
theorem w64 {x : Int} (h0 : -9223372036854775808 ≤ x) (h1 : x ≤ 9223372036854775807) : wrap64 x = x := by unfold wrap64; omega
theorem wu64 (x : Int) : IntKind.u64.wrap x = x % 18446744073709551616 := by simp [IntKind.wrap, IntKind.bits, IntKind.signed]
theorem wu64_in {x : Int} (h0 : 0 ≤ x) (h1 : x < 18446744073709551616) : IntKind.u64.wrap x = x := by rw [wu64]; omega
theorem wf_u64 {x : Int} (h : (Lit.int .u64 x).wf = true) : 0 ≤ x ∧ x < 18446744073709551616 := by
  simp [Lit.wf, IntKind.min, IntKind.max, IntKind.bits, IntKind.signed] at h; omega
def Bytes (l : List Int) : Prop := ∀ x ∈ l, 0 ≤ x ∧ x < 256
theorem Bytes.take {l : List Int} (h : Bytes l) (n : Nat) : Bytes (l.take n) := fun x hx => h x (List.mem_of_mem_take hx)
theorem Bytes.drop {l : List Int} (h : Bytes l) (n : Nat) : Bytes (l.drop n) := fun x hx => h x (List.mem_of_mem_drop hx)
theorem Bytes.append {a b : List Int} (h : Bytes a) (h' : Bytes b) : Bytes (a ++ b) := fun x hx => (List.mem_append.1 hx).elim (h x) (h' x)
theorem rd_at {l : List Int} {i : Nat} (h : i < l.length) : rd l (i : Int) = l[i] := by simp [rd, h]
theorem drop_at {l : List Int} {i : Nat} (h : i < l.length) : l.drop i = rd l (i : Int) :: l.drop (i + 1) := by rw [rd_at h, List.drop_eq_getElem_cons h]
end Go.Proofs.Ytkhnngmighjaiaa.Plain
end
section
namespace Go.Proofs.Ytkhnngmighjaiaa.Plain
open Go.RowKit Go.Proofs Go.Proofs.Ytkhnngmighjaiaa.P Go.Proofs.YtkhnngmighjaiaaW.PrintWords Go.Proofs.YtkhnngmighjaiaaW.PrintLast Go.Proofs.YtkhnngmighjaiaaW.PrintMore
set_option linter.unusedVariables false
set_option linter.unusedSimpArgs false
abbrev OpS := S70
abbrev rdO (l : List OpS) (i : Int) : OpS := rd_T70 l i
theorem rdO_at {l : List OpS} {i : Nat} (h : i < l.length) : rdO l (i : Int) = l[i] := by simp [rdO, rd_T70, h]
theorem dropO_at {l : List OpS} {i : Nat} (h : i < l.length) : l.drop i = rdO l (i : Int) :: l.drop (i + 1) := by rw [rdO_at h, List.drop_eq_getElem_cons h]
def okO (m : Int) (o : OpS) : Bool :=
  if o.f0 = 1 ∨ o.f0 = 2 ∨ o.f0 = 3 then decide (0 ≤ o.f1) && decide (o.f1 < m) && decide (0 ≤ o.f2) && decide (o.f2 < m) && decide (o.f3 = 0)
  else decide (o.f0 = 4) && decide (o.f1 = 0) && decide (o.f2 = 0)
def okOps (n : Int) : Nat → List OpS → Bool
  | _, [] => true
  | i, o :: l => okO (n + (i : Int)) o && okOps n (i + 1) l
def okOuts (m : Int) (l : List Int) : Bool := l.all fun v => decide (0 ≤ v) && decide (v < m)
def mayB (n : Int) (ops : List OpS) (outs : List Int) : Bool :=
  decide (0 ≤ n) && decide (n ≤ 64) && decide (ops.length ≤ 256) && decide (outs.length ≤ 64) && okOps n 0 ops && okOuts (n + (ops.length : Int)) outs
theorem okOuts_drop {m : Int} {l : List Int} {i : Nat} (h : i < l.length) : okOuts m (l.drop i) = ((decide (0 ≤ rd l (i : Int)) && decide (rd l (i : Int) < m)) && okOuts m (l.drop (i + 1))) := by
  rw [drop_at h]; simp [okOuts]
theorem okOps_drop {n : Int} {l : List OpS} {i : Nat} (h : i < l.length) : okOps n i (l.drop i) = (okO (n + (i : Int)) (rdO l (i : Int)) && okOps n (i + 1) (l.drop (i + 1))) := by
  rw [dropO_at h]; simp only [okOps]
theorem outsBad_ev (n : Int) (len : Int) (outs : List Int) (h0 : 0 ≤ n) (h1 : n ≤ 64) (h2 : 0 ≤ len) (h3 : len ≤ 256) (ho : outs.length ≤ 64) : ∀ (d i : Nat), i + d = outs.length →
    Ev (fun k => slp_outsBad.l0 k outs n len (i : Int)) (!okOuts (n + len) (outs.drop i)) := by
  intro d
  induction d with
  | zero =>
    intro i hi
    refine Ev.step (f := fun _ => some false) (fun k => ?_) ?_
    · simp only [slp_outsBad.l0]; rw [if_neg (by omega)]
    · rw [List.drop_eq_nil_of_le (by omega)]; exact Ev.now _
  | succ d ih =>
    intro i hi
    have hw : wrap64 (n + len) = n + len := w64 (by omega) (by omega)
    have e1 : wrap64 ((i : Int) + 1) = ((i + 1 : Nat) : Int) := by rw [w64 (by omega) (by omega)]; rfl
    rw [okOuts_drop (by omega)]
    by_cases c1 : rd outs (i : Int) < 0
    · refine Ev.step (f := fun _ => some true) (fun k => ?_) ?_
      · simp only [slp_outsBad.l0]; rw [if_pos (by omega), if_pos (by omega), if_pos c1]
      · rw [decide_eq_false (show ¬ 0 ≤ rd outs (i : Int) by omega)]; exact Ev.now _
    · by_cases c2 : rd outs (i : Int) ≥ n + len
      · refine Ev.step (f := fun _ => some true) (fun k => ?_) ?_
        · simp only [slp_outsBad.l0]; rw [if_pos (by omega), if_pos (by omega), if_neg c1, hw, if_pos c2]
        · rw [decide_eq_false (show ¬ rd outs (i : Int) < n + len by omega), Bool.and_false]; exact Ev.now _
      · refine Ev.step (f := fun k => slp_outsBad.l0 k outs n len ((i + 1 : Nat) : Int)) (fun k => ?_) ?_
        · simp only [slp_outsBad.l0]; rw [if_pos (by omega), if_pos (by omega), if_neg c1, hw, if_neg c2, e1]
        · rw [decide_eq_true (show 0 ≤ rd outs (i : Int) by omega), decide_eq_true (show rd outs (i : Int) < n + len by omega)]
          simp only [Bool.true_and]
          exact ih (i + 1) (by omega)
theorem slpMay_l0 (n : Int) (ops : List OpS) (outs : List Int) (h0 : 0 ≤ n) (h1 : n ≤ 64) (h3 : ops.length ≤ 256) (ho : outs.length ≤ 64) : ∀ (d i : Nat), i + d = ops.length →
    Ev (fun k => slp_May.l0 k ops (ops.length : Int) (i : Int) n ops outs) (okOps n i (ops.drop i) && okOuts (n + (ops.length : Int)) outs) := by
  intro d
  induction d with
  | zero =>
    intro i hi
    rw [List.drop_eq_nil_of_le (by omega)]
    simp only [okOps, Bool.true_and]
    have h := outsBad_ev n (ops.length : Int) outs h0 h1 (by omega) (by omega) ho outs.length 0 (by omega)
    refine Ev.step (f := fun k => (slp_outsBad.f k outs n (ops.length : Int)).bind fun t => some (!t)) (fun k => ?_) ?_
    · simp only [slp_May.l0]; rw [if_neg (by omega)]
    · refine Ev.bind (f := fun _ t => some (!t)) (a := !okOuts (n + (ops.length : Int)) outs) h ?_
      rw [Bool.not_not]; exact Ev.now _
  | succ d ih =>
    intro i hi
    have hw : wrap64 (n + (i : Int)) = n + (i : Int) := w64 (by omega) (by omega)
    have e1 : wrap64 ((i : Int) + 1) = ((i + 1 : Nat) : Int) := by rw [w64 (by omega) (by omega)]; rfl
    have hi1 := ih (i + 1) (by omega)
    rw [okOps_drop (by omega)]
    obtain ⟨o, ho'⟩ : ∃ o : OpS, o = rdO ops (i : Int) := ⟨_, rfl⟩
    rw [← ho']
    have hstep : Ev (fun k => slp_May.j2 k (n + (i : Int)) ops (ops.length : Int) (i : Int) o.f0 (decide (o.f0 = 1 ∨ o.f0 = 2 ∨ o.f0 = 3)) n ops outs o.f0 o.f1 o.f2 o.f3) (okO (n + (i : Int)) o && okOps n (i + 1) (ops.drop (i + 1)) && okOuts (n + (ops.length : Int)) outs) := by
      by_cases c : o.f0 = 1 ∨ o.f0 = 2 ∨ o.f0 = 3
      · by_cases cc : 0 ≤ o.f1 ∧ o.f1 < n + (i : Int) ∧ 0 ≤ o.f2 ∧ o.f2 < n + (i : Int) ∧ o.f3 = 0
        · obtain ⟨a1, a2, a3, a4, a5⟩ := cc
          refine Ev.step (f := fun k => slp_May.l0 k ops (ops.length : Int) ((i + 1 : Nat) : Int) n ops outs) (fun k => ?_) ?_
          · simp only [slp_May.j2]
            rw [decide_eq_true c, if_pos rfl, if_neg (by omega), if_neg (by omega), if_neg (by omega), if_neg (by omega), if_pos a5, e1]
          · rw [show okO (n + (i : Int)) o = true by unfold okO; rw [if_pos c, decide_eq_true a1, decide_eq_true a2, decide_eq_true a3, decide_eq_true a4, decide_eq_true a5]; rfl]
            exact hi1
        · refine Ev.step (f := fun _ => some false) (fun k => ?_) ?_
          · simp only [slp_May.j2]
            rw [decide_eq_true c, if_pos rfl]
            by_cases b1 : o.f1 < 0
            · rw [if_pos b1]
            · rw [if_neg b1]
              by_cases b2 : o.f1 ≥ n + (i : Int)
              · rw [if_pos b2]
              · rw [if_neg b2]
                by_cases b3 : o.f2 < 0
                · rw [if_pos b3]
                · rw [if_neg b3]
                  by_cases b4 : o.f2 ≥ n + (i : Int)
                  · rw [if_pos b4]
                  · rw [if_neg b4, if_neg (by omega)]
          · rw [show okO (n + (i : Int)) o = false by
              unfold okO; rw [if_pos c]
              simp only [Bool.and_eq_false_iff, decide_eq_false_iff_not]
              omega]
            exact Ev.now _
      · by_cases cc : o.f0 = 4 ∧ o.f1 = 0 ∧ o.f2 = 0
        · obtain ⟨a1, a2, a3⟩ := cc
          refine Ev.step (f := fun k => slp_May.l0 k ops (ops.length : Int) ((i + 1 : Nat) : Int) n ops outs) (fun k => ?_) ?_
          · simp only [slp_May.j2]
            rw [decide_eq_false c, if_neg (by simp), if_pos a1, if_pos a2, if_pos a3, e1]
          · rw [show okO (n + (i : Int)) o = true by unfold okO; rw [if_neg c, decide_eq_true a1, decide_eq_true a2, decide_eq_true a3]; rfl]
            exact hi1
        · refine Ev.step (f := fun _ => some false) (fun k => ?_) ?_
          · simp only [slp_May.j2]
            rw [decide_eq_false c, if_neg (by simp)]
            by_cases b1 : o.f0 = 4
            · rw [if_pos b1]
              by_cases b2 : o.f1 = 0
              · rw [if_pos b2, if_neg (by omega)]
              · rw [if_neg b2]
            · rw [if_neg b1]
          · rw [show okO (n + (i : Int)) o = false by
              unfold okO; rw [if_neg c]
              simp only [Bool.and_eq_false_iff, decide_eq_false_iff_not]
              omega]
            exact Ev.now _
    refine Ev.step (f := fun k => slp_May.j2 k (n + (i : Int)) ops (ops.length : Int) (i : Int) o.f0 (decide (o.f0 = 1 ∨ o.f0 = 2 ∨ o.f0 = 3)) n ops outs o.f0 o.f1 o.f2 o.f3) (fun k => ?_) hstep
    simp only [slp_May.l0]
    rw [if_pos (by omega), if_pos (by omega), if_pos (by omega), hw]
    change (if (rdO ops (i : Int)).f0 = 1 then slp_May.j2 k (n + (i : Int)) ops (ops.length : Int) (i : Int) (rdO ops (i : Int)).f0 ((rdO ops (i : Int)).f0 == 1) n ops outs (rdO ops (i : Int)).f0 (rdO ops (i : Int)).f1 (rdO ops (i : Int)).f2 (rdO ops (i : Int)).f3 else if (rdO ops (i : Int)).f0 = 2 then slp_May.j2 k (n + (i : Int)) ops (ops.length : Int) (i : Int) (rdO ops (i : Int)).f0 ((rdO ops (i : Int)).f0 == 2) n ops outs (rdO ops (i : Int)).f0 (rdO ops (i : Int)).f1 (rdO ops (i : Int)).f2 (rdO ops (i : Int)).f3 else slp_May.j2 k (n + (i : Int)) ops (ops.length : Int) (i : Int) (rdO ops (i : Int)).f0 ((rdO ops (i : Int)).f0 == 3) n ops outs (rdO ops (i : Int)).f0 (rdO ops (i : Int)).f1 (rdO ops (i : Int)).f2 (rdO ops (i : Int)).f3) = _
    rw [← ho']
    by_cases q1 : o.f0 = 1
    · rw [if_pos q1, show (o.f0 == 1) = decide (o.f0 = 1 ∨ o.f0 = 2 ∨ o.f0 = 3) by rw [q1]; rfl]
    · rw [if_neg q1]
      by_cases q2 : o.f0 = 2
      · rw [if_pos q2, show (o.f0 == 2) = decide (o.f0 = 1 ∨ o.f0 = 2 ∨ o.f0 = 3) by rw [q2]; rfl]
      · rw [if_neg q2]
        by_cases q3 : o.f0 = 3
        · rw [show (o.f0 == 3) = decide (o.f0 = 1 ∨ o.f0 = 2 ∨ o.f0 = 3) by rw [q3]; rfl]
        · rw [show (o.f0 == 3) = decide (o.f0 = 1 ∨ o.f0 = 2 ∨ o.f0 = 3) by rw [decide_eq_false (by omega)]; simp [q3]]
theorem slpMay_f (n : Int) (ops : List OpS) (outs : List Int) : Ev (fun k => slp_May.f k n ops outs) (mayB n ops outs) := by
  have hbad : ∀ (b : Bool), b = false → Ev (fun k => slp_May.j0 k true n ops outs) b := fun b hb => by
    subst hb
    exact Ev.step (f := fun _ => some false) (fun k => by simp only [slp_May.j0, if_true]) (Ev.now _)
  unfold slp_May.f
  by_cases c1 : n < 0
  · simp only [if_pos c1]
    exact hbad _ (by unfold mayB; rw [decide_eq_false (show ¬ 0 ≤ n by omega)]; rfl)
  · simp only [if_neg c1]
    by_cases c2 : n > 64
    · simp only [if_pos c2]
      exact hbad _ (by unfold mayB; rw [decide_eq_false (show ¬ n ≤ 64 by omega)]; simp)
    · simp only [if_neg c2]
      by_cases c3 : (ops.length : Int) > 256
      · simp only [if_pos c3]
        exact hbad _ (by unfold mayB; rw [decide_eq_false (show ¬ ops.length ≤ 256 by omega)]; simp)
      · simp only [if_neg c3]
        by_cases c4 : (outs.length : Int) > 64
        · simp only [decide_eq_true c4]
          exact hbad _ (by unfold mayB; rw [decide_eq_false (show ¬ outs.length ≤ 64 by omega)]; simp)
        · simp only [decide_eq_false c4]
          have h := slpMay_l0 n ops outs (by omega) (by omega) (by omega) (by omega) ops.length 0 (by omega)
          refine Ev.step (f := fun k => slp_May.l0 k ops (ops.length : Int) 0 n ops outs) (fun k => by simp only [slp_May.j0, Bool.false_eq_true, if_false]) ?_
          unfold mayB
          rw [decide_eq_true (show 0 ≤ n by omega), decide_eq_true (show n ≤ 64 by omega), decide_eq_true (show ops.length ≤ 256 by omega), decide_eq_true (show outs.length ≤ 64 by omega)]
          simpa using h
theorem rop_f (m : Int) (o : OpS) : Ev (fun k => conclaveref09_op.f k o.f0 o.f1 o.f2 o.f3 m) (okO m o) := by
  have hj : Ev (fun k => conclaveref09_op.j0 k m o.f0 (decide (o.f0 = 1 ∨ o.f0 = 2 ∨ o.f0 = 3)) o.f0 o.f1 o.f2 o.f3) (okO m o) := by
    refine Ev.step (f := fun _ => some (okO m o)) (fun k => ?_) (Ev.now _)
    simp only [conclaveref09_op.j0]
    unfold okO
    by_cases c : o.f0 = 1 ∨ o.f0 = 2 ∨ o.f0 = 3
    · rw [decide_eq_true c, if_pos rfl, if_pos c]
      by_cases b1 : o.f1 ≥ 0
      · rw [if_pos b1, decide_eq_true (show 0 ≤ o.f1 from b1)]
        by_cases b2 : o.f1 < m
        · rw [if_pos b2, decide_eq_true b2]
          by_cases b3 : o.f2 ≥ 0
          · rw [if_pos b3, decide_eq_true (show 0 ≤ o.f2 from b3)]
            by_cases b4 : o.f2 < m
            · rw [if_pos b4, decide_eq_true b4]
              by_cases b5 : o.f3 = 0
              · rw [b5]; rfl
              · simp [b5]
            · rw [if_neg b4, decide_eq_false b4]; simp
          · rw [if_neg b3, decide_eq_false (show ¬ 0 ≤ o.f2 from b3)]; simp
        · rw [if_neg b2, decide_eq_false b2]; simp
      · rw [if_neg b1, decide_eq_false (show ¬ 0 ≤ o.f1 from b1)]; simp
    · rw [decide_eq_false c, if_neg (by simp), if_neg c]
      by_cases b1 : o.f0 = 4
      · rw [if_pos b1, decide_eq_true b1]
        by_cases b2 : o.f1 = 0
        · rw [if_pos b2, decide_eq_true b2]
          by_cases b3 : o.f2 = 0
          · rw [b3]; rfl
          · simp [b3]
        · rw [if_neg b2, decide_eq_false b2]; simp
      · rw [if_neg b1, decide_eq_false b1]; simp
  unfold conclaveref09_op.f
  by_cases q1 : o.f0 = 1
  · simp only [if_pos q1]
    rw [show (o.f0 == 1) = decide (o.f0 = 1 ∨ o.f0 = 2 ∨ o.f0 = 3) by rw [q1]; rfl]; exact hj
  · simp only [if_neg q1]
    by_cases q2 : o.f0 = 2
    · simp only [if_pos q2]
      rw [show (o.f0 == 2) = decide (o.f0 = 1 ∨ o.f0 = 2 ∨ o.f0 = 3) by rw [q2]; rfl]; exact hj
    · simp only [if_neg q2]
      by_cases q3 : o.f0 = 3
      · rw [show (o.f0 == 3) = decide (o.f0 = 1 ∨ o.f0 = 2 ∨ o.f0 = 3) by rw [q3]; rfl]; exact hj
      · rw [show (o.f0 == 3) = decide (o.f0 = 1 ∨ o.f0 = 2 ∨ o.f0 = 3) by rw [decide_eq_false (by omega)]; simp [q3]]; exact hj
theorem rMay_l1 (n : Int) (ops : List OpS) (outs : List Int) (h0 : 0 ≤ n) (h1 : n ≤ 64) (h3 : ops.length ≤ 256) (ho : outs.length ≤ 64) : ∀ (d i : Nat), i + d = outs.length →
    Ev (fun k => conclaveref09_May.l1 k (i : Int) n ops outs) (okOuts (n + (ops.length : Int)) (outs.drop i)) := by
  intro d
  induction d with
  | zero =>
    intro i hi
    refine Ev.step (f := fun _ => some true) (fun k => ?_) ?_
    · simp only [conclaveref09_May.l1]; rw [if_neg (by omega)]
    · rw [List.drop_eq_nil_of_le (by omega)]; exact Ev.now _
  | succ d ih =>
    intro i hi
    have hw : wrap64 (n + (ops.length : Int)) = n + (ops.length : Int) := w64 (by omega) (by omega)
    have e1 : wrap64 ((i : Int) + 1) = ((i + 1 : Nat) : Int) := by rw [w64 (by omega) (by omega)]; rfl
    rw [okOuts_drop (by omega)]
    by_cases c1 : rd outs (i : Int) < 0
    · refine Ev.step (f := fun _ => some false) (fun k => ?_) ?_
      · simp only [conclaveref09_May.l1]; rw [if_pos (by omega), if_pos (by omega), if_pos c1]
      · rw [decide_eq_false (show ¬ 0 ≤ rd outs (i : Int) by omega)]; exact Ev.now _
    · by_cases c2 : rd outs (i : Int) ≥ n + (ops.length : Int)
      · refine Ev.step (f := fun _ => some false) (fun k => ?_) ?_
        · simp only [conclaveref09_May.l1]; rw [if_pos (by omega), if_pos (by omega), if_neg c1, hw, if_pos c2]
        · rw [decide_eq_false (show ¬ rd outs (i : Int) < n + (ops.length : Int) by omega), Bool.and_false]; exact Ev.now _
      · refine Ev.step (f := fun k => conclaveref09_May.l1 k ((i + 1 : Nat) : Int) n ops outs) (fun k => ?_) ?_
        · simp only [conclaveref09_May.l1]; rw [if_pos (by omega), if_pos (by omega), if_neg c1, hw, if_neg c2, e1]
        · rw [decide_eq_true (show 0 ≤ rd outs (i : Int) by omega), decide_eq_true (show rd outs (i : Int) < n + (ops.length : Int) by omega)]
          simp only [Bool.true_and]
          exact ih (i + 1) (by omega)
theorem rMay_l0 (n : Int) (ops : List OpS) (outs : List Int) (h0 : 0 ≤ n) (h1 : n ≤ 64) (h3 : ops.length ≤ 256) (ho : outs.length ≤ 64) : ∀ (d i : Nat), i + d = ops.length →
    Ev (fun k => conclaveref09_May.l0 k (i : Int) n ops outs) (okOps n i (ops.drop i) && okOuts (n + (ops.length : Int)) outs) := by
  intro d
  induction d with
  | zero =>
    intro i hi
    rw [List.drop_eq_nil_of_le (by omega)]
    simp only [okOps, Bool.true_and]
    refine Ev.step (f := fun k => conclaveref09_May.l1 k 0 n ops outs) (fun k => ?_) (rMay_l1 n ops outs h0 h1 h3 ho outs.length 0 (by omega))
    simp only [conclaveref09_May.l0]; rw [if_neg (by omega)]
  | succ d ih =>
    intro i hi
    have hw : wrap64 (n + (i : Int)) = n + (i : Int) := w64 (by omega) (by omega)
    have e1 : wrap64 ((i : Int) + 1) = ((i + 1 : Nat) : Int) := by rw [w64 (by omega) (by omega)]; rfl
    rw [okOps_drop (by omega)]
    refine Ev.step (f := fun k => (conclaveref09_op.f k (rdO ops (i : Int)).f0 (rdO ops (i : Int)).f1 (rdO ops (i : Int)).f2 (rdO ops (i : Int)).f3 (n + (i : Int))).bind fun t => if t = true then conclaveref09_May.l0 k ((i + 1 : Nat) : Int) n ops outs else some false) (fun k => ?_) (Ev.bind (f := fun k (t : Bool) => if t = true then conclaveref09_May.l0 k ((i + 1 : Nat) : Int) n ops outs else some false) (rop_f _ _) ?_)
    · simp only [conclaveref09_May.l0]
      rw [if_pos (by omega), if_pos (by omega), hw, e1]
    · cases okO (n + (i : Int)) (rdO ops (i : Int))
      · exact Ev.now _
      · simp only [if_true, Bool.true_and]
        exact ih (i + 1) (by omega)
theorem rMay_f (n : Int) (ops : List OpS) (outs : List Int) : Ev (fun k => conclaveref09_May.f k n ops outs) (mayB n ops outs) := by
  have hbad : ∀ (b : Bool), b = false → Ev (fun k => conclaveref09_May.j0 k true n ops outs) b := fun b hb => by
    subst hb
    exact Ev.step (f := fun _ => some false) (fun k => by simp only [conclaveref09_May.j0, if_true]) (Ev.now _)
  unfold conclaveref09_May.f
  by_cases c1 : n < 0
  · simp only [if_pos c1]
    exact hbad _ (by unfold mayB; rw [decide_eq_false (show ¬ 0 ≤ n by omega)]; rfl)
  · simp only [if_neg c1]
    by_cases c2 : n > 64
    · simp only [if_pos c2]
      exact hbad _ (by unfold mayB; rw [decide_eq_false (show ¬ n ≤ 64 by omega)]; simp)
    · simp only [if_neg c2]
      by_cases c3 : (ops.length : Int) > 256
      · simp only [if_pos c3]
        exact hbad _ (by unfold mayB; rw [decide_eq_false (show ¬ ops.length ≤ 256 by omega)]; simp)
      · simp only [if_neg c3]
        by_cases c4 : (outs.length : Int) > 64
        · simp only [decide_eq_true c4]
          exact hbad _ (by unfold mayB; rw [decide_eq_false (show ¬ outs.length ≤ 64 by omega)]; simp)
        · simp only [decide_eq_false c4]
          have h := rMay_l0 n ops outs (by omega) (by omega) (by omega) (by omega) ops.length 0 (by omega)
          refine Ev.step (f := fun k => conclaveref09_May.l0 k 0 n ops outs) (fun k => by simp only [conclaveref09_May.j0, Bool.false_eq_true, if_false]) ?_
          unfold mayB
          rw [decide_eq_true (show 0 ≤ n by omega), decide_eq_true (show n ≤ 64 by omega), decide_eq_true (show ops.length ≤ 256 by omega), decide_eq_true (show outs.length ≤ 64 by omega)]
          simpa using h
structure MayP (n : Int) (ops : List OpS) (outs : List Int) : Prop where
  n0 : 0 ≤ n
  n1 : n ≤ 64
  len : ops.length ≤ 256
  olen : outs.length ≤ 64
  op : ∀ i (h : i < ops.length), okO (n + (i : Int)) ops[i] = true
  out : ∀ v ∈ outs, 0 ≤ v ∧ v < n + (ops.length : Int)
theorem okOps_iff (n : Int) : ∀ (l : List OpS) (i : Nat), okOps n i l = true ↔ ∀ j (h : j < l.length), okO (n + ((i + j : Nat) : Int)) l[j] = true := by
  intro l
  induction l with
  | nil => intro i; simp [okOps]
  | cons o l ih =>
    intro i
    simp only [okOps, Bool.and_eq_true]
    rw [ih]
    constructor
    · rintro ⟨h1, h2⟩ j hj
      cases j with
      | zero => exact h1
      | succ j => have := h2 j (by simpa using hj); rw [show i + 1 + j = i + (j + 1) by omega] at this; exact this
    · intro h
      exact ⟨h 0 (by simp), fun j hj => by have := h (j + 1) (by simpa using hj); rw [show i + (j + 1) = i + 1 + j by omega] at this; exact this⟩
theorem may_iff {n : Int} {ops : List OpS} {outs : List Int} : mayB n ops outs = true ↔ MayP n ops outs := by
  unfold mayB okOuts
  simp only [Bool.and_eq_true, decide_eq_true_eq, okOps_iff, List.all_eq_true]
  constructor
  · rintro ⟨⟨⟨⟨⟨h1, h2⟩, h3⟩, h4⟩, h5⟩, h6⟩
    exact ⟨h1, h2, h3, h4, fun i h => by have := h5 i h; rwa [Nat.zero_add] at this, fun v hv => by have := h6 v hv; exact this⟩
  · intro h
    exact ⟨⟨⟨⟨⟨h.n0, h.n1⟩, h.len⟩, h.olen⟩, fun j hj => by rw [Nat.zero_add]; exact h.op j hj⟩, fun v hv => h.out v hv⟩
theorem okO_args {m : Int} {o : OpS} (h : okO m o = true) (hk : o.f0 ≠ 4) : 0 ≤ o.f1 ∧ o.f1 < m ∧ 0 ≤ o.f2 ∧ o.f2 < m := by
  unfold okO at h
  by_cases c : o.f0 = 1 ∨ o.f0 = 2 ∨ o.f0 = 3
  · rw [if_pos c] at h
    simp only [Bool.and_eq_true, decide_eq_true_eq] at h
    exact ⟨h.1.1.1.1, h.1.1.1.2, h.1.1.2, h.1.2⟩
  · rw [if_neg c] at h
    simp only [Bool.and_eq_true, decide_eq_true_eq] at h
    exact absurd h.1.1 hk
end Go.Proofs.Ytkhnngmighjaiaa.Plain
end
section
namespace Go.Proofs.Ytkhnngmighjaiaa.Plain
open Go.RowKit Go.Proofs.Ytkhnngmighjaiaa.P Go.Proofs.YtkhnngmighjaiaaW.PrintWords Go.Proofs.YtkhnngmighjaiaaW.PrintLast Go.Proofs.YtkhnngmighjaiaaW.PrintMore
set_option linter.unusedVariables false
set_option linter.unusedSimpArgs false
def prime (f : Int) : Int := if f = 1 then 2013265921 else if f = 2 then 18446744069414584321 else 0
def below (p : Int) (l : List Int) : Bool := l.all fun x => decide (x < p)
theorem below_nil (p : Int) : below p [] = true := rfl
theorem below_cons (p x : Int) (l : List Int) : below p (x :: l) = (decide (x < p) && below p l) := rfl
theorem below_iff {p : Int} {l : List Int} : below p l = true ↔ ∀ x ∈ l, x < p := by simp [below]
def isF (f : Int) : Bool := decide (f = 1) || decide (f = 2)
def inF (f : Int) (l : List Int) : Bool := isF f && below (prime f) l
def U64 (l : List Int) : Prop := ∀ x ∈ l, 0 ≤ x ∧ x < 18446744073709551616
theorem u64_of_wf {l : List Int} (h : ∀ x ∈ l, (Lit.int .u64 x).wf = true) : U64 l := fun x hx => wf_u64 (h x hx)
theorem isF_or {f : Int} (h : isF f = true) : f = 1 ∨ f = 2 := by simpa [isF] using h
theorem prime_zero {f : Int} (h : isF f = false) : prime f = 0 := by
  have h' : ¬ f = 1 ∧ ¬ f = 2 := by simpa [isF] using h
  unfold prime; rw [if_neg h'.1, if_neg h'.2]
theorem prime_pos {f : Int} (h : isF f = true) : 0 < prime f := by
  unfold prime; rcases isF_or h with rfl | rfl <;> decide
theorem reckoner_in_ev (p : Int) (b : Bool) (l : List Int) (hl : l.length ≤ 9223372036854775807) : ∀ (d i : Nat), i + d = l.length → Ev (fun k => field_reckoner_in.l0 k l (l.length : Int) (i : Int) p b) (below p (l.drop i)) := by
  intro d
  induction d with
  | zero =>
    intro i hi
    refine Ev.step (f := fun _ => some true) (fun k => ?_) (by rw [List.drop_eq_nil_of_le (by omega)]; exact Ev.now _)
    simp only [field_reckoner_in.l0]
    rw [if_neg (by omega)]
  | succ d ih =>
    intro i hi
    have hlt : i < l.length := by omega
    rw [drop_at hlt, below_cons]
    by_cases hp : rd l (i : Int) ≥ p
    · refine Ev.step (f := fun _ => some false) (fun k => ?_) (by rw [show decide (rd l (i : Int) < p) = false by simpa using hp]; exact Ev.now _)
      simp only [field_reckoner_in.l0]
      rw [if_pos (by omega), if_pos (by omega), if_pos (by omega), if_pos hp]
    · refine Ev.step (f := fun k => field_reckoner_in.l0 k l (l.length : Int) ((i + 1 : Nat) : Int) p b) (fun k => ?_) (by rw [show decide (rd l (i : Int) < p) = true by simp; omega]; simpa using ih (i + 1) (by omega))
      simp only [field_reckoner_in.l0]
      rw [if_pos (by omega), if_pos (by omega), if_pos (by omega), if_neg hp, w64 (by omega) (by omega)]; rfl
theorem asked_f (f : Int) (l : List Int) (hl : l.length ≤ 9223372036854775807) : Ev (fun k => field_asked.f k f l) (if inF f l then (prime f, decide (f = 2), 0) else (0, false, 2)) := by
  unfold field_asked.f field_of.f inF isF prime
  by_cases h1 : f = 1
  · subst h1
    simp only [if_true, Option.bind_some, decide_true, Bool.true_or, Bool.true_and]
    refine Ev.bind (f := fun _ t => if t = true then some (2013265921, false, 0) else some (0, false, 2)) (reckoner_in_ev 2013265921 false l hl l.length 0 (by omega)) ?_
    by_cases hb : below 2013265921 l = true
    · simp only [List.drop_zero, hb, if_true]; exact Ev.now _
    · simp only [List.drop_zero, hb, if_false]; exact Ev.now _
  · by_cases h2 : f = 2
    · subst h2
      simp only [if_neg h1, if_true, Option.bind_some, decide_true, Bool.or_true, Bool.true_and]
      refine Ev.bind (f := fun _ t => if t = true then some (18446744069414584321, true, 0) else some (0, false, 2)) (reckoner_in_ev 18446744069414584321 true l hl l.length 0 (by omega)) ?_
      by_cases hb : below 18446744069414584321 l = true
      · simp only [List.drop_zero, hb, if_true]; exact Ev.now _
      · simp only [List.drop_zero, hb, if_false]; exact Ev.now _
    · simp only [if_neg h1, if_neg h2, Option.bind_some, show decide (f = 1) = false by simpa using h1, show decide (f = 2) = false by simpa using h2, Bool.or_false, Bool.false_and, Bool.false_eq_true, if_false]
      exact Ev.now _
theorem In_f (f : Int) (l : List Int) (hl : l.length ≤ 9223372036854775807) : Ev (fun k => field_In.f k f l) (inF f l) := by
  unfold field_In.f
  refine Ev.bind (f := fun _ bt => some (bt.2.2 == 0)) (asked_f f l hl) ?_
  by_cases h : inF f l = true
  · simp only [if_pos h]; rw [h]; exact Ev.now _
  · simp only [if_neg h]; rw [Bool.eq_false_iff.2 h]; exact Ev.now _
theorem inF_isF {f : Int} {l : List Int} (h : inF f l = true) : isF f = true := by
  unfold inF at h; exact (Bool.and_eq_true_iff.1 h).1
end Go.Proofs.Ytkhnngmighjaiaa.Plain
end
section
namespace Go.Proofs.Ytkhnngmighjaiaa.Plain
open Go.RowKit Go.Proofs Go.Proofs.Ytkhnngmighjaiaa.P Go.Proofs.Ytkhnngmighjaiaa.Mth Go.Proofs.YtkhnngmighjaiaaW.PrintWords Go.Proofs.YtkhnngmighjaiaaW.PrintLast Go.Proofs.YtkhnngmighjaiaaW.PrintMore
set_option linter.unusedVariables false
set_option linter.unusedSimpArgs false
set_option linter.unusedSectionVars false
def Fld (f : Int) (p : Nat) : Prop := (f = 1 ∧ p = 2013265921) ∨ (f = 2 ∧ p = 18446744069414584321)
variable {f : Int} {p : Nat} [NeZero p]
theorem Fld.prime (h : Fld f p) : prime f = (p : Int) := by rcases h with ⟨rfl, rfl⟩ | ⟨rfl, rfl⟩ <;> rfl
theorem Fld.lt (h : Fld f p) : p < 18446744073709551616 := by rcases h with ⟨_, rfl⟩ | ⟨_, rfl⟩ <;> decide
theorem Fld.gt (h : Fld f p) : 2013265920 < p := by rcases h with ⟨_, rfl⟩ | ⟨_, rfl⟩ <;> decide
theorem Fld.isF (h : Fld f p) : isF f = true := by rcases h with ⟨rfl, _⟩ | ⟨rfl, _⟩ <;> rfl
theorem fld_of (h : isF f = true) : ∃ p : Nat, ∃ _ : NeZero p, Fld f p := by
  rcases isF_or h with rfl | rfl
  · exact ⟨2013265921, ⟨by decide⟩, .inl ⟨rfl, rfl⟩⟩
  · exact ⟨18446744069414584321, ⟨by decide⟩, .inr ⟨rfl, rfl⟩⟩
abbrev tI (x : Fin p) : Int := ((x.val : Nat) : Int)
theorem tI_zero : tI (0 : Fin p) = 0 := rfl
theorem tI_c {n : Nat} (h : n < p) : (n : Int) = tI (cF p n) := by
  show (n : Int) = ((n % p : Nat) : Int)
  rw [Nat.mod_eq_of_lt h]
theorem inF_map (hF : Fld f p) (L : List (Fin p)) : inF f (L.map tI) = true := by
  unfold inF
  rw [hF.isF, hF.prime, Bool.true_and, below_iff]
  intro x hx
  obtain ⟨y, _, rfl⟩ := List.mem_map.1 hx
  have := y.isLt
  simp only [tI]; omega
theorem lift (hF : Fld f p) {l : List Int} (hu : U64 l) (hb : below (Plain.prime f) l = true) : ∃ L : List (Fin p), l = L.map tI := by
  induction l with
  | nil => exact ⟨[], rfl⟩
  | cons x l ih =>
    obtain ⟨L, rfl⟩ := ih (fun y hy => hu y (List.mem_cons_of_mem _ hy)) (by rw [below_cons] at hb; exact (Bool.and_eq_true_iff.1 hb).2)
    have h0 := hu x (List.mem_cons_self ..)
    have h1 := below_iff.1 hb x (List.mem_cons_self ..)
    rw [hF.prime] at h1
    exact ⟨⟨x.toNat, by omega⟩ :: L, by simp only [List.map_cons, tI]; rw [show ((x.toNat : Nat) : Int) = x by omega]⟩
theorem md {a : Nat} (h : p ≤ a) (h2 : a < p + p) : a % p = a - p := by rw [Nat.mod_eq_sub_mod h, Nat.mod_eq_of_lt (by omega)]
theorem add_f (hF : Fld f p) (b : Bool) (x y : Fin p) : field_reckoner_add.f (p : Int) b (tI x) (tI y) = some (tI (x + y)) := by
  have h1 := x.isLt
  have h2 := y.isLt
  have h3 := hF.lt
  unfold field_reckoner_add.f tI
  rw [if_pos (by omega), Fin.val_add]
  by_cases c : (18446744073709551616 : Int) ≤ (x.val : Int) + (y.val : Int)
  · rw [if_pos c, wu64, md (by omega) (by omega)]
    congr 1; omega
  · rw [if_neg c]
    by_cases c2 : (p : Int) ≤ (x.val : Int) + (y.val : Int)
    · rw [if_pos c2, wu64, md (by omega) (by omega)]
      congr 1; omega
    · rw [if_neg c2, Nat.mod_eq_of_lt (by omega)]
      congr 1
theorem sub_f (hF : Fld f p) (b : Bool) (x y : Fin p) : field_reckoner_sub.f (p : Int) b (tI x) (tI y) = some (tI (x - y)) := by
  have h1 := x.isLt
  have h2 := y.isLt
  have h3 := hF.lt
  unfold field_reckoner_sub.f tI
  rw [if_pos (by omega), Fin.sub_def]
  by_cases c : (x.val : Int) < (y.val : Int)
  · rw [if_pos c, wu64]
    simp only
    rw [Nat.mod_eq_of_lt (by omega)]
    congr 1; omega
  · rw [if_neg c]
    simp only
    rw [md (by omega) (by omega)]
    congr 1; omega
theorem mul64_f (x y : Nat) (hx : x < 18446744073709551616) (hy : y < 18446744073709551616) : bits_Mul64.f (x : Int) (y : Int) = some (((x * y / 18446744073709551616 : Nat) : Int), ((x * y % 18446744073709551616 : Nat) : Int)) := by
  obtain ⟨bd, bt, bw, hhi⟩ := Lib.mul64_hi x y hx hy
  have ba := Lib.half_mul_le (a := x / 4294967296) (b := y / 4294967296) (by omega) (by omega)
  have bb := Lib.half_mul_le (a := x / 4294967296) (b := y % 4294967296) (by omega) (by omega)
  have bc := Lib.half_mul_le (a := x % 4294967296) (b := y / 4294967296) (by omega) (by omega)
  have ba' : x / 4294967296 * (y / 4294967296) < 18446744073709551616 := by omega
  have bb' : x / 4294967296 * (y % 4294967296) < 18446744073709551616 := by omega
  have bc' : x % 4294967296 * (y / 4294967296) < 18446744073709551616 := by omega
  have bh1 : x / 4294967296 * (y / 4294967296) + (x / 4294967296 * (y % 4294967296) + x % 4294967296 * (y % 4294967296) / 4294967296) / 4294967296 < 18446744073709551616 := by omega
  have bh : x / 4294967296 * (y / 4294967296) + (x / 4294967296 * (y % 4294967296) + x % 4294967296 * (y % 4294967296) / 4294967296) / 4294967296 + ((x / 4294967296 * (y % 4294967296) + x % 4294967296 * (y % 4294967296) / 4294967296) % 4294967296 + x % 4294967296 * (y / 4294967296)) / 4294967296 < 18446744073709551616 := by omega
  unfold bits_Mul64.f
  simp only [Mul64.maskN x hx, Mul64.maskN y hy, Mul64.divN, Mul64.mulN, Mul64.addN, Mul64.wrapN _ bd, Mul64.wrapN _ bb', Mul64.wrapN _ bt, Mul64.maskN _ bt, Mul64.wrapN _ bc', Mul64.wrapN _ bw, Mul64.wrapN _ ba', Mul64.wrapN _ bh1, Mul64.wrapN _ bh, Mul64.wrapM]
  rw [hhi]
theorem fold3 (t T M r : Fin p) (h : t - 1 = t * t) : r - T + M * (t - 1) = (T * t + M) * (t * t) + r := by
  have h2 : t * (t * t) = -1 := by
    have : t * (t * t) = t * t - t := by rw [← h]; grind
    rw [this, ← h]; grind
  have h3 : (T * t + M) * (t * t) + r = T * (t * (t * t)) + M * (t * t) + r := by grind
  rw [h3, h2, ← h]; grind
theorem mul_f (hF : Fld f p) (x y : Fin p) : field_reckoner_mul.f (p : Int) (decide (f = 2)) (tI x) (tI y) = some (tI (x * y)) := by
  have h1 := x.isLt
  have h2 := y.isLt
  have h3 := hF.lt
  unfold field_reckoner_mul.f
  rw [show bits_Mul64.f (tI x) (tI y) = _ from mul64_f x.val y.val (by omega) (by omega), Option.bind_some]
  have hF' := hF
  rcases hF with ⟨rfl, rfl⟩ | ⟨rfl, hp⟩
  · have hb : x.val * y.val ≤ 2013265920 * 2013265920 := Nat.mul_le_mul (by omega) (by omega)
    rw [if_neg (by decide), if_pos (by omega), if_pos (by decide), if_neg (by decide), Int.tmod_eq_emod_of_nonneg (by omega)]
    simp only [tI, Fin.val_mul]
    congr 1
    rw [Nat.mod_eq_of_lt (show x.val * y.val < 18446744073709551616 by omega)]
    rfl
  · rw [if_pos (by decide)]
    obtain ⟨H, hH⟩ : ∃ H, H = x.val * y.val / 18446744073709551616 := ⟨_, rfl⟩
    obtain ⟨R, hR⟩ : ∃ R, R = x.val * y.val % 18446744073709551616 := ⟨_, rfl⟩
    have hxy : x.val * y.val < 18446744073709551616 * 18446744073709551616 := Nat.mul_lt_mul'' (by omega) (by omega)
    have hHl : H < 18446744073709551616 := by omega
    have e0 : x.val * y.val = (H / 4294967296 * 4294967296 + H % 4294967296) * 18446744073709551616 + R := by omega
    rw [← hH, ← hR]
    have hm := Mul64.maskN H hHl
    have hd := Mul64.divN H
    have hw : IntKind.u64.wrap (IntKind.u64.wrap (((H % 4294967296 : Nat) : Int) * 4294967296) - ((H % 4294967296 : Nat) : Int)) = (((H % 4294967296) * 4294967295 : Nat) : Int) := by rw [wu64, wu64]; omega
    have eT : ((H / 4294967296 : Nat) : Int) = tI (cF p (H / 4294967296)) := tI_c (by omega)
    have eM : (((H % 4294967296) * 4294967295 : Nat) : Int) = tI (cF p ((H % 4294967296) * 4294967295)) := tI_c (by omega)
    have eR : (if (R : Int) ≥ (p : Int) then some (IntKind.u64.wrap ((R : Int) - (p : Int))) else some (R : Int)) = some (tI (cF p R)) := by
      by_cases c : (R : Int) ≥ (p : Int)
      · rw [if_pos c, wu64]
        simp only [tI, cF_val]
        rw [md (by omega) (by omega)]
        congr 1; omega
      · rw [if_neg c]
        simp only [tI, cF_val]
        rw [Nat.mod_eq_of_lt (by omega)]
    have key : cF p R - cF p (H / 4294967296) + cF p ((H % 4294967296) * 4294967295) = x * y := by
      have a1 : x * y = cF p (x.val * y.val) := by rw [cF_mul, cF_self, cF_self]
      have a2 : cF p 18446744073709551616 = cF p 4294967296 - 1 := by
        have b1 := cF_add (p := p) p 4294967295
        have b2 := cF_add (p := p) 4294967295 1
        rw [cF_p, show p + 4294967295 = 18446744073709551616 by omega] at b1
        rw [cF_one] at b2
        rw [b1, b2]; grind
      have a3 : cF p 18446744073709551616 = cF p 4294967296 * cF p 4294967296 := by rw [← cF_mul]
      have a4 : cF p (H % 4294967296 * 4294967295) = cF p (H % 4294967296) * (cF p 4294967296 - 1) := by
        have b2 := cF_add (p := p) 4294967295 1
        rw [cF_one] at b2
        rw [cF_mul, b2]; grind
      have a5 : cF p (x.val * y.val) = (cF p (H / 4294967296) * cF p 4294967296 + cF p (H % 4294967296)) * cF p 18446744073709551616 + cF p R := by rw [e0, cF_add, cF_mul, cF_add, cF_mul]
      rw [a1, a5, a3, a4]
      rw [a2] at a3
      exact fold3 _ _ _ _ a3
    rw [hm, hd, hw, eT, eM]
    by_cases c : (R : Int) ≥ (p : Int)
    · rw [if_pos c] at eR ⊢
      rw [Option.some.inj eR, sub_f hF', Option.bind_some, add_f hF', Option.bind_some, key]
    · rw [if_neg c] at eR ⊢
      rw [Option.some.inj eR, sub_f hF', Option.bind_some, add_f hF', Option.bind_some, key]
theorem and_one (n : Nat) (h : n < 18446744073709551616) : Go.bits .and .u64 (n : Int) 1 = ((n % 2 : Nat) : Int) := by
  have h2 := bits_and_u64_nat n 1 h (by omega)
  rw [Nat.and_one_is_mod] at h2
  exact h2
theorem askedM_f (hF : Fld f p) (L : List (Fin p)) (hl : L.length ≤ 9223372036854775807) : Ev (fun k => field_asked.f k f (L.map tI)) ((p : Int), decide (f = 2), 0) := by
  have h := asked_f f (L.map tI) (by simpa using hl)
  rw [inF_map hF, if_pos rfl, hF.prime] at h
  exact h
theorem Mul_f (hF : Fld f p) (x y : Fin p) : Ev (fun k => field_Mul.f k f (tI x) (tI y)) (tI (x * y), 0) := by
  unfold field_Mul.f
  refine Ev.bind (f := fun k t => _) (askedM_f hF [x, y] (by simp)) ?_
  simp only [if_true, mul_f hF, Option.bind_some]
  exact Ev.now _
theorem Sub_f (hF : Fld f p) (x y : Fin p) : Ev (fun k => field_Sub.f k f (tI x) (tI y)) (tI (x - y), 0) := by
  unfold field_Sub.f
  refine Ev.bind (f := fun k t => _) (askedM_f hF [x, y] (by simp)) ?_
  simp only [if_true, sub_f hF, Option.bind_some]
  exact Ev.now _
theorem Add_f (hF : Fld f p) (x y : Fin p) : Ev (fun k => field_Add.f k f (tI x) (tI y)) (tI (x + y), 0) := by
  unfold field_Add.f
  refine Ev.bind (f := fun k t => _) (askedM_f hF [x, y] (by simp)) ?_
  simp only [if_true, add_f hF, Option.bind_some]
  exact Ev.now _
end Go.Proofs.Ytkhnngmighjaiaa.Plain
end
section
namespace Go.Proofs.Ytkhnngmighjaiaa.Plain
open Go.RowKit Go.Proofs.Ytkhnngmighjaiaa.P Go.Proofs.YtkhnngmighjaiaaW.PrintWords Go.Proofs.YtkhnngmighjaiaaW.PrintLast Go.Proofs.YtkhnngmighjaiaaW.PrintMore
set_option linter.unusedVariables false
set_option linter.unusedSimpArgs false
theorem P_f (f : Int) : conclaveref01_P.f f = some (prime f) := by
  unfold conclaveref01_P.f prime; split
  · rfl
  · split <;> rfl
theorem rIn_ev (p : Int) (l : List Int) (hl : l.length ≤ 9223372036854775807) : ∀ (d i : Nat), i + d = l.length → Ev (fun k => conclaveref01_In.l0 k l p (i : Int)) (below p (l.drop i) && (p != 0)) := by
  intro d
  induction d with
  | zero =>
    intro i hi
    refine Ev.step (f := fun _ => some (p != 0)) (fun k => ?_) (by rw [List.drop_eq_nil_of_le (by omega)]; exact Ev.now _)
    simp only [conclaveref01_In.l0]
    rw [if_neg (by omega)]
  | succ d ih =>
    intro i hi
    have hlt : i < l.length := by omega
    rw [drop_at hlt, below_cons]
    by_cases hp : rd l (i : Int) ≥ p
    · refine Ev.step (f := fun _ => some false) (fun k => ?_) (by rw [show decide (rd l (i : Int) < p) = false by simpa using hp]; exact Ev.now _)
      simp only [conclaveref01_In.l0]
      rw [if_pos (by omega), if_pos (by omega), if_pos hp]
    · refine Ev.step (f := fun k => conclaveref01_In.l0 k l p ((i + 1 : Nat) : Int)) (fun k => ?_) (by rw [show decide (rd l (i : Int) < p) = true by simp; omega]; simpa using ih (i + 1) (by omega))
      simp only [conclaveref01_In.l0]
      rw [if_pos (by omega), if_pos (by omega), if_neg hp, w64 (by omega) (by omega)]; rfl
theorem rIn_f (f : Int) (l : List Int) (hu : U64 l) (hl : l.length ≤ 9223372036854775807) : Ev (fun k => conclaveref01_In.f k f l) (inF f l) := by
  unfold conclaveref01_In.f
  rw [P_f]
  simp only [Option.bind_some]
  have h := rIn_ev (prime f) l hl l.length 0 (by omega)
  rw [List.drop_zero] at h
  have e : (below (prime f) l && (prime f != 0)) = inF f l := by
    unfold inF
    cases hf : isF f with
    | true => have := prime_pos hf; rw [show (prime f != 0) = true by simp; omega]; simp
    | false => rw [prime_zero hf]; simp
  rw [← e]; exact h
end Go.Proofs.Ytkhnngmighjaiaa.Plain
end
section
namespace Go.Proofs.Ytkhnngmighjaiaa.Plain
open Go.RowKit Go.Proofs Go.Proofs.Ytkhnngmighjaiaa.P Go.Proofs.Ytkhnngmighjaiaa.Mth Go.Proofs.YtkhnngmighjaiaaW.PrintWords Go.Proofs.YtkhnngmighjaiaaW.PrintLast Go.Proofs.YtkhnngmighjaiaaW.PrintMore
set_option linter.unusedVariables false
set_option linter.unusedSimpArgs false
set_option linter.unusedSectionVars false
variable {f : Int} {p : Nat} [NeZero p]
theorem Pp_f (hF : Fld f p) : conclaveref01_P.f f = some (p : Int) := by rw [P_f, hF.prime]
theorem rSum_m (hF : Fld f p) (x y : Fin p) : conclaveref01_Sum.f (p : Int) (tI x) (tI y) = some (tI (x + y)) := by
  have h1 := x.isLt
  have h2 := y.isLt
  have h3 := hF.lt
  unfold conclaveref01_Sum.f tI
  rw [Fin.val_add, wu64_in (x := (p : Int) - (y.val : Int)) (by omega) (by omega)]
  by_cases c : (x.val : Int) ≥ (p : Int) - (y.val : Int)
  · rw [if_pos c, wu64, md (by omega) (by omega)]
    congr 1; omega
  · rw [if_neg c, wu64, Nat.mod_eq_of_lt (by omega)]
    congr 1; omega
theorem rLess_m (hF : Fld f p) (x y : Fin p) : conclaveref01_Less.f (p : Int) (tI x) (tI y) = some (tI (x - y)) := by
  have h1 := x.isLt
  have h2 := y.isLt
  have h3 := hF.lt
  unfold conclaveref01_Less.f tI
  rw [Fin.sub_def]
  by_cases c : (x.val : Int) ≥ (y.val : Int)
  · rw [if_pos c, wu64]
    simp only
    rw [md (by omega) (by omega)]
    congr 1; omega
  · rw [if_neg c, wu64, wu64]
    simp only
    rw [Nat.mod_eq_of_lt (by omega)]
    congr 1; omega
theorem shr_n (b : Nat) (i : Nat) (hi : i ≤ 63) : shr .u64 (b : Int) (i : Int) = ((b / 2 ^ i : Nat) : Int) := by
  unfold shr
  rw [show ((i : Int)).toNat = i by omega, Nat.min_eq_left (by simp only [IntKind.bits]; omega)]
  push_cast
  rfl
theorem half_bit (b i : Nat) : b / 2 ^ i = 2 * (b / 2 ^ (i + 1)) + (b / 2 ^ i) % 2 := by
  rw [Nat.pow_succ, ← Nat.div_div_eq_div_mul]; omega
theorem rTimes_ev (hF : Fld f p) (a : Fin p) (b : Nat) (hb : b < 18446744073709551616) : ∀ j : Nat, j ≤ 64 → Ev (fun k => conclaveref01_Times.l0 k (p : Int) (tI a) (b : Int) (tI (cF p (b / 2 ^ j) * a)) ((j : Int) - 1)) (tI (cF p b * a)) := by
  intro j
  induction j with
  | zero =>
    intro _
    refine Ev.step (f := fun _ => some (tI (cF p b * a))) (fun k => ?_) (Ev.now _)
    simp only [conclaveref01_Times.l0]
    rw [if_neg (by omega), Nat.pow_zero, Nat.div_one]
  | succ j ih =>
    intro hj
    have hh := half_bit b j
    have hlt : b / 2 ^ j < 18446744073709551616 := Nat.lt_of_le_of_lt (Nat.div_le_self _ _) hb
    have e2 : cF p 2 = 1 + 1 := by rw [← cF_one, ← cF_add]
    have e1 : cF p (b / 2 ^ j) = cF p (b / 2 ^ (j + 1)) + cF p (b / 2 ^ (j + 1)) + cF p (b / 2 ^ j % 2) := by
      conv => lhs; rw [hh]
      rw [cF_add, cF_mul, e2]; grind
    refine Ev.step (f := fun k => conclaveref01_Times.l0 k (p : Int) (tI a) (b : Int) (tI (cF p (b / 2 ^ j) * a)) ((j : Int) - 1)) (fun k => ?_) (ih (by omega))
    simp only [conclaveref01_Times.l0]
    rw [show ((j + 1 : Nat) : Int) - 1 = (j : Int) by omega, if_pos (by omega), rSum_m hF, Option.bind_some, wu64_in (x := (j : Int)) (by omega) (by omega), if_pos (by omega), shr_n b j (by omega), and_one _ hlt, w64 (x := (j : Int) - 1) (by omega) (by omega)]
    by_cases c : b / 2 ^ j % 2 = 1
    · rw [c, if_pos (by rfl), rSum_m hF, Option.bind_some]
      rw [c, cF_one] at e1
      rw [show cF p (b / 2 ^ (j + 1)) * a + cF p (b / 2 ^ (j + 1)) * a + a = cF p (b / 2 ^ j) * a by rw [e1]; grind]
    · rw [if_neg (by omega)]
      rw [show b / 2 ^ j % 2 = 0 by omega, cF_zero] at e1
      rw [show cF p (b / 2 ^ (j + 1)) * a + cF p (b / 2 ^ (j + 1)) * a = cF p (b / 2 ^ j) * a by rw [e1]; grind]
theorem rTimes_m (hF : Fld f p) (x y : Fin p) : Ev (fun k => conclaveref01_Times.f k (p : Int) (tI x) (tI y)) (tI (x * y)) := by
  unfold conclaveref01_Times.f
  have h1 := hF.lt
  have hb : y.val < 18446744073709551616 := by have := y.isLt; omega
  have h := rTimes_ev hF x y.val hb 64 (by omega)
  rw [Nat.div_eq_of_lt (show y.val < 2 ^ 64 from hb), cF_zero, cF_self, show (0 : Fin p) * x = 0 by grind, show y * x = x * y by grind, tI_zero] at h
  exact h
theorem rIn_m (hF : Fld f p) (L : List (Fin p)) (hl : L.length ≤ 9223372036854775807) : Ev (fun k => conclaveref01_In.f k f (L.map tI)) true := by
  have hu : U64 (L.map tI) := by
    intro x hx
    obtain ⟨y, _, rfl⟩ := List.mem_map.1 hx
    have := y.isLt
    have := hF.lt
    simp only [tI]; omega
  have h := rIn_f f (L.map tI) hu (by simpa using hl)
  rw [inF_map hF] at h
  exact h
end Go.Proofs.Ytkhnngmighjaiaa.Plain
end
section
namespace Go.Proofs.Ytkhnngmighjaiaa.Plain
open Go.RowKit Go.Proofs.Ytkhnngmighjaiaa.P Go.Proofs.YtkhnngmighjaiaaW.PrintWords Go.Proofs.YtkhnngmighjaiaaW.PrintLast Go.Proofs.YtkhnngmighjaiaaW.PrintMore
set_option linter.unusedVariables false
set_option linter.unusedSimpArgs false
theorem fSame_ev (a b : List Int) (he : a.length = b.length) (hl : a.length ≤ 9223372036854775807) : ∀ (d i : Nat), i + d = a.length → Ev (fun k => conclaveref01_Same.l0 k a b (i : Int)) (decide (a.drop i = b.drop i)) := by
  intro d
  induction d with
  | zero =>
    intro i hi
    refine Ev.step (f := fun _ => some true) (fun k => ?_) (by rw [List.drop_eq_nil_of_le (by omega), List.drop_eq_nil_of_le (by omega)]; exact Ev.now _)
    simp only [conclaveref01_Same.l0]
    rw [if_neg (by omega)]
  | succ d ih =>
    intro i hi
    have hlt : i < a.length := by omega
    have hlt2 : i < b.length := by omega
    rw [drop_at hlt, drop_at hlt2]
    by_cases hp : rd a (i : Int) = rd b (i : Int)
    · refine Ev.step (f := fun k => conclaveref01_Same.l0 k a b ((i + 1 : Nat) : Int)) (fun k => ?_) (by rw [hp]; simpa using ih (i + 1) (by omega))
      simp only [conclaveref01_Same.l0]
      rw [if_pos (by omega), if_pos (by omega), if_pos (by omega), if_pos hp, w64 (by omega) (by omega)]; rfl
    · refine Ev.step (f := fun k => some false) (fun k => ?_) (by rw [show decide (rd a (i : Int) :: a.drop (i + 1) = rd b (i : Int) :: b.drop (i + 1)) = false by simp [hp]]; exact Ev.now _)
      simp only [conclaveref01_Same.l0]
      rw [if_pos (by omega), if_pos (by omega), if_pos (by omega), if_neg hp]
theorem fSame_f (a b : List Int) (hl : a.length ≤ 9223372036854775807) : Ev (fun k => conclaveref01_Same.f k a b) (decide (a = b)) := by
  unfold conclaveref01_Same.f
  by_cases he : a.length = b.length
  · simp only [if_pos (show (a.length : Int) = (b.length : Int) by omega)]
    exact fSame_ev a b he hl a.length 0 (by omega)
  · simp only [if_neg (show ¬ (a.length : Int) = (b.length : Int) by omega)]
    rw [show decide (a = b) = false by simp; intro h; exact he (by rw [h])]
    exact Ev.now _
end Go.Proofs.Ytkhnngmighjaiaa.Plain
end
section
namespace Go.Proofs.Ytkhnngmighjaiaa.Plain
open Go.RowKit Go.Proofs Go.Proofs.Ytkhnngmighjaiaa.P Go.Proofs.Ytkhnngmighjaiaa.Mth Go.Proofs.YtkhnngmighjaiaaW.PrintWords Go.Proofs.YtkhnngmighjaiaaW.PrintLast Go.Proofs.YtkhnngmighjaiaaW.PrintMore
set_option linter.unusedVariables false
set_option linter.unusedSimpArgs false
set_option linter.unusedSectionVars false
theorem opKind {m : Int} {o : OpS} (h : okO m o = true) : o.f0 = 1 ∨ o.f0 = 2 ∨ o.f0 = 3 ∨ o.f0 = 4 := by
  unfold okO at h
  by_cases c : o.f0 = 1 ∨ o.f0 = 2 ∨ o.f0 = 3
  · omega
  · rw [if_neg c] at h
    simp only [Bool.and_eq_true, decide_eq_true_eq] at h
    omega
theorem MayP.opKind {n : Int} {ops : List OpS} {outs : List Int} (h : MayP n ops outs) {i : Nat} (hi : i < ops.length) : (rdO ops (i : Int)).f0 = 1 ∨ (rdO ops (i : Int)).f0 = 2 ∨ (rdO ops (i : Int)).f0 = 3 ∨ (rdO ops (i : Int)).f0 = 4 := by
  rw [rdO_at hi]
  exact Plain.opKind (h.op i hi)
theorem MayP.opArgs {n : Int} {ops : List OpS} {outs : List Int} (h : MayP n ops outs) {i : Nat} (hi : i < ops.length) (hk : (rdO ops (i : Int)).f0 ≠ 4) : 0 ≤ (rdO ops (i : Int)).f1 ∧ (rdO ops (i : Int)).f1 < n + (i : Int) ∧ 0 ≤ (rdO ops (i : Int)).f2 ∧ (rdO ops (i : Int)).f2 < n + (i : Int) := by
  rw [rdO_at hi] at hk ⊢
  exact okO_args (h.op i hi) hk
def OpsU (ops : List OpS) : Prop := ∀ o ∈ ops, 0 ≤ o.f3
theorem OpsU.at_ {ops : List OpS} (h : OpsU ops) {i : Nat} (hi : i < ops.length) : 0 ≤ (rdO ops (i : Int)).f3 := by
  rw [rdO_at hi]; exact h _ (List.getElem_mem _)
section
variable {f : Int} {p : Nat} [NeZero p]
def rdF (l : List (Fin p)) (i : Int) : Fin p := l.getD i.toNat 0
theorem rd_map (l : List (Fin p)) (i : Int) : rd (l.map tI) i = tI (rdF l i) := by
  unfold rd rdF
  rw [List.getD_eq_getElem?_getD, List.getD_eq_getElem?_getD, List.getElem?_map]
  cases l[i.toNat]? with
  | none => rfl
  | some x => rfl
def valO (o : OpS) (l : List (Fin p)) : Fin p := if o.f0 = 1 then rdF l o.f1 + rdF l o.f2 else if o.f0 = 2 then rdF l o.f1 - rdF l o.f2 else if o.f0 = 3 then rdF l o.f1 * rdF l o.f2 else cF p o.f3.toNat
def valL (xs : List (Fin p)) (ops : List OpS) : Nat → List (Fin p)
  | 0 => xs
  | i + 1 => valL xs ops i ++ [valO (rdO ops (i : Int)) (valL xs ops i)]
def runF (xs : List (Fin p)) (ops : List OpS) (outs : List Int) : List (Fin p) := outs.map (rdF (valL xs ops ops.length))
theorem valL_len (xs : List (Fin p)) (ops : List OpS) (i : Nat) : (valL xs ops i).length = xs.length + i := by
  induction i with
  | zero => rfl
  | succ i ih => simp [valL, ih]; omega
theorem rdF_left {l m : List (Fin p)} {i : Int} (h1 : i.toNat < l.length) : rdF (l ++ m) i = rdF l i := by
  unfold rdF
  rw [List.getD_eq_getElem?_getD, List.getD_eq_getElem?_getD, List.getElem?_append_left h1]
theorem rdF_last (l : List (Fin p)) (x : Fin p) {i : Int} (h : i.toNat = l.length) : rdF (l ++ [x]) i = x := by
  unfold rdF
  rw [List.getD_eq_getElem?_getD, h, List.getElem?_append_right (Nat.le_refl _)]
  simp
theorem valL_mono (xs : List (Fin p)) (ops : List OpS) {i j : Nat} (hij : i ≤ j) {v : Int} (h1 : v.toNat < xs.length + i) : rdF (valL xs ops j) v = rdF (valL xs ops i) v := by
  induction j with
  | zero => obtain rfl : i = 0 := by omega
            rfl
  | succ j ih =>
    by_cases c : i = j + 1
    · subst c; rfl
    · simp only [valL]
      rw [rdF_left (by rw [valL_len]; omega), ih (by omega)]
theorem valL_op (xs : List (Fin p)) (ops : List OpS) {i j : Nat} (hij : i < j) {v : Int} (hv : v.toNat = xs.length + i) : rdF (valL xs ops j) v = valO (rdO ops (i : Int)) (valL xs ops i) := by
  rw [valL_mono xs ops (i := i + 1) (by omega) (by omega)]
  simp only [valL]
  exact rdF_last _ _ (by rw [valL_len]; exact hv)
theorem tmod_c {x : Int} (h0 : 0 ≤ x) : Int.tmod x (p : Int) = tI (cF p x.toNat) := by
  obtain ⟨n, rfl⟩ := Int.eq_ofNat_of_zero_le h0
  rw [Int.tmod_eq_emod_of_nonneg h0]
  simp only [tI, cF_val]
  rfl
theorem eAdd_f (hF : Fld f p) (x y : Fin p) : Ev (fun k => eval_elements_add.f k f (tI x) (tI y)) (tI (x + y), 0) := by
  unfold eval_elements_add.f
  exact Ev.bind (f := fun _ bt => some (bt.1, bt.2)) (Add_f hF x y) (Ev.now _)
theorem eSub_f (hF : Fld f p) (x y : Fin p) : Ev (fun k => eval_elements_sub.f k f (tI x) (tI y)) (tI (x - y), 0) := by
  unfold eval_elements_sub.f
  exact Ev.bind (f := fun _ bt => some (bt.1, bt.2)) (Sub_f hF x y) (Ev.now _)
theorem eMul_f (hF : Fld f p) (x y : Fin p) : Ev (fun k => eval_elements_mul.f k f (tI x) (tI y)) (tI (x * y), 0) := by
  unfold eval_elements_mul.f
  exact Ev.bind (f := fun _ bt => some (bt.1, bt.2)) (Mul_f hF x y) (Ev.now _)
theorem ePrime_f (hF : Fld f p) : Ev (fun k => field_Prime.f k f) ((p : Int), 0) := by
  unfold field_Prime.f
  exact Ev.bind (f := fun _ bt => some (bt.1, bt.2.2)) (askedM_f hF [] (by simp)) (Ev.now _)
theorem eClone_f (l : List Int) (hl : l.length < 17592186044416) : slices_Clone_uint64_uint64_48.f l = some l := by
  unfold slices_Clone_uint64_uint64_48.f
  rw [Option.bind_some, if_pos (by simpa using hl), List.nil_append]
theorem eCopy_f (l : List Int) (hl : l.length < 17592186044416) : conclaveref01_Copy.f l = some l := by
  unfold conclaveref01_Copy.f
  rw [Option.bind_some, if_pos (by simpa using hl), List.nil_append]
theorem map_snoc (V : List (Fin p)) (x : Fin p) : V.map tI ++ [tI x] = (V ++ [x]).map tI := by simp
variable {n : Int} {ops : List OpS} {outs : List Int}
theorem eSteps_l0 (hF : Fld f p) (h : MayP n ops outs) (hu : OpsU ops) (xs : List (Fin p)) (hx : (xs.length : Int) = n) : ∀ (d i : Nat), i + d = ops.length →
    Ev (fun k => eval_steps_uint64_33.l0 k f (p : Int) ((valL xs ops i).map tI) ops (ops.length : Int) (i : Int)) ((valL xs ops ops.length).map tI, 0) := by
  have hn := h.n0
  have hn1 := h.n1
  have hl := h.len
  have hp := hF.gt
  intro d
  induction d with
  | zero =>
    intro i hi
    obtain rfl : i = ops.length := by omega
    refine Ev.step (f := fun _ => some ((valL xs ops ops.length).map tI, 0)) (fun k => ?_) (Ev.now _)
    simp only [eval_steps_uint64_33.l0]; rw [if_neg (by omega)]
  | succ d ih =>
    intro i hi
    have e1 : wrap64 ((i : Int) + 1) = ((i + 1 : Nat) : Int) := by rw [w64 (by omega) (by omega)]; rfl
    have hrec := ih (i + 1) (by omega)
    simp only [valL] at hrec
    have hlen : ((valL xs ops i).map tI).length = xs.length + i := by rw [List.length_map, valL_len]
    generalize hV : valL xs ops i = V at hrec hlen ⊢
    have hk : (rd_T70 ops (i : Int)).f0 = 1 ∨ (rd_T70 ops (i : Int)).f0 = 2 ∨ (rd_T70 ops (i : Int)).f0 = 3 ∨ (rd_T70 ops (i : Int)).f0 = 4 := h.opKind (by omega)
    have hb : (rd_T70 ops (i : Int)).f0 ≠ 4 → 0 ≤ (rd_T70 ops (i : Int)).f1 ∧ (rd_T70 ops (i : Int)).f1 < n + (i : Int) ∧ 0 ≤ (rd_T70 ops (i : Int)).f2 ∧ (rd_T70 ops (i : Int)).f2 < n + (i : Int) := fun c => h.opArgs (by omega) c
    have h3 : 0 ≤ (rd_T70 ops (i : Int)).f3 := hu.at_ (by omega)
    change Ev (fun k => eval_steps_uint64_33.l0 k f (p : Int) ((V ++ [valO (rd_T70 ops (i : Int)) V]).map tI) ops (ops.length : Int) ((i + 1 : Nat) : Int)) _ at hrec
    by_cases c1 : (rd_T70 ops (i : Int)).f0 = 1
    · have hb := hb (by omega)
      refine Ev.step (f := fun k => (eval_elements_add.f k f (tI (rdF V (rd_T70 ops (i : Int)).f1)) (tI (rdF V (rd_T70 ops (i : Int)).f2))).bind fun bt => if bt.2 = 0 then (if (V.map tI).length < 17592186044416 then eval_steps_uint64_33.l0 k f (p : Int) (V.map tI ++ [bt.1]) ops (ops.length : Int) ((i + 1 : Nat) : Int) else none) else some ([], bt.2)) (fun k => ?_) (Ev.bind (f := fun k (bt : Int × Int) => if bt.2 = 0 then (if (V.map tI).length < 17592186044416 then eval_steps_uint64_33.l0 k f (p : Int) (V.map tI ++ [bt.1]) ops (ops.length : Int) ((i + 1 : Nat) : Int) else none) else some ([], bt.2)) (eAdd_f hF _ _) ?_)
      · simp only [eval_steps_uint64_33.l0]
        rw [if_pos (by omega), if_pos (by omega), if_pos (by omega), if_pos c1, if_pos hb.1, if_pos (by omega), if_pos hb.2.2.1, if_pos (by omega), rd_map, rd_map, e1]
      · refine Ev.congr (fun k => ?_) hrec
        dsimp only
        rw [if_pos rfl, if_pos (by omega), map_snoc]
        unfold valO
        rw [if_pos c1]
    · by_cases c2 : (rd_T70 ops (i : Int)).f0 = 2
      · have hb := hb (by omega)
        refine Ev.step (f := fun k => (eval_elements_sub.f k f (tI (rdF V (rd_T70 ops (i : Int)).f1)) (tI (rdF V (rd_T70 ops (i : Int)).f2))).bind fun bt => if bt.2 = 0 then (if (V.map tI).length < 17592186044416 then eval_steps_uint64_33.l0 k f (p : Int) (V.map tI ++ [bt.1]) ops (ops.length : Int) ((i + 1 : Nat) : Int) else none) else some ([], bt.2)) (fun k => ?_) (Ev.bind (f := fun k (bt : Int × Int) => if bt.2 = 0 then (if (V.map tI).length < 17592186044416 then eval_steps_uint64_33.l0 k f (p : Int) (V.map tI ++ [bt.1]) ops (ops.length : Int) ((i + 1 : Nat) : Int) else none) else some ([], bt.2)) (eSub_f hF _ _) ?_)
        · simp only [eval_steps_uint64_33.l0]
          rw [if_pos (by omega), if_pos (by omega), if_pos (by omega), if_neg c1, if_pos c2, if_pos hb.1, if_pos (by omega), if_pos hb.2.2.1, if_pos (by omega), rd_map, rd_map, e1]
        · refine Ev.congr (fun k => ?_) hrec
          dsimp only
          rw [if_pos rfl, if_pos (by omega), map_snoc]
          unfold valO
          rw [if_neg c1, if_pos c2]
      · by_cases c3 : (rd_T70 ops (i : Int)).f0 = 3
        · have hb := hb (by omega)
          refine Ev.step (f := fun k => (eval_elements_mul.f k f (tI (rdF V (rd_T70 ops (i : Int)).f1)) (tI (rdF V (rd_T70 ops (i : Int)).f2))).bind fun bt => if bt.2 = 0 then (if (V.map tI).length < 17592186044416 then eval_steps_uint64_33.l0 k f (p : Int) (V.map tI ++ [bt.1]) ops (ops.length : Int) ((i + 1 : Nat) : Int) else none) else some ([], bt.2)) (fun k => ?_) (Ev.bind (f := fun k (bt : Int × Int) => if bt.2 = 0 then (if (V.map tI).length < 17592186044416 then eval_steps_uint64_33.l0 k f (p : Int) (V.map tI ++ [bt.1]) ops (ops.length : Int) ((i + 1 : Nat) : Int) else none) else some ([], bt.2)) (eMul_f hF _ _) ?_)
          · simp only [eval_steps_uint64_33.l0]
            rw [if_pos (by omega), if_pos (by omega), if_pos (by omega), if_neg c1, if_neg c2, if_pos c3, if_pos hb.1, if_pos (by omega), if_pos hb.2.2.1, if_pos (by omega), rd_map, rd_map, e1]
          · refine Ev.congr (fun k => ?_) hrec
            dsimp only
            rw [if_pos rfl, if_pos (by omega), map_snoc]
            unfold valO
            rw [if_neg c1, if_neg c2, if_pos c3]
        · refine Ev.step (f := fun k => eval_steps_uint64_33.l0 k f (p : Int) ((V ++ [valO (rd_T70 ops (i : Int)) V]).map tI) ops (ops.length : Int) ((i + 1 : Nat) : Int)) (fun k => ?_) hrec
          simp only [eval_steps_uint64_33.l0, eval_elements_number.f]
          rw [if_pos (by omega), if_pos (by omega), if_pos (by omega), if_neg c1, if_neg c2, if_neg c3, if_neg (by omega), Option.bind_some, if_pos trivial, if_pos (by omega), e1, tmod_c h3, map_snoc]
          unfold valO
          rw [if_neg c1, if_neg c2, if_neg c3]
theorem eSteps_f (hF : Fld f p) (h : MayP n ops outs) (hu : OpsU ops) (xs : List (Fin p)) (hx : (xs.length : Int) = n) :
    Ev (fun k => eval_steps_uint64_33.f k f f n ops outs (xs.map tI)) ((valL xs ops ops.length).map tI, 0) := by
  have hn1 := h.n1
  unfold eval_steps_uint64_33.f
  refine Ev.bind (f := fun k t => _) (ePrime_f hF) ?_
  simp only [if_true, eClone_f (xs.map tI) (by rw [List.length_map]; omega), Option.bind_some]
  exact eSteps_l0 hF h hu xs hx ops.length 0 (by omega)
theorem rSteps_l0 (hF : Fld f p) (h : MayP n ops outs) (hu : OpsU ops) (xs : List (Fin p)) (hx : (xs.length : Int) = n) : ∀ (d i : Nat), i + d = ops.length →
    Ev (fun k => conclaveref11_Steps.l0 k (p : Int) ((valL xs ops i).map tI) (i : Int) n ops outs) ((valL xs ops ops.length).map tI, 0) := by
  have hn := h.n0
  have hn1 := h.n1
  have hl := h.len
  have hp := hF.gt
  intro d
  induction d with
  | zero =>
    intro i hi
    obtain rfl : i = ops.length := by omega
    refine Ev.step (f := fun _ => some ((valL xs ops ops.length).map tI, 0)) (fun k => ?_) (Ev.now _)
    simp only [conclaveref11_Steps.l0]; rw [if_neg (by omega)]
  | succ d ih =>
    intro i hi
    have e1 : wrap64 ((i : Int) + 1) = ((i + 1 : Nat) : Int) := by rw [w64 (by omega) (by omega)]; rfl
    have hrec := ih (i + 1) (by omega)
    simp only [valL] at hrec
    have hlen : ((valL xs ops i).map tI).length = xs.length + i := by rw [List.length_map, valL_len]
    generalize hV : valL xs ops i = V at hrec hlen ⊢
    have hk : (rd_T70 ops (i : Int)).f0 = 1 ∨ (rd_T70 ops (i : Int)).f0 = 2 ∨ (rd_T70 ops (i : Int)).f0 = 3 ∨ (rd_T70 ops (i : Int)).f0 = 4 := h.opKind (by omega)
    have hb : (rd_T70 ops (i : Int)).f0 ≠ 4 → 0 ≤ (rd_T70 ops (i : Int)).f1 ∧ (rd_T70 ops (i : Int)).f1 < n + (i : Int) ∧ 0 ≤ (rd_T70 ops (i : Int)).f2 ∧ (rd_T70 ops (i : Int)).f2 < n + (i : Int) := fun c => h.opArgs (by omega) c
    have h3 : 0 ≤ (rd_T70 ops (i : Int)).f3 := hu.at_ (by omega)
    change Ev (fun k => conclaveref11_Steps.l0 k (p : Int) ((V ++ [valO (rd_T70 ops (i : Int)) V]).map tI) ((i + 1 : Nat) : Int) n ops outs) _ at hrec
    by_cases c1 : (rd_T70 ops (i : Int)).f0 = 1
    · have hb := hb (by omega)
      refine Ev.step (f := fun k => conclaveref11_Steps.l0 k (p : Int) ((V ++ [valO (rd_T70 ops (i : Int)) V]).map tI) ((i + 1 : Nat) : Int) n ops outs) (fun k => ?_) hrec
      simp only [conclaveref11_Steps.l0]
      rw [if_pos (by omega), if_pos (by omega), if_neg (by omega), if_pos c1, if_pos hb.1, if_pos (by omega), if_pos hb.2.2.1, if_pos (by omega), rd_map, rd_map, rSum_m hF, Option.bind_some, if_pos (by omega), e1, map_snoc]
      unfold valO; rw [if_pos c1]
    · by_cases c2 : (rd_T70 ops (i : Int)).f0 = 2
      · have hb := hb (by omega)
        refine Ev.step (f := fun k => conclaveref11_Steps.l0 k (p : Int) ((V ++ [valO (rd_T70 ops (i : Int)) V]).map tI) ((i + 1 : Nat) : Int) n ops outs) (fun k => ?_) hrec
        simp only [conclaveref11_Steps.l0]
        rw [if_pos (by omega), if_pos (by omega), if_neg (by omega), if_neg c1, if_pos c2, if_pos hb.1, if_pos (by omega), if_pos hb.2.2.1, if_pos (by omega), rd_map, rd_map, rLess_m hF, Option.bind_some, if_pos (by omega), e1, map_snoc]
        unfold valO; rw [if_neg c1, if_pos c2]
      · by_cases c3 : (rd_T70 ops (i : Int)).f0 = 3
        · have hb := hb (by omega)
          refine Ev.step (f := fun k => (conclaveref01_Times.f k (p : Int) (tI (rdF V (rd_T70 ops (i : Int)).f1)) (tI (rdF V (rd_T70 ops (i : Int)).f2))).bind fun t => if (V.map tI).length < 17592186044416 then conclaveref11_Steps.l0 k (p : Int) (V.map tI ++ [t]) ((i + 1 : Nat) : Int) n ops outs else none) (fun k => ?_) (Ev.bind (f := fun k t => if (V.map tI).length < 17592186044416 then conclaveref11_Steps.l0 k (p : Int) (V.map tI ++ [t]) ((i + 1 : Nat) : Int) n ops outs else none) (rTimes_m hF _ _) ?_)
          · simp only [conclaveref11_Steps.l0]
            rw [if_pos (by omega), if_pos (by omega), if_neg (by omega), if_neg c1, if_neg c2, if_pos c3, if_pos hb.1, if_pos (by omega), if_pos hb.2.2.1, if_pos (by omega), rd_map, rd_map, e1]
          · refine Ev.congr (fun k => ?_) hrec
            rw [if_pos (by omega), map_snoc]
            unfold valO
            rw [if_neg c1, if_neg c2, if_pos c3]
        · refine Ev.step (f := fun k => conclaveref11_Steps.l0 k (p : Int) ((V ++ [valO (rd_T70 ops (i : Int)) V]).map tI) ((i + 1 : Nat) : Int) n ops outs) (fun k => ?_) hrec
          simp only [conclaveref11_Steps.l0]
          rw [if_pos (by omega), if_pos (by omega), if_neg (by omega), if_neg c1, if_neg c2, if_neg c3, if_pos (by omega), e1, tmod_c h3, map_snoc]
          unfold valO
          rw [if_neg c1, if_neg c2, if_neg c3]
end
def mayR (f n : Int) : List (List Int) → Int → Int
  | [], e => e
  | l :: t, e => if inF f l = true then mayR f n t (if (l.length : Int) = n then e else 3) else 2
theorem rowsAt {l : List (List Int)} {i : Nat} (h : i < l.length) : rd_L4 l (i : Int) = l[i] := by simp [rd_L4, h]
theorem rowsDrop {l : List (List Int)} {i : Nat} (h : i < l.length) : l.drop i = rd_L4 l (i : Int) :: l.drop (i + 1) := by rw [rowsAt h, List.drop_eq_getElem_cons h]
theorem inF_nil (f : Int) : inF f [] = isF f := by unfold inF; rw [below_nil, Bool.and_true]
section
variable {f n : Int} {ops : List OpS} {outs : List Int}
theorem eMay_l0 (rows : List (List Int)) (hr : ∀ l ∈ rows, l.length ≤ 9223372036854775807) (hl : rows.length ≤ 9223372036854775806) : ∀ (d i : Nat), i + d = rows.length → ∀ e : Int,
    Ev (fun k => eval_may.l0 k f e rows (rows.length : Int) (i : Int) n ops outs) (mayR f n (rows.drop i) e) := by
  intro d
  induction d with
  | zero =>
    intro i hi e
    rw [List.drop_eq_nil_of_le (by omega)]
    refine Ev.step (f := fun _ => some e) (fun k => ?_) (Ev.now _)
    simp only [eval_may.l0]; rw [if_neg (by omega)]
  | succ d ih =>
    intro i hi e
    have e1 : wrap64 ((i : Int) + 1) = ((i + 1 : Nat) : Int) := by rw [w64 (by omega) (by omega)]; rfl
    have hin : (rd_L4 rows (i : Int)).length ≤ 9223372036854775807 := by rw [rowsAt (by omega)]; exact hr _ (List.getElem_mem _)
    rw [rowsDrop (by omega)]
    simp only [mayR]
    refine Ev.step (f := fun k => (field_In.f k f (rd_L4 rows (i : Int))).bind fun t => if t = true then (if ((rd_L4 rows (i : Int)).length : Int) = n then eval_may.l0 k f e rows (rows.length : Int) ((i + 1 : Nat) : Int) n ops outs else eval_may.l0 k f 3 rows (rows.length : Int) ((i + 1 : Nat) : Int) n ops outs) else some 2) (fun k => ?_) (Ev.bind (f := fun k (t : Bool) => if t = true then (if ((rd_L4 rows (i : Int)).length : Int) = n then eval_may.l0 k f e rows (rows.length : Int) ((i + 1 : Nat) : Int) n ops outs else eval_may.l0 k f 3 rows (rows.length : Int) ((i + 1 : Nat) : Int) n ops outs) else some 2) (In_f f _ hin) ?_)
    · simp only [eval_may.l0]
      rw [if_pos (by omega), if_pos (by omega), if_pos (by omega), e1]
    · by_cases c : inF f (rd_L4 rows (i : Int)) = true
      · simp only [if_pos c]
        by_cases c2 : ((rd_L4 rows (i : Int)).length : Int) = n
        · simp only [if_pos c2]; exact ih (i + 1) (by omega) e
        · simp only [if_neg c2]; exact ih (i + 1) (by omega) 3
      · simp only [if_neg c]; exact Ev.now _
theorem eMay_f (rows : List (List Int)) (hr : ∀ l ∈ rows, l.length ≤ 9223372036854775807) (hl : rows.length ≤ 9223372036854775806) :
    Ev (fun k => eval_may.f k f n ops outs rows) (if (mayB n ops outs && isF f) = true then mayR f n rows 0 else 2) := by
  have bad : Ev (fun k => eval_may.j0 k f rows true n ops outs) 2 := Ev.step (f := fun _ => some 2) (fun k => by simp only [eval_may.j0, if_true]) (Ev.now _)
  unfold eval_may.f
  refine Ev.bind (f := fun k t => _) (slpMay_f n ops outs) ?_
  cases c : mayB n ops outs
  · simp only [Bool.false_eq_true, if_false, Bool.false_and]; exact bad
  · simp only [if_true, Bool.true_and]
    refine Ev.bind (f := fun k t => _) (In_f f [] (by simp)) ?_
    rw [inF_nil]
    cases c2 : isF f
    · simp only [Bool.not_false, Bool.false_eq_true, if_false]; exact bad
    · simp only [Bool.not_true, if_true]
      refine Ev.step (f := fun k => eval_may.l0 k f 0 rows (rows.length : Int) 0 n ops outs) (fun k => by simp only [eval_may.j0, Bool.false_eq_true, if_false]) ?_
      have := eMay_l0 (f := f) (n := n) (ops := ops) (outs := outs) rows hr hl rows.length 0 (by omega) 0
      rwa [List.drop_zero] at this
def stepsC (f n : Int) (ops : List OpS) (outs : List Int) (l : List Int) : Int := if (mayB n ops outs && inF f l) = true then (if (l.length : Int) = n then 0 else 3) else 2
theorem eMay_one (l : List Int) (hl : l.length ≤ 9223372036854775807) : Ev (fun k => eval_may.f k f n ops outs [l]) (stepsC f n ops outs l) := by
  have h := eMay_f (f := f) (n := n) (ops := ops) (outs := outs) [l] (fun x hx => by rw [List.mem_singleton.1 hx]; exact hl) (by simp)
  have e : (if (mayB n ops outs && isF f) = true then mayR f n [l] 0 else 2) = stepsC f n ops outs l := by
    unfold stepsC
    simp only [mayR]
    cases c : mayB n ops outs
    · simp
    · simp only [Bool.true_and]
      cases c2 : inF f l
      · simp
      · rw [inF_isF c2]; simp
  rw [e] at h; exact h
theorem Steps_bad (l : List Int) (hu : U64 l) (hl : l.length ≤ 9223372036854775807) (hc : stepsC f n ops outs l ≠ 0) :
    Ev (fun k => eval_Steps.f k f n ops outs l) ([], stepsC f n ops outs l) ∧ Ev (fun k => conclaveref11_Steps.f k f n ops outs l) ([], stepsC f n ops outs l) := by
  constructor
  · unfold eval_Steps.f
    refine Ev.bind (f := fun k t => _) (eMay_one l hl) ?_
    simp only [if_neg hc]
    exact Ev.now _
  · have bad : Ev (fun k => conclaveref11_Steps.j0 k f l true n ops outs) ([], 2) := Ev.step (f := fun _ => some ([], 2)) (fun k => by simp only [conclaveref11_Steps.j0, if_true]) (Ev.now _)
    unfold conclaveref11_Steps.f
    refine Ev.bind (f := fun k t => _) (rMay_f n ops outs) ?_
    unfold stepsC at hc ⊢
    cases c : mayB n ops outs
    · simp only [Bool.false_eq_true, if_false, Bool.false_and]; exact bad
    · simp only [if_true, Bool.true_and]
      refine Ev.bind (f := fun k t => _) (rIn_f f l hu hl) ?_
      rw [c] at hc
      simp only [Bool.true_and] at hc
      cases c2 : inF f l
      · simp only [Bool.not_false, Bool.false_eq_true, if_false]; exact bad
      · rw [c2] at hc
        simp only [if_true] at hc
        by_cases c3 : (l.length : Int) = n
        · rw [if_pos c3] at hc; exact absurd rfl hc
        · simp only [Bool.not_true, if_true, if_neg c3]
          exact Ev.step (f := fun _ => some ([], 3)) (fun k => by simp only [conclaveref11_Steps.j0, Bool.false_eq_true, if_false, if_neg c3]) (Ev.now _)
theorem stepsC_zero {l : List Int} (h : stepsC f n ops outs l = 0) : MayP n ops outs ∧ inF f l = true ∧ (l.length : Int) = n := by
  unfold stepsC at h
  by_cases c : (mayB n ops outs && inF f l) = true
  · rw [if_pos c] at h
    obtain ⟨c1, c2⟩ := Bool.and_eq_true_iff.1 c
    by_cases c3 : (l.length : Int) = n
    · exact ⟨may_iff.1 c1, c2, c3⟩
    · rw [if_neg c3] at h; omega
  · rw [if_neg c] at h; omega
section
variable {p : Nat} [NeZero p]
theorem stepsC_map (hF : Fld f p) (h : MayP n ops outs) (xs : List (Fin p)) (hx : (xs.length : Int) = n) : stepsC f n ops outs (xs.map tI) = 0 := by
  unfold stepsC
  rw [may_iff.2 h, inF_map hF, List.length_map, if_pos hx]; rfl
theorem Steps_good (hF : Fld f p) (h : MayP n ops outs) (hu : OpsU ops) (xs : List (Fin p)) (hx : (xs.length : Int) = n) :
    Ev (fun k => eval_Steps.f k f n ops outs (xs.map tI)) ((valL xs ops ops.length).map tI, 0) ∧ Ev (fun k => conclaveref11_Steps.f k f n ops outs (xs.map tI)) ((valL xs ops ops.length).map tI, 0) := by
  have hn1 := h.n1
  constructor
  · unfold eval_Steps.f
    have hm := eMay_one (f := f) (n := n) (ops := ops) (outs := outs) (xs.map tI) (by rw [List.length_map]; omega)
    rw [stepsC_map hF h xs hx] at hm
    refine Ev.bind (f := fun k t => _) hm ?_
    simp only [if_true]
    exact Ev.bind (f := fun k (bt : List Int × Int) => some (bt.1, bt.2)) (eSteps_f hF h hu xs hx) (Ev.now _)
  · unfold conclaveref11_Steps.f
    have hm := rMay_f n ops outs
    rw [may_iff.2 h] at hm
    refine Ev.bind (f := fun k t => _) hm ?_
    simp only [if_true]
    refine Ev.bind (f := fun k t => _) (rIn_m hF xs (by omega)) ?_
    simp only [Bool.not_true]
    refine Ev.step (f := fun k => conclaveref11_Steps.l0 k (p : Int) (xs.map tI) 0 n ops outs) (fun k => ?_) (rSteps_l0 hF h hu xs hx ops.length 0 (by omega))
    simp only [conclaveref11_Steps.j0, Bool.false_eq_true, if_false]
    rw [if_pos (by rw [List.length_map]; exact hx), Pp_f hF, Option.bind_some, eCopy_f _ (by rw [List.length_map]; omega), Option.bind_some]
theorem eRun_l0 (V : List Int) (hv : ∀ v ∈ outs, 0 ≤ v ∧ v < (V.length : Int)) (ho : outs.length ≤ 64) : ∀ (d i : Nat), i + d = outs.length →
    Ev (fun k => eval_Run.l0 k V ((outs.take i).map (rd V)) outs (outs.length : Int) (i : Int)) (outs.map (rd V), 0) := by
  intro d
  induction d with
  | zero =>
    intro i hi
    rw [List.take_of_length_le (by omega)]
    refine Ev.step (f := fun _ => some (outs.map (rd V), 0)) (fun k => ?_) (Ev.now _)
    simp only [eval_Run.l0]; rw [if_neg (by omega)]
  | succ d ih =>
    intro i hi
    have e1 : wrap64 ((i : Int) + 1) = ((i + 1 : Nat) : Int) := by rw [w64 (by omega) (by omega)]; rfl
    have hb := hv (rd outs (i : Int)) (by rw [rd_at (by omega)]; exact List.getElem_mem _)
    refine Ev.step (f := fun k => eval_Run.l0 k V ((outs.take (i + 1)).map (rd V)) outs (outs.length : Int) ((i + 1 : Nat) : Int)) (fun k => ?_) (ih (i + 1) (by omega))
    simp only [eval_Run.l0]
    rw [if_pos (by omega), if_pos (by omega), if_pos (by omega), if_pos hb.1, if_pos hb.2, if_pos (by rw [List.length_map, List.length_take]; omega), e1, List.take_succ_eq_append_getElem (by omega : i < outs.length), List.map_append, ← rd_at]
    rfl
theorem rRun_l0 (V : List Int) (hv : ∀ v ∈ outs, 0 ≤ v ∧ v < (V.length : Int)) (ho : outs.length ≤ 64) : ∀ (d i : Nat), i + d = outs.length →
    Ev (fun k => conclaveref11_Run.l0 k V 0 ((outs.take i).map (rd V)) (i : Int) n ops outs) (outs.map (rd V), 0) := by
  intro d
  induction d with
  | zero =>
    intro i hi
    rw [List.take_of_length_le (by omega)]
    refine Ev.step (f := fun _ => some (outs.map (rd V), 0)) (fun k => ?_) (Ev.now _)
    simp only [conclaveref11_Run.l0]; rw [if_neg (by omega)]
  | succ d ih =>
    intro i hi
    have e1 : wrap64 ((i : Int) + 1) = ((i + 1 : Nat) : Int) := by rw [w64 (by omega) (by omega)]; rfl
    have hb := hv (rd outs (i : Int)) (by rw [rd_at (by omega)]; exact List.getElem_mem _)
    refine Ev.step (f := fun k => conclaveref11_Run.l0 k V 0 ((outs.take (i + 1)).map (rd V)) ((i + 1 : Nat) : Int) n ops outs) (fun k => ?_) (ih (i + 1) (by omega))
    simp only [conclaveref11_Run.l0]
    rw [if_pos (by omega), if_pos trivial, if_pos (by omega), if_pos hb.1, if_pos hb.2, if_pos (by rw [List.length_map, List.length_take]; omega), e1, List.take_succ_eq_append_getElem (by omega : i < outs.length), List.map_append, ← rd_at]
    rfl
theorem runF_len (xs : List (Fin p)) (ops : List OpS) (outs : List Int) : (runF xs ops outs).length = outs.length := by simp [runF]
theorem runF_map (xs : List (Fin p)) (ops : List OpS) (outs : List Int) : outs.map (rd ((valL xs ops ops.length).map tI)) = (runF xs ops outs).map tI := by
  unfold runF
  rw [List.map_map]
  exact List.map_congr_left fun v _ => rd_map _ _
theorem Run_good (hF : Fld f p) (h : MayP n ops outs) (hu : OpsU ops) (xs : List (Fin p)) (hx : (xs.length : Int) = n) :
    Ev (fun k => eval_Run.f k f n ops outs (xs.map tI)) ((runF xs ops outs).map tI, 0) ∧ Ev (fun k => conclaveref11_Run.f k f n ops outs (xs.map tI)) ((runF xs ops outs).map tI, 0) := by
  have hn := h.n0
  obtain ⟨h1, h2⟩ := Steps_good hF h hu xs hx
  have hv : ∀ v ∈ outs, 0 ≤ v ∧ v < (((valL xs ops ops.length).map tI).length : Int) := fun v hv => by
    have := h.out v hv
    rw [List.length_map, valL_len]; omega
  constructor
  · unfold eval_Run.f
    refine Ev.bind (f := fun k t => _) h1 ?_
    simp only [if_true]
    rw [← runF_map]
    exact eRun_l0 _ hv h.olen outs.length 0 (by omega)
  · unfold conclaveref11_Run.f
    refine Ev.bind (f := fun k t => _) h2 ?_
    rw [← runF_map]
    exact rRun_l0 _ hv h.olen outs.length 0 (by omega)
end
theorem Run_bad (l : List Int) (hu : U64 l) (hl : l.length ≤ 9223372036854775807) (hc : stepsC f n ops outs l ≠ 0) :
    Ev (fun k => eval_Run.f k f n ops outs l) ([], stepsC f n ops outs l) ∧ Ev (fun k => conclaveref11_Run.f k f n ops outs l) ([], stepsC f n ops outs l) := by
  obtain ⟨h1, h2⟩ := Steps_bad l hu hl hc
  constructor
  · unfold eval_Run.f
    refine Ev.bind (f := fun k t => _) h1 ?_
    simp only [if_neg hc]
    exact Ev.now _
  · unfold conclaveref11_Run.f
    refine Ev.bind (f := fun k t => _) h2 ?_
    refine Ev.step (f := fun _ => some ([], stepsC f n ops outs l)) (fun k => ?_) (Ev.now _)
    simp only [conclaveref11_Run.l0]
    by_cases c : (0 : Int) < (outs.length : Int)
    · rw [if_pos c, if_neg hc]
    · rw [if_neg c]
theorem run_lift {l : List Int} (hu : U64 l) (hc : stepsC f n ops outs l = 0) : ∃ p : Nat, ∃ _ : NeZero p, Fld f p ∧ MayP n ops outs ∧ ∃ xs : List (Fin p), l = xs.map tI ∧ (xs.length : Int) = n := by
  obtain ⟨h1, h2, h3⟩ := stepsC_zero hc
  obtain ⟨p, hz, hF⟩ := fld_of (inF_isF h2)
  have hb : below (prime f) l = true := by unfold inF at h2; exact (Bool.and_eq_true_iff.1 h2).2
  obtain ⟨xs, rfl⟩ := lift hF hu hb
  exact ⟨p, hz, hF, h1, xs, rfl, by rw [List.length_map] at h3; exact h3⟩
theorem Run_both (l : List Int) (ho : OpsU ops) (hu : U64 l) (hl : l.length ≤ 9223372036854775807) : ∃ r : List Int × Int, r.1.length ≤ 1000 ∧ Ev (fun k => eval_Run.f k f n ops outs l) r ∧ Ev (fun k => conclaveref11_Run.f k f n ops outs l) r := by
  by_cases hc : stepsC f n ops outs l = 0
  · obtain ⟨p, hz, hF, h, xs, rfl, hx⟩ := run_lift hu hc
    have hol := h.olen
    obtain ⟨h1, h2⟩ := Run_good hF h ho xs hx
    exact ⟨_, by rw [List.length_map, runF_len]; omega, h1, h2⟩
  · obtain ⟨h1, h2⟩ := Run_bad l hu hl hc
    exact ⟨_, by simp, h1, h2⟩
end
end Go.Proofs.Ytkhnngmighjaiaa.Plain
end
section
namespace Go.Proofs.Ytkhnngmighjaiaa.Plain
open Go.RowKit Go.Proofs Go.Proofs.Ytkhnngmighjaiaa.P Go.Proofs.Ytkhnngmighjaiaa.Mth Go.Proofs.YtkhnngmighjaiaaW.PrintWords Go.Proofs.YtkhnngmighjaiaaW.PrintLast Go.Proofs.YtkhnngmighjaiaaW.PrintMore
set_option linter.unusedVariables false
set_option linter.unusedSimpArgs false
def ops11 : List OpS := [⟨3, 0, 0, 0⟩, ⟨4, 0, 0, 5⟩, ⟨1, 1, 2, 0⟩]
instance nzS : NeZero 2013265921 := ⟨by decide⟩
theorem run14 : (runF [(3 : Fin 2013265921)] ops11 [3]).map tI = [14] := by decide +kernel
theorem run3 : ([(3 : Fin 2013265921)]).map tI = [3] := by decide +kernel
theorem anchored11_f : Ev (fun k => conclavelaw11_anchored.f k) true := by
  have hF : Fld 1 2013265921 := .inl ⟨rfl, rfl⟩
  have hm : MayP 1 ops11 [3] := may_iff.1 (by decide)
  have hu : OpsU ops11 := by intro o ho; simp only [ops11, List.mem_cons, List.not_mem_nil, or_false] at ho; rcases ho with rfl | rfl | rfl <;> decide
  have h1 := (Run_good hF hm hu [(3 : Fin 2013265921)] (by rfl)).1
  have hc : stepsC 1 1 ops11 [3] [] = 3 := by decide
  have h2 := (Run_bad (f := 1) (n := 1) (ops := ops11) (outs := [3]) [] (fun x hx => by simp at hx) (by simp) (by rw [hc]; decide)).1
  rw [hc] at h2
  rw [run14, run3] at h1
  unfold conclavelaw11_anchored.f
  simp only [Option.bind_some]
  change Ev (fun k => (eval_Run.f k 1 1 ops11 [3] [3]).bind fun bt298 => ((eval_Run.f k 1 1 ops11 [3] ([] : List Int)).bind fun bt302 => (if bt298.2 = 0 then (if bt302.2 = 3 then ((conclaveref01_Same.f k bt298.1 (([14] : List Int))).bind fun t309 => (some t309)) else (some false)) else (some false)))) true
  refine Ev.bind (f := fun k t => _) h1 ?_
  refine Ev.bind (f := fun k t => _) h2 ?_
  simp only [if_true]
  have h3 := fSame_f [14] [14] (by simp)
  rw [decide_eq_true rfl] at h3
  exact Ev.bind (f := fun _ t => some t) h3 (Ev.now _)
end Go.Proofs.Ytkhnngmighjaiaa.Plain
end
section
namespace Go.Proofs.Ytkhnngmighjaiaa.Plain
open Go.RowKit Go.Proofs Go.Proofs.Ytkhnngmighjaiaa.P Go.Proofs.YtkhnngmighjaiaaW.PrintWords Go.Proofs.YtkhnngmighjaiaaW.PrintLast Go.Proofs.YtkhnngmighjaiaaW.PrintMore
set_option linter.unusedVariables false
set_option linter.unusedSimpArgs false
def rowG {α : Type} (L : Nat) (g : Nat → α) : List α := (List.range L).map g
def put {α : Type} (g : Nat → α) (i : Nat) (v : α) : Nat → α := fun j => if j = i then v else g j
theorem put_same {α : Type} (g : Nat → α) (i : Nat) (v : α) : put g i v i = v := by simp [put]
theorem put_ne {α : Type} (g : Nat → α) {i j : Nat} (v : α) (h : j ≠ i) : put g i v j = g j := by simp [put, h]
theorem rowG_len {α : Type} (L : Nat) (g : Nat → α) : (rowG L g).length = L := by simp [rowG]
theorem rowG_rep {α : Type} (L : Nat) (z : α) : List.replicate L z = rowG L fun _ => z := by
  apply List.ext_getElem <;> simp [rowG]
theorem rowG_set {α : Type} (L : Nat) (g : Nat → α) (i : Nat) (v : α) : (rowG L g).set i v = rowG L (put g i v) := by
  apply List.ext_getElem
  · simp [rowG]
  · intro j h1 h2
    simp only [rowG, List.getElem_set, List.getElem_map, List.getElem_range, put]
    by_cases c : i = j
    · rw [if_pos c, if_pos c.symm]
    · rw [if_neg c, if_neg (Ne.symm c)]
theorem rowG_rdOf {α : Type} (d : α) {L : Nat} (g : Nat → α) {i : Int} (h0 : 0 ≤ i) (h1 : i < L) : rdOf d (rowG L g) i = g i.toNat := by
  have : i.toNat < L := by omega
  simp [rdOf, rowG, List.getD_eq_getElem?_getD, this]
theorem rowG_rd {L : Nat} (g : Nat → Int) {i : Int} (h0 : 0 ≤ i) (h1 : i < L) : rd (rowG L g) i = g i.toNat := by
  have : i.toNat < L := by omega
  simp [rd, rowG, List.getD_eq_getElem?_getD, this]
def stepM (n : Int) (v : Nat) (o : OpS) (f : Nat → Bool) : Nat → Bool := if f v = true then (if o.f0 = 4 then f else put (put f o.f1.toNat true) o.f2.toNat true) else f
def downM (n : Int) (ops : List OpS) : Nat → (Nat → Bool) → Nat → Bool
  | 0, f => f
  | i + 1, f => downM n ops i (stepM n (n.toNat + i) (rdO ops (i : Int)) f)
def outM : List Int → (Nat → Bool) → Nat → Bool
  | [], f => f
  | v :: l, f => outM l (put f v.toNat true)
def marksM (n : Int) (ops : List OpS) (outs : List Int) : Nat → Bool := downM n ops ops.length (outM outs fun _ => false)
section
variable {n : Int} {ops : List OpS} {outs : List Int}
theorem MayP.args (h : MayP n ops outs) {i : Nat} (hi : i < ops.length) (hk : (rdO ops (i : Int)).f0 ≠ 4) : 0 ≤ (rdO ops (i : Int)).f1 ∧ (rdO ops (i : Int)).f1 < n + (i : Int) ∧ 0 ≤ (rdO ops (i : Int)).f2 ∧ (rdO ops (i : Int)).f2 < n + (i : Int) := by
  rw [rdO_at hi] at hk ⊢
  exact okO_args (h.op i hi) hk
theorem downM_high (h : MayP n ops outs) : ∀ (i : Nat), i ≤ ops.length → ∀ (f : Nat → Bool) (x : Nat), n.toNat + i ≤ x + 1 → downM n ops i f x = f x := by
  intro i
  induction i with
  | zero => intro _ f x _; rfl
  | succ i ih =>
    intro hi f x hx
    simp only [downM]
    rw [ih (by omega) _ x (by omega)]
    unfold stepM
    by_cases c : f (n.toNat + i) = true
    · rw [if_pos c]
      by_cases c4 : (rdO ops (i : Int)).f0 = 4
      · rw [if_pos c4]
      · have ha := h.args (by omega) c4
        have := h.n0
        rw [if_neg c4, put_ne _ _ (by omega), put_ne _ _ (by omega)]
    · rw [if_neg c]
theorem stepM_mono (v : Nat) (o : OpS) (f : Nat → Bool) (x : Nat) (hx : f x = true) : stepM n v o f x = true := by
  unfold stepM
  split
  · split
    · exact hx
    · unfold put
      split
      · rfl
      · split
        · rfl
        · exact hx
  · exact hx
theorem downM_mono : ∀ (i : Nat) (f : Nat → Bool) (x : Nat), f x = true → downM n ops i f x = true := by
  intro i
  induction i with
  | zero => intro f x hx; exact hx
  | succ i ih => intro f x hx; exact ih _ x (stepM_mono _ _ f x hx)
theorem downM_closed (h : MayP n ops outs) : ∀ (i : Nat), i ≤ ops.length → ∀ (f : Nat → Bool) (j : Nat), j < i → downM n ops i f (n.toNat + j) = true → (rdO ops (j : Int)).f0 ≠ 4 →
    downM n ops i f (rdO ops (j : Int)).f1.toNat = true ∧ downM n ops i f (rdO ops (j : Int)).f2.toNat = true := by
  intro i
  induction i with
  | zero => intro _ f j hj; omega
  | succ i ih =>
    intro hi f j hj hm hk
    simp only [downM] at hm ⊢
    by_cases c : j = i
    · subst c
      rw [downM_high h j (by omega) _ _ (by omega)] at hm
      have hf : f (n.toNat + j) = true := by
        by_cases cf : f (n.toNat + j) = true
        · exact cf
        · unfold stepM at hm; rw [if_neg cf] at hm; exact absurd hm cf
      constructor
      · refine downM_mono j _ _ ?_
        unfold stepM
        rw [if_pos hf, if_neg hk]
        unfold put
        split
        · rfl
        · rw [if_pos rfl]
      · refine downM_mono j _ _ ?_
        unfold stepM
        rw [if_pos hf, if_neg hk, put_same]
    · exact ih (by omega) _ j (by omega) hm hk
theorem outM_mono : ∀ (l : List Int) (f : Nat → Bool) (x : Nat), f x = true → outM l f x = true := by
  intro l
  induction l with
  | nil => intro f x hx; exact hx
  | cons v l ih =>
    intro f x hx
    refine ih _ x ?_
    unfold put
    split
    · rfl
    · exact hx
theorem outM_in : ∀ (l : List Int) (f : Nat → Bool) (v : Int), v ∈ l → outM l f v.toNat = true := by
  intro l
  induction l with
  | nil => intro f v hv; simp at hv
  | cons u l ih =>
    intro f v hv
    rcases List.mem_cons.1 hv with rfl | hv
    · exact outM_mono l _ _ (put_same _ _ _)
    · exact ih _ v hv
theorem marksM_out (v : Int) (hv : v ∈ outs) : marksM n ops outs v.toNat = true := downM_mono _ _ _ (outM_in outs _ v hv)
theorem marksM_closed (h : MayP n ops outs) {j : Nat} (hj : j < ops.length) (hm : marksM n ops outs (n.toNat + j) = true) (hk : (rdO ops (j : Int)).f0 ≠ 4) :
    marksM n ops outs (rdO ops (j : Int)).f1.toNat = true ∧ marksM n ops outs (rdO ops (j : Int)).f2.toNat = true := downM_closed h _ (Nat.le_refl _) _ j hj hm hk
theorem downG {F : Nat → List Bool → Int → Option (List Bool)} (h : MayP n ops outs) (L : Nat) (hL : n + (ops.length : Int) ≤ L) (hL2 : L ≤ 1000)
    (hF : ∀ k m i, F (k + 1) m i = if i ≥ 0 then (if 0 ≤ i then (if i < (ops.length : Int) then (if 0 ≤ (wrap64 (n + i)) then (if (wrap64 (n + i)) < (m.length : Int) then (if rdOf false m (wrap64 (n + i)) = true then (if (rdO ops i).f0 = 4 then (F k m (wrap64 (i - 1))) else (if 0 ≤ (rdO ops i).f1 then (if (rdO ops i).f1 < (m.length : Int) then (if 0 ≤ (rdO ops i).f2 then (if (rdO ops i).f2 < (m.length : Int) then (F k ((m.set ((rdO ops i).f1 : Int).toNat true).set ((rdO ops i).f2 : Int).toNat true) (wrap64 (i - 1))) else (none)) else (none)) else (none)) else (none))) else (F k m (wrap64 (i - 1)))) else (none)) else (none)) else (none)) else (none)) else (some m)) :
    ∀ (i : Nat), i ≤ ops.length → ∀ f : Nat → Bool, Ev (fun k => F k (rowG L f) ((i : Int) - 1)) (rowG L (downM n ops i f)) := by
  have hn := h.n0
  have hn1 := h.n1
  have hl := h.len
  intro i
  induction i with
  | zero =>
    intro _ f
    refine Ev.step (f := fun _ => some (rowG L f)) (fun k => ?_) (Ev.now _)
    rw [hF, if_neg (by omega)]
  | succ i ih =>
    intro hi f
    have e0 : ((i + 1 : Nat) : Int) - 1 = (i : Int) := by omega
    have ew : wrap64 (n + (i : Int)) = n + (i : Int) := w64 (by omega) (by omega)
    have ew2 : wrap64 ((i : Int) - 1) = (i : Int) - 1 := w64 (by omega) (by omega)
    have en : (n + (i : Int)).toNat = n.toNat + i := by omega
    rw [e0]
    refine Ev.step (f := fun k => F k (rowG L (stepM n (n.toNat + i) (rdO ops (i : Int)) f)) ((i : Int) - 1)) (fun k => ?_) (ih (by omega) _)
    rw [hF, if_pos (by omega), if_pos (by omega), if_pos (by omega), ew, ew2, if_pos (by omega), rowG_len, if_pos (by omega), rowG_rdOf false f (by omega) (by omega), en]
    unfold stepM
    by_cases c : f (n.toNat + i) = true
    · rw [if_pos c, if_pos c]
      by_cases c4 : (rdO ops (i : Int)).f0 = 4
      · rw [if_pos c4, if_pos c4]
      · have ha := h.args (by omega) c4
        rw [if_neg c4, if_neg c4, if_pos ha.1, if_pos (by omega), if_pos ha.2.2.1, if_pos (by omega), rowG_set, rowG_set]
    · rw [if_neg c, if_neg c]
theorem rMarks_l0 (h : MayP n ops outs) (L : Nat) (hL : n + (ops.length : Int) = L) (r : List Bool) : ∀ (d i : Nat), i + d = outs.length → ∀ f : Nat → Bool, Ev (fun k => conclaveref10_wanted.l1 k (rowG L (outM (outs.drop i) f)) ((ops.length : Int) - 1) n ops outs) r →
    Ev (fun k => conclaveref10_wanted.l0 k (rowG L f) (i : Int) n ops outs) r := by
  have hn := h.n0
  have hn1 := h.n1
  have hl := h.len
  have ho := h.olen
  intro d
  induction d with
  | zero =>
    intro i hi f hr
    rw [List.drop_eq_nil_of_le (by omega)] at hr
    refine Ev.step (f := fun k => conclaveref10_wanted.l1 k (rowG L f) ((ops.length : Int) - 1) n ops outs) (fun k => ?_) hr
    simp only [conclaveref10_wanted.l0]
    rw [if_neg (by omega), w64 (by omega) (by omega)]
  | succ d ih =>
    intro i hi f hr
    have e1 : wrap64 ((i : Int) + 1) = ((i + 1 : Nat) : Int) := by rw [w64 (by omega) (by omega)]; rfl
    rw [drop_at (l := outs) (by omega)] at hr
    have hv := h.out (rd outs (i : Int)) (by rw [rd_at (by omega)]; exact List.getElem_mem _)
    refine Ev.step (f := fun k => conclaveref10_wanted.l0 k (rowG L (put f (rd outs (i : Int)).toNat true)) ((i + 1 : Nat) : Int) n ops outs) (fun k => ?_) (ih (i + 1) (by omega) _ hr)
    simp only [conclaveref10_wanted.l0]
    rw [if_pos (by omega), if_pos (by omega), if_pos hv.1, rowG_len, if_pos (by omega), rowG_set, e1]
theorem rMarks_f (h : MayP n ops outs) : Ev (fun k => conclaveref10_wanted.f k n ops outs) (rowG (n.toNat + ops.length) (marksM n ops outs)) := by
  have hn := h.n0
  have hn1 := h.n1
  have hl := h.len
  unfold conclaveref10_wanted.f
  have ew : wrap64 (n + (ops.length : Int)) = n + (ops.length : Int) := w64 (by omega) (by omega)
  simp only [ew, if_pos (show 0 ≤ n + (ops.length : Int) by omega), show (n + (ops.length : Int)).toNat = n.toNat + ops.length by omega, if_pos (show n.toNat + ops.length ≤ 281474976710656 by omega), rowG_rep]
  refine rMarks_l0 h (n.toNat + ops.length) (by omega) _ outs.length 0 (by omega) _ ?_
  rw [List.drop_zero]
  exact downG (F := fun k m i => conclaveref10_wanted.l1 k m i n ops outs) h (n.toNat + ops.length) (by omega) (by omega) (fun k m i => by simp only [conclaveref10_wanted.l1]) ops.length (Nat.le_refl _) _
end
end Go.Proofs.Ytkhnngmighjaiaa.Plain
end
section
namespace Go.Proofs.Ytkhnngmighjaiaa.Plain
open Go.RowKit Go.Proofs Go.Proofs.Ytkhnngmighjaiaa.P Go.Proofs.YtkhnngmighjaiaaW.PrintWords Go.Proofs.YtkhnngmighjaiaaW.PrintLast Go.Proofs.YtkhnngmighjaiaaW.PrintMore
set_option linter.unusedVariables false
set_option linter.unusedSimpArgs false
def kept (n : Int) (f : Nat → Bool) : Nat → Nat
  | 0 => 0
  | i + 1 => if f (n.toNat + i) = true then kept n f i + 1 else kept n f i
def posT (n : Int) (f : Nat → Bool) (v : Nat) : Int := if v < n.toNat then (v : Int) else n + (kept n f (v - n.toNat) : Int)
def reO (n : Int) (f : Nat → Bool) (o : OpS) : OpS := if o.f0 = 4 then o else ⟨o.f0, posT n f o.f1.toNat, posT n f o.f2.toNat, o.f3⟩
def outT (n : Int) (f : Nat → Bool) (ops : List OpS) : Nat → List OpS
  | 0 => []
  | i + 1 => if f (n.toNat + i) = true then outT n f ops i ++ [reO n f (rdO ops (i : Int))] else outT n f ops i
def outsT (n : Int) (f : Nat → Bool) (outs : List Int) : List Int := outs.map fun v => posT n f v.toNat
theorem outT_len (n : Int) (f : Nat → Bool) (ops : List OpS) : ∀ i, (outT n f ops i).length = kept n f i := by
  intro i
  induction i with
  | zero => rfl
  | succ i ih => simp only [outT, kept]; split <;> simp [ih]
theorem kept_le (n : Int) (f : Nat → Bool) : ∀ i, kept n f i ≤ i := by
  intro i
  induction i with
  | zero => exact Nat.le_refl _
  | succ i ih => simp only [kept]; split <;> omega
def Told (n : Int) (f : Nat → Bool) (i : Nat) (a : Nat → Int) : Prop := ∀ v, v < n.toNat + i → (v < n.toNat ∨ f v = true) → a v = posT n f v
section
variable {n : Int} {ops : List OpS} {outs : List Int}
theorem Told.step {f : Nat → Bool} {i : Nat} {a : Nat → Int} (h : Told n f i a) (hf : f (n.toNat + i) = true) : Told n f (i + 1) (put a (n.toNat + i) (n + (kept n f i : Int))) := by
  intro v hv hm
  by_cases c : v = n.toNat + i
  · subst c
    rw [put_same]; unfold posT
    rw [if_neg (by omega), show n.toNat + i - n.toNat = i by omega]
  · rw [put_ne _ _ c]; exact h v (by omega) hm
theorem Told.skip {f : Nat → Bool} {i : Nat} {a : Nat → Int} (h : Told n f i a) (hf : f (n.toNat + i) ≠ true) (x : Int) : Told n f (i + 1) (put a (n.toNat + i) x) := by
  intro v hv hm
  by_cases c : v = n.toNat + i
  · subst c; rcases hm with hm | hm
    · omega
    · exact absurd hm hf
  · rw [put_ne _ _ c]; exact h v (by omega) hm
theorem args_told (h : MayP n ops outs) {i : Nat} (hi : i < ops.length) (hf : marksM n ops outs (n.toNat + i) = true) (hk : (rdO ops (i : Int)).f0 ≠ 4) {a : Nat → Int} (ha : Told n (marksM n ops outs) i a) :
    a (rdO ops (i : Int)).f1.toNat = posT n (marksM n ops outs) (rdO ops (i : Int)).f1.toNat ∧ a (rdO ops (i : Int)).f2.toNat = posT n (marksM n ops outs) (rdO ops (i : Int)).f2.toNat := by
  have hb := h.args hi hk
  have hc := marksM_closed h hi hf hk
  have hn := h.n0
  exact ⟨ha _ (by omega) (Or.inr hc.1), ha _ (by omega) (Or.inr hc.2)⟩
theorem rTrim_l1 (h : MayP n ops outs) (f : Nat → Bool) (L : Nat) (hL : n + (ops.length : Int) ≤ L) (a : Nat → Int) (ha : ∀ v ∈ outs, a v.toNat = posT n f v.toNat) (O : List OpS) : ∀ (d i : Nat), i + d = outs.length →
    Ev (fun k => conclaveref10_Trim.l1 k (rowG L a) (i : Int) n ops outs n O (outsT n f (outs.take i))) (n, O, outsT n f outs, 0) := by
  have hn := h.n0
  have hn1 := h.n1
  have hl := h.len
  have ho := h.olen
  intro d
  induction d with
  | zero =>
    intro i hi
    refine Ev.step (f := fun _ => some (n, O, outsT n f (outs.take i), 0)) (fun k => ?_) ?_
    · simp only [conclaveref10_Trim.l1]; rw [if_neg (by omega)]
    · rw [List.take_of_length_le (by omega)]; exact Ev.now _
  | succ d ih =>
    intro i hi
    have e1 : wrap64 ((i : Int) + 1) = ((i + 1 : Nat) : Int) := by rw [w64 (by omega) (by omega)]; rfl
    have hin : rd outs (i : Int) ∈ outs := by rw [rd_at (by omega)]; exact List.getElem_mem _
    have hv := h.out _ hin
    have hl2 : (outsT n f (outs.take i)).length < 17592186044416 := by unfold outsT; rw [List.length_map, List.length_take]; omega
    refine Ev.step (f := fun k => conclaveref10_Trim.l1 k (rowG L a) ((i + 1 : Nat) : Int) n ops outs n O (outsT n f (outs.take (i + 1)))) (fun k => ?_) (ih (i + 1) (by omega))
    simp only [conclaveref10_Trim.l1]
    rw [if_pos (by omega), if_pos (by omega), if_pos hv.1, rowG_len, if_pos (by omega), if_pos hl2, rowG_rd a hv.1 (by omega), ha _ hin, e1]
    rw [List.take_succ_eq_append_getElem (by omega : i < outs.length)]
    unfold outsT
    rw [List.map_append, ← rd_at]
    rfl
theorem rTrim_l0 (h : MayP n ops outs) (L : Nat) (hL : n.toNat + ops.length = L) : ∀ (d v : Nat), v + d = L → ∀ a : Nat → Int, (v ≤ n.toNat → ∀ u, u < v → a u = (u : Int)) → (n.toNat ≤ v → Told n (marksM n ops outs) (v - n.toNat) a) →
    Ev (fun k => conclaveref10_Trim.l0 k (rowG L (marksM n ops outs)) (rowG L a) (v : Int) n ops outs n (outT n (marksM n ops outs) ops (v - n.toNat))) (n, outT n (marksM n ops outs) ops ops.length, outsT n (marksM n ops outs) outs, 0) := by
  have hn := h.n0
  have hn1 := h.n1
  have hl := h.len
  intro d
  induction d with
  | zero =>
    intro v hv a h1 h2
    have e : v - n.toNat = ops.length := by omega
    have ht := h2 (by omega)
    rw [e] at ht
    refine Ev.step (f := fun k => conclaveref10_Trim.l1 k (rowG L a) 0 n ops outs n (outT n (marksM n ops outs) ops ops.length) ([] : List Int)) (fun k => ?_) (rTrim_l1 h (marksM n ops outs) L (by omega) a (fun u hu => ?_) _ outs.length 0 (by omega))
    · simp only [conclaveref10_Trim.l0]; rw [rowG_len, if_neg (by omega), e]
    · have hu' := h.out u hu
      exact ht u.toNat (by omega) (Or.inr (marksM_out u hu))
  | succ d ih =>
    intro v hv a h1 h2
    have e1 : wrap64 ((v : Int) + 1) = ((v + 1 : Nat) : Int) := by rw [w64 (by omega) (by omega)]; rfl
    by_cases cv : v < n.toNat
    · have e0 : v - n.toNat = 0 := by omega
      have e2 : v + 1 - n.toNat = 0 := by omega
      have hh := ih (v + 1) (by omega) (put a v (v : Int)) (fun _ u hu => by
        by_cases c : u = v
        · subst c; exact put_same _ _ _
        · rw [put_ne _ _ c]; exact h1 (by omega) u (by omega)) (fun hle => by
        rw [e2]
        intro u hu hm
        have hu2 : u < n.toNat := by omega
        unfold posT
        rw [if_pos hu2]
        by_cases c : u = v
        · subst c; exact put_same _ _ _
        · rw [put_ne _ _ c]; exact h1 (by omega) u (by omega))
      rw [e2] at hh
      rw [e0]
      refine Ev.step (f := fun k => conclaveref10_Trim.j1 k (rowG L (marksM n ops outs)) (rowG L (put a v (v : Int))) (v : Int) true n ops outs n (outT n (marksM n ops outs) ops 0)) (fun k => ?_) ?_
      · simp only [conclaveref10_Trim.l0]
        rw [rowG_len, if_pos (by omega), if_pos (by omega), rowG_len, if_pos (by omega), Option.bind_some, if_pos (by omega), rowG_set, Int.toNat_natCast]
      · refine Ev.step (f := fun k => conclaveref10_Trim.l0 k (rowG L (marksM n ops outs)) (rowG L (put a v (v : Int))) ((v + 1 : Nat) : Int) n ops outs n (outT n (marksM n ops outs) ops 0)) (fun k => ?_) hh
        simp only [conclaveref10_Trim.j1, if_true]
        rw [e1]
    · obtain ⟨i, rfl⟩ : ∃ i, v = n.toNat + i := ⟨v - n.toNat, by omega⟩
      have ei : n.toNat + i - n.toNat = i := by omega
      have ei2 : n.toNat + i + 1 - n.toNat = i + 1 := by omega
      have ha := h2 (by omega)
      rw [ei] at ha
      rw [ei]
      have hi : i < ops.length := by omega
      have en2 : wrap64 (((n.toNat + i : Nat) : Int) - n) = (i : Int) := by rw [w64 (by omega) (by omega)]; omega
      have hk := kept_le n (marksM n ops outs) i
      have hlen : (outT n (marksM n ops outs) ops i).length = kept n (marksM n ops outs) i := outT_len _ _ _ _
      have ek : wrap64 (n + ((outT n (marksM n ops outs) ops i).length : Int)) = n + (kept n (marksM n ops outs) i : Int) := by rw [hlen]; exact w64 (by omega) (by omega)
      have h0 : ∀ b : Bool, b = (!(marksM n ops outs (n.toNat + i))) → Ev (fun k => conclaveref10_Trim.j1 k (rowG L (marksM n ops outs)) (rowG L (put a (n.toNat + i) ((n.toNat + i : Nat) : Int))) ((n.toNat + i : Nat) : Int) b n ops outs n (outT n (marksM n ops outs) ops i)) (n, outT n (marksM n ops outs) ops ops.length, outsT n (marksM n ops outs) outs, 0) := by
        intro b hb
        by_cases c : marksM n ops outs (n.toNat + i) = true
        · rw [c] at hb
          subst hb
          have hh := ih (n.toNat + i + 1) (by omega) (put (put a (n.toNat + i) ((n.toNat + i : Nat) : Int)) (n.toNat + i) (n + (kept n (marksM n ops outs) i : Int))) (fun hle => by omega) (fun _ => by
            rw [ei2]
            have : put (put a (n.toNat + i) ((n.toNat + i : Nat) : Int)) (n.toNat + i) (n + (kept n (marksM n ops outs) i : Int)) = put a (n.toNat + i) (n + (kept n (marksM n ops outs) i : Int)) := by
              funext u; unfold put; split <;> rfl
            rw [this]
            exact ha.step c)
          rw [ei2] at hh
          refine Ev.step (f := fun k => conclaveref10_Trim.l0 k (rowG L (marksM n ops outs)) (rowG L (put (put a (n.toNat + i) ((n.toNat + i : Nat) : Int)) (n.toNat + i) (n + (kept n (marksM n ops outs) i : Int)))) ((n.toNat + i + 1 : Nat) : Int) n ops outs n (outT n (marksM n ops outs) ops (i + 1))) (fun k => ?_) hh
          simp only [conclaveref10_Trim.j1, Bool.not_true, Bool.false_eq_true, if_false]
          rw [en2, if_pos (by omega), if_pos (by omega), ek, e1, rowG_len, rowG_set, Int.toNat_natCast]
          simp only [outT, if_pos c]
          by_cases c4 : (rdO ops (i : Int)).f0 = 4
          · rw [if_pos c4, if_pos (by omega), if_pos (by omega), if_pos (by omega)]
            unfold reO
            rw [if_pos c4]
          · have hb : 0 ≤ (rd_T70 ops (i : Int)).f1 ∧ (rd_T70 ops (i : Int)).f1 < n + (i : Int) ∧ 0 ≤ (rd_T70 ops (i : Int)).f2 ∧ (rd_T70 ops (i : Int)).f2 < n + (i : Int) := h.args hi c4
            have hat := args_told h hi c c4 ha
            rw [if_neg c4, if_pos hb.1, if_pos (by omega), if_pos hb.2.2.1, if_pos (by omega), if_pos (by omega), if_pos (by omega), if_pos (by omega)]
            rw [rowG_rd _ hb.1 (by omega), rowG_rd _ hb.2.2.1 (by omega), put_ne _ _ (by omega), put_ne _ _ (by omega), hat.1, hat.2]
            unfold reO
            rw [if_neg c4]
        · have hc : marksM n ops outs (n.toNat + i) = false := by simpa using c
          rw [hc] at hb
          subst hb
          have hh := ih (n.toNat + i + 1) (by omega) (put a (n.toNat + i) ((n.toNat + i : Nat) : Int)) (fun hle => by omega) (fun _ => by
            rw [ei2]; exact ha.skip c _)
          rw [ei2] at hh
          simp only [outT, if_neg c] at hh
          refine Ev.step (f := fun k => conclaveref10_Trim.l0 k (rowG L (marksM n ops outs)) (rowG L (put a (n.toNat + i) ((n.toNat + i : Nat) : Int))) ((n.toNat + i + 1 : Nat) : Int) n ops outs n (outT n (marksM n ops outs) ops i)) (fun k => ?_) hh
          simp only [conclaveref10_Trim.j1, Bool.not_false, if_true]
          rw [e1]
      refine Ev.step (f := fun k => conclaveref10_Trim.j1 k (rowG L (marksM n ops outs)) (rowG L (put a (n.toNat + i) ((n.toNat + i : Nat) : Int))) ((n.toNat + i : Nat) : Int) (!(marksM n ops outs (n.toNat + i))) n ops outs n (outT n (marksM n ops outs) ops i)) (fun k => ?_) (h0 _ rfl)
      simp only [conclaveref10_Trim.l0]
      rw [rowG_len, if_pos (by omega), if_pos (by omega), rowG_len, if_pos (by omega), Option.bind_some, if_neg (by omega), rowG_set, rowG_rdOf false _ (by omega) (by omega), Int.toNat_natCast]
theorem rTrimD_f (h : MayP n ops outs) : Ev (fun k => conclaveref10_Trim.f k n ops outs) (n, outT n (marksM n ops outs) ops ops.length, outsT n (marksM n ops outs) outs, 0) := by
  have hn := h.n0
  have hn1 := h.n1
  have hl := h.len
  unfold conclaveref10_Trim.f
  have hm := rMay_f n ops outs
  rw [may_iff.2 h] at hm
  refine Ev.bind (f := fun k t => _) hm ?_
  simp only [if_true]
  refine Ev.bind (f := fun k t => _) (rMarks_f h) ?_
  simp only [rowG_len, if_pos (show (0 : Int) ≤ ((n.toNat + ops.length : Nat) : Int) by omega), Int.toNat_natCast, if_pos (show n.toNat + ops.length ≤ 35184372088832 by omega), rowG_rep]
  have hh := rTrim_l0 h (n.toNat + ops.length) rfl (n.toNat + ops.length) 0 (by omega) (fun _ => 0) (fun _ u hu => by omega) (fun hle => by
    intro v hv hm
    omega)
  rw [Nat.zero_sub] at hh
  exact hh
end
end Go.Proofs.Ytkhnngmighjaiaa.Plain
end
section
namespace Go.Proofs.Ytkhnngmighjaiaa.Plain
open Go.RowKit Go.Proofs Go.Proofs.Ytkhnngmighjaiaa.P Go.Proofs.YtkhnngmighjaiaaW.PrintWords Go.Proofs.YtkhnngmighjaiaaW.PrintLast Go.Proofs.YtkhnngmighjaiaaW.PrintMore
set_option linter.unusedVariables false
set_option linter.unusedSimpArgs false
theorem rd_left {l m : List Int} {i : Int} (h0 : 0 ≤ i) (h1 : i < l.length) : rd (l ++ m) i = rd l i := by
  unfold rd
  rw [List.getD_eq_getElem?_getD, List.getD_eq_getElem?_getD, List.getElem?_append_left (by omega)]
section
variable {n : Int} {ops : List OpS} {outs : List Int}
theorem okO_kind {m : Int} {o : OpS} (h : okO m o = true) : o.f0 = 1 ∨ o.f0 = 2 ∨ o.f0 = 3 ∨ o.f0 = 4 := by
  unfold okO at h
  by_cases c : o.f0 = 1 ∨ o.f0 = 2 ∨ o.f0 = 3
  · omega
  · rw [if_neg c] at h
    simp only [Bool.and_eq_true, decide_eq_true_eq] at h
    omega
theorem MayP.kind (h : MayP n ops outs) {i : Nat} (hi : i < ops.length) : (rdO ops (i : Int)).f0 = 1 ∨ (rdO ops (i : Int)).f0 = 2 ∨ (rdO ops (i : Int)).f0 = 3 ∨ (rdO ops (i : Int)).f0 = 4 := by
  rw [rdO_at hi]
  exact okO_kind (h.op i hi)
end
end Go.Proofs.Ytkhnngmighjaiaa.Plain
end
section
namespace Go.Proofs.Ytkhnngmighjaiaa.Plain
open Go.RowKit Go.Proofs Go.Proofs.Ytkhnngmighjaiaa.P Go.Proofs.YtkhnngmighjaiaaW.PrintWords Go.Proofs.YtkhnngmighjaiaaW.PrintLast Go.Proofs.YtkhnngmighjaiaaW.PrintMore
set_option linter.unusedVariables false
set_option linter.unusedSimpArgs false
def atA (n : Int) (qn : Int) (qops : List OpS) (qouts : List Int) (v : Int) : Int := if v < n then rd qouts v else qn + (qops.length : Int) + (v - n)
def reA (n qn : Int) (qops : List OpS) (qouts : List Int) (o : OpS) : OpS := if o.f0 = 4 then o else ⟨o.f0, atA n qn qops qouts o.f1, atA n qn qops qouts o.f2, o.f3⟩
def opsA (n qn : Int) (qops : List OpS) (qouts : List Int) (ops : List OpS) : List OpS := qops ++ ops.map (reA n qn qops qouts)
def outsA (n qn : Int) (qops : List OpS) (qouts : List Int) (outs : List Int) : List Int := outs.map (atA n qn qops qouts)
section
variable {n : Int} {ops : List OpS} {outs : List Int} {qn : Int} {qops : List OpS} {qouts : List Int}
theorem atA_range (h : MayP n ops outs) (hq : MayP qn qops qouts) (hl : (qouts.length : Int) = n) {v : Int} (h0 : 0 ≤ v) {m : Int} (hm : n ≤ m) (h1 : v < m) : 0 ≤ atA n qn qops qouts v ∧ atA n qn qops qouts v < qn + (qops.length : Int) + (m - n) := by
  have := hq.n0
  have := h.n0
  unfold atA
  by_cases c : v < n
  · rw [if_pos c]
    obtain ⟨i, rfl⟩ := Int.eq_ofNat_of_zero_le h0
    have hv := hq.out (rd qouts (i : Int)) (by rw [rd_at (by omega)]; exact List.getElem_mem _)
    omega
  · rw [if_neg c]; omega
theorem opsA_len : (opsA n qn qops qouts ops).length = qops.length + ops.length := by simp [opsA]
theorem opsA_at1 {i : Nat} (hi : i < qops.length) : rdO (opsA n qn qops qouts ops) (i : Int) = rdO qops (i : Int) := by
  rw [rdO_at hi, rdO_at (by rw [opsA_len]; omega)]
  unfold opsA
  exact List.getElem_append_left hi
theorem opsA_at2 {i : Nat} (hi : i < ops.length) : rdO (opsA n qn qops qouts ops) ((qops.length + i : Nat) : Int) = reA n qn qops qouts (rdO ops (i : Int)) := by
  rw [rdO_at hi, rdO_at (by rw [opsA_len]; omega)]
  unfold opsA
  rw [List.getElem_append_right (by omega)]
  simp
theorem After_may (h : MayP n ops outs) (hq : MayP qn qops qouts) (hl : (qouts.length : Int) = n) (hs : ops.length + qops.length ≤ 256) : MayP qn (opsA n qn qops qouts ops) (outsA n qn qops qouts outs) := by
  have hqn := hq.n0
  have hn := h.n0
  refine ⟨hq.n0, hq.n1, by rw [opsA_len]; omega, by unfold outsA; rw [List.length_map]; exact h.olen, fun i hi => ?_, fun v hv => ?_⟩
  · rw [opsA_len] at hi
    rw [← rdO_at (by rw [opsA_len]; exact hi)]
    by_cases c : i < qops.length
    · rw [opsA_at1 c, rdO_at c]; exact hq.op i c
    · obtain ⟨j, rfl⟩ : ∃ j, i = qops.length + j := ⟨i - qops.length, by omega⟩
      have hj : j < ops.length := by omega
      rw [opsA_at2 hj]
      have ho := h.op j hj
      rw [← rdO_at hj] at ho
      unfold reA
      by_cases c4 : (rdO ops (j : Int)).f0 = 4
      · rw [if_pos c4]
        unfold okO at ho ⊢
        rw [if_neg (by omega)] at ho ⊢
        exact ho
      · rw [if_neg c4]
        have hb := h.args hj c4
        have hk := h.kind hj
        have ha1 := atA_range h hq hl hb.1 (m := n + (j : Int)) (by omega) hb.2.1
        have ha2 := atA_range h hq hl hb.2.2.1 (m := n + (j : Int)) (by omega) hb.2.2.2
        have h3 : (rdO ops (j : Int)).f3 = 0 := by
          unfold okO at ho
          rw [if_pos (by omega)] at ho
          simp only [Bool.and_eq_true, decide_eq_true_eq] at ho
          exact ho.2
        unfold okO
        rw [if_pos (show (rdO ops (j : Int)).f0 = 1 ∨ (rdO ops (j : Int)).f0 = 2 ∨ (rdO ops (j : Int)).f0 = 3 by omega)]
        simp only [Bool.and_eq_true, decide_eq_true_eq]
        refine ⟨⟨⟨⟨ha1.1, ?_⟩, ha2.1⟩, ?_⟩, h3⟩ <;> omega
  · unfold outsA at hv
    obtain ⟨u, hu, rfl⟩ := List.mem_map.1 hv
    have hb := h.out u hu
    have := atA_range h hq hl hb.1 (m := n + (ops.length : Int)) (by omega) hb.2
    rw [opsA_len]
    omega
theorem After_l1 (h : MayP n ops outs) (at_ : List Int) (hat : ∀ v : Int, 0 ≤ v → v < n + (ops.length : Int) → rd at_ v = atA n qn qops qouts v) (hal : (at_.length : Int) = n + (ops.length : Int)) (O : List OpS) : ∀ (d i : Nat), i + d = outs.length →
    Ev (fun k => conclaveref09_After.l1 k at_ (i : Int) n ops outs qn O (outsA n qn qops qouts (outs.take i))) (qn, O, outsA n qn qops qouts outs, 0) := by
  have ho := h.olen
  intro d
  induction d with
  | zero =>
    intro i hi
    refine Ev.step (f := fun _ => some (qn, O, outsA n qn qops qouts (outs.take i), 0)) (fun k => ?_) ?_
    · simp only [conclaveref09_After.l1]; rw [if_neg (by omega)]
    · rw [List.take_of_length_le (by omega)]; exact Ev.now _
  | succ d ih =>
    intro i hi
    have e1 : wrap64 ((i : Int) + 1) = ((i + 1 : Nat) : Int) := by rw [w64 (by omega) (by omega)]; rfl
    have hin : rd outs (i : Int) ∈ outs := by rw [rd_at (by omega)]; exact List.getElem_mem _
    have hv := h.out _ hin
    have hl2 : (outsA n qn qops qouts (outs.take i)).length < 17592186044416 := by unfold outsA; rw [List.length_map, List.length_take]; omega
    refine Ev.step (f := fun k => conclaveref09_After.l1 k at_ ((i + 1 : Nat) : Int) n ops outs qn O (outsA n qn qops qouts (outs.take (i + 1)))) (fun k => ?_) (ih (i + 1) (by omega))
    simp only [conclaveref09_After.l1]
    rw [if_pos (by omega), if_pos (by omega), if_pos hv.1, if_pos (by omega), if_pos hl2, hat _ hv.1 hv.2, e1]
    rw [List.take_succ_eq_append_getElem (by omega : i < outs.length)]
    unfold outsA
    rw [List.map_append, ← rd_at]
    rfl
def tabA (qn : Int) (qops : List OpS) (qouts : List Int) (i : Nat) : List Int := qouts ++ (List.range i).map fun (j : Nat) => qn + (qops.length : Int) + (j : Int)
theorem tabA_len (i : Nat) : (tabA qn qops qouts i).length = qouts.length + i := by simp [tabA]
theorem tabA_at (hl : (qouts.length : Int) = n) (i : Nat) {v : Int} (h0 : 0 ≤ v) (h1 : v < n + (i : Int)) : rd (tabA qn qops qouts i) v = atA n qn qops qouts v := by
  unfold atA tabA
  by_cases c : v < n
  · rw [if_pos c, rd_left h0 (by omega)]
  · rw [if_neg c]
    unfold rd
    rw [List.getD_eq_getElem?_getD, List.getElem?_append_right (by omega)]
    rw [List.getElem?_map, List.getElem?_range (by omega)]
    simp only [Option.map_some, Option.getD_some]
    omega
theorem After_l0 (h : MayP n ops outs) (hq : MayP qn qops qouts) (hl : (qouts.length : Int) = n) (hs : ops.length + qops.length ≤ 256) : ∀ (d i : Nat), i + d = ops.length →
    Ev (fun k => conclaveref09_After.l0 k (tabA qn qops qouts i) (i : Int) n ops outs qn (qops ++ (ops.take i).map (reA n qn qops qouts))) (qn, opsA n qn qops qouts ops, outsA n qn qops qouts outs, 0) := by
  have hn := h.n0
  have hn1 := h.n1
  have hqn := hq.n0
  have hqn1 := hq.n1
  have hol := hq.olen
  intro d
  induction d with
  | zero =>
    intro i hi
    obtain rfl : i = ops.length := by omega
    refine Ev.step (f := fun k => conclaveref09_After.l1 k (tabA qn qops qouts ops.length) 0 n ops outs qn (opsA n qn qops qouts ops) ([] : List Int)) (fun k => ?_) (After_l1 h (tabA qn qops qouts ops.length) (fun v h0 h1 => tabA_at hl _ h0 h1) (by rw [tabA_len]; omega) _ outs.length 0 (by omega))
    simp only [conclaveref09_After.l0]; rw [if_neg (by omega), List.take_of_length_le (Nat.le_refl _)]; rfl
  | succ d ih =>
    intro i hi
    have e1 : wrap64 ((i : Int) + 1) = ((i + 1 : Nat) : Int) := by rw [w64 (by omega) (by omega)]; rfl
    have htl := tabA_len (qn := qn) (qops := qops) (qouts := qouts) i
    have hlen : (qops ++ (ops.take i).map (reA n qn qops qouts)).length = qops.length + i := by simp; omega
    have ew : wrap64 (qn + ((qops ++ (ops.take i).map (reA n qn qops qouts)).length : Int)) = qn + (qops.length : Int) + (i : Int) := by rw [hlen, w64 (by omega) (by omega)]; omega
    have ht2 : tabA qn qops qouts (i + 1) = tabA qn qops qouts i ++ [qn + (qops.length : Int) + (i : Int)] := by unfold tabA; rw [List.range_succ, List.map_append, List.append_assoc]; rfl
    have ho2 : qops ++ (ops.take (i + 1)).map (reA n qn qops qouts) = qops ++ (ops.take i).map (reA n qn qops qouts) ++ [reA n qn qops qouts (rdO ops (i : Int))] := by
      rw [List.take_succ_eq_append_getElem (by omega : i < ops.length), List.map_append, List.append_assoc, rdO_at (by omega)]; rfl
    refine Ev.step (f := fun k => conclaveref09_After.l0 k (tabA qn qops qouts (i + 1)) ((i + 1 : Nat) : Int) n ops outs qn (qops ++ (ops.take (i + 1)).map (reA n qn qops qouts))) (fun k => ?_) (ih (i + 1) (by omega))
    simp only [conclaveref09_After.l0]
    rw [if_pos (by omega), if_pos (by omega), e1, ew, ht2, ho2]
    by_cases c4 : (rdO ops (i : Int)).f0 = 4
    · rw [if_pos c4, if_pos (by omega), if_pos (by omega)]
      unfold reA
      rw [if_pos c4]
    · have hb : 0 ≤ (rd_T70 ops (i : Int)).f1 ∧ (rd_T70 ops (i : Int)).f1 < n + (i : Int) ∧ 0 ≤ (rd_T70 ops (i : Int)).f2 ∧ (rd_T70 ops (i : Int)).f2 < n + (i : Int) := h.args (by omega) c4
      rw [if_neg c4, if_pos hb.1, if_pos (by omega), if_pos hb.2.2.1, if_pos (by omega), if_pos (by omega), if_pos (by omega), tabA_at hl i hb.1 hb.2.1, tabA_at hl i hb.2.2.1 hb.2.2.2]
      unfold reA
      rw [if_neg c4]
theorem After_f (h : MayP n ops outs) (hq : MayP qn qops qouts) (hl : (qouts.length : Int) = n) (hs : ops.length + qops.length ≤ 256) :
    Ev (fun k => conclaveref09_After.f k n ops outs qn qops qouts) (qn, opsA n qn qops qouts ops, outsA n qn qops qouts outs, 0) := by
  unfold conclaveref09_After.f
  have hm := rMay_f n ops outs
  rw [may_iff.2 h] at hm
  have hm2 := rMay_f qn qops qouts
  rw [may_iff.2 hq] at hm2
  have := hq.olen
  refine Ev.bind (f := fun k t => _) hm ?_
  simp only [if_true]
  refine Ev.bind (f := fun k t => _) hm2 ?_
  simp only [if_true, hl, bne_self_eq_false]
  have h0 := After_l0 h hq hl hs ops.length 0 (by omega)
  refine Ev.step (f := fun k => conclaveref09_After.l0 k qouts 0 n ops outs qn qops) (fun k => ?_) ?_
  · simp only [conclaveref09_After.j0, Bool.false_eq_true, if_false]
    rw [w64 (x := (ops.length : Int) + (qops.length : Int)) (by omega) (by omega), if_neg (by omega), Option.bind_some, if_pos (by simp; omega), Option.bind_some, if_pos (by simp; omega), List.nil_append, List.nil_append]
  · simpa [tabA] using h0
theorem After_not (n : Int) (ops : List OpS) (outs : List Int) (qn : Int) (qops : List OpS) (qouts : List Int) (hol : ops.length ≤ 9223372036854775807) (hql : qops.length ≤ 9223372036854775807)
    (hc : ¬ (mayB n ops outs = true ∧ mayB qn qops qouts = true ∧ (qouts.length : Int) = n ∧ ops.length + qops.length ≤ 256)) : ∃ e : Int, e ≠ 0 ∧ Ev (fun k => conclaveref09_After.f k n ops outs qn qops qouts) (0, [], [], e) := by
  have hbad : Ev (fun k => conclaveref09_After.j0 k true n ops outs qn qops qouts) (0, [], [], 2) :=
    Ev.step (f := fun _ => some (0, [], [], 2)) (fun k => by simp only [conclaveref09_After.j0, if_true]) (Ev.now _)
  have hm := rMay_f n ops outs
  have hm2 := rMay_f qn qops qouts
  unfold conclaveref09_After.f
  by_cases c1 : mayB n ops outs = true
  · rw [c1] at hm
    by_cases c2 : mayB qn qops qouts = true
    · rw [c2] at hm2
      by_cases c3 : (qouts.length : Int) = n
      · have h1 := (may_iff.1 c1).len
        have h2 := (may_iff.1 c2).len
        have h5 : ¬ ops.length + qops.length ≤ 256 := fun h5 => hc ⟨c1, c2, c3, h5⟩
        refine ⟨4, by omega, ?_⟩
        refine Ev.bind (f := fun k t => _) hm ?_
        simp only [if_true]
        refine Ev.bind (f := fun k t => _) hm2 ?_
        simp only [if_true, c3, bne_self_eq_false]
        refine Ev.step (f := fun _ => some (0, [], [], 4)) (fun k => ?_) (Ev.now _)
        simp only [conclaveref09_After.j0, Bool.false_eq_true, if_false]
        rw [w64 (by omega) (by omega), if_pos (by omega)]
      · refine ⟨2, by omega, ?_⟩
        refine Ev.bind (f := fun k t => _) hm ?_
        simp only [if_true]
        refine Ev.bind (f := fun k t => _) hm2 ?_
        have : ((qouts.length : Int) != n) = true := by simp [c3]
        simp only [if_true, this]
        exact hbad
    · have c2 : mayB qn qops qouts = false := by simpa using c2
      rw [c2] at hm2
      refine ⟨2, by omega, ?_⟩
      refine Ev.bind (f := fun k t => _) hm ?_
      simp only [if_true]
      refine Ev.bind (f := fun k t => _) hm2 ?_
      simp only [Bool.false_eq_true, if_false]
      exact hbad
  · have c1 : mayB n ops outs = false := by simpa using c1
    rw [c1] at hm
    refine ⟨2, by omega, ?_⟩
    refine Ev.bind (f := fun k t => _) hm ?_
    simp only [Bool.false_eq_true, if_false]
    exact hbad
end
end Go.Proofs.Ytkhnngmighjaiaa.Plain
end
section
namespace Go.Proofs.Ytkhnngmighjaiaa.Plain
open Go.RowKit Go.Proofs Go.Proofs.Ytkhnngmighjaiaa.P Go.Proofs.YtkhnngmighjaiaaW.PrintWords Go.Proofs.YtkhnngmighjaiaaW.PrintLast Go.Proofs.YtkhnngmighjaiaaW.PrintMore
set_option linter.unusedVariables false
set_option linter.unusedSimpArgs false
section
variable {n : Int} {ops : List OpS} {outs : List Int}
theorem outT_at (f : Nat → Bool) : ∀ (i j : Nat), j < i → f (n.toNat + j) = true → rdO (outT n f ops i) ((kept n f j : Nat) : Int) = reO n f (rdO ops (j : Int)) := by
  intro i
  induction i with
  | zero => intro j hj; omega
  | succ i ih =>
    intro j hj hf
    by_cases c : j = i
    · subst c
      have hlen := outT_len n f ops j
      simp only [outT, if_pos hf]
      rw [rdO_at (by rw [List.length_append, hlen]; simp)]
      rw [List.getElem_append_right (by omega)]
      simp [hlen]
    · have hlt : kept n f j < (outT n f ops i).length := by
        rw [outT_len]
        have : ∀ m, j < m → kept n f j < kept n f m := by
          intro m
          induction m with
          | zero => intro hm; omega
          | succ m ihm =>
            intro hm
            simp only [kept]
            by_cases e : j = m
            · subst e; rw [if_pos hf]; omega
            · have := ihm (by omega)
              split <;> omega
        exact this i (by omega)
      have h1 := ih j (by omega) hf
      simp only [outT]
      split
      · rw [rdO_at (by rw [List.length_append]; omega), List.getElem_append_left hlt, ← rdO_at hlt]; exact h1
      · exact h1
theorem kept_lt (f : Nat → Bool) {j : Nat} (hf : f (n.toNat + j) = true) : ∀ m, j < m → kept n f j < kept n f m := by
  intro m
  induction m with
  | zero => intro hm; omega
  | succ m ihm =>
    intro hm
    simp only [kept]
    by_cases e : j = m
    · subst e; rw [if_pos hf]; omega
    · have := ihm (by omega)
      split <;> omega
theorem kept_onto (f : Nat → Bool) : ∀ (i w : Nat), w < kept n f i → ∃ j, j < i ∧ f (n.toNat + j) = true ∧ kept n f j = w := by
  intro i
  induction i with
  | zero => intro w hw; simp [kept] at hw
  | succ i ih =>
    intro w hw
    simp only [kept] at hw
    by_cases c : f (n.toNat + i) = true
    · rw [if_pos c] at hw
      by_cases e : w = kept n f i
      · exact ⟨i, by omega, c, e.symm⟩
      · obtain ⟨j, h1, h2, h3⟩ := ih w (by omega)
        exact ⟨j, by omega, h2, h3⟩
    · rw [if_neg c] at hw
      obtain ⟨j, h1, h2, h3⟩ := ih w hw
      exact ⟨j, by omega, h2, h3⟩
abbrev mk (n : Int) (ops : List OpS) (outs : List Int) := marksM n ops outs
abbrev opsT (n : Int) (ops : List OpS) (outs : List Int) := outT n (marksM n ops outs) ops ops.length
abbrev outsT' (n : Int) (ops : List OpS) (outs : List Int) := outsT n (marksM n ops outs) outs
theorem posT_lt (h : MayP n ops outs) (f : Nat → Bool) {v : Nat} {i : Nat} (hv : v < n.toNat + i) (hf : v < n.toNat ∨ f v = true) : 0 ≤ posT n f v ∧ posT n f v < n + (kept n f i : Int) := by
  have hn := h.n0
  unfold posT
  by_cases c : v < n.toNat
  · rw [if_pos c]; omega
  · rw [if_neg c]
    have hf2 : f (n.toNat + (v - n.toNat)) = true := by rw [show n.toNat + (v - n.toNat) = v by omega]; exact hf.resolve_left c
    have := kept_lt (n := n) f hf2 i (by omega)
    omega
theorem Trim_may (h : MayP n ops outs) : MayP n (opsT n ops outs) (outsT' n ops outs) := by
  have hn := h.n0
  have hl := h.len
  have hk := kept_le n (marksM n ops outs) ops.length
  refine ⟨h.n0, h.n1, by rw [outT_len]; omega, by unfold outsT' outsT; rw [List.length_map]; exact h.olen, fun w hw => ?_, fun v hv => ?_⟩
  · rw [← rdO_at hw]
    rw [outT_len] at hw
    obtain ⟨j, h1, h2, h3⟩ := kept_onto (marksM n ops outs) _ w hw
    subst h3
    rw [outT_at (marksM n ops outs) ops.length j h1 h2]
    have ho := h.op j h1
    rw [← rdO_at h1] at ho
    unfold reO
    by_cases c4 : (rdO ops (j : Int)).f0 = 4
    · rw [if_pos c4]
      unfold okO at ho ⊢
      rw [if_neg (by omega)] at ho ⊢
      exact ho
    · rw [if_neg c4]
      have hb := h.args h1 c4
      have hc := marksM_closed h h1 h2 c4
      have hkd := h.kind h1
      have ha1 := posT_lt h (marksM n ops outs) (v := (rdO ops (j : Int)).f1.toNat) (i := j) (by omega) (Or.inr hc.1)
      have ha2 := posT_lt h (marksM n ops outs) (v := (rdO ops (j : Int)).f2.toNat) (i := j) (by omega) (Or.inr hc.2)
      have h3 : (rdO ops (j : Int)).f3 = 0 := by
        unfold okO at ho
        rw [if_pos (by omega)] at ho
        simp only [Bool.and_eq_true, decide_eq_true_eq] at ho
        exact ho.2
      unfold okO
      rw [if_pos (show (rdO ops (j : Int)).f0 = 1 ∨ (rdO ops (j : Int)).f0 = 2 ∨ (rdO ops (j : Int)).f0 = 3 by omega)]
      simp only [Bool.and_eq_true, decide_eq_true_eq]
      exact ⟨⟨⟨⟨ha1.1, ha1.2⟩, ha2.1⟩, ha2.2⟩, h3⟩
  · unfold outsT' outsT at hv
    obtain ⟨u, hu, rfl⟩ := List.mem_map.1 hv
    have hb := h.out u hu
    have := posT_lt h (marksM n ops outs) (v := u.toNat) (i := ops.length) (by omega) (Or.inr (marksM_out u hu))
    rw [outT_len]; exact this
end
end Go.Proofs.Ytkhnngmighjaiaa.Plain
end
section
namespace Go.Proofs.Ytkhnngmighjaiaa.Plain
open Go.RowKit Go.Proofs Go.Proofs.Ytkhnngmighjaiaa.P Go.Proofs.Ytkhnngmighjaiaa.Mth Go.Proofs.YtkhnngmighjaiaaW.PrintWords Go.Proofs.YtkhnngmighjaiaaW.PrintLast Go.Proofs.YtkhnngmighjaiaaW.PrintMore
set_option linter.unusedVariables false
set_option linter.unusedSimpArgs false
set_option linter.unusedSectionVars false
section
variable {p : Nat} [NeZero p] {n : Int} {ops : List OpS} {outs : List Int} {qn : Int} {qops : List OpS} {qouts : List Int}
theorem rdF_mapr (g : Int → Fin p) {l : List Int} {i : Nat} (hi : i < l.length) : rdF (l.map g) (i : Int) = g (rd l (i : Int)) := by
  rw [rd_at hi]
  unfold rdF
  rw [List.getD_eq_getElem?_getD, Int.toNat_natCast, List.getElem?_map, List.getElem?_eq_getElem hi]
  rfl
theorem valA_q (xs : List (Fin p)) : ∀ i, i ≤ qops.length → valL xs (opsA n qn qops qouts ops) i = valL xs qops i := by
  intro i
  induction i with
  | zero => intro _; rfl
  | succ i ih =>
    intro hi
    simp only [valL]
    rw [ih (by omega), opsA_at1 (by omega)]
theorem valO_re {o o' : OpS} {L L' : List (Fin p)} (h0 : o'.f0 = o.f0) (h3 : o'.f3 = o.f3) (h : o.f0 ≠ 4 → rdF L' o'.f1 = rdF L o.f1 ∧ rdF L' o'.f2 = rdF L o.f2) : valO o' L' = valO o L := by
  unfold valO
  rw [h0, h3]
  by_cases c1 : o.f0 = 1
  · rw [if_pos c1, if_pos c1, (h (by omega)).1, (h (by omega)).2]
  · rw [if_neg c1, if_neg c1]
    by_cases c2 : o.f0 = 2
    · rw [if_pos c2, if_pos c2, (h (by omega)).1, (h (by omega)).2]
    · rw [if_neg c2, if_neg c2]
      by_cases c3 : o.f0 = 3
      · rw [if_pos c3, if_pos c3, (h (by omega)).1, (h (by omega)).2]
      · rw [if_neg c3, if_neg c3]
theorem valA (h : MayP n ops outs) (hq : MayP qn qops qouts) (hl : (qouts.length : Int) = n) (xs : List (Fin p)) (hx : (xs.length : Int) = qn) :
    ∀ (i : Nat), i ≤ ops.length → ∀ v : Int, 0 ≤ v → v < n + (i : Int) → rdF (valL xs (opsA n qn qops qouts ops) (qops.length + i)) (atA n qn qops qouts v) = rdF (valL (runF xs qops qouts) ops i) v := by
  have hn := h.n0
  have hqn := hq.n0
  intro i
  induction i with
  | zero =>
    intro _ v h0 h1
    have hv : v < n := by omega
    obtain ⟨j, rfl⟩ := Int.eq_ofNat_of_zero_le h0
    rw [Nat.add_zero, valA_q xs _ (Nat.le_refl _)]
    unfold atA runF
    rw [if_pos hv]
    simp only [valL]
    exact (rdF_mapr _ (by omega)).symm
  | succ i ih =>
    intro hi v h0 h1
    by_cases cv : v < n + (i : Int)
    · have ha := atA_range h hq hl h0 (m := n + (i : Int)) (by omega) cv
      rw [valL_mono (runF xs qops qouts) ops (i := i) (j := i + 1) (by omega) (by rw [runF_len]; omega)]
      rw [valL_mono xs (opsA n qn qops qouts ops) (i := qops.length + i) (j := qops.length + (i + 1)) (by omega) (by omega)]
      exact ih (by omega) v h0 cv
    · obtain rfl : v = n + (i : Int) := by omega
      have e2 : atA n qn qops qouts (n + (i : Int)) = qn + ((qops.length + i : Nat) : Int) := by unfold atA; rw [if_neg (by omega)]; omega
      rw [e2, valL_op xs (opsA n qn qops qouts ops) (i := qops.length + i) (j := qops.length + (i + 1)) (by omega) (by omega), valL_op (runF xs qops qouts) ops (i := i) (j := i + 1) (by omega) (by rw [runF_len]; omega), opsA_at2 (by omega)]
      refine valO_re ?_ ?_ fun c4 => ?_
      · unfold reA; split <;> rfl
      · unfold reA; split <;> rfl
      · have hb := h.args (i := i) (by omega) c4
        unfold reA
        rw [if_neg c4]
        exact ⟨ih (by omega) _ hb.1 hb.2.1, ih (by omega) _ hb.2.2.1 hb.2.2.2⟩
theorem runA (h : MayP n ops outs) (hq : MayP qn qops qouts) (hl : (qouts.length : Int) = n) (xs : List (Fin p)) (hx : (xs.length : Int) = qn) :
    runF xs (opsA n qn qops qouts ops) (outsA n qn qops qouts outs) = runF (runF xs qops qouts) ops outs := by
  unfold runF outsA
  rw [List.map_map]
  refine List.map_congr_left fun v hv => ?_
  have hb := h.out v hv
  rw [opsA_len]
  exact valA h hq hl xs hx ops.length (Nat.le_refl _) v hb.1 hb.2
theorem opsU_A (hu : OpsU ops) (hq : OpsU qops) : OpsU (opsA n qn qops qouts ops) := by
  intro o ho
  unfold opsA at ho
  rcases List.mem_append.1 ho with ho | ho
  · exact hq o ho
  · obtain ⟨u, h1, rfl⟩ := List.mem_map.1 ho
    have := hu u h1
    unfold reA
    split <;> exact this
theorem opsU_T (hu : OpsU ops) (f : Nat → Bool) : ∀ i, i ≤ ops.length → OpsU (outT n f ops i) := by
  intro i
  induction i with
  | zero => intro _ o ho; simp [outT] at ho
  | succ i ih =>
    intro hi o ho
    simp only [outT] at ho
    split at ho
    · rcases List.mem_append.1 ho with ho | ho
      · exact ih (by omega) o ho
      · rw [List.mem_singleton.1 ho]
        have := hu.at_ (i := i) (by omega)
        unfold reO
        split <;> exact this
    · exact ih (by omega) o ho
theorem valT (h : MayP n ops outs) (xs : List (Fin p)) (hx : (xs.length : Int) = n) : ∀ (i : Nat), i ≤ ops.length → ∀ v : Nat, v < n.toNat + i → (v < n.toNat ∨ marksM n ops outs v = true) →
    rdF (valL xs (opsT n ops outs) (kept n (marksM n ops outs) i)) (posT n (marksM n ops outs) v) = rdF (valL xs ops i) (v : Int) := by
  have hn := h.n0
  intro i
  induction i with
  | zero =>
    intro _ v hv _
    unfold posT
    rw [if_pos (by omega)]
    rfl
  | succ i ih =>
    intro hi v hv hm
    by_cases cv : v < n.toNat + i
    · have hp := posT_lt h (marksM n ops outs) cv hm
      have hkk : kept n (marksM n ops outs) i ≤ kept n (marksM n ops outs) (i + 1) := by simp only [kept]; split <;> omega
      rw [valL_mono xs ops (i := i) (j := i + 1) (by omega) (by omega), valL_mono xs (opsT n ops outs) hkk (by omega)]
      exact ih (by omega) v cv hm
    · obtain rfl : v = n.toNat + i := by omega
      have hf : marksM n ops outs (n.toNat + i) = true := hm.resolve_left (by omega)
      have e1 : posT n (marksM n ops outs) (n.toNat + i) = n + (kept n (marksM n ops outs) i : Int) := by unfold posT; rw [if_neg (by omega), show n.toNat + i - n.toNat = i by omega]
      have e3 : kept n (marksM n ops outs) (i + 1) = kept n (marksM n ops outs) i + 1 := by simp only [kept, if_pos hf]
      rw [e1, e3, valL_op xs (opsT n ops outs) (Nat.lt_succ_self _) (by omega), valL_op xs ops (Nat.lt_succ_self _) (by omega), outT_at (marksM n ops outs) ops.length i (by omega) hf]
      refine valO_re ?_ ?_ fun c4 => ?_
      · unfold reO; split <;> rfl
      · unfold reO; split <;> rfl
      · have hb := h.args (i := i) (by omega) c4
        have hc := marksM_closed h (by omega) hf c4
        have h1 := ih (by omega) (rdO ops (i : Int)).f1.toNat (by omega) (Or.inr hc.1)
        have h2 := ih (by omega) (rdO ops (i : Int)).f2.toNat (by omega) (Or.inr hc.2)
        rw [show (((rdO ops (i : Int)).f1.toNat : Nat) : Int) = (rdO ops (i : Int)).f1 by omega] at h1
        rw [show (((rdO ops (i : Int)).f2.toNat : Nat) : Int) = (rdO ops (i : Int)).f2 by omega] at h2
        unfold reO
        rw [if_neg c4]
        exact ⟨h1, h2⟩
theorem runT (h : MayP n ops outs) (xs : List (Fin p)) (hx : (xs.length : Int) = n) : runF xs (opsT n ops outs) (outsT' n ops outs) = runF xs ops outs := by
  have hn := h.n0
  unfold runF outsT' outsT
  rw [List.map_map]
  refine List.map_congr_left fun v hv => ?_
  have hb := h.out v hv
  rw [outT_len]
  have := valT h xs hx ops.length (Nat.le_refl _) v.toNat (by omega) (Or.inr (marksM_out v hv))
  rw [show ((v.toNat : Nat) : Int) = v by omega] at this
  exact this
end
end Go.Proofs.Ytkhnngmighjaiaa.Plain
namespace Go.Proofs.Ytkhnngmighjaiaa.Pure
open Go.RowKit Go.Proofs Go.Proofs.Ytkhnngmighjaiaa.P Go.Proofs.Ytkhnngmighjaiaa.Plain Go.Proofs.Ytkhnngmighjaiaa.Mth Go.Proofs.YtkhnngmighjaiaaW.PrintWords Go.Proofs.YtkhnngmighjaiaaW.PrintLast Go.Proofs.YtkhnngmighjaiaaW.PrintMore
set_option linter.unusedVariables false
set_option linter.unusedSimpArgs false
theorem EvalAfter : Form.EvalAfter.Pure := by
  intro f n ops outs qn qops qouts l hf hn ho hou hqn hqo hqou hl
  have hO : OpsU ops := fun o h => (wf_u64 (ho.2.2 o h).2.2.2).1
  have hQ : OpsU qops := fun o h => (wf_u64 (hqo.2.2 o h).2.2.2).1
  have hU := u64_of_wf hl.2.2
  have hL : l.length ≤ 9223372036854775807 := by have := hl.2.1; omega
  have hol : ops.length ≤ 9223372036854775807 := by have := ho.2.1; omega
  have hql : qops.length ≤ 9223372036854775807 := by have := hqo.2.1; omega
  have hbad : ∀ (x3 : List Int) (y0 : Int) (y1 : List OpS) (y2 : List Int), Ev (fun k => conclavelaw11_EvalAfter.j0 k l f x3 true n ops outs qn qops qouts y0 y1 y2) true := fun x3 y0 y1 y2 => by
    refine Ev.step (f := fun k => (conclavelaw11_anchored.f k).bind fun t => some t) (fun k => ?_) (Ev.bind (f := fun _ t => some t) anchored11_f (Ev.now _))
    simp only [conclavelaw11_EvalAfter.j0, if_true]
  refine Ev.rounds ?_
  unfold conclavelaw11_EvalAfter.f
  obtain ⟨r, b1, hr1, _⟩ := Run_both (f := f) (n := qn) (outs := qouts) l hQ hU hL
  by_cases hg : mayB n ops outs = true ∧ mayB qn qops qouts = true ∧ (qouts.length : Int) = n ∧ ops.length + qops.length ≤ 256
  · obtain ⟨c1, c2, c3, c4⟩ := hg
    have h := may_iff.1 c1
    have hq := may_iff.1 c2
    refine Ev.bind (f := fun k t => _) (After_f h hq c3 c4) ?_
    by_cases hc : stepsC f qn qops qouts l = 0
    · obtain ⟨p, hz, hF, _, xs, rfl, hx⟩ := run_lift hU hc
      have hs := After_may h hq c3 c4
      have hsU : OpsU (opsA n qn qops qouts ops) := opsU_A hO hQ
      have ht := Trim_may hs
      have hy : ((runF xs qops qouts).length : Int) = n := by rw [runF_len]; exact c3
      have R1 := (Run_good hF hq hQ xs hx).1
      have R2 := (Run_good hF h hO (runF xs qops qouts) hy).1
      have R3 := (Run_good hF hs hsU xs hx).1
      have R4 := (Run_good hF ht (opsU_T hsU _ _ (Nat.le_refl _)) xs hx).1
      rw [Plain.runT hs xs hx] at R4
      rw [runA h hq c3 xs hx] at R3 R4
      refine Ev.bind (f := fun k t => _) R1 ?_
      simp only [if_true, bne_self_eq_false]
      refine Ev.step (f := fun k => _) (fun k => rfl) ?_
      simp only [conclavelaw11_EvalAfter.j0, Bool.false_eq_true, if_false]
      refine Ev.bind (f := fun k t => _) R2 ?_
      refine Ev.bind (f := fun k t => _) R3 ?_
      refine Ev.bind (f := fun k t => _) (rTrimD_f hs) ?_
      refine Ev.bind (f := fun k t => _) R4 ?_
      refine Ev.bind (f := fun k t => _) anchored11_f ?_
      simp only [if_true]
      have hl3 : ((runF (runF xs qops qouts) ops outs).map tI).length ≤ 9223372036854775807 := by rw [List.length_map, runF_len]; have := h.olen; omega
      have s1 := fSame_f ((runF (runF xs qops qouts) ops outs).map tI) ((runF (runF xs qops qouts) ops outs).map tI) hl3
      rw [decide_eq_true rfl] at s1
      refine Ev.bind (f := fun k t => _) s1 ?_
      simp only [if_true]
      exact Ev.bind (f := fun _ t => some t) s1 (Ev.now _)
    · obtain ⟨R1, _⟩ := Run_bad l hU hL hc
      refine Ev.bind (f := fun k t => _) R1 ?_
      have : (stepsC f qn qops qouts l != 0) = true := by simpa using hc
      simp only [if_true, this]
      exact hbad _ _ _ _
  · obtain ⟨e, he, hA⟩ := After_not n ops outs qn qops qouts hol hql hg
    refine Ev.bind (f := fun k t => _) hA ?_
    refine Ev.bind (f := fun k t => _) hr1 ?_
    simp only [if_neg he]
    exact hbad _ _ _ _
end Go.Proofs.Ytkhnngmighjaiaa.Pure
end
section
namespace Go.Proofs.Ytkhnngmighjaiaa.evalAfter
open Go.ChangeShapes Go.WideShapes Go.ChangeAt Go.RowKit Go.Proofs.YtkhnngmighjaiaaW.PrintWords Go.Proofs.Ytkhnngmighjaiaa.P Go.Proofs.Ytkhnngmighjaiaa.Form.EvalAfter
set_option linter.unusedVariables false
theorem own : ownKnob Try.prog.godebug = none := by kernel_rfl
theorem laidOut : laidOutB Try.prog = true := by kernel_rfl
set_option maxRecDepth 100000 in
theorem lifted (os : Os) (started : os.Started) (H : Type) (enc : TypeId × Value → H) :
    ReturnsInHanded {} Try.checked os 4 .any (Rows.evalAfterSpec.pre6 enc Try.prog Try.f4 Rows.evalAfterRow.domain false) (Rows.evalAfterSpec.post enc Try.prog Try.f4 false true false false) := by
  refine returnsInHanded_of_change_sized (C := Try.checked) own started (by kernel_rfl) Try.func4
    (ChangeSpec.witness6 (enc := enc) (C := Try.checked) false ⟨#[], #[.int .u8 0, .agg #[.int .i64 0, .slice none 0 0, .slice none 0 0, .int .i64 0, .slice none 0 0, .slice none 0 0], .slice none 0 0], []⟩ 8 (by kernel_rfl) (by kernel_rfl) (by kernel_rfl) (by kernel_rfl)) ?_
  intro W base args ds gs before hval0 hW hcnd hsz0 _
  have hsz : (DataW.weightsEach Try.prog (Try.f4.params.toList ++ Rows.evalAfterSpec.plain.varTypes Try.prog) (ds ++ gs)).all (· ≤ reachBytes) = true := hsz0
  have hval : ∀ (j : Nat) t v, Try.f4.params[j]? = some t → args[j]? = some v → Value.okWide Try.prog W .any base t v := hval0
  have hW' := hW
  obtain ⟨p, q, hA0, hV, rfl, hfz, hnd⟩ := hW
  have hA : DataW.TrodAll enc Try.prog W 0 (fun _ => true) true Try.f4.params.toList args.toList ds p := hA0
  rw [Try.params4] at hA hval hsz
  obtain ⟨v0, vs0, d0, ds0, p0, q0, hargs, rfl, rfl, h0, r0⟩ := trodAll_cons hA
  obtain ⟨v1, vs1, d1, ds1, p1, q1, rfl, rfl, rfl, h1, r1⟩ := trodAll_cons r0
  obtain ⟨v2, vs2, d2, ds2, p2, q2, rfl, rfl, rfl, h2, r2⟩ := trodAll_cons r1
  obtain ⟨rfl, rfl, rfl⟩ := trodAll_nil r2
  obtain rfl : args = #[v0, v1, v2] := by cases args; simp_all
  obtain ⟨rfl, rfl⟩ := trodVars_none hV
  obtain ⟨a0, rfl, rfl, rfl, w0⟩ := open_int Try.underlying5 (hval 0 5 v0 rfl rfl) h0
  have k1_ := h1
  have lt1 : ∀ x ∈ p1, x.block < W.heap.size := by obtain ⟨m, hm⟩ := k1_; exact DataW.trod_lt m _ _ _ hm
  obtain ⟨z1, rfl, _⟩ := Open.okWide_array Try.underlying36 (hval 1 36 v1 rfl rfl)
  obtain ⟨⟨⟨a1_0, l1_1, l1_2⟩, ⟨a1_3, l1_4, l1_5⟩⟩, K1, ⟨⟨F1_0, F1_1, F1_2⟩, ⟨F1_3, F1_4, F1_5⟩⟩⟩ := Open.opens_at (Open.opens_array (n := 2) Try.underlying36 (by kernel_rfl) (Open.opensL_rep rfl (Open.opensL_cons (Open.opens_struct Try.underlying25 (by kernel_rfl) (by kernel_rfl) (by kernel_rfl) (Open.opensL_cons (Open.opens_int Try.underlying3 (by kernel_rfl)) (Open.opensL_cons (Open.opens_slice (d := k70) Try.underlying22 (by kernel_rfl) (show 0 < 4 from by decide) (B := 32) (by kernel_rfl) opens70) (Open.opensL_one (Open.opens_slice (d := (Kd.int .i64)) Try.underlying23 (by kernel_rfl) (show 0 < 1 from by decide) (B := 8) (by kernel_rfl) (Open.opens_int Try.underlying3 (by kernel_rfl)))))) id id (fun _ => rfl)) (Open.opensL_one (Open.opens_struct Try.underlying25 (by kernel_rfl) (by kernel_rfl) (by kernel_rfl) (Open.opensL_cons (Open.opens_int Try.underlying3 (by kernel_rfl)) (Open.opensL_cons (Open.opens_slice (d := k70) Try.underlying22 (by kernel_rfl) (show 0 < 4 from by decide) (B := 32) (by kernel_rfl) opens70) (Open.opensL_one (Open.opens_slice (d := (Kd.int .i64)) Try.underlying23 (by kernel_rfl) (show 0 < 1 from by decide) (B := 8) (by kernel_rfl) (Open.opens_int Try.underlying3 (by kernel_rfl)))))) id id (fun _ => rfl))))) id id (fun _ => rfl)) h1 hsz (j := 1) rfl rfl
  have hz1 : ∀ cs : List Value, (z1.toList = cs) → z1 = cs.toArray := fun cs h => by rw [← h]
  obtain ⟨cs1, hcs1, K1'⟩ : ∃ cs, z1.toList = cs ∧ _ := ⟨_, rfl, K1⟩
  obtain ⟨_, _, rfl, ⟨_, _, rfl, rfl, ⟨_, _, rfl, ⟨A1_1, c1_1, rfl, hc1_1, hr1_1⟩, ⟨A1_2, c1_2, rfl, hc1_2, hr1_2⟩⟩⟩, ⟨_, _, rfl, rfl, ⟨_, _, rfl, ⟨A1_4, c1_4, rfl, hc1_4, hr1_4⟩, ⟨A1_5, c1_5, rfl, hc1_5, hr1_5⟩⟩⟩⟩ := K1'
  obtain rfl := hz1 _ hcs1
  have k2_ := h2
  have lt2 : ∀ x ∈ p2, x.block < W.heap.size := by obtain ⟨m, hm⟩ := k2_; exact DataW.trod_lt m _ _ _ hm
  obtain ⟨b2, len2, cap2, rfl⟩ := okWide_slice Try.underlying26 (hval 2 26 v2 rfl rfl)
  obtain ⟨l2, ⟨A2, c2, hcs2, hc2, hr2⟩, F2⟩ := Open.opens_at (Open.opens_slice (d := (Kd.int .u64)) Try.underlying26 (by kernel_rfl) (show 0 < 1 from by decide) (B := 8) (by kernel_rfl) (Open.opens_int Try.underlying54 (by kernel_rfl))) h2 hsz (j := 2) rfl rfl
  simp [Value.cells] at hcs2
  obtain ⟨rfl, rfl, rfl⟩ := hcs2
  clear hA0 hval0 hsz0 hsz
  obtain ⟨k, h⟩ := Pure.EvalAfter _ _ _ _ _ _ _ _ w0 F1_0 F1_1 F1_2 F1_3 F1_4 F1_5 F2
  refine (conclavelaw11_EvalAfter.calls k _ _ _ _ _ _ _ _ _ _ _ _ _ _ _ _ _ _ true W hr1_1 hc1_1 hr1_2 hc1_2 hr1_4 hc1_4 hr1_5 hc1_5 hr2 hc2 h rfl).mono fun e W' hee => ?_
  obtain ⟨he, bel⟩ := hee
  have bel : Below W.heap.size W W' := by first | exact bel | exact bel.below
  subst he
  exact ⟨_, rfl, _, _, _, [], _, [], hW', trodAll_mk1 (shut_bool Try.underlying4 _), (trodAll_cons_mk (shut_int Try.underlying5 w0) (trodAll_cons_mk (Below.trod laidOut (by kernel_rfl) (of_decide_eq_true (by kernel_rfl)) k1_ bel lt1) (trodAll_cons_mk (Below.trod laidOut (by kernel_rfl) (of_decide_eq_true (by kernel_rfl)) k2_ bel lt2) trodAll_mk0))), rfl, bel.frame _, fun h => by cases h⟩
theorem over : Rows.evalAfterRow.holds Try.pinned (OpenSpec.ofChange Rows.evalAfterSpec) :=
  OpenClaim.holds_of_wide 4 Try.f4 rfl rfl rfl rfl rfl rfl rfl ⟨rfl, rfl, rfl, rfl, rfl⟩ rfl rfl rfl rfl rfl (by kernel_rfl) Try.func4 (by kernel_rfl)
    (of_decide_eq_true (by kernel_rfl)) (by unfold Func.isWrapper; first | (rw [if_pos (by decide +kernel)]; kernel_rfl) | (rw [if_neg (by decide +kernel)]; exact ⟨rfl, rfl⟩))
    (fun os started H enc _ => lifted os started H enc)
theorem proved : Rows.EvalAfterSaid := over
end Go.Proofs.Ytkhnngmighjaiaa.evalAfter
namespace Go.Proofs.Ytkhnngmighjaiaa
theorem evalAfter_holds : Rows.EvalAfterSaid := evalAfter.proved
end Go.Proofs.Ytkhnngmighjaiaa
end
