import Derived.Test.YtjgojlnnphkefaaSDegreeAfter14
import Derived.Test.YtjgojlnnphkefaaSDegreeAfter15
import Derived.Test.YtjgojlnnphkefaaSDegreeAfter16
import Derived.Test.YtjgojlnnphkefaaSDegreeAfter17
import Derived.Test.YtjgojlnnphkefaaSDegreeAfter18
import Derived.Test.YtjgojlnnphkefaaSDegreeAfter19
import Derived.Test.YtjgojlnnphkefaaRows
import Derived.WalkKit
import Derived.ProofKit
import Derived.OpenShut
import Derived.ShutString
import Derived.ChangeOld
import Derived.Below
import Derived.SizedLaws
section
namespace Go.Proofs.Ytjgojlnnphkefaa.Form.DegreeAfter
open Go.RowKit Go.Proofs.Ytjgojlnnphkefaa.P Go.Proofs.YtjgojlnnphkefaaW.PrintWords Go.Proofs.YtjgojlnnphkefaaW.PrintLast
set_option linter.unusedVariables false
def Wf93 (x : S93) : Prop := ((Lit.int .u8 x.f0).wf = true) ∧ ((Lit.int .i64 x.f1).wf = true) ∧ ((Lit.int .i64 x.f2).wf = true) ∧ (Lit.int .u64 x.f3).wf = true
theorem opens93 : Open.Opens Try.prog k93 93 Wf93 := Open.opens_struct Try.underlying93 (by kernel_rfl) (by kernel_rfl) (by kernel_rfl) (Open.opensL_cons (Open.opens_int Try.underlying91 (by kernel_rfl)) (Open.opensL_cons (Open.opens_int Try.underlying3 (by kernel_rfl)) (Open.opensL_cons (Open.opens_int Try.underlying3 (by kernel_rfl)) (Open.opensL_one (Open.opens_int Try.underlying65 (by kernel_rfl)))))) (fun x : S93 => (x.f0, x.f1, x.f2, x.f3)) (fun p => ⟨p.1, p.2.1, p.2.2.1, p.2.2.2⟩) (fun _ => rfl)
def Pure : Prop := ∀ (a0_0 : Int) (l0_1 : List (S93)) (l0_2 : List Int) (a1_0 : Int) (l1_1 : List (S93)) (l1_2 : List Int), ((Lit.int .i64 a0_0).wf = true) → (l0_1.length ≤ maxLen ∧ l0_1.length * 32 ≤ 140737488351232 ∧ ∀ y5 ∈ l0_1, Wf93 y5) → (l0_2.length ≤ maxLen ∧ l0_2.length * 8 ≤ 140737488351232 ∧ ∀ y6 ∈ l0_2, (Lit.int .i64 y6).wf = true) → ((Lit.int .i64 a1_0).wf = true) → (l1_1.length ≤ maxLen ∧ l1_1.length * 32 ≤ 140737488351232 ∧ ∀ y7 ∈ l1_1, Wf93 y7) → (l1_2.length ≤ maxLen ∧ l1_2.length * 8 ≤ 140737488351232 ∧ ∀ y8 ∈ l1_2, (Lit.int .i64 y8).wf = true) → ∃ k, conclavelaw10_DegreeAfter.f k a0_0 l0_1 l0_2 a1_0 l1_1 l1_2 = some true
end Go.Proofs.Ytjgojlnnphkefaa.Form.DegreeAfter
end
section
namespace Go.Proofs.Ytjgojlnnphkefaa.Plain
open Go.RowKit Go.Proofs.YtjgojlnnphkefaaW.PrintWords Go.Proofs.YtjgojlnnphkefaaW.PrintLast Go.Proofs.YtjgojlnnphkefaaW.PrintMore
set_option linter.unusedVariables false
set_option linter.unusedSimpArgs false
theorem w64 {x : Int} (h0 : -9223372036854775808 ≤ x) (h1 : x ≤ 9223372036854775807) : wrap64 x = x := by unfold wrap64; omega
def Bytes (l : List Int) : Prop := ∀ x ∈ l, 0 ≤ x ∧ x < 256
theorem Bytes.take {l : List Int} (h : Bytes l) (n : Nat) : Bytes (l.take n) := fun x hx => h x (List.mem_of_mem_take hx)
theorem Bytes.drop {l : List Int} (h : Bytes l) (n : Nat) : Bytes (l.drop n) := fun x hx => h x (List.mem_of_mem_drop hx)
theorem Bytes.append {a b : List Int} (h : Bytes a) (h' : Bytes b) : Bytes (a ++ b) := fun x hx => (List.mem_append.1 hx).elim (h x) (h' x)
theorem rd_at {l : List Int} {i : Nat} (h : i < l.length) : rd l (i : Int) = l[i] := by simp [rd, h]
theorem drop_at {l : List Int} {i : Nat} (h : i < l.length) : l.drop i = rd l (i : Int) :: l.drop (i + 1) := by rw [rd_at h, List.drop_eq_getElem_cons h]
end Go.Proofs.Ytjgojlnnphkefaa.Plain
end
section
namespace Go.Proofs.Ytjgojlnnphkefaa.Plain
open Go.RowKit Go.Proofs Go.Proofs.Ytjgojlnnphkefaa.P Go.Proofs.YtjgojlnnphkefaaW.PrintWords Go.Proofs.YtjgojlnnphkefaaW.PrintLast Go.Proofs.YtjgojlnnphkefaaW.PrintMore
set_option linter.unusedVariables false
set_option linter.unusedSimpArgs false
abbrev OpS := S93
abbrev rdO (l : List OpS) (i : Int) : OpS := rd_T93 l i
theorem rdO_at {l : List OpS} {i : Nat} (h : i < l.length) : rdO l (i : Int) = l[i] := by simp [rdO, rd_T93, h]
theorem dropO_at {l : List OpS} {i : Nat} (h : i < l.length) : l.drop i = rdO l (i : Int) :: l.drop (i + 1) := by rw [rdO_at h, List.drop_eq_getElem_cons h]
def okO (m : Int) (o : OpS) : Bool :=
  if o.f0 = 1 ∨ o.f0 = 2 ∨ o.f0 = 3 then decide (0 ≤ o.f1) && decide (o.f1 < m) && decide (0 ≤ o.f2) && decide (o.f2 < m) && decide (o.f3 = 0)
  else decide (o.f0 = 4) && decide (o.f1 = 0) && decide (o.f2 = 0)
def okOps (n : Int) : Nat → List OpS → Bool
  | _, [] => true
  | i, o :: l => okO (n + (i : Int)) o && okOps n (i + 1) l
def okOuts (m : Int) (l : List Int) : Bool := l.all fun v => decide (0 ≤ v) && decide (v < m)
def mayB (n : Int) (ops : List OpS) (outs : List Int) : Bool :=
  decide (0 ≤ n) && decide (n ≤ 64) && decide (ops.length ≤ 256) && decide (outs.length ≤ 64) && okOps n 0 ops && okOuts (n + (ops.length : Int)) outs
theorem okOuts_drop {m : Int} {l : List Int} {i : Nat} (h : i < l.length) : okOuts m (l.drop i) = ((decide (0 ≤ rd l (i : Int)) && decide (rd l (i : Int) < m)) && okOuts m (l.drop (i + 1))) := by
  rw [drop_at h]; simp [okOuts]
theorem okOps_drop {n : Int} {l : List OpS} {i : Nat} (h : i < l.length) : okOps n i (l.drop i) = (okO (n + (i : Int)) (rdO l (i : Int)) && okOps n (i + 1) (l.drop (i + 1))) := by
  rw [dropO_at h]; simp only [okOps]
theorem outsBad_ev (n : Int) (len : Int) (outs : List Int) (h0 : 0 ≤ n) (h1 : n ≤ 64) (h2 : 0 ≤ len) (h3 : len ≤ 256) (ho : outs.length ≤ 64) : ∀ (d i : Nat), i + d = outs.length →
    Ev (fun k => slp_outsBad.l0 k outs n len (i : Int)) (!okOuts (n + len) (outs.drop i)) := by
  intro d
  induction d with
  | zero =>
    intro i hi
    refine Ev.step (f := fun _ => some false) (fun k => ?_) ?_
    · simp only [slp_outsBad.l0]; rw [if_neg (by omega)]
    · rw [List.drop_eq_nil_of_le (by omega)]; exact Ev.now _
  | succ d ih =>
    intro i hi
    have hw : wrap64 (n + len) = n + len := w64 (by omega) (by omega)
    have e1 : wrap64 ((i : Int) + 1) = ((i + 1 : Nat) : Int) := by rw [w64 (by omega) (by omega)]; rfl
    rw [okOuts_drop (by omega)]
    by_cases c1 : rd outs (i : Int) < 0
    · refine Ev.step (f := fun _ => some true) (fun k => ?_) ?_
      · simp only [slp_outsBad.l0]; rw [if_pos (by omega), if_pos (by omega), if_pos c1]
      · rw [decide_eq_false (show ¬ 0 ≤ rd outs (i : Int) by omega)]; exact Ev.now _
    · by_cases c2 : rd outs (i : Int) ≥ n + len
      · refine Ev.step (f := fun _ => some true) (fun k => ?_) ?_
        · simp only [slp_outsBad.l0]; rw [if_pos (by omega), if_pos (by omega), if_neg c1, hw, if_pos c2]
        · rw [decide_eq_false (show ¬ rd outs (i : Int) < n + len by omega), Bool.and_false]; exact Ev.now _
      · refine Ev.step (f := fun k => slp_outsBad.l0 k outs n len ((i + 1 : Nat) : Int)) (fun k => ?_) ?_
        · simp only [slp_outsBad.l0]; rw [if_pos (by omega), if_pos (by omega), if_neg c1, hw, if_neg c2, e1]
        · rw [decide_eq_true (show 0 ≤ rd outs (i : Int) by omega), decide_eq_true (show rd outs (i : Int) < n + len by omega)]
          simp only [Bool.true_and]
          exact ih (i + 1) (by omega)
theorem slpMay_l0 (n : Int) (ops : List OpS) (outs : List Int) (h0 : 0 ≤ n) (h1 : n ≤ 64) (h3 : ops.length ≤ 256) (ho : outs.length ≤ 64) : ∀ (d i : Nat), i + d = ops.length →
    Ev (fun k => slp_May.l0 k ops (ops.length : Int) (i : Int) n ops outs) (okOps n i (ops.drop i) && okOuts (n + (ops.length : Int)) outs) := by
  intro d
  induction d with
  | zero =>
    intro i hi
    rw [List.drop_eq_nil_of_le (by omega)]
    simp only [okOps, Bool.true_and]
    have h := outsBad_ev n (ops.length : Int) outs h0 h1 (by omega) (by omega) ho outs.length 0 (by omega)
    refine Ev.step (f := fun k => (slp_outsBad.f k outs n (ops.length : Int)).bind fun t => some (!t)) (fun k => ?_) ?_
    · simp only [slp_May.l0]; rw [if_neg (by omega)]
    · refine Ev.bind (f := fun _ t => some (!t)) (a := !okOuts (n + (ops.length : Int)) outs) h ?_
      rw [Bool.not_not]; exact Ev.now _
  | succ d ih =>
    intro i hi
    have hw : wrap64 (n + (i : Int)) = n + (i : Int) := w64 (by omega) (by omega)
    have e1 : wrap64 ((i : Int) + 1) = ((i + 1 : Nat) : Int) := by rw [w64 (by omega) (by omega)]; rfl
    have hi1 := ih (i + 1) (by omega)
    rw [okOps_drop (by omega)]
    obtain ⟨o, ho'⟩ : ∃ o : OpS, o = rdO ops (i : Int) := ⟨_, rfl⟩
    rw [← ho']
    have hstep : Ev (fun k => slp_May.j2 k (n + (i : Int)) ops (ops.length : Int) (i : Int) o.f0 (decide (o.f0 = 1 ∨ o.f0 = 2 ∨ o.f0 = 3)) n ops outs o.f0 o.f1 o.f2 o.f3) (okO (n + (i : Int)) o && okOps n (i + 1) (ops.drop (i + 1)) && okOuts (n + (ops.length : Int)) outs) := by
      by_cases c : o.f0 = 1 ∨ o.f0 = 2 ∨ o.f0 = 3
      · by_cases cc : 0 ≤ o.f1 ∧ o.f1 < n + (i : Int) ∧ 0 ≤ o.f2 ∧ o.f2 < n + (i : Int) ∧ o.f3 = 0
        · obtain ⟨a1, a2, a3, a4, a5⟩ := cc
          refine Ev.step (f := fun k => slp_May.l0 k ops (ops.length : Int) ((i + 1 : Nat) : Int) n ops outs) (fun k => ?_) ?_
          · simp only [slp_May.j2]
            rw [decide_eq_true c, if_pos rfl, if_neg (by omega), if_neg (by omega), if_neg (by omega), if_neg (by omega), if_pos a5, e1]
          · rw [show okO (n + (i : Int)) o = true by unfold okO; rw [if_pos c, decide_eq_true a1, decide_eq_true a2, decide_eq_true a3, decide_eq_true a4, decide_eq_true a5]; rfl]
            exact hi1
        · refine Ev.step (f := fun _ => some false) (fun k => ?_) ?_
          · simp only [slp_May.j2]
            rw [decide_eq_true c, if_pos rfl]
            by_cases b1 : o.f1 < 0
            · rw [if_pos b1]
            · rw [if_neg b1]
              by_cases b2 : o.f1 ≥ n + (i : Int)
              · rw [if_pos b2]
              · rw [if_neg b2]
                by_cases b3 : o.f2 < 0
                · rw [if_pos b3]
                · rw [if_neg b3]
                  by_cases b4 : o.f2 ≥ n + (i : Int)
                  · rw [if_pos b4]
                  · rw [if_neg b4, if_neg (by omega)]
          · rw [show okO (n + (i : Int)) o = false by
              unfold okO; rw [if_pos c]
              simp only [Bool.and_eq_false_iff, decide_eq_false_iff_not]
              omega]
            exact Ev.now _
      · by_cases cc : o.f0 = 4 ∧ o.f1 = 0 ∧ o.f2 = 0
        · obtain ⟨a1, a2, a3⟩ := cc
          refine Ev.step (f := fun k => slp_May.l0 k ops (ops.length : Int) ((i + 1 : Nat) : Int) n ops outs) (fun k => ?_) ?_
          · simp only [slp_May.j2]
            rw [decide_eq_false c, if_neg (by simp), if_pos a1, if_pos a2, if_pos a3, e1]
          · rw [show okO (n + (i : Int)) o = true by unfold okO; rw [if_neg c, decide_eq_true a1, decide_eq_true a2, decide_eq_true a3]; rfl]
            exact hi1
        · refine Ev.step (f := fun _ => some false) (fun k => ?_) ?_
          · simp only [slp_May.j2]
            rw [decide_eq_false c, if_neg (by simp)]
            by_cases b1 : o.f0 = 4
            · rw [if_pos b1]
              by_cases b2 : o.f1 = 0
              · rw [if_pos b2, if_neg (by omega)]
              · rw [if_neg b2]
            · rw [if_neg b1]
          · rw [show okO (n + (i : Int)) o = false by
              unfold okO; rw [if_neg c]
              simp only [Bool.and_eq_false_iff, decide_eq_false_iff_not]
              omega]
            exact Ev.now _
    refine Ev.step (f := fun k => slp_May.j2 k (n + (i : Int)) ops (ops.length : Int) (i : Int) o.f0 (decide (o.f0 = 1 ∨ o.f0 = 2 ∨ o.f0 = 3)) n ops outs o.f0 o.f1 o.f2 o.f3) (fun k => ?_) hstep
    simp only [slp_May.l0]
    rw [if_pos (by omega), if_pos (by omega), if_pos (by omega), hw]
    change (if (rdO ops (i : Int)).f0 = 1 then slp_May.j2 k (n + (i : Int)) ops (ops.length : Int) (i : Int) (rdO ops (i : Int)).f0 ((rdO ops (i : Int)).f0 == 1) n ops outs (rdO ops (i : Int)).f0 (rdO ops (i : Int)).f1 (rdO ops (i : Int)).f2 (rdO ops (i : Int)).f3 else if (rdO ops (i : Int)).f0 = 2 then slp_May.j2 k (n + (i : Int)) ops (ops.length : Int) (i : Int) (rdO ops (i : Int)).f0 ((rdO ops (i : Int)).f0 == 2) n ops outs (rdO ops (i : Int)).f0 (rdO ops (i : Int)).f1 (rdO ops (i : Int)).f2 (rdO ops (i : Int)).f3 else slp_May.j2 k (n + (i : Int)) ops (ops.length : Int) (i : Int) (rdO ops (i : Int)).f0 ((rdO ops (i : Int)).f0 == 3) n ops outs (rdO ops (i : Int)).f0 (rdO ops (i : Int)).f1 (rdO ops (i : Int)).f2 (rdO ops (i : Int)).f3) = _
    rw [← ho']
    by_cases q1 : o.f0 = 1
    · rw [if_pos q1, show (o.f0 == 1) = decide (o.f0 = 1 ∨ o.f0 = 2 ∨ o.f0 = 3) by rw [q1]; rfl]
    · rw [if_neg q1]
      by_cases q2 : o.f0 = 2
      · rw [if_pos q2, show (o.f0 == 2) = decide (o.f0 = 1 ∨ o.f0 = 2 ∨ o.f0 = 3) by rw [q2]; rfl]
      · rw [if_neg q2]
        by_cases q3 : o.f0 = 3
        · rw [show (o.f0 == 3) = decide (o.f0 = 1 ∨ o.f0 = 2 ∨ o.f0 = 3) by rw [q3]; rfl]
        · rw [show (o.f0 == 3) = decide (o.f0 = 1 ∨ o.f0 = 2 ∨ o.f0 = 3) by rw [decide_eq_false (by omega)]; simp [q3]]
theorem slpMay_f (n : Int) (ops : List OpS) (outs : List Int) : Ev (fun k => slp_May.f k n ops outs) (mayB n ops outs) := by
  have hbad : ∀ (b : Bool), b = false → Ev (fun k => slp_May.j0 k true n ops outs) b := fun b hb => by
    subst hb
    exact Ev.step (f := fun _ => some false) (fun k => by simp only [slp_May.j0, if_true]) (Ev.now _)
  unfold slp_May.f
  by_cases c1 : n < 0
  · simp only [if_pos c1]
    exact hbad _ (by unfold mayB; rw [decide_eq_false (show ¬ 0 ≤ n by omega)]; rfl)
  · simp only [if_neg c1]
    by_cases c2 : n > 64
    · simp only [if_pos c2]
      exact hbad _ (by unfold mayB; rw [decide_eq_false (show ¬ n ≤ 64 by omega)]; simp)
    · simp only [if_neg c2]
      by_cases c3 : (ops.length : Int) > 256
      · simp only [if_pos c3]
        exact hbad _ (by unfold mayB; rw [decide_eq_false (show ¬ ops.length ≤ 256 by omega)]; simp)
      · simp only [if_neg c3]
        by_cases c4 : (outs.length : Int) > 64
        · simp only [decide_eq_true c4]
          exact hbad _ (by unfold mayB; rw [decide_eq_false (show ¬ outs.length ≤ 64 by omega)]; simp)
        · simp only [decide_eq_false c4]
          have h := slpMay_l0 n ops outs (by omega) (by omega) (by omega) (by omega) ops.length 0 (by omega)
          refine Ev.step (f := fun k => slp_May.l0 k ops (ops.length : Int) 0 n ops outs) (fun k => by simp only [slp_May.j0, Bool.false_eq_true, if_false]) ?_
          unfold mayB
          rw [decide_eq_true (show 0 ≤ n by omega), decide_eq_true (show n ≤ 64 by omega), decide_eq_true (show ops.length ≤ 256 by omega), decide_eq_true (show outs.length ≤ 64 by omega)]
          simpa using h
theorem rop_f (m : Int) (o : OpS) : Ev (fun k => conclaveref09_op.f k o.f0 o.f1 o.f2 o.f3 m) (okO m o) := by
  have hj : Ev (fun k => conclaveref09_op.j0 k m o.f0 (decide (o.f0 = 1 ∨ o.f0 = 2 ∨ o.f0 = 3)) o.f0 o.f1 o.f2 o.f3) (okO m o) := by
    refine Ev.step (f := fun _ => some (okO m o)) (fun k => ?_) (Ev.now _)
    simp only [conclaveref09_op.j0]
    unfold okO
    by_cases c : o.f0 = 1 ∨ o.f0 = 2 ∨ o.f0 = 3
    · rw [decide_eq_true c, if_pos rfl, if_pos c]
      by_cases b1 : o.f1 ≥ 0
      · rw [if_pos b1, decide_eq_true (show 0 ≤ o.f1 from b1)]
        by_cases b2 : o.f1 < m
        · rw [if_pos b2, decide_eq_true b2]
          by_cases b3 : o.f2 ≥ 0
          · rw [if_pos b3, decide_eq_true (show 0 ≤ o.f2 from b3)]
            by_cases b4 : o.f2 < m
            · rw [if_pos b4, decide_eq_true b4]
              by_cases b5 : o.f3 = 0
              · rw [b5]; rfl
              · simp [b5]
            · rw [if_neg b4, decide_eq_false b4]; simp
          · rw [if_neg b3, decide_eq_false (show ¬ 0 ≤ o.f2 from b3)]; simp
        · rw [if_neg b2, decide_eq_false b2]; simp
      · rw [if_neg b1, decide_eq_false (show ¬ 0 ≤ o.f1 from b1)]; simp
    · rw [decide_eq_false c, if_neg (by simp), if_neg c]
      by_cases b1 : o.f0 = 4
      · rw [if_pos b1, decide_eq_true b1]
        by_cases b2 : o.f1 = 0
        · rw [if_pos b2, decide_eq_true b2]
          by_cases b3 : o.f2 = 0
          · rw [b3]; rfl
          · simp [b3]
        · rw [if_neg b2, decide_eq_false b2]; simp
      · rw [if_neg b1, decide_eq_false b1]; simp
  unfold conclaveref09_op.f
  by_cases q1 : o.f0 = 1
  · simp only [if_pos q1]
    rw [show (o.f0 == 1) = decide (o.f0 = 1 ∨ o.f0 = 2 ∨ o.f0 = 3) by rw [q1]; rfl]; exact hj
  · simp only [if_neg q1]
    by_cases q2 : o.f0 = 2
    · simp only [if_pos q2]
      rw [show (o.f0 == 2) = decide (o.f0 = 1 ∨ o.f0 = 2 ∨ o.f0 = 3) by rw [q2]; rfl]; exact hj
    · simp only [if_neg q2]
      by_cases q3 : o.f0 = 3
      · rw [show (o.f0 == 3) = decide (o.f0 = 1 ∨ o.f0 = 2 ∨ o.f0 = 3) by rw [q3]; rfl]; exact hj
      · rw [show (o.f0 == 3) = decide (o.f0 = 1 ∨ o.f0 = 2 ∨ o.f0 = 3) by rw [decide_eq_false (by omega)]; simp [q3]]; exact hj
theorem rMay_l1 (n : Int) (ops : List OpS) (outs : List Int) (h0 : 0 ≤ n) (h1 : n ≤ 64) (h3 : ops.length ≤ 256) (ho : outs.length ≤ 64) : ∀ (d i : Nat), i + d = outs.length →
    Ev (fun k => conclaveref09_May.l1 k (i : Int) n ops outs) (okOuts (n + (ops.length : Int)) (outs.drop i)) := by
  intro d
  induction d with
  | zero =>
    intro i hi
    refine Ev.step (f := fun _ => some true) (fun k => ?_) ?_
    · simp only [conclaveref09_May.l1]; rw [if_neg (by omega)]
    · rw [List.drop_eq_nil_of_le (by omega)]; exact Ev.now _
  | succ d ih =>
    intro i hi
    have hw : wrap64 (n + (ops.length : Int)) = n + (ops.length : Int) := w64 (by omega) (by omega)
    have e1 : wrap64 ((i : Int) + 1) = ((i + 1 : Nat) : Int) := by rw [w64 (by omega) (by omega)]; rfl
    rw [okOuts_drop (by omega)]
    by_cases c1 : rd outs (i : Int) < 0
    · refine Ev.step (f := fun _ => some false) (fun k => ?_) ?_
      · simp only [conclaveref09_May.l1]; rw [if_pos (by omega), if_pos (by omega), if_pos c1]
      · rw [decide_eq_false (show ¬ 0 ≤ rd outs (i : Int) by omega)]; exact Ev.now _
    · by_cases c2 : rd outs (i : Int) ≥ n + (ops.length : Int)
      · refine Ev.step (f := fun _ => some false) (fun k => ?_) ?_
        · simp only [conclaveref09_May.l1]; rw [if_pos (by omega), if_pos (by omega), if_neg c1, hw, if_pos c2]
        · rw [decide_eq_false (show ¬ rd outs (i : Int) < n + (ops.length : Int) by omega), Bool.and_false]; exact Ev.now _
      · refine Ev.step (f := fun k => conclaveref09_May.l1 k ((i + 1 : Nat) : Int) n ops outs) (fun k => ?_) ?_
        · simp only [conclaveref09_May.l1]; rw [if_pos (by omega), if_pos (by omega), if_neg c1, hw, if_neg c2, e1]
        · rw [decide_eq_true (show 0 ≤ rd outs (i : Int) by omega), decide_eq_true (show rd outs (i : Int) < n + (ops.length : Int) by omega)]
          simp only [Bool.true_and]
          exact ih (i + 1) (by omega)
theorem rMay_l0 (n : Int) (ops : List OpS) (outs : List Int) (h0 : 0 ≤ n) (h1 : n ≤ 64) (h3 : ops.length ≤ 256) (ho : outs.length ≤ 64) : ∀ (d i : Nat), i + d = ops.length →
    Ev (fun k => conclaveref09_May.l0 k (i : Int) n ops outs) (okOps n i (ops.drop i) && okOuts (n + (ops.length : Int)) outs) := by
  intro d
  induction d with
  | zero =>
    intro i hi
    rw [List.drop_eq_nil_of_le (by omega)]
    simp only [okOps, Bool.true_and]
    refine Ev.step (f := fun k => conclaveref09_May.l1 k 0 n ops outs) (fun k => ?_) (rMay_l1 n ops outs h0 h1 h3 ho outs.length 0 (by omega))
    simp only [conclaveref09_May.l0]; rw [if_neg (by omega)]
  | succ d ih =>
    intro i hi
    have hw : wrap64 (n + (i : Int)) = n + (i : Int) := w64 (by omega) (by omega)
    have e1 : wrap64 ((i : Int) + 1) = ((i + 1 : Nat) : Int) := by rw [w64 (by omega) (by omega)]; rfl
    rw [okOps_drop (by omega)]
    refine Ev.step (f := fun k => (conclaveref09_op.f k (rdO ops (i : Int)).f0 (rdO ops (i : Int)).f1 (rdO ops (i : Int)).f2 (rdO ops (i : Int)).f3 (n + (i : Int))).bind fun t => if t = true then conclaveref09_May.l0 k ((i + 1 : Nat) : Int) n ops outs else some false) (fun k => ?_) (Ev.bind (f := fun k (t : Bool) => if t = true then conclaveref09_May.l0 k ((i + 1 : Nat) : Int) n ops outs else some false) (rop_f _ _) ?_)
    · simp only [conclaveref09_May.l0]
      rw [if_pos (by omega), if_pos (by omega), hw, e1]
    · cases okO (n + (i : Int)) (rdO ops (i : Int))
      · exact Ev.now _
      · simp only [if_true, Bool.true_and]
        exact ih (i + 1) (by omega)
theorem rMay_f (n : Int) (ops : List OpS) (outs : List Int) : Ev (fun k => conclaveref09_May.f k n ops outs) (mayB n ops outs) := by
  have hbad : ∀ (b : Bool), b = false → Ev (fun k => conclaveref09_May.j0 k true n ops outs) b := fun b hb => by
    subst hb
    exact Ev.step (f := fun _ => some false) (fun k => by simp only [conclaveref09_May.j0, if_true]) (Ev.now _)
  unfold conclaveref09_May.f
  by_cases c1 : n < 0
  · simp only [if_pos c1]
    exact hbad _ (by unfold mayB; rw [decide_eq_false (show ¬ 0 ≤ n by omega)]; rfl)
  · simp only [if_neg c1]
    by_cases c2 : n > 64
    · simp only [if_pos c2]
      exact hbad _ (by unfold mayB; rw [decide_eq_false (show ¬ n ≤ 64 by omega)]; simp)
    · simp only [if_neg c2]
      by_cases c3 : (ops.length : Int) > 256
      · simp only [if_pos c3]
        exact hbad _ (by unfold mayB; rw [decide_eq_false (show ¬ ops.length ≤ 256 by omega)]; simp)
      · simp only [if_neg c3]
        by_cases c4 : (outs.length : Int) > 64
        · simp only [decide_eq_true c4]
          exact hbad _ (by unfold mayB; rw [decide_eq_false (show ¬ outs.length ≤ 64 by omega)]; simp)
        · simp only [decide_eq_false c4]
          have h := rMay_l0 n ops outs (by omega) (by omega) (by omega) (by omega) ops.length 0 (by omega)
          refine Ev.step (f := fun k => conclaveref09_May.l0 k 0 n ops outs) (fun k => by simp only [conclaveref09_May.j0, Bool.false_eq_true, if_false]) ?_
          unfold mayB
          rw [decide_eq_true (show 0 ≤ n by omega), decide_eq_true (show n ≤ 64 by omega), decide_eq_true (show ops.length ≤ 256 by omega), decide_eq_true (show outs.length ≤ 64 by omega)]
          simpa using h
structure MayP (n : Int) (ops : List OpS) (outs : List Int) : Prop where
  n0 : 0 ≤ n
  n1 : n ≤ 64
  len : ops.length ≤ 256
  olen : outs.length ≤ 64
  op : ∀ i (h : i < ops.length), okO (n + (i : Int)) ops[i] = true
  out : ∀ v ∈ outs, 0 ≤ v ∧ v < n + (ops.length : Int)
theorem okOps_iff (n : Int) : ∀ (l : List OpS) (i : Nat), okOps n i l = true ↔ ∀ j (h : j < l.length), okO (n + ((i + j : Nat) : Int)) l[j] = true := by
  intro l
  induction l with
  | nil => intro i; simp [okOps]
  | cons o l ih =>
    intro i
    simp only [okOps, Bool.and_eq_true]
    rw [ih]
    constructor
    · rintro ⟨h1, h2⟩ j hj
      cases j with
      | zero => exact h1
      | succ j => have := h2 j (by simpa using hj); rw [show i + 1 + j = i + (j + 1) by omega] at this; exact this
    · intro h
      exact ⟨h 0 (by simp), fun j hj => by have := h (j + 1) (by simpa using hj); rw [show i + (j + 1) = i + 1 + j by omega] at this; exact this⟩
theorem may_iff {n : Int} {ops : List OpS} {outs : List Int} : mayB n ops outs = true ↔ MayP n ops outs := by
  unfold mayB okOuts
  simp only [Bool.and_eq_true, decide_eq_true_eq, okOps_iff, List.all_eq_true]
  constructor
  · rintro ⟨⟨⟨⟨⟨h1, h2⟩, h3⟩, h4⟩, h5⟩, h6⟩
    exact ⟨h1, h2, h3, h4, fun i h => by have := h5 i h; rwa [Nat.zero_add] at this, fun v hv => by have := h6 v hv; exact this⟩
  · intro h
    exact ⟨⟨⟨⟨⟨h.n0, h.n1⟩, h.len⟩, h.olen⟩, fun j hj => by rw [Nat.zero_add]; exact h.op j hj⟩, fun v hv => h.out v hv⟩
theorem okO_args {m : Int} {o : OpS} (h : okO m o = true) (hk : o.f0 ≠ 4) : 0 ≤ o.f1 ∧ o.f1 < m ∧ 0 ≤ o.f2 ∧ o.f2 < m := by
  unfold okO at h
  by_cases c : o.f0 = 1 ∨ o.f0 = 2 ∨ o.f0 = 3
  · rw [if_pos c] at h
    simp only [Bool.and_eq_true, decide_eq_true_eq] at h
    exact ⟨h.1.1.1.1, h.1.1.1.2, h.1.1.2, h.1.2⟩
  · rw [if_neg c] at h
    simp only [Bool.and_eq_true, decide_eq_true_eq] at h
    exact absurd h.1.1 hk
end Go.Proofs.Ytjgojlnnphkefaa.Plain
end
section
namespace Go.Proofs.Ytjgojlnnphkefaa.Plain
open Go.RowKit Go.Proofs Go.Proofs.Ytjgojlnnphkefaa.P Go.Proofs.YtjgojlnnphkefaaW.PrintWords Go.Proofs.YtjgojlnnphkefaaW.PrintLast Go.Proofs.YtjgojlnnphkefaaW.PrintMore
set_option linter.unusedVariables false
set_option linter.unusedSimpArgs false
def put {α : Type} (g : Nat → α) (i : Nat) (v : α) : Nat → α := fun j => if j = i then v else g j
theorem put_same {α : Type} (g : Nat → α) (i : Nat) (v : α) : put g i v i = v := by simp [put]
theorem put_ne {α : Type} (g : Nat → α) {i j : Nat} (v : α) (h : j ≠ i) : put g i v j = g j := by simp [put, h]
section
variable {n : Int} {ops : List OpS} {outs : List Int}
theorem MayP.args (h : MayP n ops outs) {i : Nat} (hi : i < ops.length) (hk : (rdO ops (i : Int)).f0 ≠ 4) : 0 ≤ (rdO ops (i : Int)).f1 ∧ (rdO ops (i : Int)).f1 < n + (i : Int) ∧ 0 ≤ (rdO ops (i : Int)).f2 ∧ (rdO ops (i : Int)).f2 < n + (i : Int) := by
  rw [rdO_at hi] at hk ⊢
  exact okO_args (h.op i hi) hk
end
end Go.Proofs.Ytjgojlnnphkefaa.Plain
end
section
namespace Go.Proofs.Ytjgojlnnphkefaa.Plain
open Go.RowKit Go.Proofs Go.Proofs.Ytjgojlnnphkefaa.P Go.Proofs.YtjgojlnnphkefaaW.PrintWords Go.Proofs.YtjgojlnnphkefaaW.PrintLast Go.Proofs.YtjgojlnnphkefaaW.PrintMore
set_option linter.unusedVariables false
set_option linter.unusedSimpArgs false
def kept (n : Int) (f : Nat → Bool) : Nat → Nat
  | 0 => 0
  | i + 1 => if f (n.toNat + i) = true then kept n f i + 1 else kept n f i
def posT (n : Int) (f : Nat → Bool) (v : Nat) : Int := if v < n.toNat then (v : Int) else n + (kept n f (v - n.toNat) : Int)
def Told (n : Int) (f : Nat → Bool) (i : Nat) (a : Nat → Int) : Prop := ∀ v, v < n.toNat + i → (v < n.toNat ∨ f v = true) → a v = posT n f v
section
variable {n : Int} {ops : List OpS} {outs : List Int}
theorem Told.step {f : Nat → Bool} {i : Nat} {a : Nat → Int} (h : Told n f i a) (hf : f (n.toNat + i) = true) : Told n f (i + 1) (put a (n.toNat + i) (n + (kept n f i : Int))) := by
  intro v hv hm
  by_cases c : v = n.toNat + i
  · subst c
    rw [put_same]; unfold posT
    rw [if_neg (by omega), show n.toNat + i - n.toNat = i by omega]
  · rw [put_ne _ _ c]; exact h v (by omega) hm
theorem Told.skip {f : Nat → Bool} {i : Nat} {a : Nat → Int} (h : Told n f i a) (hf : f (n.toNat + i) ≠ true) (x : Int) : Told n f (i + 1) (put a (n.toNat + i) x) := by
  intro v hv hm
  by_cases c : v = n.toNat + i
  · subst c; rcases hm with hm | hm
    · omega
    · exact absurd hm hf
  · rw [put_ne _ _ c]; exact h v (by omega) hm
end
end Go.Proofs.Ytjgojlnnphkefaa.Plain
end
section
namespace Go.Proofs.Ytjgojlnnphkefaa.Plain
open Go.RowKit Go.Proofs Go.Proofs.Ytjgojlnnphkefaa.P Go.Proofs.YtjgojlnnphkefaaW.PrintWords Go.Proofs.YtjgojlnnphkefaaW.PrintLast Go.Proofs.YtjgojlnnphkefaaW.PrintMore
set_option linter.unusedVariables false
set_option linter.unusedSimpArgs false
def ruleV (o : OpS) (l : List Int) : Int := if o.f0 = 1 ∨ o.f0 = 2 then mx (rd l o.f1) (rd l o.f2) else if o.f0 = 3 then mn (rd l o.f1 + rd l o.f2) 1025 else 0
def degL (n : Int) (ops : List OpS) : Nat → List Int
  | 0 => List.replicate n.toNat 1
  | i + 1 => degL n ops i ++ [ruleV (rdO ops (i : Int)) (degL n ops i)]
theorem degL_len (n : Int) (ops : List OpS) (i : Nat) : (degL n ops i).length = n.toNat + i := by
  induction i with
  | zero => simp [degL]
  | succ i ih => simp [degL, ih]; omega
def Cap (l : List Int) : Prop := ∀ x ∈ l, 0 ≤ x ∧ x ≤ 1025
theorem rd_cap {l : List Int} (h : Cap l) (i : Int) : 0 ≤ rd l i ∧ rd l i ≤ 1025 := by
  unfold rd
  rw [List.getD_eq_getElem?_getD]
  cases e : l[i.toNat]? with
  | none => simp
  | some x => simpa using h x (List.mem_of_getElem? e)
theorem ruleV_cap (o : OpS) {l : List Int} (h : Cap l) : 0 ≤ ruleV o l ∧ ruleV o l ≤ 1025 := by
  have h1 := rd_cap h o.f1
  have h2 := rd_cap h o.f2
  unfold ruleV mx mn
  split
  · split <;> omega
  · split
    · split <;> omega
    · omega
theorem degL_cap (n : Int) (ops : List OpS) (i : Nat) : Cap (degL n ops i) := by
  induction i with
  | zero => intro x hx; have := List.eq_of_mem_replicate hx; omega
  | succ i ih =>
    intro x hx
    rcases List.mem_append.1 hx with hx | hx
    · exact ih x hx
    · rw [List.mem_singleton.1 hx]; exact ruleV_cap _ ih
theorem rd_left {l m : List Int} {i : Int} (h0 : 0 ≤ i) (h1 : i < l.length) : rd (l ++ m) i = rd l i := by
  unfold rd
  rw [List.getD_eq_getElem?_getD, List.getD_eq_getElem?_getD, List.getElem?_append_left (by omega)]
theorem rd_last (l : List Int) (x : Int) : rd (l ++ [x]) (l.length : Int) = x := by
  unfold rd
  rw [List.getD_eq_getElem?_getD, Int.toNat_natCast, List.getElem?_append_right (Nat.le_refl _)]
  simp
theorem degL_mono (n : Int) (ops : List OpS) {i j : Nat} (hij : i ≤ j) {v : Int} (h0 : 0 ≤ v) (h1 : v < n.toNat + i) : rd (degL n ops j) v = rd (degL n ops i) v := by
  induction j with
  | zero => obtain rfl : i = 0 := by omega
            rfl
  | succ j ih =>
    by_cases c : i = j + 1
    · subst c; rfl
    · simp only [degL]
      rw [rd_left h0 (by rw [degL_len]; omega), ih (by omega)]
theorem degL_op (n : Int) (h0 : 0 ≤ n) (ops : List OpS) {i j : Nat} (hij : i < j) : rd (degL n ops j) (n + (i : Int)) = ruleV (rdO ops (i : Int)) (degL n ops i) := by
  rw [degL_mono n ops (i := i + 1) (by omega) (by omega) (by omega)]
  simp only [degL]
  have := rd_last (degL n ops i) (ruleV (rdO ops (i : Int)) (degL n ops i))
  rw [degL_len, show ((n.toNat + i : Nat) : Int) = n + (i : Int) by omega] at this
  exact this
theorem degL_in (n : Int) (h0 : 0 ≤ n) (ops : List OpS) (j : Nat) {v : Int} (hv : 0 ≤ v) (h1 : v < n) : rd (degL n ops j) v = 1 := by
  rw [degL_mono n ops (i := 0) (by omega) hv (by omega)]
  simp only [degL, rd]
  rw [List.getD_eq_getElem?_getD, List.getElem?_replicate, if_pos (by omega)]
  rfl
section
variable {n : Int} {ops : List OpS} {outs : List Int}
theorem okO_kind {m : Int} {o : OpS} (h : okO m o = true) : o.f0 = 1 ∨ o.f0 = 2 ∨ o.f0 = 3 ∨ o.f0 = 4 := by
  unfold okO at h
  by_cases c : o.f0 = 1 ∨ o.f0 = 2 ∨ o.f0 = 3
  · omega
  · rw [if_neg c] at h
    simp only [Bool.and_eq_true, decide_eq_true_eq] at h
    omega
theorem MayP.kind (h : MayP n ops outs) {i : Nat} (hi : i < ops.length) : (rdO ops (i : Int)).f0 = 1 ∨ (rdO ops (i : Int)).f0 = 2 ∨ (rdO ops (i : Int)).f0 = 3 ∨ (rdO ops (i : Int)).f0 = 4 := by
  rw [rdO_at hi]
  exact okO_kind (h.op i hi)
theorem Repeat_f (n : Nat) (hn : n ≤ 1000) : Ev (fun k => slices_Repeat_int_int.f k [1] (n : Int)) (List.replicate n 1) := by
  have hl : ∀ (d i : Nat), i + d = n → Ev (fun k => slices_Repeat_int_int.l0 k [1] (List.replicate i 1 ++ List.replicate (n - i) 0) (n : Int) (i : Int)) (List.replicate n 1) := by
    intro d
    induction d with
    | zero =>
      intro i hi
      obtain rfl : i = n := by omega
      refine Ev.step (f := fun _ => some (List.replicate i 1)) (fun k => ?_) (Ev.now _)
      simp only [slices_Repeat_int_int.l0]; rw [if_neg (by omega), Nat.sub_self]; simp
    | succ d ih =>
      intro i hi
      have e1 : wrap64 ((i : Int) + 1) = ((i + 1 : Nat) : Int) := by rw [w64 (by omega) (by omega)]; rfl
      have hset : (List.replicate i (1 : Int) ++ List.replicate (n - i) 0).set i (rd [1] 0) = List.replicate (i + 1) (1 : Int) ++ List.replicate (n - (i + 1)) 0 := by
        rw [List.set_append_right _ _ (by simp)]
        simp only [List.length_replicate, Nat.sub_self]
        rw [show n - i = (n - (i + 1)) + 1 by omega, List.replicate_succ, List.set_cons_zero, List.replicate_succ', List.append_assoc]; rfl
      refine Ev.step (f := fun k => slices_Repeat_int_int.l0 k [1] (List.replicate (i + 1) 1 ++ List.replicate (n - (i + 1)) 0) (n : Int) ((i + 1 : Nat) : Int)) (fun k => ?_) (ih (i + 1) (by omega))
      simp only [slices_Repeat_int_int.l0]
      rw [if_pos (by omega), if_pos (by simp), if_pos (by omega), if_pos (by simp; omega), Int.toNat_natCast, e1, hset]
  unfold slices_Repeat_int_int.f
  have e0 : wrap64 ((([1] : List Int).length : Int) - 1) = 0 := by rw [w64 (by simp) (by simp)]; rfl
  simp only [if_pos (show (1 : Nat) ≤ 35184372088832 by omega), e0, if_pos (show (0 : Int) ≤ 0 by omega), List.length_replicate, if_pos (show (0 : Int) < ((1 : Nat) : Int) by omega), if_pos (show (0 : Int) ≤ (n : Int) by omega), Int.toNat_natCast, if_pos (show n ≤ 35184372088832 by omega), Option.bind_some]
  have h := hl n 0 (by omega)
  simpa using h
theorem rule_v {o : OpS} (hk : o.f0 = 1 ∨ o.f0 = 2 ∨ o.f0 = 3) {l : List Int} (h : Cap l) : degree_rule.f o.f0 (rd l o.f1) (rd l o.f2) = some (ruleV o l) := by
  have h1 := rd_cap h o.f1
  have h2 := rd_cap h o.f2
  unfold degree_rule.f ruleV
  rcases hk with c | c | c
  · rw [if_pos c, if_pos (Or.inl c)]
  · rw [if_neg (by omega), if_pos c, if_pos (Or.inr c)]
  · rw [if_neg (by omega), if_neg (by omega), if_pos c, if_neg (by omega), if_pos c, w64 (by omega) (by omega)]
theorem rule_4 {o : OpS} (hk : o.f0 = 4) (l : List Int) : degree_rule.f o.f0 0 0 = some (ruleV o l) := by
  unfold degree_rule.f ruleV
  rw [if_neg (by omega), if_neg (by omega), if_neg (by omega), if_pos hk, if_neg (by omega), if_neg (by omega)]
theorem pAll_l0 (h : MayP n ops outs) : ∀ (d i : Nat), i + d = ops.length → Ev (fun k => degree_all.l0 k (degL n ops i) ops (ops.length : Int) (i : Int)) (degL n ops ops.length) := by
  have hn := h.n0
  have hn1 := h.n1
  have hl := h.len
  intro d
  induction d with
  | zero =>
    intro i hi
    obtain rfl : i = ops.length := by omega
    refine Ev.step (f := fun _ => some (degL n ops ops.length)) (fun k => ?_) (Ev.now _)
    simp only [degree_all.l0]; rw [if_neg (by omega)]
  | succ d ih =>
    intro i hi
    have e1 : wrap64 ((i : Int) + 1) = ((i + 1 : Nat) : Int) := by rw [w64 (by omega) (by omega)]; rfl
    have hc := degL_cap n ops i
    have hlen := degL_len n ops i
    have hk := h.kind (i := i) (by omega)
    refine Ev.step (f := fun k => degree_all.l0 k (degL n ops (i + 1)) ops (ops.length : Int) ((i + 1 : Nat) : Int)) (fun k => ?_) (ih (i + 1) (by omega))
    simp only [degree_all.l0]
    rw [if_pos (by omega), if_pos (by omega), if_pos (by omega), e1]
    by_cases c4 : (rdO ops (i : Int)).f0 = 4
    · rw [if_pos c4, rule_4 c4 (degL n ops i), Option.bind_some, if_pos (by omega)]
      rfl
    · have hb : 0 ≤ (rd_T93 ops (i : Int)).f1 ∧ (rd_T93 ops (i : Int)).f1 < n + (i : Int) ∧ 0 ≤ (rd_T93 ops (i : Int)).f2 ∧ (rd_T93 ops (i : Int)).f2 < n + (i : Int) := h.args (by omega) c4
      rw [if_neg c4, if_pos hb.1, if_pos (by omega), if_pos hb.2.2.1, if_pos (by omega), rule_v (o := rdO ops (i : Int)) (by omega) hc, Option.bind_some, if_pos (by omega)]
      rfl
theorem pAll_f (h : MayP n ops outs) : Ev (fun k => degree_all.f k n ops outs) (degL n ops ops.length) := by
  have hn := h.n0
  have hn1 := h.n1
  unfold degree_all.f
  have hr := Repeat_f n.toNat (by omega)
  rw [show ((n.toNat : Nat) : Int) = n by omega] at hr
  exact Ev.bind (f := fun k t => degree_all.l0 k t ops (ops.length : Int) 0) hr (pAll_l0 h ops.length 0 (by omega))
def mostO (l : List Int) : List Int → Int → Int
  | [], m => m
  | v :: t, m => mostO l t (mx m (rd l v))
theorem mostO_cap {l : List Int} (h : Cap l) : ∀ (t : List Int) (m : Int), 0 ≤ m → m ≤ 1025 → 0 ≤ mostO l t m ∧ mostO l t m ≤ 1025 := by
  intro t
  induction t with
  | nil => intro m h0 h1; exact ⟨h0, h1⟩
  | cons v t ih =>
    intro m h0 h1
    have := rd_cap h v
    exact ih _ (by unfold mx; split <;> omega) (by unfold mx; split <;> omega)
def ofR (m : Int) : Int × Int := if m > 1024 then (0, 4) else (m, 0)
theorem pOf_l0 (h : MayP n ops outs) (l : List Int) (hc : Cap l) (hl : (l.length : Int) = n + (ops.length : Int)) : ∀ (d i : Nat), i + d = outs.length → ∀ m : Int, 0 ≤ m → m ≤ 1025 → Ev (fun k => degree_Of.l0 k l m outs (outs.length : Int) (i : Int)) (ofR (mostO l (outs.drop i) m)) := by
  have ho := h.olen
  intro d
  induction d with
  | zero =>
    intro i hi m h0 h1
    rw [List.drop_eq_nil_of_le (by omega)]
    refine Ev.step (f := fun _ => some (ofR m)) (fun k => ?_) (Ev.now _)
    simp only [degree_Of.l0]; rw [if_neg (by omega)]
    unfold ofR
    by_cases c : m = 1025
    · rw [if_pos c, if_pos (by omega)]
    · rw [if_neg c, if_neg (by omega)]
  | succ d ih =>
    intro i hi m h0 h1
    have e1 : wrap64 ((i : Int) + 1) = ((i + 1 : Nat) : Int) := by rw [w64 (by omega) (by omega)]; rfl
    have hv := h.out (rd outs (i : Int)) (by rw [rd_at (by omega)]; exact List.getElem_mem _)
    have hx := rd_cap hc (rd outs (i : Int))
    rw [drop_at (l := outs) (by omega)]
    refine Ev.step (f := fun k => degree_Of.l0 k l (mx m (rd l (rd outs (i : Int)))) outs (outs.length : Int) ((i + 1 : Nat) : Int)) (fun k => ?_) (ih (i + 1) (by omega) _ (by unfold mx; split <;> omega) (by unfold mx; split <;> omega))
    simp only [degree_Of.l0]; rw [if_pos (by omega), if_pos (by omega), if_pos (by omega), if_pos hv.1, if_pos (by omega), e1]
def ofM (n : Int) (ops : List OpS) (outs : List Int) : Int := mostO (degL n ops ops.length) outs 0
theorem degL_lenI (h : MayP n ops outs) : ((degL n ops ops.length).length : Int) = n + (ops.length : Int) := by
  rw [degL_len]; have := h.n0; omega
theorem pOf_f (h : MayP n ops outs) : Ev (fun k => degree_Of.f k n ops outs) (ofR (ofM n ops outs)) := by
  unfold degree_Of.f
  have hm := slpMay_f n ops outs
  rw [may_iff.2 h] at hm
  refine Ev.bind (f := fun k t => _) hm ?_
  simp only [if_true]
  refine Ev.bind (f := fun k t => _) (pAll_f h) ?_
  have := pOf_l0 h _ (degL_cap n ops ops.length) (degL_lenI h) outs.length 0 (by omega) 0 (by omega) (by omega)
  rw [List.drop_zero] at this
  exact this
end
theorem anchored10_k : conclavelaw10_anchored.f 40 = some true := by decide +kernel
theorem anchored10_f : Ev (fun k => conclavelaw10_anchored.f k) true := Ev.of (fun k => conclavelaw10_anchored.mono k) anchored10_k
end Go.Proofs.Ytjgojlnnphkefaa.Plain
end
section
namespace Go.Proofs.Ytjgojlnnphkefaa.Plain
open Go.RowKit Go.Proofs Go.Proofs.Ytjgojlnnphkefaa.P Go.Proofs.YtjgojlnnphkefaaW.PrintWords Go.Proofs.YtjgojlnnphkefaaW.PrintLast Go.Proofs.YtjgojlnnphkefaaW.PrintMore
set_option linter.unusedVariables false
set_option linter.unusedSimpArgs false
def atA (n : Int) (qn : Int) (qops : List OpS) (qouts : List Int) (v : Int) : Int := if v < n then rd qouts v else qn + (qops.length : Int) + (v - n)
def reA (n qn : Int) (qops : List OpS) (qouts : List Int) (o : OpS) : OpS := if o.f0 = 4 then o else ⟨o.f0, atA n qn qops qouts o.f1, atA n qn qops qouts o.f2, o.f3⟩
def opsA (n qn : Int) (qops : List OpS) (qouts : List Int) (ops : List OpS) : List OpS := qops ++ ops.map (reA n qn qops qouts)
def outsA (n qn : Int) (qops : List OpS) (qouts : List Int) (outs : List Int) : List Int := outs.map (atA n qn qops qouts)
section
variable {n : Int} {ops : List OpS} {outs : List Int} {qn : Int} {qops : List OpS} {qouts : List Int}
theorem atA_range (h : MayP n ops outs) (hq : MayP qn qops qouts) (hl : (qouts.length : Int) = n) {v : Int} (h0 : 0 ≤ v) {m : Int} (hm : n ≤ m) (h1 : v < m) : 0 ≤ atA n qn qops qouts v ∧ atA n qn qops qouts v < qn + (qops.length : Int) + (m - n) := by
  have := hq.n0
  have := h.n0
  unfold atA
  by_cases c : v < n
  · rw [if_pos c]
    obtain ⟨i, rfl⟩ := Int.eq_ofNat_of_zero_le h0
    have hv := hq.out (rd qouts (i : Int)) (by rw [rd_at (by omega)]; exact List.getElem_mem _)
    omega
  · rw [if_neg c]; omega
theorem opsA_len : (opsA n qn qops qouts ops).length = qops.length + ops.length := by simp [opsA]
theorem opsA_at1 {i : Nat} (hi : i < qops.length) : rdO (opsA n qn qops qouts ops) (i : Int) = rdO qops (i : Int) := by
  rw [rdO_at hi, rdO_at (by rw [opsA_len]; omega)]
  unfold opsA
  exact List.getElem_append_left hi
theorem opsA_at2 {i : Nat} (hi : i < ops.length) : rdO (opsA n qn qops qouts ops) ((qops.length + i : Nat) : Int) = reA n qn qops qouts (rdO ops (i : Int)) := by
  rw [rdO_at hi, rdO_at (by rw [opsA_len]; omega)]
  unfold opsA
  rw [List.getElem_append_right (by omega)]
  simp
theorem After_may (h : MayP n ops outs) (hq : MayP qn qops qouts) (hl : (qouts.length : Int) = n) (hs : ops.length + qops.length ≤ 256) : MayP qn (opsA n qn qops qouts ops) (outsA n qn qops qouts outs) := by
  have hqn := hq.n0
  have hn := h.n0
  refine ⟨hq.n0, hq.n1, by rw [opsA_len]; omega, by unfold outsA; rw [List.length_map]; exact h.olen, fun i hi => ?_, fun v hv => ?_⟩
  · rw [opsA_len] at hi
    rw [← rdO_at (by rw [opsA_len]; exact hi)]
    by_cases c : i < qops.length
    · rw [opsA_at1 c, rdO_at c]; exact hq.op i c
    · obtain ⟨j, rfl⟩ : ∃ j, i = qops.length + j := ⟨i - qops.length, by omega⟩
      have hj : j < ops.length := by omega
      rw [opsA_at2 hj]
      have ho := h.op j hj
      rw [← rdO_at hj] at ho
      unfold reA
      by_cases c4 : (rdO ops (j : Int)).f0 = 4
      · rw [if_pos c4]
        unfold okO at ho ⊢
        rw [if_neg (by omega)] at ho ⊢
        exact ho
      · rw [if_neg c4]
        have hb := h.args hj c4
        have hk := h.kind hj
        have ha1 := atA_range h hq hl hb.1 (m := n + (j : Int)) (by omega) hb.2.1
        have ha2 := atA_range h hq hl hb.2.2.1 (m := n + (j : Int)) (by omega) hb.2.2.2
        have h3 : (rdO ops (j : Int)).f3 = 0 := by
          unfold okO at ho
          rw [if_pos (by omega)] at ho
          simp only [Bool.and_eq_true, decide_eq_true_eq] at ho
          exact ho.2
        unfold okO
        rw [if_pos (show (rdO ops (j : Int)).f0 = 1 ∨ (rdO ops (j : Int)).f0 = 2 ∨ (rdO ops (j : Int)).f0 = 3 by omega)]
        simp only [Bool.and_eq_true, decide_eq_true_eq]
        refine ⟨⟨⟨⟨ha1.1, ?_⟩, ha2.1⟩, ?_⟩, h3⟩ <;> omega
  · unfold outsA at hv
    obtain ⟨u, hu, rfl⟩ := List.mem_map.1 hv
    have hb := h.out u hu
    have := atA_range h hq hl hb.1 (m := n + (ops.length : Int)) (by omega) hb.2
    rw [opsA_len]
    omega
theorem After_l1 (h : MayP n ops outs) (at_ : List Int) (hat : ∀ v : Int, 0 ≤ v → v < n + (ops.length : Int) → rd at_ v = atA n qn qops qouts v) (hal : (at_.length : Int) = n + (ops.length : Int)) (O : List OpS) : ∀ (d i : Nat), i + d = outs.length →
    Ev (fun k => conclaveref09_After.l1 k at_ (i : Int) n ops outs qn O (outsA n qn qops qouts (outs.take i))) (qn, O, outsA n qn qops qouts outs, 0) := by
  have ho := h.olen
  intro d
  induction d with
  | zero =>
    intro i hi
    refine Ev.step (f := fun _ => some (qn, O, outsA n qn qops qouts (outs.take i), 0)) (fun k => ?_) ?_
    · simp only [conclaveref09_After.l1]; rw [if_neg (by omega)]
    · rw [List.take_of_length_le (by omega)]; exact Ev.now _
  | succ d ih =>
    intro i hi
    have e1 : wrap64 ((i : Int) + 1) = ((i + 1 : Nat) : Int) := by rw [w64 (by omega) (by omega)]; rfl
    have hin : rd outs (i : Int) ∈ outs := by rw [rd_at (by omega)]; exact List.getElem_mem _
    have hv := h.out _ hin
    have hl2 : (outsA n qn qops qouts (outs.take i)).length < 17592186044416 := by unfold outsA; rw [List.length_map, List.length_take]; omega
    refine Ev.step (f := fun k => conclaveref09_After.l1 k at_ ((i + 1 : Nat) : Int) n ops outs qn O (outsA n qn qops qouts (outs.take (i + 1)))) (fun k => ?_) (ih (i + 1) (by omega))
    simp only [conclaveref09_After.l1]
    rw [if_pos (by omega), if_pos (by omega), if_pos hv.1, if_pos (by omega), if_pos hl2, hat _ hv.1 hv.2, e1]
    rw [List.take_succ_eq_append_getElem (by omega : i < outs.length)]
    unfold outsA
    rw [List.map_append, ← rd_at]
    rfl
def tabA (qn : Int) (qops : List OpS) (qouts : List Int) (i : Nat) : List Int := qouts ++ (List.range i).map fun (j : Nat) => qn + (qops.length : Int) + (j : Int)
theorem tabA_len (i : Nat) : (tabA qn qops qouts i).length = qouts.length + i := by simp [tabA]
theorem tabA_at (hl : (qouts.length : Int) = n) (i : Nat) {v : Int} (h0 : 0 ≤ v) (h1 : v < n + (i : Int)) : rd (tabA qn qops qouts i) v = atA n qn qops qouts v := by
  unfold atA tabA
  by_cases c : v < n
  · rw [if_pos c, rd_left h0 (by omega)]
  · rw [if_neg c]
    unfold rd
    rw [List.getD_eq_getElem?_getD, List.getElem?_append_right (by omega)]
    rw [List.getElem?_map, List.getElem?_range (by omega)]
    simp only [Option.map_some, Option.getD_some]
    omega
theorem After_l0 (h : MayP n ops outs) (hq : MayP qn qops qouts) (hl : (qouts.length : Int) = n) (hs : ops.length + qops.length ≤ 256) : ∀ (d i : Nat), i + d = ops.length →
    Ev (fun k => conclaveref09_After.l0 k (tabA qn qops qouts i) (i : Int) n ops outs qn (qops ++ (ops.take i).map (reA n qn qops qouts))) (qn, opsA n qn qops qouts ops, outsA n qn qops qouts outs, 0) := by
  have hn := h.n0
  have hn1 := h.n1
  have hqn := hq.n0
  have hqn1 := hq.n1
  have hol := hq.olen
  intro d
  induction d with
  | zero =>
    intro i hi
    obtain rfl : i = ops.length := by omega
    refine Ev.step (f := fun k => conclaveref09_After.l1 k (tabA qn qops qouts ops.length) 0 n ops outs qn (opsA n qn qops qouts ops) ([] : List Int)) (fun k => ?_) (After_l1 h (tabA qn qops qouts ops.length) (fun v h0 h1 => tabA_at hl _ h0 h1) (by rw [tabA_len]; omega) _ outs.length 0 (by omega))
    simp only [conclaveref09_After.l0]; rw [if_neg (by omega), List.take_of_length_le (Nat.le_refl _)]; rfl
  | succ d ih =>
    intro i hi
    have e1 : wrap64 ((i : Int) + 1) = ((i + 1 : Nat) : Int) := by rw [w64 (by omega) (by omega)]; rfl
    have htl := tabA_len (qn := qn) (qops := qops) (qouts := qouts) i
    have hlen : (qops ++ (ops.take i).map (reA n qn qops qouts)).length = qops.length + i := by simp; omega
    have ew : wrap64 (qn + ((qops ++ (ops.take i).map (reA n qn qops qouts)).length : Int)) = qn + (qops.length : Int) + (i : Int) := by rw [hlen, w64 (by omega) (by omega)]; omega
    have ht2 : tabA qn qops qouts (i + 1) = tabA qn qops qouts i ++ [qn + (qops.length : Int) + (i : Int)] := by unfold tabA; rw [List.range_succ, List.map_append, List.append_assoc]; rfl
    have ho2 : qops ++ (ops.take (i + 1)).map (reA n qn qops qouts) = qops ++ (ops.take i).map (reA n qn qops qouts) ++ [reA n qn qops qouts (rdO ops (i : Int))] := by
      rw [List.take_succ_eq_append_getElem (by omega : i < ops.length), List.map_append, List.append_assoc, rdO_at (by omega)]; rfl
    refine Ev.step (f := fun k => conclaveref09_After.l0 k (tabA qn qops qouts (i + 1)) ((i + 1 : Nat) : Int) n ops outs qn (qops ++ (ops.take (i + 1)).map (reA n qn qops qouts))) (fun k => ?_) (ih (i + 1) (by omega))
    simp only [conclaveref09_After.l0]
    rw [if_pos (by omega), if_pos (by omega), e1, ew, ht2, ho2]
    by_cases c4 : (rdO ops (i : Int)).f0 = 4
    · rw [if_pos c4, if_pos (by omega), if_pos (by omega)]
      unfold reA
      rw [if_pos c4]
    · have hb : 0 ≤ (rd_T93 ops (i : Int)).f1 ∧ (rd_T93 ops (i : Int)).f1 < n + (i : Int) ∧ 0 ≤ (rd_T93 ops (i : Int)).f2 ∧ (rd_T93 ops (i : Int)).f2 < n + (i : Int) := h.args (by omega) c4
      rw [if_neg c4, if_pos hb.1, if_pos (by omega), if_pos hb.2.2.1, if_pos (by omega), if_pos (by omega), if_pos (by omega), tabA_at hl i hb.1 hb.2.1, tabA_at hl i hb.2.2.1 hb.2.2.2]
      unfold reA
      rw [if_neg c4]
theorem After_f (h : MayP n ops outs) (hq : MayP qn qops qouts) (hl : (qouts.length : Int) = n) (hs : ops.length + qops.length ≤ 256) :
    Ev (fun k => conclaveref09_After.f k n ops outs qn qops qouts) (qn, opsA n qn qops qouts ops, outsA n qn qops qouts outs, 0) := by
  unfold conclaveref09_After.f
  have hm := rMay_f n ops outs
  rw [may_iff.2 h] at hm
  have hm2 := rMay_f qn qops qouts
  rw [may_iff.2 hq] at hm2
  have := hq.olen
  refine Ev.bind (f := fun k t => _) hm ?_
  simp only [if_true]
  refine Ev.bind (f := fun k t => _) hm2 ?_
  simp only [if_true, hl, bne_self_eq_false]
  have h0 := After_l0 h hq hl hs ops.length 0 (by omega)
  refine Ev.step (f := fun k => conclaveref09_After.l0 k qouts 0 n ops outs qn qops) (fun k => ?_) ?_
  · simp only [conclaveref09_After.j0, Bool.false_eq_true, if_false]
    rw [w64 (x := (ops.length : Int) + (qops.length : Int)) (by omega) (by omega), if_neg (by omega), Option.bind_some, if_pos (by simp; omega), Option.bind_some, if_pos (by simp; omega), List.nil_append, List.nil_append]
  · simpa [tabA] using h0
theorem After_not (n : Int) (ops : List OpS) (outs : List Int) (qn : Int) (qops : List OpS) (qouts : List Int) (hol : ops.length ≤ 9223372036854775807) (hql : qops.length ≤ 9223372036854775807)
    (hc : ¬ (mayB n ops outs = true ∧ mayB qn qops qouts = true ∧ (qouts.length : Int) = n ∧ ops.length + qops.length ≤ 256)) : ∃ e : Int, e ≠ 0 ∧ Ev (fun k => conclaveref09_After.f k n ops outs qn qops qouts) (0, [], [], e) := by
  have hbad : Ev (fun k => conclaveref09_After.j0 k true n ops outs qn qops qouts) (0, [], [], 2) :=
    Ev.step (f := fun _ => some (0, [], [], 2)) (fun k => by simp only [conclaveref09_After.j0, if_true]) (Ev.now _)
  have hm := rMay_f n ops outs
  have hm2 := rMay_f qn qops qouts
  unfold conclaveref09_After.f
  by_cases c1 : mayB n ops outs = true
  · rw [c1] at hm
    by_cases c2 : mayB qn qops qouts = true
    · rw [c2] at hm2
      by_cases c3 : (qouts.length : Int) = n
      · have h1 := (may_iff.1 c1).len
        have h2 := (may_iff.1 c2).len
        have h5 : ¬ ops.length + qops.length ≤ 256 := fun h5 => hc ⟨c1, c2, c3, h5⟩
        refine ⟨4, by omega, ?_⟩
        refine Ev.bind (f := fun k t => _) hm ?_
        simp only [if_true]
        refine Ev.bind (f := fun k t => _) hm2 ?_
        simp only [if_true, c3, bne_self_eq_false]
        refine Ev.step (f := fun _ => some (0, [], [], 4)) (fun k => ?_) (Ev.now _)
        simp only [conclaveref09_After.j0, Bool.false_eq_true, if_false]
        rw [w64 (by omega) (by omega), if_pos (by omega)]
      · refine ⟨2, by omega, ?_⟩
        refine Ev.bind (f := fun k t => _) hm ?_
        simp only [if_true]
        refine Ev.bind (f := fun k t => _) hm2 ?_
        have : ((qouts.length : Int) != n) = true := by simp [c3]
        simp only [if_true, this]
        exact hbad
    · have c2 : mayB qn qops qouts = false := by simpa using c2
      rw [c2] at hm2
      refine ⟨2, by omega, ?_⟩
      refine Ev.bind (f := fun k t => _) hm ?_
      simp only [if_true]
      refine Ev.bind (f := fun k t => _) hm2 ?_
      simp only [Bool.false_eq_true, if_false]
      exact hbad
  · have c1 : mayB n ops outs = false := by simpa using c1
    rw [c1] at hm
    refine ⟨2, by omega, ?_⟩
    refine Ev.bind (f := fun k t => _) hm ?_
    simp only [Bool.false_eq_true, if_false]
    exact hbad
theorem mostO_ge (l : List Int) : ∀ (t : List Int) (m : Int), m ≤ mostO l t m ∧ ∀ v ∈ t, rd l v ≤ mostO l t m := by
  intro t
  induction t with
  | nil => intro m; exact ⟨Int.le_refl _, fun v hv => by simp at hv⟩
  | cons u t ih =>
    intro m
    obtain ⟨h1, h2⟩ := ih (mx m (rd l u))
    simp only [mostO]
    have hx : m ≤ mx m (rd l u) ∧ rd l u ≤ mx m (rd l u) := by unfold mx; split <;> omega
    refine ⟨by omega, fun v hv => ?_⟩
    rcases List.mem_cons.1 hv with rfl | hv
    · omega
    · exact h2 v hv
theorem mostO_le (l : List Int) (B : Int) : ∀ (t : List Int) (m : Int), m ≤ B → (∀ v ∈ t, rd l v ≤ B) → mostO l t m ≤ B := by
  intro t
  induction t with
  | nil => intro m hm _; exact hm
  | cons u t ih =>
    intro m hm h
    refine ih _ ?_ fun v hv => h v (List.mem_cons_of_mem _ hv)
    have := h u List.mem_cons_self
    unfold mx; split <;> omega
theorem degA_q (hq : MayP qn qops qouts) (hs : ops.length + qops.length ≤ 256) : ∀ i, i ≤ qops.length → degL qn (opsA n qn qops qouts ops) i = degL qn qops i := by
  intro i
  induction i with
  | zero => intro _; rfl
  | succ i ih =>
    intro hi
    simp only [degL]
    rw [ih (by omega), opsA_at1 (by omega)]
theorem degA_le (h : MayP n ops outs) (hq : MayP qn qops qouts) (hl : (qouts.length : Int) = n) (hs : ops.length + qops.length ≤ 256) (D : Int) (hD : 1 ≤ D) (hb : ofM qn qops qouts ≤ D) :
    ∀ (i : Nat), i ≤ ops.length → ∀ v : Int, 0 ≤ v → v < n + (i : Int) → rd (degL qn (opsA n qn qops qouts ops) (qops.length + i)) (atA n qn qops qouts v) ≤ rd (degL n ops i) v * D := by
  have hn := h.n0
  have hqn := hq.n0
  intro i
  induction i with
  | zero =>
    intro _ v h0 h1
    have hv : v < n := by omega
    obtain ⟨j, rfl⟩ := Int.eq_ofNat_of_zero_le h0
    rw [degL_in n hn ops 0 h0 hv, Nat.add_zero, degA_q hq hs _ (Nat.le_refl _)]
    unfold atA
    rw [if_pos hv]
    have := (mostO_ge (degL qn qops qops.length) qouts 0).2 (rd qouts (j : Int)) (by rw [rd_at (by omega)]; exact List.getElem_mem _)
    unfold ofM at hb
    omega
  | succ i ih =>
    intro hi v h0 h1
    have hc := degL_cap qn (opsA n qn qops qouts ops) (qops.length + i)
    by_cases cv : v < n + (i : Int)
    · have ha := atA_range h hq hl h0 (m := n + (i : Int)) (by omega) cv
      rw [degL_mono n ops (i := i) (by omega) h0 (by omega)]
      rw [degL_mono qn (opsA n qn qops qouts ops) (i := qops.length + i) (j := qops.length + (i + 1)) (by omega) ha.1 (by omega)]
      exact ih (by omega) v h0 cv
    · obtain rfl : v = n + (i : Int) := by omega
      have e2 : atA n qn qops qouts (n + (i : Int)) = qn + ((qops.length + i : Nat) : Int) := by unfold atA; rw [if_neg (by omega)]; omega
      rw [e2, degL_op n hn ops (by omega), degL_op qn hqn (opsA n qn qops qouts ops) (by omega), opsA_at2 (by omega)]
      have hcp := degL_cap n ops i
      have hk := h.kind (i := i) (by omega)
      by_cases c4 : (rdO ops (i : Int)).f0 = 4
      · unfold reA ruleV
        rw [if_pos c4, if_neg (by omega), if_neg (by omega), if_neg (by omega), if_neg (by omega)]
        omega
      · have hb := h.args (i := i) (by omega) c4
        have h1 := ih (by omega) _ hb.1 hb.2.1
        have h2 := ih (by omega) _ hb.2.2.1 hb.2.2.2
        have x1 := rd_cap hcp (rdO ops (i : Int)).f1
        have x2 := rd_cap hcp (rdO ops (i : Int)).f2
        have y1 := rd_cap hc (atA n qn qops qouts (rdO ops (i : Int)).f1)
        have y2 := rd_cap hc (atA n qn qops qouts (rdO ops (i : Int)).f2)
        unfold reA ruleV
        rw [if_neg c4]
        simp only
        by_cases c12 : (rdO ops (i : Int)).f0 = 1 ∨ (rdO ops (i : Int)).f0 = 2
        · rw [if_pos c12, if_pos c12]
          generalize rd (degL n ops i) (rdO ops (i : Int)).f1 = X1 at *
          generalize rd (degL n ops i) (rdO ops (i : Int)).f2 = X2 at *
          generalize rd (degL qn (opsA n qn qops qouts ops) (qops.length + i)) (atA n qn qops qouts (rdO ops (i : Int)).f1) = Y1 at *
          generalize rd (degL qn (opsA n qn qops qouts ops) (qops.length + i)) (atA n qn qops qouts (rdO ops (i : Int)).f2) = Y2 at *
          unfold mx
          by_cases cx : X1 < X2
          · rw [if_pos cx]
            have := Int.mul_le_mul_of_nonneg_right (show X1 ≤ X2 by omega) (show 0 ≤ D by omega)
            split <;> omega
          · rw [if_neg cx]
            have := Int.mul_le_mul_of_nonneg_right (show X2 ≤ X1 by omega) (show 0 ≤ D by omega)
            split <;> omega
        · have c3 : (rdO ops (i : Int)).f0 = 3 := by omega
          rw [if_neg c12, if_neg c12, if_pos c3, if_pos c3]
          generalize rd (degL n ops i) (rdO ops (i : Int)).f1 = X1 at *
          generalize rd (degL n ops i) (rdO ops (i : Int)).f2 = X2 at *
          generalize rd (degL qn (opsA n qn qops qouts ops) (qops.length + i)) (atA n qn qops qouts (rdO ops (i : Int)).f1) = Y1 at *
          generalize rd (degL qn (opsA n qn qops qouts ops) (qops.length + i)) (atA n qn qops qouts (rdO ops (i : Int)).f2) = Y2 at *
          have hm : (X1 + X2) * D = X1 * D + X2 * D := Int.add_mul _ _ _
          have h25 : 1025 * 1 ≤ 1025 * D := Int.mul_le_mul_of_nonneg_left hD (by omega)
          unfold mn
          by_cases cx : 1025 < X1 + X2
          · rw [if_pos cx]
            split <;> omega
          · rw [if_neg cx, hm]
            split <;> omega
theorem After_of (h : MayP n ops outs) (hq : MayP qn qops qouts) (hl : (qouts.length : Int) = n) (hs : ops.length + qops.length ≤ 256) (D : Int) (hD : 1 ≤ D) (hb : ofM qn qops qouts ≤ D) :
    ofM qn (opsA n qn qops qouts ops) (outsA n qn qops qouts outs) ≤ ofM n ops outs * D := by
  unfold ofM
  have hc := mostO_cap (degL_cap n ops ops.length) outs 0 (by omega) (by omega)
  refine mostO_le _ _ _ _ ?_ fun v hv => ?_
  · exact Int.mul_nonneg hc.1 (by omega)
  · unfold outsA at hv
    obtain ⟨u, hu, rfl⟩ := List.mem_map.1 hv
    have hbb := h.out u hu
    rw [opsA_len]
    have h1 := degA_le h hq hl hs D hD hb ops.length (Nat.le_refl _) u hbb.1 hbb.2
    have h2 := (mostO_ge (degL n ops ops.length) outs 0).2 u hu
    have h3 := Int.mul_le_mul_of_nonneg_right h2 (show 0 ≤ D by omega)
    omega
end
end Go.Proofs.Ytjgojlnnphkefaa.Plain
namespace Go.Proofs.Ytjgojlnnphkefaa.Pure
open Go.RowKit Go.Proofs.Ytjgojlnnphkefaa.P Go.Proofs.Ytjgojlnnphkefaa.Plain Go.Proofs.YtjgojlnnphkefaaW.PrintWords Go.Proofs.YtjgojlnnphkefaaW.PrintLast Go.Proofs.YtjgojlnnphkefaaW.PrintMore
set_option linter.unusedVariables false
set_option linter.unusedSimpArgs false
theorem DegreeAfter : Form.DegreeAfter.Pure := by
  intro n ops outs qn qops qouts hn ho hu hqn hqo hqu
  have l1 : ops.length ≤ 9223372036854775807 := by have := ho.2.1; omega
  have l2 : qops.length ≤ 9223372036854775807 := by have := hqo.2.1; omega
  refine Ev.rounds ?_
  unfold conclavelaw10_DegreeAfter.f
  have hanc : Ev (fun k => (conclavelaw10_anchored.f k).bind fun t => some t) true := Ev.bind (f := fun k t => some t) anchored10_f (Ev.now _)
  by_cases c : mayB n ops outs = true ∧ mayB qn qops qouts = true ∧ (qouts.length : Int) = n ∧ ops.length + qops.length ≤ 256
  · obtain ⟨c1, c2, c3, c4⟩ := c
    have h := may_iff.1 c1
    have hq := may_iff.1 c2
    have hs := After_may h hq c3 c4
    refine Ev.bind (f := fun k t => _) (After_f h hq c3 c4) ?_
    simp only [if_true]
    refine Ev.bind (f := fun k t => _) (pOf_f h) ?_
    refine Ev.bind (f := fun k t => _) (pOf_f hq) ?_
    refine Ev.bind (f := fun k t => _) (pOf_f hs) ?_
    have hbad : ∀ a b x y : Int, Ev (fun k => conclavelaw10_DegreeAfter.j0 k a b x y true) true := fun a b x y =>
      Ev.step (f := fun k => (conclavelaw10_anchored.f k).bind fun t => some t) (fun k => by simp only [conclavelaw10_DegreeAfter.j0, if_true]) hanc
    have ca := mostO_cap (degL_cap n ops ops.length) outs 0 (by omega) (by omega)
    have cb := mostO_cap (degL_cap qn qops qops.length) qouts 0 (by omega) (by omega)
    change 0 ≤ ofM n ops outs ∧ ofM n ops outs ≤ 1025 at ca
    change 0 ≤ ofM qn qops qouts ∧ ofM qn qops qouts ≤ 1025 at cb
    have cs := mostO_cap (degL_cap qn (opsA n qn qops qouts ops) (opsA n qn qops qouts ops).length) (outsA n qn qops qouts outs) 0 (by omega) (by omega)
    change 0 ≤ ofM qn (opsA n qn qops qouts ops) (outsA n qn qops qouts outs) ∧ ofM qn (opsA n qn qops qouts ops) (outsA n qn qops qouts outs) ≤ 1025 at cs
    by_cases ka : ofM n ops outs > 1024
    · unfold ofR
      simp only [if_pos ka, if_neg (show ¬ (4 : Int) = 0 by omega)]
      exact hbad _ _ _ _
    · by_cases kb : ofM qn qops qouts > 1024
      · unfold ofR
        simp only [if_neg ka, if_pos kb, if_true, show ((4 : Int) != 0) = true from rfl]
        exact hbad _ _ _ _
      · have hmx : ∀ x : Int, 1 ≤ mx x 1 ∧ x ≤ mx x 1 ∧ (0 ≤ x → x ≤ 1024 → mx x 1 ≤ 1024) := fun x => by unfold mx; split <;> omega
        have m1 := hmx (ofM n ops outs)
        have m2 := hmx (ofM qn qops qouts)
        have hle := After_of h hq c3 c4 (mx (ofM qn qops qouts) 1) m2.1 m2.2.1
        have hp1 := Int.mul_le_mul_of_nonneg_right m1.2.1 (show 0 ≤ mx (ofM qn qops qouts) 1 by omega)
        have hp2 : mx (ofM n ops outs) 1 * mx (ofM qn qops qouts) 1 ≤ 1024 * 1024 := Int.mul_le_mul (m1.2.2 ca.1 (by omega)) (m2.2.2 cb.1 (by omega)) (by omega) (by omega)
        have hp0 : 0 ≤ mx (ofM n ops outs) 1 * mx (ofM qn qops qouts) 1 := Int.mul_nonneg (by omega) (by omega)
        have ew : wrap64 (mx (ofM n ops outs) 1 * mx (ofM qn qops qouts) 1) = mx (ofM n ops outs) 1 * mx (ofM qn qops qouts) 1 := w64 (by omega) (by omega)
        unfold ofR
        simp only [if_neg ka, if_neg kb, if_true, bne_self_eq_false]
        by_cases ks : ofM qn (opsA n qn qops qouts ops) (outsA n qn qops qouts outs) > 1024
        · simp only [if_pos ks]
          refine Ev.step (f := fun k => (conclavelaw10_anchored.f k).bind fun t => if t = true then some true else some false) (fun k => ?_) (Ev.bind (f := fun k (t : Bool) => if t = true then some true else some false) anchored10_f (Ev.now _))
          simp only [conclavelaw10_DegreeAfter.j0, Bool.false_eq_true, if_false, if_neg (show ¬ (4 : Int) = 0 by omega), if_true]
          rw [ew, decide_eq_true (show mx (ofM n ops outs) 1 * mx (ofM qn qops qouts) 1 > 1024 by omega)]
        · simp only [if_neg ks]
          refine Ev.step (f := fun k => (conclavelaw10_anchored.f k).bind fun t => if t = true then some true else some false) (fun k => ?_) (Ev.bind (f := fun k (t : Bool) => if t = true then some true else some false) anchored10_f (Ev.now _))
          simp only [conclavelaw10_DegreeAfter.j0, Bool.false_eq_true, if_false, if_true]
          rw [ew, decide_eq_true (show ofM qn (opsA n qn qops qouts ops) (outsA n qn qops qouts outs) ≤ mx (ofM n ops outs) 1 * mx (ofM qn qops qouts) 1 by omega)]
  · obtain ⟨e, he, hev⟩ := After_not n ops outs qn qops qouts l1 l2 c
    refine Ev.bind (f := fun k t => _) hev ?_
    simp only [if_neg he]
    exact hanc
end Go.Proofs.Ytjgojlnnphkefaa.Pure
end
section
namespace Go.Proofs.Ytjgojlnnphkefaa.degreeAfter
open Go.ChangeShapes Go.WideShapes Go.ChangeAt Go.RowKit Go.Proofs.YtjgojlnnphkefaaW.PrintWords Go.Proofs.Ytjgojlnnphkefaa.P Go.Proofs.Ytjgojlnnphkefaa.Form.DegreeAfter
set_option linter.unusedVariables false
theorem own : ownKnob Try.prog.godebug = none := by kernel_rfl
theorem laidOut : laidOutB Try.prog = true := by kernel_rfl
set_option maxRecDepth 100000 in
theorem lifted (os : Os) (started : os.Started) (H : Type) (enc : TypeId × Value → H) :
    ReturnsInHanded {} Try.checked os 9 .any (Rows.degreeAfterSpec.pre6 enc Try.prog Try.f9 Rows.degreeAfterRow.domain false) (Rows.degreeAfterSpec.post enc Try.prog Try.f9 false true false false) := by
  refine returnsInHanded_of_change_sized (C := Try.checked) own started (by kernel_rfl) Try.func9
    (ChangeSpec.witness6 (enc := enc) (C := Try.checked) false ⟨#[], #[.agg #[.int .i64 0, .slice none 0 0, .slice none 0 0], .agg #[.int .i64 0, .slice none 0 0, .slice none 0 0]], []⟩ 8 (by kernel_rfl) (by kernel_rfl) (by kernel_rfl) (by kernel_rfl)) ?_
  intro W base args ds gs before hval0 hW hcnd hsz0 _
  have hsz : (DataW.weightsEach Try.prog (Try.f9.params.toList ++ Rows.degreeAfterSpec.plain.varTypes Try.prog) (ds ++ gs)).all (· ≤ reachBytes) = true := hsz0
  have hval : ∀ (j : Nat) t v, Try.f9.params[j]? = some t → args[j]? = some v → Value.okWide Try.prog W .any base t v := hval0
  have hW' := hW
  obtain ⟨p, q, hA0, hV, rfl, hfz, hnd⟩ := hW
  have hA : DataW.TrodAll enc Try.prog W 0 (fun _ => true) true Try.f9.params.toList args.toList ds p := hA0
  rw [Try.params9] at hA hval hsz
  obtain ⟨v0, vs0, d0, ds0, p0, q0, hargs, rfl, rfl, h0, r0⟩ := trodAll_cons hA
  obtain ⟨v1, vs1, d1, ds1, p1, q1, rfl, rfl, rfl, h1, r1⟩ := trodAll_cons r0
  obtain ⟨rfl, rfl, rfl⟩ := trodAll_nil r1
  obtain rfl : args = #[v0, v1] := by cases args; simp_all
  obtain ⟨rfl, rfl⟩ := trodVars_none hV
  have k0_ := h0
  have lt0 : ∀ x ∈ p0, x.block < W.heap.size := by obtain ⟨m, hm⟩ := k0_; exact DataW.trod_lt m _ _ _ hm
  obtain ⟨z0, rfl, _⟩ := okWide_struct Try.underlying25 (hval 0 25 v0 rfl rfl)
  obtain ⟨⟨a0_0, l0_1, l0_2⟩, K0, ⟨F0_0, F0_1, F0_2⟩⟩ := Open.opens_at (Open.opens_struct Try.underlying25 (by kernel_rfl) (by kernel_rfl) (by kernel_rfl) (Open.opensL_cons (Open.opens_int Try.underlying3 (by kernel_rfl)) (Open.opensL_cons (Open.opens_slice (d := k93) Try.underlying22 (by kernel_rfl) (show 0 < 4 from by decide) (B := 32) (by kernel_rfl) opens93) (Open.opensL_one (Open.opens_slice (d := (Kd.int .i64)) Try.underlying23 (by kernel_rfl) (show 0 < 1 from by decide) (B := 8) (by kernel_rfl) (Open.opens_int Try.underlying3 (by kernel_rfl)))))) id id (fun _ => rfl)) h0 hsz (j := 0) rfl rfl
  have hz0 : ∀ cs : List Value, (z0.toList = cs) → z0 = cs.toArray := fun cs h => by rw [← h]
  obtain ⟨cs0, hcs0, K0'⟩ : ∃ cs, z0.toList = cs ∧ _ := ⟨_, rfl, K0⟩
  obtain ⟨_, _, rfl, rfl, ⟨_, _, rfl, ⟨A0_1, c0_1, rfl, hc0_1, hr0_1⟩, ⟨A0_2, c0_2, rfl, hc0_2, hr0_2⟩⟩⟩ := K0'
  obtain rfl := hz0 _ hcs0
  have k1_ := h1
  have lt1 : ∀ x ∈ p1, x.block < W.heap.size := by obtain ⟨m, hm⟩ := k1_; exact DataW.trod_lt m _ _ _ hm
  obtain ⟨z1, rfl, _⟩ := okWide_struct Try.underlying25 (hval 1 25 v1 rfl rfl)
  obtain ⟨⟨a1_0, l1_1, l1_2⟩, K1, ⟨F1_0, F1_1, F1_2⟩⟩ := Open.opens_at (Open.opens_struct Try.underlying25 (by kernel_rfl) (by kernel_rfl) (by kernel_rfl) (Open.opensL_cons (Open.opens_int Try.underlying3 (by kernel_rfl)) (Open.opensL_cons (Open.opens_slice (d := k93) Try.underlying22 (by kernel_rfl) (show 0 < 4 from by decide) (B := 32) (by kernel_rfl) opens93) (Open.opensL_one (Open.opens_slice (d := (Kd.int .i64)) Try.underlying23 (by kernel_rfl) (show 0 < 1 from by decide) (B := 8) (by kernel_rfl) (Open.opens_int Try.underlying3 (by kernel_rfl)))))) id id (fun _ => rfl)) h1 hsz (j := 1) rfl rfl
  have hz1 : ∀ cs : List Value, (z1.toList = cs) → z1 = cs.toArray := fun cs h => by rw [← h]
  obtain ⟨cs1, hcs1, K1'⟩ : ∃ cs, z1.toList = cs ∧ _ := ⟨_, rfl, K1⟩
  obtain ⟨_, _, rfl, rfl, ⟨_, _, rfl, ⟨A1_1, c1_1, rfl, hc1_1, hr1_1⟩, ⟨A1_2, c1_2, rfl, hc1_2, hr1_2⟩⟩⟩ := K1'
  obtain rfl := hz1 _ hcs1
  clear hA0 hval0 hsz0 hsz
  obtain ⟨k, h⟩ := Pure.DegreeAfter _ _ _ _ _ _ F0_0 F0_1 F0_2 F1_0 F1_1 F1_2
  refine (conclavelaw10_DegreeAfter.calls k _ _ _ _ _ _ _ _ _ _ _ _ _ _ true W hr0_1 hc0_1 hr0_2 hc0_2 hr1_1 hc1_1 hr1_2 hc1_2 h rfl).mono fun e W' hee => ?_
  obtain ⟨he, bel⟩ := hee
  have bel : Below W.heap.size W W' := by first | exact bel | exact bel.below
  subst he
  exact ⟨_, rfl, _, _, _, [], _, [], hW', trodAll_mk1 (shut_bool Try.underlying4 _), (trodAll_cons_mk (Below.trod laidOut (by kernel_rfl) (of_decide_eq_true (by kernel_rfl)) k0_ bel lt0) (trodAll_cons_mk (Below.trod laidOut (by kernel_rfl) (of_decide_eq_true (by kernel_rfl)) k1_ bel lt1) trodAll_mk0)), rfl, bel.frame _, fun h => by cases h⟩
theorem over : Rows.degreeAfterRow.holds Try.pinned (OpenSpec.ofChange Rows.degreeAfterSpec) :=
  OpenClaim.holds_of_wide 9 Try.f9 rfl rfl rfl rfl rfl rfl rfl ⟨rfl, rfl, rfl, rfl, rfl⟩ rfl rfl rfl rfl rfl (by kernel_rfl) Try.func9 (by kernel_rfl)
    (of_decide_eq_true (by kernel_rfl)) (by unfold Func.isWrapper; first | (rw [if_pos (by decide +kernel)]; kernel_rfl) | (rw [if_neg (by decide +kernel)]; exact ⟨rfl, rfl⟩))
    (fun os started H enc _ => lifted os started H enc)
theorem proved : Rows.DegreeAfterSaid := over
end Go.Proofs.Ytjgojlnnphkefaa.degreeAfter
namespace Go.Proofs.Ytjgojlnnphkefaa
theorem degreeAfter_holds : Rows.DegreeAfterSaid := degreeAfter.proved
end Go.Proofs.Ytjgojlnnphkefaa
end
