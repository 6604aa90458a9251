import Derived.Test.YtjgojlnnphkefaaSDegreeAll14
import Derived.Test.YtjgojlnnphkefaaSDegreeAll15
import Derived.Test.YtjgojlnnphkefaaSDegreeAll16
import Derived.Test.YtjgojlnnphkefaaSDegreeAll17
import Derived.Test.YtjgojlnnphkefaaSDegreeAll18
import Derived.Test.YtjgojlnnphkefaaRows
import Derived.WalkKit
import Derived.ProofKit
import Derived.OpenShut
import Derived.ShutString
import Derived.ChangeOld
import Derived.Below
import Derived.SizedLaws
section
namespace Go.Proofs.Ytjgojlnnphkefaa.Form.DegreeAll
open Go.RowKit Go.Proofs.Ytjgojlnnphkefaa.P Go.Proofs.YtjgojlnnphkefaaW.PrintWords Go.Proofs.YtjgojlnnphkefaaW.PrintLast
set_option linter.unusedVariables false
def Wf93 (x : S93) : Prop := ((Lit.int .u8 x.f0).wf = true) ∧ ((Lit.int .i64 x.f1).wf = true) ∧ ((Lit.int .i64 x.f2).wf = true) ∧ (Lit.int .u64 x.f3).wf = true
theorem opens93 : Open.Opens Try.prog k93 93 Wf93 := Open.opens_struct Try.underlying93 (by kernel_rfl) (by kernel_rfl) (by kernel_rfl) (Open.opensL_cons (Open.opens_int Try.underlying91 (by kernel_rfl)) (Open.opensL_cons (Open.opens_int Try.underlying3 (by kernel_rfl)) (Open.opensL_cons (Open.opens_int Try.underlying3 (by kernel_rfl)) (Open.opensL_one (Open.opens_int Try.underlying65 (by kernel_rfl)))))) (fun x : S93 => (x.f0, x.f1, x.f2, x.f3)) (fun p => ⟨p.1, p.2.1, p.2.2.1, p.2.2.2⟩) (fun _ => rfl)
def Pure : Prop := ∀ (a0_0 : Int) (l0_1 : List (S93)) (l0_2 : List Int), ((Lit.int .i64 a0_0).wf = true) → (l0_1.length ≤ maxLen ∧ l0_1.length * 32 ≤ 140737488351232 ∧ ∀ y1 ∈ l0_1, Wf93 y1) → (l0_2.length ≤ maxLen ∧ l0_2.length * 8 ≤ 140737488351232 ∧ ∀ y2 ∈ l0_2, (Lit.int .i64 y2).wf = true) → ∃ k, conclavelaw10_DegreeAll.f k a0_0 l0_1 l0_2 = some true
end Go.Proofs.Ytjgojlnnphkefaa.Form.DegreeAll
end
section
namespace Go.Proofs.Ytjgojlnnphkefaa.Plain
open Go.RowKit Go.Proofs.YtjgojlnnphkefaaW.PrintWords Go.Proofs.YtjgojlnnphkefaaW.PrintLast Go.Proofs.YtjgojlnnphkefaaW.PrintMore
set_option linter.unusedVariables false
set_option linter.unusedSimpArgs false
theorem w64 {x : Int} (h0 : -9223372036854775808 ≤ x) (h1 : x ≤ 9223372036854775807) : wrap64 x = x := by unfold wrap64; omega
def Bytes (l : List Int) : Prop := ∀ x ∈ l, 0 ≤ x ∧ x < 256
theorem Bytes.take {l : List Int} (h : Bytes l) (n : Nat) : Bytes (l.take n) := fun x hx => h x (List.mem_of_mem_take hx)
theorem Bytes.drop {l : List Int} (h : Bytes l) (n : Nat) : Bytes (l.drop n) := fun x hx => h x (List.mem_of_mem_drop hx)
theorem Bytes.append {a b : List Int} (h : Bytes a) (h' : Bytes b) : Bytes (a ++ b) := fun x hx => (List.mem_append.1 hx).elim (h x) (h' x)
theorem rd_at {l : List Int} {i : Nat} (h : i < l.length) : rd l (i : Int) = l[i] := by simp [rd, h]
theorem drop_at {l : List Int} {i : Nat} (h : i < l.length) : l.drop i = rd l (i : Int) :: l.drop (i + 1) := by rw [rd_at h, List.drop_eq_getElem_cons h]
end Go.Proofs.Ytjgojlnnphkefaa.Plain
end
section
namespace Go.Proofs.Ytjgojlnnphkefaa.Plain
open Go.RowKit Go.Proofs Go.Proofs.Ytjgojlnnphkefaa.P Go.Proofs.YtjgojlnnphkefaaW.PrintWords Go.Proofs.YtjgojlnnphkefaaW.PrintLast Go.Proofs.YtjgojlnnphkefaaW.PrintMore
set_option linter.unusedVariables false
set_option linter.unusedSimpArgs false
abbrev OpS := S93
abbrev rdO (l : List OpS) (i : Int) : OpS := rd_T93 l i
theorem rdO_at {l : List OpS} {i : Nat} (h : i < l.length) : rdO l (i : Int) = l[i] := by simp [rdO, rd_T93, h]
theorem dropO_at {l : List OpS} {i : Nat} (h : i < l.length) : l.drop i = rdO l (i : Int) :: l.drop (i + 1) := by rw [rdO_at h, List.drop_eq_getElem_cons h]
def okO (m : Int) (o : OpS) : Bool :=
  if o.f0 = 1 ∨ o.f0 = 2 ∨ o.f0 = 3 then decide (0 ≤ o.f1) && decide (o.f1 < m) && decide (0 ≤ o.f2) && decide (o.f2 < m) && decide (o.f3 = 0)
  else decide (o.f0 = 4) && decide (o.f1 = 0) && decide (o.f2 = 0)
def okOps (n : Int) : Nat → List OpS → Bool
  | _, [] => true
  | i, o :: l => okO (n + (i : Int)) o && okOps n (i + 1) l
def okOuts (m : Int) (l : List Int) : Bool := l.all fun v => decide (0 ≤ v) && decide (v < m)
def mayB (n : Int) (ops : List OpS) (outs : List Int) : Bool :=
  decide (0 ≤ n) && decide (n ≤ 64) && decide (ops.length ≤ 256) && decide (outs.length ≤ 64) && okOps n 0 ops && okOuts (n + (ops.length : Int)) outs
theorem okOuts_drop {m : Int} {l : List Int} {i : Nat} (h : i < l.length) : okOuts m (l.drop i) = ((decide (0 ≤ rd l (i : Int)) && decide (rd l (i : Int) < m)) && okOuts m (l.drop (i + 1))) := by
  rw [drop_at h]; simp [okOuts]
theorem okOps_drop {n : Int} {l : List OpS} {i : Nat} (h : i < l.length) : okOps n i (l.drop i) = (okO (n + (i : Int)) (rdO l (i : Int)) && okOps n (i + 1) (l.drop (i + 1))) := by
  rw [dropO_at h]; simp only [okOps]
theorem outsBad_ev (n : Int) (len : Int) (outs : List Int) (h0 : 0 ≤ n) (h1 : n ≤ 64) (h2 : 0 ≤ len) (h3 : len ≤ 256) (ho : outs.length ≤ 64) : ∀ (d i : Nat), i + d = outs.length →
    Ev (fun k => slp_outsBad.l0 k outs n len (i : Int)) (!okOuts (n + len) (outs.drop i)) := by
  intro d
  induction d with
  | zero =>
    intro i hi
    refine Ev.step (f := fun _ => some false) (fun k => ?_) ?_
    · simp only [slp_outsBad.l0]; rw [if_neg (by omega)]
    · rw [List.drop_eq_nil_of_le (by omega)]; exact Ev.now _
  | succ d ih =>
    intro i hi
    have hw : wrap64 (n + len) = n + len := w64 (by omega) (by omega)
    have e1 : wrap64 ((i : Int) + 1) = ((i + 1 : Nat) : Int) := by rw [w64 (by omega) (by omega)]; rfl
    rw [okOuts_drop (by omega)]
    by_cases c1 : rd outs (i : Int) < 0
    · refine Ev.step (f := fun _ => some true) (fun k => ?_) ?_
      · simp only [slp_outsBad.l0]; rw [if_pos (by omega), if_pos (by omega), if_pos c1]
      · rw [decide_eq_false (show ¬ 0 ≤ rd outs (i : Int) by omega)]; exact Ev.now _
    · by_cases c2 : rd outs (i : Int) ≥ n + len
      · refine Ev.step (f := fun _ => some true) (fun k => ?_) ?_
        · simp only [slp_outsBad.l0]; rw [if_pos (by omega), if_pos (by omega), if_neg c1, hw, if_pos c2]
        · rw [decide_eq_false (show ¬ rd outs (i : Int) < n + len by omega), Bool.and_false]; exact Ev.now _
      · refine Ev.step (f := fun k => slp_outsBad.l0 k outs n len ((i + 1 : Nat) : Int)) (fun k => ?_) ?_
        · simp only [slp_outsBad.l0]; rw [if_pos (by omega), if_pos (by omega), if_neg c1, hw, if_neg c2, e1]
        · rw [decide_eq_true (show 0 ≤ rd outs (i : Int) by omega), decide_eq_true (show rd outs (i : Int) < n + len by omega)]
          simp only [Bool.true_and]
          exact ih (i + 1) (by omega)
theorem slpMay_l0 (n : Int) (ops : List OpS) (outs : List Int) (h0 : 0 ≤ n) (h1 : n ≤ 64) (h3 : ops.length ≤ 256) (ho : outs.length ≤ 64) : ∀ (d i : Nat), i + d = ops.length →
    Ev (fun k => slp_May.l0 k ops (ops.length : Int) (i : Int) n ops outs) (okOps n i (ops.drop i) && okOuts (n + (ops.length : Int)) outs) := by
  intro d
  induction d with
  | zero =>
    intro i hi
    rw [List.drop_eq_nil_of_le (by omega)]
    simp only [okOps, Bool.true_and]
    have h := outsBad_ev n (ops.length : Int) outs h0 h1 (by omega) (by omega) ho outs.length 0 (by omega)
    refine Ev.step (f := fun k => (slp_outsBad.f k outs n (ops.length : Int)).bind fun t => some (!t)) (fun k => ?_) ?_
    · simp only [slp_May.l0]; rw [if_neg (by omega)]
    · refine Ev.bind (f := fun _ t => some (!t)) (a := !okOuts (n + (ops.length : Int)) outs) h ?_
      rw [Bool.not_not]; exact Ev.now _
  | succ d ih =>
    intro i hi
    have hw : wrap64 (n + (i : Int)) = n + (i : Int) := w64 (by omega) (by omega)
    have e1 : wrap64 ((i : Int) + 1) = ((i + 1 : Nat) : Int) := by rw [w64 (by omega) (by omega)]; rfl
    have hi1 := ih (i + 1) (by omega)
    rw [okOps_drop (by omega)]
    obtain ⟨o, ho'⟩ : ∃ o : OpS, o = rdO ops (i : Int) := ⟨_, rfl⟩
    rw [← ho']
    have hstep : Ev (fun k => slp_May.j2 k (n + (i : Int)) ops (ops.length : Int) (i : Int) o.f0 (decide (o.f0 = 1 ∨ o.f0 = 2 ∨ o.f0 = 3)) n ops outs o.f0 o.f1 o.f2 o.f3) (okO (n + (i : Int)) o && okOps n (i + 1) (ops.drop (i + 1)) && okOuts (n + (ops.length : Int)) outs) := by
      by_cases c : o.f0 = 1 ∨ o.f0 = 2 ∨ o.f0 = 3
      · by_cases cc : 0 ≤ o.f1 ∧ o.f1 < n + (i : Int) ∧ 0 ≤ o.f2 ∧ o.f2 < n + (i : Int) ∧ o.f3 = 0
        · obtain ⟨a1, a2, a3, a4, a5⟩ := cc
          refine Ev.step (f := fun k => slp_May.l0 k ops (ops.length : Int) ((i + 1 : Nat) : Int) n ops outs) (fun k => ?_) ?_
          · simp only [slp_May.j2]
            rw [decide_eq_true c, if_pos rfl, if_neg (by omega), if_neg (by omega), if_neg (by omega), if_neg (by omega), if_pos a5, e1]
          · rw [show okO (n + (i : Int)) o = true by unfold okO; rw [if_pos c, decide_eq_true a1, decide_eq_true a2, decide_eq_true a3, decide_eq_true a4, decide_eq_true a5]; rfl]
            exact hi1
        · refine Ev.step (f := fun _ => some false) (fun k => ?_) ?_
          · simp only [slp_May.j2]
            rw [decide_eq_true c, if_pos rfl]
            by_cases b1 : o.f1 < 0
            · rw [if_pos b1]
            · rw [if_neg b1]
              by_cases b2 : o.f1 ≥ n + (i : Int)
              · rw [if_pos b2]
              · rw [if_neg b2]
                by_cases b3 : o.f2 < 0
                · rw [if_pos b3]
                · rw [if_neg b3]
                  by_cases b4 : o.f2 ≥ n + (i : Int)
                  · rw [if_pos b4]
                  · rw [if_neg b4, if_neg (by omega)]
          · rw [show okO (n + (i : Int)) o = false by
              unfold okO; rw [if_pos c]
              simp only [Bool.and_eq_false_iff, decide_eq_false_iff_not]
              omega]
            exact Ev.now _
      · by_cases cc : o.f0 = 4 ∧ o.f1 = 0 ∧ o.f2 = 0
        · obtain ⟨a1, a2, a3⟩ := cc
          refine Ev.step (f := fun k => slp_May.l0 k ops (ops.length : Int) ((i + 1 : Nat) : Int) n ops outs) (fun k => ?_) ?_
          · simp only [slp_May.j2]
            rw [decide_eq_false c, if_neg (by simp), if_pos a1, if_pos a2, if_pos a3, e1]
          · rw [show okO (n + (i : Int)) o = true by unfold okO; rw [if_neg c, decide_eq_true a1, decide_eq_true a2, decide_eq_true a3]; rfl]
            exact hi1
        · refine Ev.step (f := fun _ => some false) (fun k => ?_) ?_
          · simp only [slp_May.j2]
            rw [decide_eq_false c, if_neg (by simp)]
            by_cases b1 : o.f0 = 4
            · rw [if_pos b1]
              by_cases b2 : o.f1 = 0
              · rw [if_pos b2, if_neg (by omega)]
              · rw [if_neg b2]
            · rw [if_neg b1]
          · rw [show okO (n + (i : Int)) o = false by
              unfold okO; rw [if_neg c]
              simp only [Bool.and_eq_false_iff, decide_eq_false_iff_not]
              omega]
            exact Ev.now _
    refine Ev.step (f := fun k => slp_May.j2 k (n + (i : Int)) ops (ops.length : Int) (i : Int) o.f0 (decide (o.f0 = 1 ∨ o.f0 = 2 ∨ o.f0 = 3)) n ops outs o.f0 o.f1 o.f2 o.f3) (fun k => ?_) hstep
    simp only [slp_May.l0]
    rw [if_pos (by omega), if_pos (by omega), if_pos (by omega), hw]
    change (if (rdO ops (i : Int)).f0 = 1 then slp_May.j2 k (n + (i : Int)) ops (ops.length : Int) (i : Int) (rdO ops (i : Int)).f0 ((rdO ops (i : Int)).f0 == 1) n ops outs (rdO ops (i : Int)).f0 (rdO ops (i : Int)).f1 (rdO ops (i : Int)).f2 (rdO ops (i : Int)).f3 else if (rdO ops (i : Int)).f0 = 2 then slp_May.j2 k (n + (i : Int)) ops (ops.length : Int) (i : Int) (rdO ops (i : Int)).f0 ((rdO ops (i : Int)).f0 == 2) n ops outs (rdO ops (i : Int)).f0 (rdO ops (i : Int)).f1 (rdO ops (i : Int)).f2 (rdO ops (i : Int)).f3 else slp_May.j2 k (n + (i : Int)) ops (ops.length : Int) (i : Int) (rdO ops (i : Int)).f0 ((rdO ops (i : Int)).f0 == 3) n ops outs (rdO ops (i : Int)).f0 (rdO ops (i : Int)).f1 (rdO ops (i : Int)).f2 (rdO ops (i : Int)).f3) = _
    rw [← ho']
    by_cases q1 : o.f0 = 1
    · rw [if_pos q1, show (o.f0 == 1) = decide (o.f0 = 1 ∨ o.f0 = 2 ∨ o.f0 = 3) by rw [q1]; rfl]
    · rw [if_neg q1]
      by_cases q2 : o.f0 = 2
      · rw [if_pos q2, show (o.f0 == 2) = decide (o.f0 = 1 ∨ o.f0 = 2 ∨ o.f0 = 3) by rw [q2]; rfl]
      · rw [if_neg q2]
        by_cases q3 : o.f0 = 3
        · rw [show (o.f0 == 3) = decide (o.f0 = 1 ∨ o.f0 = 2 ∨ o.f0 = 3) by rw [q3]; rfl]
        · rw [show (o.f0 == 3) = decide (o.f0 = 1 ∨ o.f0 = 2 ∨ o.f0 = 3) by rw [decide_eq_false (by omega)]; simp [q3]]
theorem slpMay_f (n : Int) (ops : List OpS) (outs : List Int) : Ev (fun k => slp_May.f k n ops outs) (mayB n ops outs) := by
  have hbad : ∀ (b : Bool), b = false → Ev (fun k => slp_May.j0 k true n ops outs) b := fun b hb => by
    subst hb
    exact Ev.step (f := fun _ => some false) (fun k => by simp only [slp_May.j0, if_true]) (Ev.now _)
  unfold slp_May.f
  by_cases c1 : n < 0
  · simp only [if_pos c1]
    exact hbad _ (by unfold mayB; rw [decide_eq_false (show ¬ 0 ≤ n by omega)]; rfl)
  · simp only [if_neg c1]
    by_cases c2 : n > 64
    · simp only [if_pos c2]
      exact hbad _ (by unfold mayB; rw [decide_eq_false (show ¬ n ≤ 64 by omega)]; simp)
    · simp only [if_neg c2]
      by_cases c3 : (ops.length : Int) > 256
      · simp only [if_pos c3]
        exact hbad _ (by unfold mayB; rw [decide_eq_false (show ¬ ops.length ≤ 256 by omega)]; simp)
      · simp only [if_neg c3]
        by_cases c4 : (outs.length : Int) > 64
        · simp only [decide_eq_true c4]
          exact hbad _ (by unfold mayB; rw [decide_eq_false (show ¬ outs.length ≤ 64 by omega)]; simp)
        · simp only [decide_eq_false c4]
          have h := slpMay_l0 n ops outs (by omega) (by omega) (by omega) (by omega) ops.length 0 (by omega)
          refine Ev.step (f := fun k => slp_May.l0 k ops (ops.length : Int) 0 n ops outs) (fun k => by simp only [slp_May.j0, Bool.false_eq_true, if_false]) ?_
          unfold mayB
          rw [decide_eq_true (show 0 ≤ n by omega), decide_eq_true (show n ≤ 64 by omega), decide_eq_true (show ops.length ≤ 256 by omega), decide_eq_true (show outs.length ≤ 64 by omega)]
          simpa using h
theorem rop_f (m : Int) (o : OpS) : Ev (fun k => conclaveref09_op.f k o.f0 o.f1 o.f2 o.f3 m) (okO m o) := by
  have hj : Ev (fun k => conclaveref09_op.j0 k m o.f0 (decide (o.f0 = 1 ∨ o.f0 = 2 ∨ o.f0 = 3)) o.f0 o.f1 o.f2 o.f3) (okO m o) := by
    refine Ev.step (f := fun _ => some (okO m o)) (fun k => ?_) (Ev.now _)
    simp only [conclaveref09_op.j0]
    unfold okO
    by_cases c : o.f0 = 1 ∨ o.f0 = 2 ∨ o.f0 = 3
    · rw [decide_eq_true c, if_pos rfl, if_pos c]
      by_cases b1 : o.f1 ≥ 0
      · rw [if_pos b1, decide_eq_true (show 0 ≤ o.f1 from b1)]
        by_cases b2 : o.f1 < m
        · rw [if_pos b2, decide_eq_true b2]
          by_cases b3 : o.f2 ≥ 0
          · rw [if_pos b3, decide_eq_true (show 0 ≤ o.f2 from b3)]
            by_cases b4 : o.f2 < m
            · rw [if_pos b4, decide_eq_true b4]
              by_cases b5 : o.f3 = 0
              · rw [b5]; rfl
              · simp [b5]
            · rw [if_neg b4, decide_eq_false b4]; simp
          · rw [if_neg b3, decide_eq_false (show ¬ 0 ≤ o.f2 from b3)]; simp
        · rw [if_neg b2, decide_eq_false b2]; simp
      · rw [if_neg b1, decide_eq_false (show ¬ 0 ≤ o.f1 from b1)]; simp
    · rw [decide_eq_false c, if_neg (by simp), if_neg c]
      by_cases b1 : o.f0 = 4
      · rw [if_pos b1, decide_eq_true b1]
        by_cases b2 : o.f1 = 0
        · rw [if_pos b2, decide_eq_true b2]
          by_cases b3 : o.f2 = 0
          · rw [b3]; rfl
          · simp [b3]
        · rw [if_neg b2, decide_eq_false b2]; simp
      · rw [if_neg b1, decide_eq_false b1]; simp
  unfold conclaveref09_op.f
  by_cases q1 : o.f0 = 1
  · simp only [if_pos q1]
    rw [show (o.f0 == 1) = decide (o.f0 = 1 ∨ o.f0 = 2 ∨ o.f0 = 3) by rw [q1]; rfl]; exact hj
  · simp only [if_neg q1]
    by_cases q2 : o.f0 = 2
    · simp only [if_pos q2]
      rw [show (o.f0 == 2) = decide (o.f0 = 1 ∨ o.f0 = 2 ∨ o.f0 = 3) by rw [q2]; rfl]; exact hj
    · simp only [if_neg q2]
      by_cases q3 : o.f0 = 3
      · rw [show (o.f0 == 3) = decide (o.f0 = 1 ∨ o.f0 = 2 ∨ o.f0 = 3) by rw [q3]; rfl]; exact hj
      · rw [show (o.f0 == 3) = decide (o.f0 = 1 ∨ o.f0 = 2 ∨ o.f0 = 3) by rw [decide_eq_false (by omega)]; simp [q3]]; exact hj
theorem rMay_l1 (n : Int) (ops : List OpS) (outs : List Int) (h0 : 0 ≤ n) (h1 : n ≤ 64) (h3 : ops.length ≤ 256) (ho : outs.length ≤ 64) : ∀ (d i : Nat), i + d = outs.length →
    Ev (fun k => conclaveref09_May.l1 k (i : Int) n ops outs) (okOuts (n + (ops.length : Int)) (outs.drop i)) := by
  intro d
  induction d with
  | zero =>
    intro i hi
    refine Ev.step (f := fun _ => some true) (fun k => ?_) ?_
    · simp only [conclaveref09_May.l1]; rw [if_neg (by omega)]
    · rw [List.drop_eq_nil_of_le (by omega)]; exact Ev.now _
  | succ d ih =>
    intro i hi
    have hw : wrap64 (n + (ops.length : Int)) = n + (ops.length : Int) := w64 (by omega) (by omega)
    have e1 : wrap64 ((i : Int) + 1) = ((i + 1 : Nat) : Int) := by rw [w64 (by omega) (by omega)]; rfl
    rw [okOuts_drop (by omega)]
    by_cases c1 : rd outs (i : Int) < 0
    · refine Ev.step (f := fun _ => some false) (fun k => ?_) ?_
      · simp only [conclaveref09_May.l1]; rw [if_pos (by omega), if_pos (by omega), if_pos c1]
      · rw [decide_eq_false (show ¬ 0 ≤ rd outs (i : Int) by omega)]; exact Ev.now _
    · by_cases c2 : rd outs (i : Int) ≥ n + (ops.length : Int)
      · refine Ev.step (f := fun _ => some false) (fun k => ?_) ?_
        · simp only [conclaveref09_May.l1]; rw [if_pos (by omega), if_pos (by omega), if_neg c1, hw, if_pos c2]
        · rw [decide_eq_false (show ¬ rd outs (i : Int) < n + (ops.length : Int) by omega), Bool.and_false]; exact Ev.now _
      · refine Ev.step (f := fun k => conclaveref09_May.l1 k ((i + 1 : Nat) : Int) n ops outs) (fun k => ?_) ?_
        · simp only [conclaveref09_May.l1]; rw [if_pos (by omega), if_pos (by omega), if_neg c1, hw, if_neg c2, e1]
        · rw [decide_eq_true (show 0 ≤ rd outs (i : Int) by omega), decide_eq_true (show rd outs (i : Int) < n + (ops.length : Int) by omega)]
          simp only [Bool.true_and]
          exact ih (i + 1) (by omega)
theorem rMay_l0 (n : Int) (ops : List OpS) (outs : List Int) (h0 : 0 ≤ n) (h1 : n ≤ 64) (h3 : ops.length ≤ 256) (ho : outs.length ≤ 64) : ∀ (d i : Nat), i + d = ops.length →
    Ev (fun k => conclaveref09_May.l0 k (i : Int) n ops outs) (okOps n i (ops.drop i) && okOuts (n + (ops.length : Int)) outs) := by
  intro d
  induction d with
  | zero =>
    intro i hi
    rw [List.drop_eq_nil_of_le (by omega)]
    simp only [okOps, Bool.true_and]
    refine Ev.step (f := fun k => conclaveref09_May.l1 k 0 n ops outs) (fun k => ?_) (rMay_l1 n ops outs h0 h1 h3 ho outs.length 0 (by omega))
    simp only [conclaveref09_May.l0]; rw [if_neg (by omega)]
  | succ d ih =>
    intro i hi
    have hw : wrap64 (n + (i : Int)) = n + (i : Int) := w64 (by omega) (by omega)
    have e1 : wrap64 ((i : Int) + 1) = ((i + 1 : Nat) : Int) := by rw [w64 (by omega) (by omega)]; rfl
    rw [okOps_drop (by omega)]
    refine Ev.step (f := fun k => (conclaveref09_op.f k (rdO ops (i : Int)).f0 (rdO ops (i : Int)).f1 (rdO ops (i : Int)).f2 (rdO ops (i : Int)).f3 (n + (i : Int))).bind fun t => if t = true then conclaveref09_May.l0 k ((i + 1 : Nat) : Int) n ops outs else some false) (fun k => ?_) (Ev.bind (f := fun k (t : Bool) => if t = true then conclaveref09_May.l0 k ((i + 1 : Nat) : Int) n ops outs else some false) (rop_f _ _) ?_)
    · simp only [conclaveref09_May.l0]
      rw [if_pos (by omega), if_pos (by omega), hw, e1]
    · cases okO (n + (i : Int)) (rdO ops (i : Int))
      · exact Ev.now _
      · simp only [if_true, Bool.true_and]
        exact ih (i + 1) (by omega)
theorem rMay_f (n : Int) (ops : List OpS) (outs : List Int) : Ev (fun k => conclaveref09_May.f k n ops outs) (mayB n ops outs) := by
  have hbad : ∀ (b : Bool), b = false → Ev (fun k => conclaveref09_May.j0 k true n ops outs) b := fun b hb => by
    subst hb
    exact Ev.step (f := fun _ => some false) (fun k => by simp only [conclaveref09_May.j0, if_true]) (Ev.now _)
  unfold conclaveref09_May.f
  by_cases c1 : n < 0
  · simp only [if_pos c1]
    exact hbad _ (by unfold mayB; rw [decide_eq_false (show ¬ 0 ≤ n by omega)]; rfl)
  · simp only [if_neg c1]
    by_cases c2 : n > 64
    · simp only [if_pos c2]
      exact hbad _ (by unfold mayB; rw [decide_eq_false (show ¬ n ≤ 64 by omega)]; simp)
    · simp only [if_neg c2]
      by_cases c3 : (ops.length : Int) > 256
      · simp only [if_pos c3]
        exact hbad _ (by unfold mayB; rw [decide_eq_false (show ¬ ops.length ≤ 256 by omega)]; simp)
      · simp only [if_neg c3]
        by_cases c4 : (outs.length : Int) > 64
        · simp only [decide_eq_true c4]
          exact hbad _ (by unfold mayB; rw [decide_eq_false (show ¬ outs.length ≤ 64 by omega)]; simp)
        · simp only [decide_eq_false c4]
          have h := rMay_l0 n ops outs (by omega) (by omega) (by omega) (by omega) ops.length 0 (by omega)
          refine Ev.step (f := fun k => conclaveref09_May.l0 k 0 n ops outs) (fun k => by simp only [conclaveref09_May.j0, Bool.false_eq_true, if_false]) ?_
          unfold mayB
          rw [decide_eq_true (show 0 ≤ n by omega), decide_eq_true (show n ≤ 64 by omega), decide_eq_true (show ops.length ≤ 256 by omega), decide_eq_true (show outs.length ≤ 64 by omega)]
          simpa using h
structure MayP (n : Int) (ops : List OpS) (outs : List Int) : Prop where
  n0 : 0 ≤ n
  n1 : n ≤ 64
  len : ops.length ≤ 256
  olen : outs.length ≤ 64
  op : ∀ i (h : i < ops.length), okO (n + (i : Int)) ops[i] = true
  out : ∀ v ∈ outs, 0 ≤ v ∧ v < n + (ops.length : Int)
theorem okOps_iff (n : Int) : ∀ (l : List OpS) (i : Nat), okOps n i l = true ↔ ∀ j (h : j < l.length), okO (n + ((i + j : Nat) : Int)) l[j] = true := by
  intro l
  induction l with
  | nil => intro i; simp [okOps]
  | cons o l ih =>
    intro i
    simp only [okOps, Bool.and_eq_true]
    rw [ih]
    constructor
    · rintro ⟨h1, h2⟩ j hj
      cases j with
      | zero => exact h1
      | succ j => have := h2 j (by simpa using hj); rw [show i + 1 + j = i + (j + 1) by omega] at this; exact this
    · intro h
      exact ⟨h 0 (by simp), fun j hj => by have := h (j + 1) (by simpa using hj); rw [show i + (j + 1) = i + 1 + j by omega] at this; exact this⟩
theorem may_iff {n : Int} {ops : List OpS} {outs : List Int} : mayB n ops outs = true ↔ MayP n ops outs := by
  unfold mayB okOuts
  simp only [Bool.and_eq_true, decide_eq_true_eq, okOps_iff, List.all_eq_true]
  constructor
  · rintro ⟨⟨⟨⟨⟨h1, h2⟩, h3⟩, h4⟩, h5⟩, h6⟩
    exact ⟨h1, h2, h3, h4, fun i h => by have := h5 i h; rwa [Nat.zero_add] at this, fun v hv => by have := h6 v hv; exact this⟩
  · intro h
    exact ⟨⟨⟨⟨⟨h.n0, h.n1⟩, h.len⟩, h.olen⟩, fun j hj => by rw [Nat.zero_add]; exact h.op j hj⟩, fun v hv => h.out v hv⟩
theorem okO_args {m : Int} {o : OpS} (h : okO m o = true) (hk : o.f0 ≠ 4) : 0 ≤ o.f1 ∧ o.f1 < m ∧ 0 ≤ o.f2 ∧ o.f2 < m := by
  unfold okO at h
  by_cases c : o.f0 = 1 ∨ o.f0 = 2 ∨ o.f0 = 3
  · rw [if_pos c] at h
    simp only [Bool.and_eq_true, decide_eq_true_eq] at h
    exact ⟨h.1.1.1.1, h.1.1.1.2, h.1.1.2, h.1.2⟩
  · rw [if_neg c] at h
    simp only [Bool.and_eq_true, decide_eq_true_eq] at h
    exact absurd h.1.1 hk
theorem Ints_ev (a b : List Int) (hl : a.length = b.length) (hm : a.length ≤ 9223372036854775806) : ∀ (d i : Nat), i + d = a.length → Ev (fun k => conclaveref09_Ints.l0 k a b (i : Int)) (decide (a.drop i = b.drop i)) := by
  intro d
  induction d with
  | zero =>
    intro i hi
    refine Ev.step (f := fun _ => some true) (fun k => ?_) ?_
    · simp only [conclaveref09_Ints.l0]; rw [if_neg (by omega)]
    · rw [List.drop_eq_nil_of_le (by omega), List.drop_eq_nil_of_le (by omega), decide_eq_true rfl]; exact Ev.now _
  | succ d ih =>
    intro i hi
    have e1 : wrap64 ((i : Int) + 1) = ((i + 1 : Nat) : Int) := by rw [w64 (by omega) (by omega)]; rfl
    by_cases c : rd a (i : Int) = rd b (i : Int)
    · refine Ev.step (f := fun k => conclaveref09_Ints.l0 k a b ((i + 1 : Nat) : Int)) (fun k => ?_) ?_
      · simp only [conclaveref09_Ints.l0]; rw [if_pos (by omega), if_pos (by omega), if_pos (by omega), if_pos c, e1]
      · rw [drop_at (l := a) (by omega), drop_at (l := b) (by omega), c]
        have h := ih (i + 1) (by omega)
        simpa using h
    · refine Ev.step (f := fun _ => some false) (fun k => ?_) ?_
      · simp only [conclaveref09_Ints.l0]; rw [if_pos (by omega), if_pos (by omega), if_pos (by omega), if_neg c]
      · rw [drop_at (l := a) (by omega), drop_at (l := b) (by omega), decide_eq_false (by intro h; exact c (List.cons.inj h).1)]; exact Ev.now _
theorem Ints_f (a b : List Int) (hm : a.length ≤ 9223372036854775806) : Ev (fun k => conclaveref09_Ints.f k a b) (decide (a = b)) := by
  unfold conclaveref09_Ints.f
  by_cases c : a.length = b.length
  · simp only [if_pos (show (a.length : Int) = (b.length : Int) by omega)]
    exact Ints_ev a b c hm a.length 0 (by omega)
  · simp only [if_neg (show ¬ (a.length : Int) = (b.length : Int) by omega)]
    rw [decide_eq_false (by rintro rfl; exact c rfl)]; exact Ev.now _
end Go.Proofs.Ytjgojlnnphkefaa.Plain
end
section
namespace Go.Proofs.Ytjgojlnnphkefaa.Plain
open Go.RowKit Go.Proofs Go.Proofs.Ytjgojlnnphkefaa.P Go.Proofs.YtjgojlnnphkefaaW.PrintWords Go.Proofs.YtjgojlnnphkefaaW.PrintLast Go.Proofs.YtjgojlnnphkefaaW.PrintMore
set_option linter.unusedVariables false
set_option linter.unusedSimpArgs false
def put {α : Type} (g : Nat → α) (i : Nat) (v : α) : Nat → α := fun j => if j = i then v else g j
theorem put_same {α : Type} (g : Nat → α) (i : Nat) (v : α) : put g i v i = v := by simp [put]
theorem put_ne {α : Type} (g : Nat → α) {i j : Nat} (v : α) (h : j ≠ i) : put g i v j = g j := by simp [put, h]
section
variable {n : Int} {ops : List OpS} {outs : List Int}
theorem MayP.args (h : MayP n ops outs) {i : Nat} (hi : i < ops.length) (hk : (rdO ops (i : Int)).f0 ≠ 4) : 0 ≤ (rdO ops (i : Int)).f1 ∧ (rdO ops (i : Int)).f1 < n + (i : Int) ∧ 0 ≤ (rdO ops (i : Int)).f2 ∧ (rdO ops (i : Int)).f2 < n + (i : Int) := by
  rw [rdO_at hi] at hk ⊢
  exact okO_args (h.op i hi) hk
end
end Go.Proofs.Ytjgojlnnphkefaa.Plain
end
section
namespace Go.Proofs.Ytjgojlnnphkefaa.Plain
open Go.RowKit Go.Proofs Go.Proofs.Ytjgojlnnphkefaa.P Go.Proofs.YtjgojlnnphkefaaW.PrintWords Go.Proofs.YtjgojlnnphkefaaW.PrintLast Go.Proofs.YtjgojlnnphkefaaW.PrintMore
set_option linter.unusedVariables false
set_option linter.unusedSimpArgs false
def kept (n : Int) (f : Nat → Bool) : Nat → Nat
  | 0 => 0
  | i + 1 => if f (n.toNat + i) = true then kept n f i + 1 else kept n f i
def posT (n : Int) (f : Nat → Bool) (v : Nat) : Int := if v < n.toNat then (v : Int) else n + (kept n f (v - n.toNat) : Int)
def Told (n : Int) (f : Nat → Bool) (i : Nat) (a : Nat → Int) : Prop := ∀ v, v < n.toNat + i → (v < n.toNat ∨ f v = true) → a v = posT n f v
section
variable {n : Int} {ops : List OpS} {outs : List Int}
theorem Told.step {f : Nat → Bool} {i : Nat} {a : Nat → Int} (h : Told n f i a) (hf : f (n.toNat + i) = true) : Told n f (i + 1) (put a (n.toNat + i) (n + (kept n f i : Int))) := by
  intro v hv hm
  by_cases c : v = n.toNat + i
  · subst c
    rw [put_same]; unfold posT
    rw [if_neg (by omega), show n.toNat + i - n.toNat = i by omega]
  · rw [put_ne _ _ c]; exact h v (by omega) hm
theorem Told.skip {f : Nat → Bool} {i : Nat} {a : Nat → Int} (h : Told n f i a) (hf : f (n.toNat + i) ≠ true) (x : Int) : Told n f (i + 1) (put a (n.toNat + i) x) := by
  intro v hv hm
  by_cases c : v = n.toNat + i
  · subst c; rcases hm with hm | hm
    · omega
    · exact absurd hm hf
  · rw [put_ne _ _ c]; exact h v (by omega) hm
end
end Go.Proofs.Ytjgojlnnphkefaa.Plain
end
section
namespace Go.Proofs.Ytjgojlnnphkefaa.Plain
open Go.RowKit Go.Proofs Go.Proofs.Ytjgojlnnphkefaa.P Go.Proofs.YtjgojlnnphkefaaW.PrintWords Go.Proofs.YtjgojlnnphkefaaW.PrintLast Go.Proofs.YtjgojlnnphkefaaW.PrintMore
set_option linter.unusedVariables false
set_option linter.unusedSimpArgs false
def ruleV (o : OpS) (l : List Int) : Int := if o.f0 = 1 ∨ o.f0 = 2 then mx (rd l o.f1) (rd l o.f2) else if o.f0 = 3 then mn (rd l o.f1 + rd l o.f2) 1025 else 0
def degL (n : Int) (ops : List OpS) : Nat → List Int
  | 0 => List.replicate n.toNat 1
  | i + 1 => degL n ops i ++ [ruleV (rdO ops (i : Int)) (degL n ops i)]
theorem degL_len (n : Int) (ops : List OpS) (i : Nat) : (degL n ops i).length = n.toNat + i := by
  induction i with
  | zero => simp [degL]
  | succ i ih => simp [degL, ih]; omega
def Cap (l : List Int) : Prop := ∀ x ∈ l, 0 ≤ x ∧ x ≤ 1025
theorem rd_cap {l : List Int} (h : Cap l) (i : Int) : 0 ≤ rd l i ∧ rd l i ≤ 1025 := by
  unfold rd
  rw [List.getD_eq_getElem?_getD]
  cases e : l[i.toNat]? with
  | none => simp
  | some x => simpa using h x (List.mem_of_getElem? e)
theorem ruleV_cap (o : OpS) {l : List Int} (h : Cap l) : 0 ≤ ruleV o l ∧ ruleV o l ≤ 1025 := by
  have h1 := rd_cap h o.f1
  have h2 := rd_cap h o.f2
  unfold ruleV mx mn
  split
  · split <;> omega
  · split
    · split <;> omega
    · omega
theorem degL_cap (n : Int) (ops : List OpS) (i : Nat) : Cap (degL n ops i) := by
  induction i with
  | zero => intro x hx; have := List.eq_of_mem_replicate hx; omega
  | succ i ih =>
    intro x hx
    rcases List.mem_append.1 hx with hx | hx
    · exact ih x hx
    · rw [List.mem_singleton.1 hx]; exact ruleV_cap _ ih
section
variable {n : Int} {ops : List OpS} {outs : List Int}
theorem okO_kind {m : Int} {o : OpS} (h : okO m o = true) : o.f0 = 1 ∨ o.f0 = 2 ∨ o.f0 = 3 ∨ o.f0 = 4 := by
  unfold okO at h
  by_cases c : o.f0 = 1 ∨ o.f0 = 2 ∨ o.f0 = 3
  · omega
  · rw [if_neg c] at h
    simp only [Bool.and_eq_true, decide_eq_true_eq] at h
    omega
theorem MayP.kind (h : MayP n ops outs) {i : Nat} (hi : i < ops.length) : (rdO ops (i : Int)).f0 = 1 ∨ (rdO ops (i : Int)).f0 = 2 ∨ (rdO ops (i : Int)).f0 = 3 ∨ (rdO ops (i : Int)).f0 = 4 := by
  rw [rdO_at hi]
  exact okO_kind (h.op i hi)
theorem Repeat_f (n : Nat) (hn : n ≤ 1000) : Ev (fun k => slices_Repeat_int_int.f k [1] (n : Int)) (List.replicate n 1) := by
  have hl : ∀ (d i : Nat), i + d = n → Ev (fun k => slices_Repeat_int_int.l0 k [1] (List.replicate i 1 ++ List.replicate (n - i) 0) (n : Int) (i : Int)) (List.replicate n 1) := by
    intro d
    induction d with
    | zero =>
      intro i hi
      obtain rfl : i = n := by omega
      refine Ev.step (f := fun _ => some (List.replicate i 1)) (fun k => ?_) (Ev.now _)
      simp only [slices_Repeat_int_int.l0]; rw [if_neg (by omega), Nat.sub_self]; simp
    | succ d ih =>
      intro i hi
      have e1 : wrap64 ((i : Int) + 1) = ((i + 1 : Nat) : Int) := by rw [w64 (by omega) (by omega)]; rfl
      have hset : (List.replicate i (1 : Int) ++ List.replicate (n - i) 0).set i (rd [1] 0) = List.replicate (i + 1) (1 : Int) ++ List.replicate (n - (i + 1)) 0 := by
        rw [List.set_append_right _ _ (by simp)]
        simp only [List.length_replicate, Nat.sub_self]
        rw [show n - i = (n - (i + 1)) + 1 by omega, List.replicate_succ, List.set_cons_zero, List.replicate_succ', List.append_assoc]; rfl
      refine Ev.step (f := fun k => slices_Repeat_int_int.l0 k [1] (List.replicate (i + 1) 1 ++ List.replicate (n - (i + 1)) 0) (n : Int) ((i + 1 : Nat) : Int)) (fun k => ?_) (ih (i + 1) (by omega))
      simp only [slices_Repeat_int_int.l0]
      rw [if_pos (by omega), if_pos (by simp), if_pos (by omega), if_pos (by simp; omega), Int.toNat_natCast, e1, hset]
  unfold slices_Repeat_int_int.f
  have e0 : wrap64 ((([1] : List Int).length : Int) - 1) = 0 := by rw [w64 (by simp) (by simp)]; rfl
  simp only [if_pos (show (1 : Nat) ≤ 35184372088832 by omega), e0, if_pos (show (0 : Int) ≤ 0 by omega), List.length_replicate, if_pos (show (0 : Int) < ((1 : Nat) : Int) by omega), if_pos (show (0 : Int) ≤ (n : Int) by omega), Int.toNat_natCast, if_pos (show n ≤ 35184372088832 by omega), Option.bind_some]
  have h := hl n 0 (by omega)
  simpa using h
theorem rule_v {o : OpS} (hk : o.f0 = 1 ∨ o.f0 = 2 ∨ o.f0 = 3) {l : List Int} (h : Cap l) : degree_rule.f o.f0 (rd l o.f1) (rd l o.f2) = some (ruleV o l) := by
  have h1 := rd_cap h o.f1
  have h2 := rd_cap h o.f2
  unfold degree_rule.f ruleV
  rcases hk with c | c | c
  · rw [if_pos c, if_pos (Or.inl c)]
  · rw [if_neg (by omega), if_pos c, if_pos (Or.inr c)]
  · rw [if_neg (by omega), if_neg (by omega), if_pos c, if_neg (by omega), if_pos c, w64 (by omega) (by omega)]
theorem rule_4 {o : OpS} (hk : o.f0 = 4) (l : List Int) : degree_rule.f o.f0 0 0 = some (ruleV o l) := by
  unfold degree_rule.f ruleV
  rw [if_neg (by omega), if_neg (by omega), if_neg (by omega), if_pos hk, if_neg (by omega), if_neg (by omega)]
theorem pAll_l0 (h : MayP n ops outs) : ∀ (d i : Nat), i + d = ops.length → Ev (fun k => degree_all.l0 k (degL n ops i) ops (ops.length : Int) (i : Int)) (degL n ops ops.length) := by
  have hn := h.n0
  have hn1 := h.n1
  have hl := h.len
  intro d
  induction d with
  | zero =>
    intro i hi
    obtain rfl : i = ops.length := by omega
    refine Ev.step (f := fun _ => some (degL n ops ops.length)) (fun k => ?_) (Ev.now _)
    simp only [degree_all.l0]; rw [if_neg (by omega)]
  | succ d ih =>
    intro i hi
    have e1 : wrap64 ((i : Int) + 1) = ((i + 1 : Nat) : Int) := by rw [w64 (by omega) (by omega)]; rfl
    have hc := degL_cap n ops i
    have hlen := degL_len n ops i
    have hk := h.kind (i := i) (by omega)
    refine Ev.step (f := fun k => degree_all.l0 k (degL n ops (i + 1)) ops (ops.length : Int) ((i + 1 : Nat) : Int)) (fun k => ?_) (ih (i + 1) (by omega))
    simp only [degree_all.l0]
    rw [if_pos (by omega), if_pos (by omega), if_pos (by omega), e1]
    by_cases c4 : (rdO ops (i : Int)).f0 = 4
    · rw [if_pos c4, rule_4 c4 (degL n ops i), Option.bind_some, if_pos (by omega)]
      rfl
    · have hb : 0 ≤ (rd_T93 ops (i : Int)).f1 ∧ (rd_T93 ops (i : Int)).f1 < n + (i : Int) ∧ 0 ≤ (rd_T93 ops (i : Int)).f2 ∧ (rd_T93 ops (i : Int)).f2 < n + (i : Int) := h.args (by omega) c4
      rw [if_neg c4, if_pos hb.1, if_pos (by omega), if_pos hb.2.2.1, if_pos (by omega), rule_v (o := rdO ops (i : Int)) (by omega) hc, Option.bind_some, if_pos (by omega)]
      rfl
theorem pAll_f (h : MayP n ops outs) : Ev (fun k => degree_all.f k n ops outs) (degL n ops ops.length) := by
  have hn := h.n0
  have hn1 := h.n1
  unfold degree_all.f
  have hr := Repeat_f n.toNat (by omega)
  rw [show ((n.toNat : Nat) : Int) = n by omega] at hr
  exact Ev.bind (f := fun k t => degree_all.l0 k t ops (ops.length : Int) 0) hr (pAll_l0 h ops.length 0 (by omega))
theorem rCap_l1 (h : MayP n ops outs) : ∀ (d i : Nat), i + d = ops.length → Ev (fun k => conclaveref10_capped.l1 k (degL n ops i) (i : Int) n ops outs) (degL n ops ops.length) := by
  have hn := h.n0
  have hn1 := h.n1
  have hl := h.len
  intro d
  induction d with
  | zero =>
    intro i hi
    obtain rfl : i = ops.length := by omega
    refine Ev.step (f := fun _ => some (degL n ops ops.length)) (fun k => ?_) (Ev.now _)
    simp only [conclaveref10_capped.l1]; rw [if_neg (by omega)]
  | succ d ih =>
    intro i hi
    have e1 : wrap64 ((i : Int) + 1) = ((i + 1 : Nat) : Int) := by rw [w64 (by omega) (by omega)]; rfl
    have hc := degL_cap n ops i
    have hlen := degL_len n ops i
    have hk := h.kind (i := i) (by omega)
    have hi1 := ih (i + 1) (by omega)
    obtain ⟨o, ho⟩ : ∃ o : OpS, o = rdO ops (i : Int) := ⟨_, rfl⟩
    have hb : o.f0 ≠ 4 → 0 ≤ o.f1 ∧ o.f1 < n + (i : Int) ∧ 0 ≤ o.f2 ∧ o.f2 < n + (i : Int) := fun c => by rw [ho] at c ⊢; exact h.args (by omega) c
    have h1 := rd_cap hc o.f1
    have h2 := rd_cap hc o.f2
    rw [← ho] at hk
    simp only [degL, ← ho] at hi1
    have hj : Ev (fun k => conclaveref10_capped.j2 k (degL n ops i) (i : Int) 0 o.f0 (decide (o.f0 = 1 ∨ o.f0 = 2)) n ops outs o.f0 o.f1 o.f2 o.f3) (degL n ops ops.length) := by
      refine Ev.step (f := fun k => conclaveref10_capped.l1 k (degL n ops i ++ [ruleV o (degL n ops i)]) ((i + 1 : Nat) : Int) n ops outs) (fun k => ?_) hi1
      simp only [conclaveref10_capped.j2]
      rw [e1]
      by_cases c : o.f0 = 1 ∨ o.f0 = 2
      · have hb := hb (by omega)
        rw [decide_eq_true c, if_pos rfl, if_pos hb.1, if_pos (by omega), if_pos hb.2.2.1, if_pos (by omega), if_pos (by omega)]
        have : ruleV o (degL n ops i) = mn (mx (rd (degL n ops i) o.f1) (rd (degL n ops i) o.f2)) 1025 := by
          unfold ruleV
          rw [if_pos c]
          unfold mn
          rw [if_neg (by unfold mx; split <;> omega)]
        rw [this]
      · rw [decide_eq_false c, if_neg (by simp)]
        by_cases c3 : o.f0 = 3
        · have hb := hb (by omega)
          rw [if_pos c3, if_pos hb.1, if_pos (by omega), if_pos hb.2.2.1, if_pos (by omega), if_pos (by omega), w64 (by omega) (by omega)]
          unfold ruleV
          rw [if_neg c, if_pos c3]
        · rw [if_neg c3, if_pos (by omega)]
          unfold ruleV
          rw [if_neg c, if_neg c3]
          rfl
    refine Ev.step (f := fun k => conclaveref10_capped.j2 k (degL n ops i) (i : Int) 0 o.f0 (decide (o.f0 = 1 ∨ o.f0 = 2)) n ops outs o.f0 o.f1 o.f2 o.f3) (fun k => ?_) hj
    simp only [conclaveref10_capped.l1]
    rw [if_pos (by omega), if_pos (by omega)]
    change (if (rdO ops (i : Int)).f0 = 1 then conclaveref10_capped.j2 k (degL n ops i) (i : Int) 0 (rdO ops (i : Int)).f0 ((rdO ops (i : Int)).f0 == 1) n ops outs (rdO ops (i : Int)).f0 (rdO ops (i : Int)).f1 (rdO ops (i : Int)).f2 (rdO ops (i : Int)).f3 else conclaveref10_capped.j2 k (degL n ops i) (i : Int) 0 (rdO ops (i : Int)).f0 ((rdO ops (i : Int)).f0 == 2) n ops outs (rdO ops (i : Int)).f0 (rdO ops (i : Int)).f1 (rdO ops (i : Int)).f2 (rdO ops (i : Int)).f3) = _
    rw [← ho]
    by_cases q1 : o.f0 = 1
    · rw [if_pos q1, show (o.f0 == 1) = decide (o.f0 = 1 ∨ o.f0 = 2) by rw [q1]; rfl]
    · rw [if_neg q1]
      by_cases q2 : o.f0 = 2
      · rw [show (o.f0 == 2) = decide (o.f0 = 1 ∨ o.f0 = 2) by rw [q2]; rfl]
      · rw [show (o.f0 == 2) = decide (o.f0 = 1 ∨ o.f0 = 2) by rw [decide_eq_false (by omega)]; simp [q2]]
theorem rCap_l0 (h : MayP n ops outs) : ∀ (d i : Nat), ((i + d : Nat) : Int) = n → Ev (fun k => conclaveref10_capped.l0 k (List.replicate i 1) (i : Int) n ops outs) (degL n ops ops.length) := by
  have hn := h.n0
  have hn1 := h.n1
  intro d
  induction d with
  | zero =>
    intro i hi
    refine Ev.step (f := fun k => conclaveref10_capped.l1 k (List.replicate i 1) 0 n ops outs) (fun k => ?_) ?_
    · simp only [conclaveref10_capped.l0]; rw [if_neg (by omega)]
    · have := rCap_l1 h ops.length 0 (by omega)
      simp only [degL] at this
      rw [show n.toNat = i by omega] at this
      exact this
  | succ d ih =>
    intro i hi
    have e1 : wrap64 ((i : Int) + 1) = ((i + 1 : Nat) : Int) := by rw [w64 (by omega) (by omega)]; rfl
    refine Ev.step (f := fun k => conclaveref10_capped.l0 k (List.replicate (i + 1) 1) ((i + 1 : Nat) : Int) n ops outs) (fun k => ?_) (ih (i + 1) (by omega))
    simp only [conclaveref10_capped.l0]; rw [if_pos (by omega), if_pos (by simp; omega), e1, List.replicate_succ']
theorem rCap_f (h : MayP n ops outs) : Ev (fun k => conclaveref10_capped.f k n ops outs) (degL n ops ops.length) := by
  have hn := h.n0
  unfold conclaveref10_capped.f
  exact rCap_l0 h n.toNat 0 (by omega)
def overB (l : List Int) : Bool := l.any fun x => decide (x > 1024)
theorem overB_drop {l : List Int} {i : Nat} (h : i < l.length) : overB (l.drop i) = (decide (rd l (i : Int) > 1024) || overB (l.drop (i + 1))) := by
  rw [drop_at h]; simp [overB]
theorem Contains_f (l : List Int) (hc : Cap l) (hl : l.length ≤ 1000) : Ev (fun k => slices_Contains_int_int.f k l 1025) (overB l) := by
  have hi : ∀ (d i : Nat), i + d = l.length → ∃ r : Int, decide (r ≥ 0) = overB (l.drop i) ∧ Ev (fun k => slices_Index_int_int.l0 k l 1025 (l.length : Int) (i : Int)) r := by
    intro d
    induction d with
    | zero =>
      intro i hi
      refine ⟨-1, by rw [List.drop_eq_nil_of_le (by omega)]; rfl, Ev.step (f := fun _ => some (-1)) (fun k => ?_) (Ev.now _)⟩
      simp only [slices_Index_int_int.l0]; rw [if_neg (by omega)]
    | succ d ih =>
      intro i hi
      have e1 : wrap64 ((i : Int) + 1) = ((i + 1 : Nat) : Int) := by rw [w64 (by omega) (by omega)]; rfl
      have hx := rd_cap hc (i : Int)
      rw [overB_drop (by omega)]
      by_cases c : 1025 = rd l (i : Int)
      · refine ⟨(i : Int), ?_, Ev.step (f := fun _ => some (i : Int)) (fun k => ?_) (Ev.now _)⟩
        · rw [decide_eq_true (show (i : Int) ≥ 0 by omega), decide_eq_true (show rd l (i : Int) > 1024 by omega)]; rfl
        · simp only [slices_Index_int_int.l0]; rw [if_pos (by omega), if_pos (by omega), if_pos (by omega), if_pos c]
      · obtain ⟨r, h1, h2⟩ := ih (i + 1) (by omega)
        refine ⟨r, ?_, Ev.step (f := fun k => slices_Index_int_int.l0 k l 1025 (l.length : Int) ((i + 1 : Nat) : Int)) (fun k => ?_) h2⟩
        · rw [h1, decide_eq_false (show ¬ rd l (i : Int) > 1024 by omega)]; rfl
        · simp only [slices_Index_int_int.l0]; rw [if_pos (by omega), if_pos (by omega), if_pos (by omega), if_neg c, e1]
  obtain ⟨r, h1, h2⟩ := hi l.length 0 (by omega)
  unfold slices_Contains_int_int.f
  refine Ev.bind (f := fun _ t => some (decide (t ≥ 0))) (a := r) h2 ?_
  rw [h1]
  exact Ev.now _
theorem rAll_l0 (l : List Int) (hl : l.length ≤ 1000) : ∀ (d i : Nat), i + d = l.length → Ev (fun k => conclaveref10_All.l0 k l (i : Int)) (if overB (l.drop i) = true then ([], 4) else (l, 0)) := by
  intro d
  induction d with
  | zero =>
    intro i hi
    refine Ev.step (f := fun _ => some (l, 0)) (fun k => ?_) ?_
    · simp only [conclaveref10_All.l0]; rw [if_neg (by omega)]
    · rw [List.drop_eq_nil_of_le (by omega)]; exact Ev.now _
  | succ d ih =>
    intro i hi
    have e1 : wrap64 ((i : Int) + 1) = ((i + 1 : Nat) : Int) := by rw [w64 (by omega) (by omega)]; rfl
    rw [overB_drop (by omega)]
    by_cases c : rd l (i : Int) > 1024
    · refine Ev.step (f := fun _ => some ([], 4)) (fun k => ?_) ?_
      · simp only [conclaveref10_All.l0]; rw [if_pos (by omega), if_pos (by omega), if_pos c]
      · rw [decide_eq_true c]; exact Ev.now _
    · refine Ev.step (f := fun k => conclaveref10_All.l0 k l ((i + 1 : Nat) : Int)) (fun k => ?_) ?_
      · simp only [conclaveref10_All.l0]; rw [if_pos (by omega), if_pos (by omega), if_neg c, e1]
      · rw [decide_eq_false c, Bool.false_or]; exact ih (i + 1) (by omega)
def mostO (l : List Int) : List Int → Int → Int
  | [], m => m
  | v :: t, m => mostO l t (mx m (rd l v))
def ofR (m : Int) : Int × Int := if m > 1024 then (0, 4) else (m, 0)
theorem pOf_l0 (h : MayP n ops outs) (l : List Int) (hc : Cap l) (hl : (l.length : Int) = n + (ops.length : Int)) : ∀ (d i : Nat), i + d = outs.length → ∀ m : Int, 0 ≤ m → m ≤ 1025 → Ev (fun k => degree_Of.l0 k l m outs (outs.length : Int) (i : Int)) (ofR (mostO l (outs.drop i) m)) := by
  have ho := h.olen
  intro d
  induction d with
  | zero =>
    intro i hi m h0 h1
    rw [List.drop_eq_nil_of_le (by omega)]
    refine Ev.step (f := fun _ => some (ofR m)) (fun k => ?_) (Ev.now _)
    simp only [degree_Of.l0]; rw [if_neg (by omega)]
    unfold ofR
    by_cases c : m = 1025
    · rw [if_pos c, if_pos (by omega)]
    · rw [if_neg c, if_neg (by omega)]
  | succ d ih =>
    intro i hi m h0 h1
    have e1 : wrap64 ((i : Int) + 1) = ((i + 1 : Nat) : Int) := by rw [w64 (by omega) (by omega)]; rfl
    have hv := h.out (rd outs (i : Int)) (by rw [rd_at (by omega)]; exact List.getElem_mem _)
    have hx := rd_cap hc (rd outs (i : Int))
    rw [drop_at (l := outs) (by omega)]
    refine Ev.step (f := fun k => degree_Of.l0 k l (mx m (rd l (rd outs (i : Int)))) outs (outs.length : Int) ((i + 1 : Nat) : Int)) (fun k => ?_) (ih (i + 1) (by omega) _ (by unfold mx; split <;> omega) (by unfold mx; split <;> omega))
    simp only [degree_Of.l0]; rw [if_pos (by omega), if_pos (by omega), if_pos (by omega), if_pos hv.1, if_pos (by omega), e1]
theorem rOf_l0 (h : MayP n ops outs) (l : List Int) (hl : (l.length : Int) = n + (ops.length : Int)) : ∀ (d i : Nat), i + d = outs.length → ∀ m : Int, Ev (fun k => conclaveref10_Of.l0 k l m (i : Int) n ops outs) (ofR (mostO l (outs.drop i) m)) := by
  have ho := h.olen
  intro d
  induction d with
  | zero =>
    intro i hi m
    rw [List.drop_eq_nil_of_le (by omega)]
    refine Ev.step (f := fun _ => some (ofR m)) (fun k => ?_) (Ev.now _)
    simp only [conclaveref10_Of.l0]; rw [if_neg (by omega)]
    unfold ofR
    split <;> rfl
  | succ d ih =>
    intro i hi m
    have e1 : wrap64 ((i : Int) + 1) = ((i + 1 : Nat) : Int) := by rw [w64 (by omega) (by omega)]; rfl
    have hv := h.out (rd outs (i : Int)) (by rw [rd_at (by omega)]; exact List.getElem_mem _)
    rw [drop_at (l := outs) (by omega)]
    refine Ev.step (f := fun k => conclaveref10_Of.l0 k l (mx m (rd l (rd outs (i : Int)))) ((i + 1 : Nat) : Int) n ops outs) (fun k => ?_) (ih (i + 1) (by omega) _)
    simp only [conclaveref10_Of.l0]; rw [if_pos (by omega), if_pos (by omega), if_pos hv.1, if_pos (by omega), e1]
def ofM (n : Int) (ops : List OpS) (outs : List Int) : Int := mostO (degL n ops ops.length) outs 0
theorem degL_lenI (h : MayP n ops outs) : ((degL n ops ops.length).length : Int) = n + (ops.length : Int) := by
  rw [degL_len]; have := h.n0; omega
theorem pOf_f (h : MayP n ops outs) : Ev (fun k => degree_Of.f k n ops outs) (ofR (ofM n ops outs)) := by
  unfold degree_Of.f
  have hm := slpMay_f n ops outs
  rw [may_iff.2 h] at hm
  refine Ev.bind (f := fun k t => _) hm ?_
  simp only [if_true]
  refine Ev.bind (f := fun k t => _) (pAll_f h) ?_
  have := pOf_l0 h _ (degL_cap n ops ops.length) (degL_lenI h) outs.length 0 (by omega) 0 (by omega) (by omega)
  rw [List.drop_zero] at this
  exact this
theorem rOf_f (h : MayP n ops outs) : Ev (fun k => conclaveref10_Of.f k n ops outs) (ofR (ofM n ops outs)) := by
  unfold conclaveref10_Of.f
  have hm := rMay_f n ops outs
  rw [may_iff.2 h] at hm
  refine Ev.bind (f := fun k t => _) hm ?_
  simp only [if_true]
  refine Ev.bind (f := fun k t => _) (rCap_f h) ?_
  have := rOf_l0 h (degL n ops ops.length) (degL_lenI h) outs.length 0 (by omega) 0
  rw [List.drop_zero] at this
  exact this
theorem pOf_no (h : mayB n ops outs = false) : Ev (fun k => degree_Of.f k n ops outs) (0, 2) := by
  unfold degree_Of.f
  have hm := slpMay_f n ops outs
  rw [h] at hm
  refine Ev.bind (f := fun k t => _) hm ?_
  simp only [Bool.false_eq_true, if_false]
  exact Ev.now _
theorem Of_both (n : Int) (ops : List OpS) (outs : List Int) : ∃ r : Int × Int, Ev (fun k => degree_Of.f k n ops outs) r ∧ Ev (fun k => conclaveref10_Of.f k n ops outs) r := by
  by_cases c : mayB n ops outs = true
  · exact ⟨_, pOf_f (may_iff.1 c), rOf_f (may_iff.1 c)⟩
  · have c : mayB n ops outs = false := by simpa using c
    refine ⟨(0, 2), pOf_no c, ?_⟩
    unfold conclaveref10_Of.f
    have hm := rMay_f n ops outs
    rw [c] at hm
    refine Ev.bind (f := fun k t => _) hm ?_
    simp only [Bool.false_eq_true, if_false]
    exact Ev.now _
theorem All_both (n : Int) (ops : List OpS) (outs : List Int) : ∃ r : List Int × Int, r.1.length ≤ 1000 ∧ Ev (fun k => degree_All.f k n ops outs) r ∧ Ev (fun k => conclaveref10_All.f k n ops outs) r := by
  by_cases c : mayB n ops outs = true
  · have h := may_iff.1 c
    have hn := h.n0
    have hn1 := h.n1
    have hl := h.len
    have hlen := degL_len n ops ops.length
    refine ⟨if overB (degL n ops ops.length) = true then ([], 4) else (degL n ops ops.length, 0), by split <;> simp; omega, ?_, ?_⟩
    · unfold degree_All.f
      have hm := slpMay_f n ops outs
      rw [c] at hm
      refine Ev.bind (f := fun k t => _) hm ?_
      simp only [if_true]
      refine Ev.bind (f := fun k t => _) (pAll_f h) ?_
      refine Ev.bind (f := fun _ (t : Bool) => if t = true then some (([] : List Int), (4 : Int)) else some (degL n ops ops.length, 0)) (Contains_f _ (degL_cap n ops ops.length) (by omega)) ?_
      cases overB (degL n ops ops.length)
      · exact Ev.now _
      · exact Ev.now _
    · unfold conclaveref10_All.f
      have hm := rMay_f n ops outs
      rw [c] at hm
      refine Ev.bind (f := fun k t => _) hm ?_
      simp only [if_true]
      refine Ev.bind (f := fun k t => _) (rCap_f h) ?_
      have := rAll_l0 (degL n ops ops.length) (by omega) (degL n ops ops.length).length 0 (by omega)
      rw [List.drop_zero] at this
      exact this
  · have c : mayB n ops outs = false := by simpa using c
    refine ⟨([], 2), by simp, ?_, ?_⟩
    · unfold degree_All.f
      have hm := slpMay_f n ops outs
      rw [c] at hm
      refine Ev.bind (f := fun k t => _) hm ?_
      simp only [Bool.false_eq_true, if_false]
      exact Ev.now _
    · unfold conclaveref10_All.f
      have hm := rMay_f n ops outs
      rw [c] at hm
      refine Ev.bind (f := fun k t => _) hm ?_
      simp only [Bool.false_eq_true, if_false]
      exact Ev.now _
end
theorem anchored10_k : conclavelaw10_anchored.f 40 = some true := by decide +kernel
theorem anchored10_f : Ev (fun k => conclavelaw10_anchored.f k) true := Ev.of (fun k => conclavelaw10_anchored.mono k) anchored10_k
end Go.Proofs.Ytjgojlnnphkefaa.Plain
end
section
namespace Go.Proofs.Ytjgojlnnphkefaa.Pure
open Go.RowKit Go.Proofs.Ytjgojlnnphkefaa.P Go.Proofs.Ytjgojlnnphkefaa.Plain Go.Proofs.YtjgojlnnphkefaaW.PrintWords Go.Proofs.YtjgojlnnphkefaaW.PrintLast
set_option linter.unusedVariables false
set_option linter.unusedSimpArgs false
theorem DegreeAll : Form.DegreeAll.Pure := by
  intro n ops outs hn ho hu
  obtain ⟨⟨u1, u2⟩, ul, a1, a2⟩ := All_both n ops outs
  obtain ⟨⟨t1, t2⟩, b1, b2⟩ := Of_both n ops outs
  refine Ev.rounds ?_
  unfold conclavelaw10_DegreeAll.f
  refine Ev.bind (f := fun k t => _) a1 ?_
  refine Ev.bind (f := fun k t => _) a2 ?_
  refine Ev.bind (f := fun k t => _) b1 ?_
  refine Ev.bind (f := fun k t => _) b2 ?_
  refine Ev.bind (f := fun k t => _) (Ints_f u1 u1 (by dsimp only at ul; omega)) ?_
  simp only [decide_true, if_true]
  exact Ev.bind (f := fun k t => some t) anchored10_f (Ev.now _)
end Go.Proofs.Ytjgojlnnphkefaa.Pure
end
section
namespace Go.Proofs.Ytjgojlnnphkefaa.degreeAll
open Go.ChangeShapes Go.WideShapes Go.ChangeAt Go.RowKit Go.Proofs.YtjgojlnnphkefaaW.PrintWords Go.Proofs.Ytjgojlnnphkefaa.P Go.Proofs.Ytjgojlnnphkefaa.Form.DegreeAll
set_option linter.unusedVariables false
theorem own : ownKnob Try.prog.godebug = none := by kernel_rfl
theorem laidOut : laidOutB Try.prog = true := by kernel_rfl
set_option maxRecDepth 100000 in
theorem lifted (os : Os) (started : os.Started) (H : Type) (enc : TypeId × Value → H) :
    ReturnsInHanded {} Try.checked os 8 .any (Rows.degreeAllSpec.pre6 enc Try.prog Try.f8 Rows.degreeAllRow.domain false) (Rows.degreeAllSpec.post enc Try.prog Try.f8 false true false false) := by
  refine returnsInHanded_of_change_sized (C := Try.checked) own started (by kernel_rfl) Try.func8
    (ChangeSpec.witness6 (enc := enc) (C := Try.checked) false ⟨#[], #[.agg #[.int .i64 0, .slice none 0 0, .slice none 0 0]], []⟩ 8 (by kernel_rfl) (by kernel_rfl) (by kernel_rfl) (by kernel_rfl)) ?_
  intro W base args ds gs before hval0 hW hcnd hsz0 _
  have hsz : (DataW.weightsEach Try.prog (Try.f8.params.toList ++ Rows.degreeAllSpec.plain.varTypes Try.prog) (ds ++ gs)).all (· ≤ reachBytes) = true := hsz0
  have hval : ∀ (j : Nat) t v, Try.f8.params[j]? = some t → args[j]? = some v → Value.okWide Try.prog W .any base t v := hval0
  have hW' := hW
  obtain ⟨p, q, hA0, hV, rfl, hfz, hnd⟩ := hW
  have hA : DataW.TrodAll enc Try.prog W 0 (fun _ => true) true Try.f8.params.toList args.toList ds p := hA0
  rw [Try.params8] at hA hval hsz
  obtain ⟨v0, vs0, d0, ds0, p0, q0, hargs, rfl, rfl, h0, r0⟩ := trodAll_cons hA
  obtain ⟨rfl, rfl, rfl⟩ := trodAll_nil r0
  obtain rfl : args = #[v0] := by cases args; simp_all
  obtain ⟨rfl, rfl⟩ := trodVars_none hV
  have k0_ := h0
  have lt0 : ∀ x ∈ p0, x.block < W.heap.size := by obtain ⟨m, hm⟩ := k0_; exact DataW.trod_lt m _ _ _ hm
  obtain ⟨z0, rfl, _⟩ := okWide_struct Try.underlying25 (hval 0 25 v0 rfl rfl)
  obtain ⟨⟨a0_0, l0_1, l0_2⟩, K0, ⟨F0_0, F0_1, F0_2⟩⟩ := Open.opens_at (Open.opens_struct Try.underlying25 (by kernel_rfl) (by kernel_rfl) (by kernel_rfl) (Open.opensL_cons (Open.opens_int Try.underlying3 (by kernel_rfl)) (Open.opensL_cons (Open.opens_slice (d := k93) Try.underlying22 (by kernel_rfl) (show 0 < 4 from by decide) (B := 32) (by kernel_rfl) opens93) (Open.opensL_one (Open.opens_slice (d := (Kd.int .i64)) Try.underlying23 (by kernel_rfl) (show 0 < 1 from by decide) (B := 8) (by kernel_rfl) (Open.opens_int Try.underlying3 (by kernel_rfl)))))) id id (fun _ => rfl)) h0 hsz (j := 0) rfl rfl
  have hz0 : ∀ cs : List Value, (z0.toList = cs) → z0 = cs.toArray := fun cs h => by rw [← h]
  obtain ⟨cs0, hcs0, K0'⟩ : ∃ cs, z0.toList = cs ∧ _ := ⟨_, rfl, K0⟩
  obtain ⟨_, _, rfl, rfl, ⟨_, _, rfl, ⟨A0_1, c0_1, rfl, hc0_1, hr0_1⟩, ⟨A0_2, c0_2, rfl, hc0_2, hr0_2⟩⟩⟩ := K0'
  obtain rfl := hz0 _ hcs0
  clear hA0 hval0 hsz0 hsz
  obtain ⟨k, h⟩ := Pure.DegreeAll _ _ _ F0_0 F0_1 F0_2
  refine (conclavelaw10_DegreeAll.calls k _ _ _ _ _ _ _ true W hr0_1 hc0_1 hr0_2 hc0_2 h rfl).mono fun e W' hee => ?_
  obtain ⟨he, bel⟩ := hee
  have bel : Below W.heap.size W W' := by first | exact bel | exact bel.below
  subst he
  exact ⟨_, rfl, _, _, _, [], _, [], hW', trodAll_mk1 (shut_bool Try.underlying4 _), (trodAll_cons_mk (Below.trod laidOut (by kernel_rfl) (of_decide_eq_true (by kernel_rfl)) k0_ bel lt0) trodAll_mk0), rfl, bel.frame _, fun h => by cases h⟩
theorem over : Rows.degreeAllRow.holds Try.pinned (OpenSpec.ofChange Rows.degreeAllSpec) :=
  OpenClaim.holds_of_wide 8 Try.f8 rfl rfl rfl rfl rfl rfl rfl ⟨rfl, rfl, rfl, rfl, rfl⟩ rfl rfl rfl rfl rfl (by kernel_rfl) Try.func8 (by kernel_rfl)
    (of_decide_eq_true (by kernel_rfl)) (by unfold Func.isWrapper; first | (rw [if_pos (by decide +kernel)]; kernel_rfl) | (rw [if_neg (by decide +kernel)]; exact ⟨rfl, rfl⟩))
    (fun os started H enc _ => lifted os started H enc)
theorem proved : Rows.DegreeAllSaid := over
end Go.Proofs.Ytjgojlnnphkefaa.degreeAll
namespace Go.Proofs.Ytjgojlnnphkefaa
theorem degreeAll_holds : Rows.DegreeAllSaid := degreeAll.proved
end Go.Proofs.Ytjgojlnnphkefaa
end
