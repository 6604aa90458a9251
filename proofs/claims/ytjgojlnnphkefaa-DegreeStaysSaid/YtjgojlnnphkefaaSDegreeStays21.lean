import Derived.Test.YtjgojlnnphkefaaSDegreeStays16
import Derived.Test.YtjgojlnnphkefaaSDegreeStays17
import Derived.Test.YtjgojlnnphkefaaSDegreeStays18
import Derived.Test.YtjgojlnnphkefaaSDegreeStays19
import Derived.Test.YtjgojlnnphkefaaSDegreeStays20
import Derived.Test.YtjgojlnnphkefaaRows
import Derived.WalkKit
import Derived.ProofKit
import Derived.OpenShut
import Derived.ShutString
import Derived.ChangeOld
import Derived.Below
import Derived.SizedLaws
section
namespace Go.Proofs.Ytjgojlnnphkefaa.Form.DegreeStays
open Go.RowKit Go.Proofs.Ytjgojlnnphkefaa.P Go.Proofs.YtjgojlnnphkefaaW.PrintWords Go.Proofs.YtjgojlnnphkefaaW.PrintLast
set_option linter.unusedVariables false
def Wf93 (x : S93) : Prop := ((Lit.int .u8 x.f0).wf = true) ∧ ((Lit.int .i64 x.f1).wf = true) ∧ ((Lit.int .i64 x.f2).wf = true) ∧ (Lit.int .u64 x.f3).wf = true
theorem opens93 : Open.Opens Try.prog k93 93 Wf93 := Open.opens_struct Try.underlying93 (by kernel_rfl) (by kernel_rfl) (by kernel_rfl) (Open.opensL_cons (Open.opens_int Try.underlying91 (by kernel_rfl)) (Open.opensL_cons (Open.opens_int Try.underlying3 (by kernel_rfl)) (Open.opensL_cons (Open.opens_int Try.underlying3 (by kernel_rfl)) (Open.opensL_one (Open.opens_int Try.underlying65 (by kernel_rfl)))))) (fun x : S93 => (x.f0, x.f1, x.f2, x.f3)) (fun p => ⟨p.1, p.2.1, p.2.2.1, p.2.2.2⟩) (fun _ => rfl)
def Pure : Prop := ∀ (a0_0 : Int) (l0_1 : List (S93)) (l0_2 : List Int), ((Lit.int .i64 a0_0).wf = true) → (l0_1.length ≤ maxLen ∧ l0_1.length * 32 ≤ 140737488351232 ∧ ∀ y13 ∈ l0_1, Wf93 y13) → (l0_2.length ≤ maxLen ∧ l0_2.length * 8 ≤ 140737488351232 ∧ ∀ y14 ∈ l0_2, (Lit.int .i64 y14).wf = true) → ∃ k, conclavelaw10_DegreeStays.f k a0_0 l0_1 l0_2 = some true
end Go.Proofs.Ytjgojlnnphkefaa.Form.DegreeStays
end
section
namespace Go.Proofs.Ytjgojlnnphkefaa.Plain
open Go.RowKit Go.Proofs.YtjgojlnnphkefaaW.PrintWords Go.Proofs.YtjgojlnnphkefaaW.PrintLast Go.Proofs.YtjgojlnnphkefaaW.PrintMore
set_option linter.unusedVariables false
set_option linter.unusedSimpArgs false
theorem w64 {x : Int} (h0 : -9223372036854775808 ≤ x) (h1 : x ≤ 9223372036854775807) : wrap64 x = x := by unfold wrap64; omega
def Bytes (l : List Int) : Prop := ∀ x ∈ l, 0 ≤ x ∧ x < 256
theorem Bytes.take {l : List Int} (h : Bytes l) (n : Nat) : Bytes (l.take n) := fun x hx => h x (List.mem_of_mem_take hx)
theorem Bytes.drop {l : List Int} (h : Bytes l) (n : Nat) : Bytes (l.drop n) := fun x hx => h x (List.mem_of_mem_drop hx)
theorem Bytes.append {a b : List Int} (h : Bytes a) (h' : Bytes b) : Bytes (a ++ b) := fun x hx => (List.mem_append.1 hx).elim (h x) (h' x)
theorem rd_at {l : List Int} {i : Nat} (h : i < l.length) : rd l (i : Int) = l[i] := by simp [rd, h]
theorem drop_at {l : List Int} {i : Nat} (h : i < l.length) : l.drop i = rd l (i : Int) :: l.drop (i + 1) := by rw [rd_at h, List.drop_eq_getElem_cons h]
end Go.Proofs.Ytjgojlnnphkefaa.Plain
end
section
namespace Go.Proofs.Ytjgojlnnphkefaa.Plain
open Go.RowKit Go.Proofs Go.Proofs.Ytjgojlnnphkefaa.P Go.Proofs.YtjgojlnnphkefaaW.PrintWords Go.Proofs.YtjgojlnnphkefaaW.PrintLast Go.Proofs.YtjgojlnnphkefaaW.PrintMore
set_option linter.unusedVariables false
set_option linter.unusedSimpArgs false
abbrev OpS := S93
abbrev rdO (l : List OpS) (i : Int) : OpS := rd_T93 l i
theorem rdO_at {l : List OpS} {i : Nat} (h : i < l.length) : rdO l (i : Int) = l[i] := by simp [rdO, rd_T93, h]
theorem dropO_at {l : List OpS} {i : Nat} (h : i < l.length) : l.drop i = rdO l (i : Int) :: l.drop (i + 1) := by rw [rdO_at h, List.drop_eq_getElem_cons h]
def okO (m : Int) (o : OpS) : Bool :=
  if o.f0 = 1 ∨ o.f0 = 2 ∨ o.f0 = 3 then decide (0 ≤ o.f1) && decide (o.f1 < m) && decide (0 ≤ o.f2) && decide (o.f2 < m) && decide (o.f3 = 0)
  else decide (o.f0 = 4) && decide (o.f1 = 0) && decide (o.f2 = 0)
def okOps (n : Int) : Nat → List OpS → Bool
  | _, [] => true
  | i, o :: l => okO (n + (i : Int)) o && okOps n (i + 1) l
def okOuts (m : Int) (l : List Int) : Bool := l.all fun v => decide (0 ≤ v) && decide (v < m)
def mayB (n : Int) (ops : List OpS) (outs : List Int) : Bool :=
  decide (0 ≤ n) && decide (n ≤ 64) && decide (ops.length ≤ 256) && decide (outs.length ≤ 64) && okOps n 0 ops && okOuts (n + (ops.length : Int)) outs
theorem okOuts_drop {m : Int} {l : List Int} {i : Nat} (h : i < l.length) : okOuts m (l.drop i) = ((decide (0 ≤ rd l (i : Int)) && decide (rd l (i : Int) < m)) && okOuts m (l.drop (i + 1))) := by
  rw [drop_at h]; simp [okOuts]
theorem okOps_drop {n : Int} {l : List OpS} {i : Nat} (h : i < l.length) : okOps n i (l.drop i) = (okO (n + (i : Int)) (rdO l (i : Int)) && okOps n (i + 1) (l.drop (i + 1))) := by
  rw [dropO_at h]; simp only [okOps]
theorem outsBad_ev (n : Int) (len : Int) (outs : List Int) (h0 : 0 ≤ n) (h1 : n ≤ 64) (h2 : 0 ≤ len) (h3 : len ≤ 256) (ho : outs.length ≤ 64) : ∀ (d i : Nat), i + d = outs.length →
    Ev (fun k => slp_outsBad.l0 k outs n len (i : Int)) (!okOuts (n + len) (outs.drop i)) := by
  intro d
  induction d with
  | zero =>
    intro i hi
    refine Ev.step (f := fun _ => some false) (fun k => ?_) ?_
    · simp only [slp_outsBad.l0]; rw [if_neg (by omega)]
    · rw [List.drop_eq_nil_of_le (by omega)]; exact Ev.now _
  | succ d ih =>
    intro i hi
    have hw : wrap64 (n + len) = n + len := w64 (by omega) (by omega)
    have e1 : wrap64 ((i : Int) + 1) = ((i + 1 : Nat) : Int) := by rw [w64 (by omega) (by omega)]; rfl
    rw [okOuts_drop (by omega)]
    by_cases c1 : rd outs (i : Int) < 0
    · refine Ev.step (f := fun _ => some true) (fun k => ?_) ?_
      · simp only [slp_outsBad.l0]; rw [if_pos (by omega), if_pos (by omega), if_pos c1]
      · rw [decide_eq_false (show ¬ 0 ≤ rd outs (i : Int) by omega)]; exact Ev.now _
    · by_cases c2 : rd outs (i : Int) ≥ n + len
      · refine Ev.step (f := fun _ => some true) (fun k => ?_) ?_
        · simp only [slp_outsBad.l0]; rw [if_pos (by omega), if_pos (by omega), if_neg c1, hw, if_pos c2]
        · rw [decide_eq_false (show ¬ rd outs (i : Int) < n + len by omega), Bool.and_false]; exact Ev.now _
      · refine Ev.step (f := fun k => slp_outsBad.l0 k outs n len ((i + 1 : Nat) : Int)) (fun k => ?_) ?_
        · simp only [slp_outsBad.l0]; rw [if_pos (by omega), if_pos (by omega), if_neg c1, hw, if_neg c2, e1]
        · rw [decide_eq_true (show 0 ≤ rd outs (i : Int) by omega), decide_eq_true (show rd outs (i : Int) < n + len by omega)]
          simp only [Bool.true_and]
          exact ih (i + 1) (by omega)
theorem slpMay_l0 (n : Int) (ops : List OpS) (outs : List Int) (h0 : 0 ≤ n) (h1 : n ≤ 64) (h3 : ops.length ≤ 256) (ho : outs.length ≤ 64) : ∀ (d i : Nat), i + d = ops.length →
    Ev (fun k => slp_May.l0 k ops (ops.length : Int) (i : Int) n ops outs) (okOps n i (ops.drop i) && okOuts (n + (ops.length : Int)) outs) := by
  intro d
  induction d with
  | zero =>
    intro i hi
    rw [List.drop_eq_nil_of_le (by omega)]
    simp only [okOps, Bool.true_and]
    have h := outsBad_ev n (ops.length : Int) outs h0 h1 (by omega) (by omega) ho outs.length 0 (by omega)
    refine Ev.step (f := fun k => (slp_outsBad.f k outs n (ops.length : Int)).bind fun t => some (!t)) (fun k => ?_) ?_
    · simp only [slp_May.l0]; rw [if_neg (by omega)]
    · refine Ev.bind (f := fun _ t => some (!t)) (a := !okOuts (n + (ops.length : Int)) outs) h ?_
      rw [Bool.not_not]; exact Ev.now _
  | succ d ih =>
    intro i hi
    have hw : wrap64 (n + (i : Int)) = n + (i : Int) := w64 (by omega) (by omega)
    have e1 : wrap64 ((i : Int) + 1) = ((i + 1 : Nat) : Int) := by rw [w64 (by omega) (by omega)]; rfl
    have hi1 := ih (i + 1) (by omega)
    rw [okOps_drop (by omega)]
    obtain ⟨o, ho'⟩ : ∃ o : OpS, o = rdO ops (i : Int) := ⟨_, rfl⟩
    rw [← ho']
    have hstep : Ev (fun k => slp_May.j2 k (n + (i : Int)) ops (ops.length : Int) (i : Int) o.f0 (decide (o.f0 = 1 ∨ o.f0 = 2 ∨ o.f0 = 3)) n ops outs o.f0 o.f1 o.f2 o.f3) (okO (n + (i : Int)) o && okOps n (i + 1) (ops.drop (i + 1)) && okOuts (n + (ops.length : Int)) outs) := by
      by_cases c : o.f0 = 1 ∨ o.f0 = 2 ∨ o.f0 = 3
      · by_cases cc : 0 ≤ o.f1 ∧ o.f1 < n + (i : Int) ∧ 0 ≤ o.f2 ∧ o.f2 < n + (i : Int) ∧ o.f3 = 0
        · obtain ⟨a1, a2, a3, a4, a5⟩ := cc
          refine Ev.step (f := fun k => slp_May.l0 k ops (ops.length : Int) ((i + 1 : Nat) : Int) n ops outs) (fun k => ?_) ?_
          · simp only [slp_May.j2]
            rw [decide_eq_true c, if_pos rfl, if_neg (by omega), if_neg (by omega), if_neg (by omega), if_neg (by omega), if_pos a5, e1]
          · rw [show okO (n + (i : Int)) o = true by unfold okO; rw [if_pos c, decide_eq_true a1, decide_eq_true a2, decide_eq_true a3, decide_eq_true a4, decide_eq_true a5]; rfl]
            exact hi1
        · refine Ev.step (f := fun _ => some false) (fun k => ?_) ?_
          · simp only [slp_May.j2]
            rw [decide_eq_true c, if_pos rfl]
            by_cases b1 : o.f1 < 0
            · rw [if_pos b1]
            · rw [if_neg b1]
              by_cases b2 : o.f1 ≥ n + (i : Int)
              · rw [if_pos b2]
              · rw [if_neg b2]
                by_cases b3 : o.f2 < 0
                · rw [if_pos b3]
                · rw [if_neg b3]
                  by_cases b4 : o.f2 ≥ n + (i : Int)
                  · rw [if_pos b4]
                  · rw [if_neg b4, if_neg (by omega)]
          · rw [show okO (n + (i : Int)) o = false by
              unfold okO; rw [if_pos c]
              simp only [Bool.and_eq_false_iff, decide_eq_false_iff_not]
              omega]
            exact Ev.now _
      · by_cases cc : o.f0 = 4 ∧ o.f1 = 0 ∧ o.f2 = 0
        · obtain ⟨a1, a2, a3⟩ := cc
          refine Ev.step (f := fun k => slp_May.l0 k ops (ops.length : Int) ((i + 1 : Nat) : Int) n ops outs) (fun k => ?_) ?_
          · simp only [slp_May.j2]
            rw [decide_eq_false c, if_neg (by simp), if_pos a1, if_pos a2, if_pos a3, e1]
          · rw [show okO (n + (i : Int)) o = true by unfold okO; rw [if_neg c, decide_eq_true a1, decide_eq_true a2, decide_eq_true a3]; rfl]
            exact hi1
        · refine Ev.step (f := fun _ => some false) (fun k => ?_) ?_
          · simp only [slp_May.j2]
            rw [decide_eq_false c, if_neg (by simp)]
            by_cases b1 : o.f0 = 4
            · rw [if_pos b1]
              by_cases b2 : o.f1 = 0
              · rw [if_pos b2, if_neg (by omega)]
              · rw [if_neg b2]
            · rw [if_neg b1]
          · rw [show okO (n + (i : Int)) o = false by
              unfold okO; rw [if_neg c]
              simp only [Bool.and_eq_false_iff, decide_eq_false_iff_not]
              omega]
            exact Ev.now _
    refine Ev.step (f := fun k => slp_May.j2 k (n + (i : Int)) ops (ops.length : Int) (i : Int) o.f0 (decide (o.f0 = 1 ∨ o.f0 = 2 ∨ o.f0 = 3)) n ops outs o.f0 o.f1 o.f2 o.f3) (fun k => ?_) hstep
    simp only [slp_May.l0]
    rw [if_pos (by omega), if_pos (by omega), if_pos (by omega), hw]
    change (if (rdO ops (i : Int)).f0 = 1 then slp_May.j2 k (n + (i : Int)) ops (ops.length : Int) (i : Int) (rdO ops (i : Int)).f0 ((rdO ops (i : Int)).f0 == 1) n ops outs (rdO ops (i : Int)).f0 (rdO ops (i : Int)).f1 (rdO ops (i : Int)).f2 (rdO ops (i : Int)).f3 else if (rdO ops (i : Int)).f0 = 2 then slp_May.j2 k (n + (i : Int)) ops (ops.length : Int) (i : Int) (rdO ops (i : Int)).f0 ((rdO ops (i : Int)).f0 == 2) n ops outs (rdO ops (i : Int)).f0 (rdO ops (i : Int)).f1 (rdO ops (i : Int)).f2 (rdO ops (i : Int)).f3 else slp_May.j2 k (n + (i : Int)) ops (ops.length : Int) (i : Int) (rdO ops (i : Int)).f0 ((rdO ops (i : Int)).f0 == 3) n ops outs (rdO ops (i : Int)).f0 (rdO ops (i : Int)).f1 (rdO ops (i : Int)).f2 (rdO ops (i : Int)).f3) = _
    rw [← ho']
    by_cases q1 : o.f0 = 1
    · rw [if_pos q1, show (o.f0 == 1) = decide (o.f0 = 1 ∨ o.f0 = 2 ∨ o.f0 = 3) by rw [q1]; rfl]
    · rw [if_neg q1]
      by_cases q2 : o.f0 = 2
      · rw [if_pos q2, show (o.f0 == 2) = decide (o.f0 = 1 ∨ o.f0 = 2 ∨ o.f0 = 3) by rw [q2]; rfl]
      · rw [if_neg q2]
        by_cases q3 : o.f0 = 3
        · rw [show (o.f0 == 3) = decide (o.f0 = 1 ∨ o.f0 = 2 ∨ o.f0 = 3) by rw [q3]; rfl]
        · rw [show (o.f0 == 3) = decide (o.f0 = 1 ∨ o.f0 = 2 ∨ o.f0 = 3) by rw [decide_eq_false (by omega)]; simp [q3]]
theorem slpMay_f (n : Int) (ops : List OpS) (outs : List Int) : Ev (fun k => slp_May.f k n ops outs) (mayB n ops outs) := by
  have hbad : ∀ (b : Bool), b = false → Ev (fun k => slp_May.j0 k true n ops outs) b := fun b hb => by
    subst hb
    exact Ev.step (f := fun _ => some false) (fun k => by simp only [slp_May.j0, if_true]) (Ev.now _)
  unfold slp_May.f
  by_cases c1 : n < 0
  · simp only [if_pos c1]
    exact hbad _ (by unfold mayB; rw [decide_eq_false (show ¬ 0 ≤ n by omega)]; rfl)
  · simp only [if_neg c1]
    by_cases c2 : n > 64
    · simp only [if_pos c2]
      exact hbad _ (by unfold mayB; rw [decide_eq_false (show ¬ n ≤ 64 by omega)]; simp)
    · simp only [if_neg c2]
      by_cases c3 : (ops.length : Int) > 256
      · simp only [if_pos c3]
        exact hbad _ (by unfold mayB; rw [decide_eq_false (show ¬ ops.length ≤ 256 by omega)]; simp)
      · simp only [if_neg c3]
        by_cases c4 : (outs.length : Int) > 64
        · simp only [decide_eq_true c4]
          exact hbad _ (by unfold mayB; rw [decide_eq_false (show ¬ outs.length ≤ 64 by omega)]; simp)
        · simp only [decide_eq_false c4]
          have h := slpMay_l0 n ops outs (by omega) (by omega) (by omega) (by omega) ops.length 0 (by omega)
          refine Ev.step (f := fun k => slp_May.l0 k ops (ops.length : Int) 0 n ops outs) (fun k => by simp only [slp_May.j0, Bool.false_eq_true, if_false]) ?_
          unfold mayB
          rw [decide_eq_true (show 0 ≤ n by omega), decide_eq_true (show n ≤ 64 by omega), decide_eq_true (show ops.length ≤ 256 by omega), decide_eq_true (show outs.length ≤ 64 by omega)]
          simpa using h
theorem rop_f (m : Int) (o : OpS) : Ev (fun k => conclaveref09_op.f k o.f0 o.f1 o.f2 o.f3 m) (okO m o) := by
  have hj : Ev (fun k => conclaveref09_op.j0 k m o.f0 (decide (o.f0 = 1 ∨ o.f0 = 2 ∨ o.f0 = 3)) o.f0 o.f1 o.f2 o.f3) (okO m o) := by
    refine Ev.step (f := fun _ => some (okO m o)) (fun k => ?_) (Ev.now _)
    simp only [conclaveref09_op.j0]
    unfold okO
    by_cases c : o.f0 = 1 ∨ o.f0 = 2 ∨ o.f0 = 3
    · rw [decide_eq_true c, if_pos rfl, if_pos c]
      by_cases b1 : o.f1 ≥ 0
      · rw [if_pos b1, decide_eq_true (show 0 ≤ o.f1 from b1)]
        by_cases b2 : o.f1 < m
        · rw [if_pos b2, decide_eq_true b2]
          by_cases b3 : o.f2 ≥ 0
          · rw [if_pos b3, decide_eq_true (show 0 ≤ o.f2 from b3)]
            by_cases b4 : o.f2 < m
            · rw [if_pos b4, decide_eq_true b4]
              by_cases b5 : o.f3 = 0
              · rw [b5]; rfl
              · simp [b5]
            · rw [if_neg b4, decide_eq_false b4]; simp
          · rw [if_neg b3, decide_eq_false (show ¬ 0 ≤ o.f2 from b3)]; simp
        · rw [if_neg b2, decide_eq_false b2]; simp
      · rw [if_neg b1, decide_eq_false (show ¬ 0 ≤ o.f1 from b1)]; simp
    · rw [decide_eq_false c, if_neg (by simp), if_neg c]
      by_cases b1 : o.f0 = 4
      · rw [if_pos b1, decide_eq_true b1]
        by_cases b2 : o.f1 = 0
        · rw [if_pos b2, decide_eq_true b2]
          by_cases b3 : o.f2 = 0
          · rw [b3]; rfl
          · simp [b3]
        · rw [if_neg b2, decide_eq_false b2]; simp
      · rw [if_neg b1, decide_eq_false b1]; simp
  unfold conclaveref09_op.f
  by_cases q1 : o.f0 = 1
  · simp only [if_pos q1]
    rw [show (o.f0 == 1) = decide (o.f0 = 1 ∨ o.f0 = 2 ∨ o.f0 = 3) by rw [q1]; rfl]; exact hj
  · simp only [if_neg q1]
    by_cases q2 : o.f0 = 2
    · simp only [if_pos q2]
      rw [show (o.f0 == 2) = decide (o.f0 = 1 ∨ o.f0 = 2 ∨ o.f0 = 3) by rw [q2]; rfl]; exact hj
    · simp only [if_neg q2]
      by_cases q3 : o.f0 = 3
      · rw [show (o.f0 == 3) = decide (o.f0 = 1 ∨ o.f0 = 2 ∨ o.f0 = 3) by rw [q3]; rfl]; exact hj
      · rw [show (o.f0 == 3) = decide (o.f0 = 1 ∨ o.f0 = 2 ∨ o.f0 = 3) by rw [decide_eq_false (by omega)]; simp [q3]]; exact hj
theorem rMay_l1 (n : Int) (ops : List OpS) (outs : List Int) (h0 : 0 ≤ n) (h1 : n ≤ 64) (h3 : ops.length ≤ 256) (ho : outs.length ≤ 64) : ∀ (d i : Nat), i + d = outs.length →
    Ev (fun k => conclaveref09_May.l1 k (i : Int) n ops outs) (okOuts (n + (ops.length : Int)) (outs.drop i)) := by
  intro d
  induction d with
  | zero =>
    intro i hi
    refine Ev.step (f := fun _ => some true) (fun k => ?_) ?_
    · simp only [conclaveref09_May.l1]; rw [if_neg (by omega)]
    · rw [List.drop_eq_nil_of_le (by omega)]; exact Ev.now _
  | succ d ih =>
    intro i hi
    have hw : wrap64 (n + (ops.length : Int)) = n + (ops.length : Int) := w64 (by omega) (by omega)
    have e1 : wrap64 ((i : Int) + 1) = ((i + 1 : Nat) : Int) := by rw [w64 (by omega) (by omega)]; rfl
    rw [okOuts_drop (by omega)]
    by_cases c1 : rd outs (i : Int) < 0
    · refine Ev.step (f := fun _ => some false) (fun k => ?_) ?_
      · simp only [conclaveref09_May.l1]; rw [if_pos (by omega), if_pos (by omega), if_pos c1]
      · rw [decide_eq_false (show ¬ 0 ≤ rd outs (i : Int) by omega)]; exact Ev.now _
    · by_cases c2 : rd outs (i : Int) ≥ n + (ops.length : Int)
      · refine Ev.step (f := fun _ => some false) (fun k => ?_) ?_
        · simp only [conclaveref09_May.l1]; rw [if_pos (by omega), if_pos (by omega), if_neg c1, hw, if_pos c2]
        · rw [decide_eq_false (show ¬ rd outs (i : Int) < n + (ops.length : Int) by omega), Bool.and_false]; exact Ev.now _
      · refine Ev.step (f := fun k => conclaveref09_May.l1 k ((i + 1 : Nat) : Int) n ops outs) (fun k => ?_) ?_
        · simp only [conclaveref09_May.l1]; rw [if_pos (by omega), if_pos (by omega), if_neg c1, hw, if_neg c2, e1]
        · rw [decide_eq_true (show 0 ≤ rd outs (i : Int) by omega), decide_eq_true (show rd outs (i : Int) < n + (ops.length : Int) by omega)]
          simp only [Bool.true_and]
          exact ih (i + 1) (by omega)
theorem rMay_l0 (n : Int) (ops : List OpS) (outs : List Int) (h0 : 0 ≤ n) (h1 : n ≤ 64) (h3 : ops.length ≤ 256) (ho : outs.length ≤ 64) : ∀ (d i : Nat), i + d = ops.length →
    Ev (fun k => conclaveref09_May.l0 k (i : Int) n ops outs) (okOps n i (ops.drop i) && okOuts (n + (ops.length : Int)) outs) := by
  intro d
  induction d with
  | zero =>
    intro i hi
    rw [List.drop_eq_nil_of_le (by omega)]
    simp only [okOps, Bool.true_and]
    refine Ev.step (f := fun k => conclaveref09_May.l1 k 0 n ops outs) (fun k => ?_) (rMay_l1 n ops outs h0 h1 h3 ho outs.length 0 (by omega))
    simp only [conclaveref09_May.l0]; rw [if_neg (by omega)]
  | succ d ih =>
    intro i hi
    have hw : wrap64 (n + (i : Int)) = n + (i : Int) := w64 (by omega) (by omega)
    have e1 : wrap64 ((i : Int) + 1) = ((i + 1 : Nat) : Int) := by rw [w64 (by omega) (by omega)]; rfl
    rw [okOps_drop (by omega)]
    refine Ev.step (f := fun k => (conclaveref09_op.f k (rdO ops (i : Int)).f0 (rdO ops (i : Int)).f1 (rdO ops (i : Int)).f2 (rdO ops (i : Int)).f3 (n + (i : Int))).bind fun t => if t = true then conclaveref09_May.l0 k ((i + 1 : Nat) : Int) n ops outs else some false) (fun k => ?_) (Ev.bind (f := fun k (t : Bool) => if t = true then conclaveref09_May.l0 k ((i + 1 : Nat) : Int) n ops outs else some false) (rop_f _ _) ?_)
    · simp only [conclaveref09_May.l0]
      rw [if_pos (by omega), if_pos (by omega), hw, e1]
    · cases okO (n + (i : Int)) (rdO ops (i : Int))
      · exact Ev.now _
      · simp only [if_true, Bool.true_and]
        exact ih (i + 1) (by omega)
theorem rMay_f (n : Int) (ops : List OpS) (outs : List Int) : Ev (fun k => conclaveref09_May.f k n ops outs) (mayB n ops outs) := by
  have hbad : ∀ (b : Bool), b = false → Ev (fun k => conclaveref09_May.j0 k true n ops outs) b := fun b hb => by
    subst hb
    exact Ev.step (f := fun _ => some false) (fun k => by simp only [conclaveref09_May.j0, if_true]) (Ev.now _)
  unfold conclaveref09_May.f
  by_cases c1 : n < 0
  · simp only [if_pos c1]
    exact hbad _ (by unfold mayB; rw [decide_eq_false (show ¬ 0 ≤ n by omega)]; rfl)
  · simp only [if_neg c1]
    by_cases c2 : n > 64
    · simp only [if_pos c2]
      exact hbad _ (by unfold mayB; rw [decide_eq_false (show ¬ n ≤ 64 by omega)]; simp)
    · simp only [if_neg c2]
      by_cases c3 : (ops.length : Int) > 256
      · simp only [if_pos c3]
        exact hbad _ (by unfold mayB; rw [decide_eq_false (show ¬ ops.length ≤ 256 by omega)]; simp)
      · simp only [if_neg c3]
        by_cases c4 : (outs.length : Int) > 64
        · simp only [decide_eq_true c4]
          exact hbad _ (by unfold mayB; rw [decide_eq_false (show ¬ outs.length ≤ 64 by omega)]; simp)
        · simp only [decide_eq_false c4]
          have h := rMay_l0 n ops outs (by omega) (by omega) (by omega) (by omega) ops.length 0 (by omega)
          refine Ev.step (f := fun k => conclaveref09_May.l0 k 0 n ops outs) (fun k => by simp only [conclaveref09_May.j0, Bool.false_eq_true, if_false]) ?_
          unfold mayB
          rw [decide_eq_true (show 0 ≤ n by omega), decide_eq_true (show n ≤ 64 by omega), decide_eq_true (show ops.length ≤ 256 by omega), decide_eq_true (show outs.length ≤ 64 by omega)]
          simpa using h
structure MayP (n : Int) (ops : List OpS) (outs : List Int) : Prop where
  n0 : 0 ≤ n
  n1 : n ≤ 64
  len : ops.length ≤ 256
  olen : outs.length ≤ 64
  op : ∀ i (h : i < ops.length), okO (n + (i : Int)) ops[i] = true
  out : ∀ v ∈ outs, 0 ≤ v ∧ v < n + (ops.length : Int)
theorem okOps_iff (n : Int) : ∀ (l : List OpS) (i : Nat), okOps n i l = true ↔ ∀ j (h : j < l.length), okO (n + ((i + j : Nat) : Int)) l[j] = true := by
  intro l
  induction l with
  | nil => intro i; simp [okOps]
  | cons o l ih =>
    intro i
    simp only [okOps, Bool.and_eq_true]
    rw [ih]
    constructor
    · rintro ⟨h1, h2⟩ j hj
      cases j with
      | zero => exact h1
      | succ j => have := h2 j (by simpa using hj); rw [show i + 1 + j = i + (j + 1) by omega] at this; exact this
    · intro h
      exact ⟨h 0 (by simp), fun j hj => by have := h (j + 1) (by simpa using hj); rw [show i + (j + 1) = i + 1 + j by omega] at this; exact this⟩
theorem may_iff {n : Int} {ops : List OpS} {outs : List Int} : mayB n ops outs = true ↔ MayP n ops outs := by
  unfold mayB okOuts
  simp only [Bool.and_eq_true, decide_eq_true_eq, okOps_iff, List.all_eq_true]
  constructor
  · rintro ⟨⟨⟨⟨⟨h1, h2⟩, h3⟩, h4⟩, h5⟩, h6⟩
    exact ⟨h1, h2, h3, h4, fun i h => by have := h5 i h; rwa [Nat.zero_add] at this, fun v hv => by have := h6 v hv; exact this⟩
  · intro h
    exact ⟨⟨⟨⟨⟨h.n0, h.n1⟩, h.len⟩, h.olen⟩, fun j hj => by rw [Nat.zero_add]; exact h.op j hj⟩, fun v hv => h.out v hv⟩
theorem okO_args {m : Int} {o : OpS} (h : okO m o = true) (hk : o.f0 ≠ 4) : 0 ≤ o.f1 ∧ o.f1 < m ∧ 0 ≤ o.f2 ∧ o.f2 < m := by
  unfold okO at h
  by_cases c : o.f0 = 1 ∨ o.f0 = 2 ∨ o.f0 = 3
  · rw [if_pos c] at h
    simp only [Bool.and_eq_true, decide_eq_true_eq] at h
    exact ⟨h.1.1.1.1, h.1.1.1.2, h.1.1.2, h.1.2⟩
  · rw [if_neg c] at h
    simp only [Bool.and_eq_true, decide_eq_true_eq] at h
    exact absurd h.1.1 hk
theorem Ints_ev (a b : List Int) (hl : a.length = b.length) (hm : a.length ≤ 9223372036854775806) : ∀ (d i : Nat), i + d = a.length → Ev (fun k => conclaveref09_Ints.l0 k a b (i : Int)) (decide (a.drop i = b.drop i)) := by
  intro d
  induction d with
  | zero =>
    intro i hi
    refine Ev.step (f := fun _ => some true) (fun k => ?_) ?_
    · simp only [conclaveref09_Ints.l0]; rw [if_neg (by omega)]
    · rw [List.drop_eq_nil_of_le (by omega), List.drop_eq_nil_of_le (by omega), decide_eq_true rfl]; exact Ev.now _
  | succ d ih =>
    intro i hi
    have e1 : wrap64 ((i : Int) + 1) = ((i + 1 : Nat) : Int) := by rw [w64 (by omega) (by omega)]; rfl
    by_cases c : rd a (i : Int) = rd b (i : Int)
    · refine Ev.step (f := fun k => conclaveref09_Ints.l0 k a b ((i + 1 : Nat) : Int)) (fun k => ?_) ?_
      · simp only [conclaveref09_Ints.l0]; rw [if_pos (by omega), if_pos (by omega), if_pos (by omega), if_pos c, e1]
      · rw [drop_at (l := a) (by omega), drop_at (l := b) (by omega), c]
        have h := ih (i + 1) (by omega)
        simpa using h
    · refine Ev.step (f := fun _ => some false) (fun k => ?_) ?_
      · simp only [conclaveref09_Ints.l0]; rw [if_pos (by omega), if_pos (by omega), if_pos (by omega), if_neg c]
      · rw [drop_at (l := a) (by omega), drop_at (l := b) (by omega), decide_eq_false (by intro h; exact c (List.cons.inj h).1)]; exact Ev.now _
theorem Ints_f (a b : List Int) (hm : a.length ≤ 9223372036854775806) : Ev (fun k => conclaveref09_Ints.f k a b) (decide (a = b)) := by
  unfold conclaveref09_Ints.f
  by_cases c : a.length = b.length
  · simp only [if_pos (show (a.length : Int) = (b.length : Int) by omega)]
    exact Ints_ev a b c hm a.length 0 (by omega)
  · simp only [if_neg (show ¬ (a.length : Int) = (b.length : Int) by omega)]
    rw [decide_eq_false (by rintro rfl; exact c rfl)]; exact Ev.now _
theorem Same9_self (n : Int) (ops : List OpS) (outs : List Int) (hm : ops.length ≤ 9223372036854775806) (ho : outs.length ≤ 9223372036854775806) : Ev (fun k => conclaveref09_Same.f k n ops outs n ops outs) true := by
  have hl : ∀ (d i : Nat), i + d = ops.length → Ev (fun k => conclaveref09_Same.l0 k (i : Int) n ops outs n ops outs) true := by
    intro d
    induction d with
    | zero =>
      intro i hi
      refine Ev.step (f := fun k => (conclaveref09_Ints.f k outs outs).bind fun t => some t) (fun k => ?_) (Ev.bind (f := fun _ t => some t) (a := true) ?_ (Ev.now _))
      · simp only [conclaveref09_Same.l0]; rw [if_neg (by omega)]
      · have := Ints_f outs outs ho; rwa [decide_eq_true rfl] at this
    | succ d ih =>
      intro i hi
      have e1 : wrap64 ((i : Int) + 1) = ((i + 1 : Nat) : Int) := by rw [w64 (by omega) (by omega)]; rfl
      refine Ev.step (f := fun k => conclaveref09_Same.l0 k ((i + 1 : Nat) : Int) n ops outs n ops outs) (fun k => ?_) (ih (i + 1) (by omega))
      simp only [conclaveref09_Same.l0]; rw [if_pos (by omega), if_pos (by omega), if_pos (by omega), if_neg (by simp), e1]
  unfold conclaveref09_Same.f
  simp only [if_true]
  refine Ev.step (f := fun k => conclaveref09_Same.l0 k 0 n ops outs n ops outs) (fun k => ?_) (hl ops.length 0 (by omega))
  simp only [conclaveref09_Same.j0, bne_self_eq_false, Bool.false_eq_true, if_false]
end Go.Proofs.Ytjgojlnnphkefaa.Plain
end
section
namespace Go.Proofs.Ytjgojlnnphkefaa.Plain
open Go.RowKit Go.Proofs Go.Proofs.Ytjgojlnnphkefaa.P Go.Proofs.YtjgojlnnphkefaaW.PrintWords Go.Proofs.YtjgojlnnphkefaaW.PrintLast Go.Proofs.YtjgojlnnphkefaaW.PrintMore
set_option linter.unusedVariables false
set_option linter.unusedSimpArgs false
def rowG {α : Type} (L : Nat) (g : Nat → α) : List α := (List.range L).map g
def put {α : Type} (g : Nat → α) (i : Nat) (v : α) : Nat → α := fun j => if j = i then v else g j
theorem put_same {α : Type} (g : Nat → α) (i : Nat) (v : α) : put g i v i = v := by simp [put]
theorem put_ne {α : Type} (g : Nat → α) {i j : Nat} (v : α) (h : j ≠ i) : put g i v j = g j := by simp [put, h]
theorem rowG_len {α : Type} (L : Nat) (g : Nat → α) : (rowG L g).length = L := by simp [rowG]
theorem rowG_rep {α : Type} (L : Nat) (z : α) : List.replicate L z = rowG L fun _ => z := by
  apply List.ext_getElem <;> simp [rowG]
theorem rowG_set {α : Type} (L : Nat) (g : Nat → α) (i : Nat) (v : α) : (rowG L g).set i v = rowG L (put g i v) := by
  apply List.ext_getElem
  · simp [rowG]
  · intro j h1 h2
    simp only [rowG, List.getElem_set, List.getElem_map, List.getElem_range, put]
    by_cases c : i = j
    · rw [if_pos c, if_pos c.symm]
    · rw [if_neg c, if_neg (Ne.symm c)]
theorem rowG_rdOf {α : Type} (d : α) {L : Nat} (g : Nat → α) {i : Int} (h0 : 0 ≤ i) (h1 : i < L) : rdOf d (rowG L g) i = g i.toNat := by
  have : i.toNat < L := by omega
  simp [rdOf, rowG, List.getD_eq_getElem?_getD, this]
theorem rowG_rd {L : Nat} (g : Nat → Int) {i : Int} (h0 : 0 ≤ i) (h1 : i < L) : rd (rowG L g) i = g i.toNat := by
  have : i.toNat < L := by omega
  simp [rd, rowG, List.getD_eq_getElem?_getD, this]
def stepM (n : Int) (v : Nat) (o : OpS) (f : Nat → Bool) : Nat → Bool := if f v = true then (if o.f0 = 4 then f else put (put f o.f1.toNat true) o.f2.toNat true) else f
def downM (n : Int) (ops : List OpS) : Nat → (Nat → Bool) → Nat → Bool
  | 0, f => f
  | i + 1, f => downM n ops i (stepM n (n.toNat + i) (rdO ops (i : Int)) f)
def outM : List Int → (Nat → Bool) → Nat → Bool
  | [], f => f
  | v :: l, f => outM l (put f v.toNat true)
def marksM (n : Int) (ops : List OpS) (outs : List Int) : Nat → Bool := downM n ops ops.length (outM outs fun _ => false)
section
variable {n : Int} {ops : List OpS} {outs : List Int}
theorem MayP.args (h : MayP n ops outs) {i : Nat} (hi : i < ops.length) (hk : (rdO ops (i : Int)).f0 ≠ 4) : 0 ≤ (rdO ops (i : Int)).f1 ∧ (rdO ops (i : Int)).f1 < n + (i : Int) ∧ 0 ≤ (rdO ops (i : Int)).f2 ∧ (rdO ops (i : Int)).f2 < n + (i : Int) := by
  rw [rdO_at hi] at hk ⊢
  exact okO_args (h.op i hi) hk
theorem downM_high (h : MayP n ops outs) : ∀ (i : Nat), i ≤ ops.length → ∀ (f : Nat → Bool) (x : Nat), n.toNat + i ≤ x + 1 → downM n ops i f x = f x := by
  intro i
  induction i with
  | zero => intro _ f x _; rfl
  | succ i ih =>
    intro hi f x hx
    simp only [downM]
    rw [ih (by omega) _ x (by omega)]
    unfold stepM
    by_cases c : f (n.toNat + i) = true
    · rw [if_pos c]
      by_cases c4 : (rdO ops (i : Int)).f0 = 4
      · rw [if_pos c4]
      · have ha := h.args (by omega) c4
        have := h.n0
        rw [if_neg c4, put_ne _ _ (by omega), put_ne _ _ (by omega)]
    · rw [if_neg c]
theorem stepM_mono (v : Nat) (o : OpS) (f : Nat → Bool) (x : Nat) (hx : f x = true) : stepM n v o f x = true := by
  unfold stepM
  split
  · split
    · exact hx
    · unfold put
      split
      · rfl
      · split
        · rfl
        · exact hx
  · exact hx
theorem downM_mono : ∀ (i : Nat) (f : Nat → Bool) (x : Nat), f x = true → downM n ops i f x = true := by
  intro i
  induction i with
  | zero => intro f x hx; exact hx
  | succ i ih => intro f x hx; exact ih _ x (stepM_mono _ _ f x hx)
theorem downM_closed (h : MayP n ops outs) : ∀ (i : Nat), i ≤ ops.length → ∀ (f : Nat → Bool) (j : Nat), j < i → downM n ops i f (n.toNat + j) = true → (rdO ops (j : Int)).f0 ≠ 4 →
    downM n ops i f (rdO ops (j : Int)).f1.toNat = true ∧ downM n ops i f (rdO ops (j : Int)).f2.toNat = true := by
  intro i
  induction i with
  | zero => intro _ f j hj; omega
  | succ i ih =>
    intro hi f j hj hm hk
    simp only [downM] at hm ⊢
    by_cases c : j = i
    · subst c
      rw [downM_high h j (by omega) _ _ (by omega)] at hm
      have hf : f (n.toNat + j) = true := by
        by_cases cf : f (n.toNat + j) = true
        · exact cf
        · unfold stepM at hm; rw [if_neg cf] at hm; exact absurd hm cf
      constructor
      · refine downM_mono j _ _ ?_
        unfold stepM
        rw [if_pos hf, if_neg hk]
        unfold put
        split
        · rfl
        · rw [if_pos rfl]
      · refine downM_mono j _ _ ?_
        unfold stepM
        rw [if_pos hf, if_neg hk, put_same]
    · exact ih (by omega) _ j (by omega) hm hk
theorem outM_mono : ∀ (l : List Int) (f : Nat → Bool) (x : Nat), f x = true → outM l f x = true := by
  intro l
  induction l with
  | nil => intro f x hx; exact hx
  | cons v l ih =>
    intro f x hx
    refine ih _ x ?_
    unfold put
    split
    · rfl
    · exact hx
theorem outM_in : ∀ (l : List Int) (f : Nat → Bool) (v : Int), v ∈ l → outM l f v.toNat = true := by
  intro l
  induction l with
  | nil => intro f v hv; simp at hv
  | cons u l ih =>
    intro f v hv
    rcases List.mem_cons.1 hv with rfl | hv
    · exact outM_mono l _ _ (put_same _ _ _)
    · exact ih _ v hv
theorem marksM_out (v : Int) (hv : v ∈ outs) : marksM n ops outs v.toNat = true := downM_mono _ _ _ (outM_in outs _ v hv)
theorem marksM_closed (h : MayP n ops outs) {j : Nat} (hj : j < ops.length) (hm : marksM n ops outs (n.toNat + j) = true) (hk : (rdO ops (j : Int)).f0 ≠ 4) :
    marksM n ops outs (rdO ops (j : Int)).f1.toNat = true ∧ marksM n ops outs (rdO ops (j : Int)).f2.toNat = true := downM_closed h _ (Nat.le_refl _) _ j hj hm hk
theorem downG {F : Nat → List Bool → Int → Option (List Bool)} (h : MayP n ops outs) (L : Nat) (hL : n + (ops.length : Int) ≤ L) (hL2 : L ≤ 1000)
    (hF : ∀ k m i, F (k + 1) m i = if i ≥ 0 then (if 0 ≤ i then (if i < (ops.length : Int) then (if 0 ≤ (wrap64 (n + i)) then (if (wrap64 (n + i)) < (m.length : Int) then (if rdOf false m (wrap64 (n + i)) = true then (if (rdO ops i).f0 = 4 then (F k m (wrap64 (i - 1))) else (if 0 ≤ (rdO ops i).f1 then (if (rdO ops i).f1 < (m.length : Int) then (if 0 ≤ (rdO ops i).f2 then (if (rdO ops i).f2 < (m.length : Int) then (F k ((m.set ((rdO ops i).f1 : Int).toNat true).set ((rdO ops i).f2 : Int).toNat true) (wrap64 (i - 1))) else (none)) else (none)) else (none)) else (none))) else (F k m (wrap64 (i - 1)))) else (none)) else (none)) else (none)) else (none)) else (some m)) :
    ∀ (i : Nat), i ≤ ops.length → ∀ f : Nat → Bool, Ev (fun k => F k (rowG L f) ((i : Int) - 1)) (rowG L (downM n ops i f)) := by
  have hn := h.n0
  have hn1 := h.n1
  have hl := h.len
  intro i
  induction i with
  | zero =>
    intro _ f
    refine Ev.step (f := fun _ => some (rowG L f)) (fun k => ?_) (Ev.now _)
    rw [hF, if_neg (by omega)]
  | succ i ih =>
    intro hi f
    have e0 : ((i + 1 : Nat) : Int) - 1 = (i : Int) := by omega
    have ew : wrap64 (n + (i : Int)) = n + (i : Int) := w64 (by omega) (by omega)
    have ew2 : wrap64 ((i : Int) - 1) = (i : Int) - 1 := w64 (by omega) (by omega)
    have en : (n + (i : Int)).toNat = n.toNat + i := by omega
    rw [e0]
    refine Ev.step (f := fun k => F k (rowG L (stepM n (n.toNat + i) (rdO ops (i : Int)) f)) ((i : Int) - 1)) (fun k => ?_) (ih (by omega) _)
    rw [hF, if_pos (by omega), if_pos (by omega), if_pos (by omega), ew, ew2, if_pos (by omega), rowG_len, if_pos (by omega), rowG_rdOf false f (by omega) (by omega), en]
    unfold stepM
    by_cases c : f (n.toNat + i) = true
    · rw [if_pos c, if_pos c]
      by_cases c4 : (rdO ops (i : Int)).f0 = 4
      · rw [if_pos c4, if_pos c4]
      · have ha := h.args (by omega) c4
        rw [if_neg c4, if_neg c4, if_pos ha.1, if_pos (by omega), if_pos ha.2.2.1, if_pos (by omega), rowG_set, rowG_set]
    · rw [if_neg c, if_neg c]
theorem pMarks_l0 (h : MayP n ops outs) (r : List Bool) : ∀ (d i : Nat), i + d = outs.length → ∀ f : Nat → Bool, Ev (fun k => degree_marks.l1 k (rowG 320 (outM (outs.drop i) f)) ((ops.length : Int) - 1) n ops outs) r →
    Ev (fun k => degree_marks.l0 k (rowG 320 f) outs (outs.length : Int) (i : Int) n ops outs) r := by
  have hn := h.n0
  have hn1 := h.n1
  have hl := h.len
  have ho := h.olen
  intro d
  induction d with
  | zero =>
    intro i hi f hr
    rw [List.drop_eq_nil_of_le (by omega)] at hr
    refine Ev.step (f := fun k => degree_marks.l1 k (rowG 320 f) ((ops.length : Int) - 1) n ops outs) (fun k => ?_) hr
    simp only [degree_marks.l0]
    rw [if_neg (by omega), w64 (by omega) (by omega)]
  | succ d ih =>
    intro i hi f hr
    have e1 : wrap64 ((i : Int) + 1) = ((i + 1 : Nat) : Int) := by rw [w64 (by omega) (by omega)]; rfl
    rw [drop_at (l := outs) (by omega)] at hr
    have hv := h.out (rd outs (i : Int)) (by rw [rd_at (by omega)]; exact List.getElem_mem _)
    refine Ev.step (f := fun k => degree_marks.l0 k (rowG 320 (put f (rd outs (i : Int)).toNat true)) outs (outs.length : Int) ((i + 1 : Nat) : Int) n ops outs) (fun k => ?_) (ih (i + 1) (by omega) _ hr)
    simp only [degree_marks.l0]
    rw [if_pos (by omega), if_pos (by omega), if_pos (by omega), if_pos hv.1, rowG_len, if_pos (by omega), rowG_set, e1]
theorem pMarks_f (h : MayP n ops outs) : Ev (fun k => degree_marks.f k n ops outs) (rowG 320 (marksM n ops outs)) := by
  have hn := h.n0
  have hn1 := h.n1
  have hl := h.len
  unfold degree_marks.f
  simp only [if_pos (show (320 : Nat) ≤ 281474976710656 by omega), rowG_rep]
  refine pMarks_l0 h _ outs.length 0 (by omega) _ ?_
  rw [List.drop_zero]
  exact downG (F := fun k m i => degree_marks.l1 k m i n ops outs) h 320 (by omega) (by omega) (fun k m i => by simp only [degree_marks.l1]) ops.length (Nat.le_refl _) _
def usesL (f : Nat → Bool) : Nat → List Int
  | 0 => []
  | i + 1 => if f i = true then usesL f i ++ [(i : Int)] else usesL f i
theorem usesL_len (f : Nat → Bool) : ∀ i, (usesL f i).length ≤ i := by
  intro i
  induction i with
  | zero => simp [usesL]
  | succ i ih =>
    simp only [usesL]
    split
    · rw [List.length_append, List.length_singleton]; omega
    · omega
theorem usesG {F : Nat → List Int → Int → Option (List Int × Int)} (h : MayP n ops outs) (L : Nat) (hL : n ≤ L) (f : Nat → Bool)
    (hF : ∀ k l i, F (k + 1) l i = if i < n then (if 0 ≤ i then (if i < ((rowG L f).length : Int) then (if rdOf false (rowG L f) i = true then (if l.length < 17592186044416 then (F k (l ++ [i]) (wrap64 (i + 1))) else (none)) else (F k l (wrap64 (i + 1)))) else (none)) else (none)) else (some (l, 0))) :
    ∀ (d i : Nat), ((i + d : Nat) : Int) = n → Ev (fun k => F k (usesL f i) (i : Int)) (usesL f n.toNat, 0) := by
  have hn1 := h.n1
  intro d
  induction d with
  | zero =>
    intro i hi
    have : n.toNat = i := by omega
    rw [this]
    refine Ev.step (f := fun _ => some (usesL f i, 0)) (fun k => ?_) (Ev.now _)
    rw [hF, if_neg (by omega)]
  | succ d ih =>
    intro i hi
    have e1 : wrap64 ((i : Int) + 1) = ((i + 1 : Nat) : Int) := by rw [w64 (by omega) (by omega)]; rfl
    refine Ev.step (f := fun k => F k (usesL f (i + 1)) ((i + 1 : Nat) : Int)) (fun k => ?_) (ih (i + 1) (by omega))
    have hul := usesL_len f i
    rw [hF, if_pos (by omega), if_pos (by omega), rowG_len, if_pos (by omega), rowG_rdOf false f (by omega) (by omega), Int.toNat_natCast, e1]
    simp only [usesL]
    by_cases c : f i = true
    · rw [if_pos c, if_pos c, if_pos (by omega)]
    · rw [if_neg c, if_neg c]
theorem pUses_f (h : MayP n ops outs) : Ev (fun k => degree_Uses.f k n ops outs) (usesL (marksM n ops outs) n.toNat, 0) := by
  have hn := h.n0
  have hn1 := h.n1
  unfold degree_Uses.f
  have hm := slpMay_f n ops outs
  rw [may_iff.2 h] at hm
  refine Ev.bind (f := fun k t => _) hm ?_
  simp only [if_true]
  refine Ev.bind (f := fun k t => _) (pMarks_f h) ?_
  exact usesG (F := fun k l i => degree_Uses.l0 k (rowG 320 (marksM n ops outs)) l n i) h 320 (by omega) _ (fun k l i => by simp only [degree_Uses.l0]) n.toNat 0 (by omega)
end
end Go.Proofs.Ytjgojlnnphkefaa.Plain
end
section
namespace Go.Proofs.Ytjgojlnnphkefaa.Plain
open Go.RowKit Go.Proofs Go.Proofs.Ytjgojlnnphkefaa.P Go.Proofs.YtjgojlnnphkefaaW.PrintWords Go.Proofs.YtjgojlnnphkefaaW.PrintLast Go.Proofs.YtjgojlnnphkefaaW.PrintMore
set_option linter.unusedVariables false
set_option linter.unusedSimpArgs false
def kept (n : Int) (f : Nat → Bool) : Nat → Nat
  | 0 => 0
  | i + 1 => if f (n.toNat + i) = true then kept n f i + 1 else kept n f i
def posT (n : Int) (f : Nat → Bool) (v : Nat) : Int := if v < n.toNat then (v : Int) else n + (kept n f (v - n.toNat) : Int)
def reO (n : Int) (f : Nat → Bool) (o : OpS) : OpS := if o.f0 = 4 then o else ⟨o.f0, posT n f o.f1.toNat, posT n f o.f2.toNat, o.f3⟩
def outT (n : Int) (f : Nat → Bool) (ops : List OpS) : Nat → List OpS
  | 0 => []
  | i + 1 => if f (n.toNat + i) = true then outT n f ops i ++ [reO n f (rdO ops (i : Int))] else outT n f ops i
def outsT (n : Int) (f : Nat → Bool) (outs : List Int) : List Int := outs.map fun v => posT n f v.toNat
theorem outT_len (n : Int) (f : Nat → Bool) (ops : List OpS) : ∀ i, (outT n f ops i).length = kept n f i := by
  intro i
  induction i with
  | zero => rfl
  | succ i ih => simp only [outT, kept]; split <;> simp [ih]
theorem kept_le (n : Int) (f : Nat → Bool) : ∀ i, kept n f i ≤ i := by
  intro i
  induction i with
  | zero => exact Nat.le_refl _
  | succ i ih => simp only [kept]; split <;> omega
def Told (n : Int) (f : Nat → Bool) (i : Nat) (a : Nat → Int) : Prop := ∀ v, v < n.toNat + i → (v < n.toNat ∨ f v = true) → a v = posT n f v
section
variable {n : Int} {ops : List OpS} {outs : List Int}
theorem Told.step {f : Nat → Bool} {i : Nat} {a : Nat → Int} (h : Told n f i a) (hf : f (n.toNat + i) = true) : Told n f (i + 1) (put a (n.toNat + i) (n + (kept n f i : Int))) := by
  intro v hv hm
  by_cases c : v = n.toNat + i
  · subst c
    rw [put_same]; unfold posT
    rw [if_neg (by omega), show n.toNat + i - n.toNat = i by omega]
  · rw [put_ne _ _ c]; exact h v (by omega) hm
theorem Told.skip {f : Nat → Bool} {i : Nat} {a : Nat → Int} (h : Told n f i a) (hf : f (n.toNat + i) ≠ true) (x : Int) : Told n f (i + 1) (put a (n.toNat + i) x) := by
  intro v hv hm
  by_cases c : v = n.toNat + i
  · subst c; rcases hm with hm | hm
    · omega
    · exact absurd hm hf
  · rw [put_ne _ _ c]; exact h v (by omega) hm
theorem Told.pass {f : Nat → Bool} {i : Nat} {a : Nat → Int} (h : Told n f i a) (hf : f (n.toNat + i) ≠ true) : Told n f (i + 1) a := by
  intro v hv hm
  by_cases c : v = n.toNat + i
  · subst c; rcases hm with hm | hm
    · omega
    · exact absurd hm hf
  · exact h v (by omega) hm
theorem args_told (h : MayP n ops outs) {i : Nat} (hi : i < ops.length) (hf : marksM n ops outs (n.toNat + i) = true) (hk : (rdO ops (i : Int)).f0 ≠ 4) {a : Nat → Int} (ha : Told n (marksM n ops outs) i a) :
    a (rdO ops (i : Int)).f1.toNat = posT n (marksM n ops outs) (rdO ops (i : Int)).f1.toNat ∧ a (rdO ops (i : Int)).f2.toNat = posT n (marksM n ops outs) (rdO ops (i : Int)).f2.toNat := by
  have hb := h.args hi hk
  have hc := marksM_closed h hi hf hk
  have hn := h.n0
  exact ⟨ha _ (by omega) (Or.inr hc.1), ha _ (by omega) (Or.inr hc.2)⟩
theorem pTrim_l2 (h : MayP n ops outs) (f : Nat → Bool) (a : Nat → Int) (ha : ∀ v ∈ outs, a v.toNat = posT n f v.toNat) (O : List OpS) : ∀ (d i : Nat), i + d = outs.length →
    Ev (fun k => degree_Trim.l2 k (rowG 320 a) outs (outs.length : Int) (i : Int) n O (outsT n f (outs.take i))) (n, O, outsT n f outs, 0) := by
  have hn := h.n0
  have hn1 := h.n1
  have hl := h.len
  have ho := h.olen
  intro d
  induction d with
  | zero =>
    intro i hi
    refine Ev.step (f := fun _ => some (n, O, outsT n f (outs.take i), 0)) (fun k => ?_) ?_
    · simp only [degree_Trim.l2]; rw [if_neg (by omega)]
    · rw [List.take_of_length_le (by omega)]; exact Ev.now _
  | succ d ih =>
    intro i hi
    have e1 : wrap64 ((i : Int) + 1) = ((i + 1 : Nat) : Int) := by rw [w64 (by omega) (by omega)]; rfl
    have hin : rd outs (i : Int) ∈ outs := by rw [rd_at (by omega)]; exact List.getElem_mem _
    have hv := h.out _ hin
    have hl2 : (outsT n f (outs.take i)).length < 17592186044416 := by unfold outsT; rw [List.length_map, List.length_take]; omega
    refine Ev.step (f := fun k => degree_Trim.l2 k (rowG 320 a) outs (outs.length : Int) ((i + 1 : Nat) : Int) n O (outsT n f (outs.take (i + 1)))) (fun k => ?_) (ih (i + 1) (by omega))
    simp only [degree_Trim.l2]
    rw [if_pos (by omega), if_pos (by omega), if_pos (by omega), if_pos hv.1, rowG_len, if_pos (by omega), if_pos hl2, rowG_rd a hv.1 (by omega), ha _ hin, e1]
    rw [List.take_succ_eq_append_getElem (by omega : i < outs.length)]
    unfold outsT
    rw [List.map_append, ← rd_at]
    rfl
theorem pTrim_l1 (h : MayP n ops outs) : ∀ (d i : Nat), i + d = ops.length → ∀ a : Nat → Int, Told n (marksM n ops outs) i a →
    Ev (fun k => degree_Trim.l1 k (rowG 320 (marksM n ops outs)) (rowG 320 a) ops (ops.length : Int) (i : Int) n ops outs n (outT n (marksM n ops outs) ops i)) (n, outT n (marksM n ops outs) ops ops.length, outsT n (marksM n ops outs) outs, 0) := by
  have hn := h.n0
  have hn1 := h.n1
  have hl := h.len
  intro d
  induction d with
  | zero =>
    intro i hi a ha
    obtain rfl : i = ops.length := by omega
    refine Ev.step (f := fun k => degree_Trim.l2 k (rowG 320 a) outs (outs.length : Int) 0 n (outT n (marksM n ops outs) ops ops.length) ([] : List Int)) (fun k => ?_) (pTrim_l2 h (marksM n ops outs) a (fun v hv => ?_) _ outs.length 0 (by omega))
    · simp only [degree_Trim.l1]; rw [if_neg (by omega)]
    · have hv' := h.out v hv
      exact ha v.toNat (by omega) (Or.inr (marksM_out v hv))
  | succ d ih =>
    intro i hi a ha
    have ew : wrap64 (n + (i : Int)) = n + (i : Int) := w64 (by omega) (by omega)
    have en : (n + (i : Int)).toNat = n.toNat + i := by omega
    have e1 : wrap64 ((i : Int) + 1) = ((i + 1 : Nat) : Int) := by rw [w64 (by omega) (by omega)]; rfl
    have hk := kept_le n (marksM n ops outs) i
    have hlen : (outT n (marksM n ops outs) ops i).length = kept n (marksM n ops outs) i := outT_len _ _ _ _
    have ek : wrap64 (n + ((outT n (marksM n ops outs) ops i).length : Int)) = n + (kept n (marksM n ops outs) i : Int) := by rw [hlen]; exact w64 (by omega) (by omega)
    by_cases c : marksM n ops outs (n.toNat + i) = true
    · refine Ev.step (f := fun k => degree_Trim.l1 k (rowG 320 (marksM n ops outs)) (rowG 320 (put a (n.toNat + i) (n + (kept n (marksM n ops outs) i : Int)))) ops (ops.length : Int) ((i + 1 : Nat) : Int) n ops outs n (outT n (marksM n ops outs) ops (i + 1))) (fun k => ?_) (ih (i + 1) (by omega) _ (ha.step c))
      simp only [degree_Trim.l1]
      rw [if_pos (by omega), if_pos (by omega), if_pos (by omega), ew, if_pos (by omega), rowG_len, if_pos (by omega), rowG_rdOf false _ (by omega) (by omega), en, if_pos c, ek, e1, rowG_len, rowG_set]
      simp only [outT, if_pos c]
      by_cases c4 : (rdO ops (i : Int)).f0 = 4
      · rw [if_pos c4, if_pos (by omega), if_pos (by omega)]
        unfold reO
        rw [if_pos c4]
      · have hb : 0 ≤ (rd_T93 ops (i : Int)).f1 ∧ (rd_T93 ops (i : Int)).f1 < n + (i : Int) ∧ 0 ≤ (rd_T93 ops (i : Int)).f2 ∧ (rd_T93 ops (i : Int)).f2 < n + (i : Int) := h.args (by omega) c4
        have hat := args_told h (by omega) c c4 ha
        rw [if_neg c4, if_pos hb.1, if_pos (by omega), if_pos hb.2.2.1, if_pos (by omega), if_pos (by omega), if_pos (by omega)]
        rw [rowG_rd a hb.1 (by omega), rowG_rd a hb.2.2.1 (by omega), hat.1, hat.2]
        unfold reO
        rw [if_neg c4]
    · refine Ev.step (f := fun k => degree_Trim.l1 k (rowG 320 (marksM n ops outs)) (rowG 320 a) ops (ops.length : Int) ((i + 1 : Nat) : Int) n ops outs n (outT n (marksM n ops outs) ops (i + 1))) (fun k => ?_) (ih (i + 1) (by omega) _ (ha.pass c))
      simp only [degree_Trim.l1]
      rw [if_pos (by omega), if_pos (by omega), if_pos (by omega), ew, if_pos (by omega), rowG_len, if_pos (by omega), rowG_rdOf false _ (by omega) (by omega), en, if_neg c, e1]
      simp only [outT, if_neg c]
theorem pTrim_l0 (h : MayP n ops outs) : ∀ (d i : Nat), ((i + d : Nat) : Int) = n → ∀ a : Nat → Int, (∀ v, v < i → a v = (v : Int)) →
    Ev (fun k => degree_Trim.l0 k (rowG 320 (marksM n ops outs)) (rowG 320 a) n (i : Int) n ops outs) (n, outT n (marksM n ops outs) ops ops.length, outsT n (marksM n ops outs) outs, 0) := by
  have hn := h.n0
  have hn1 := h.n1
  have hl := h.len
  intro d
  induction d with
  | zero =>
    intro i hi a ha
    refine Ev.step (f := fun k => degree_Trim.l1 k (rowG 320 (marksM n ops outs)) (rowG 320 a) ops (ops.length : Int) 0 n ops outs n ([] : List OpS)) (fun k => ?_) (pTrim_l1 h ops.length 0 (by omega) a (fun v hv hm => ?_))
    · simp only [degree_Trim.l0]; rw [if_neg (by omega)]
    · unfold posT; rw [if_pos (by omega)]; exact ha v (by omega)
  | succ d ih =>
    intro i hi a ha
    have e1 : wrap64 ((i : Int) + 1) = ((i + 1 : Nat) : Int) := by rw [w64 (by omega) (by omega)]; rfl
    refine Ev.step (f := fun k => degree_Trim.l0 k (rowG 320 (marksM n ops outs)) (rowG 320 (put a i (i : Int))) n ((i + 1 : Nat) : Int) n ops outs) (fun k => ?_) (ih (i + 1) (by omega) _ (fun v hv => ?_))
    · simp only [degree_Trim.l0]; rw [if_pos (by omega), if_pos (by omega), rowG_len, if_pos (by omega), e1, rowG_set, Int.toNat_natCast]
    · by_cases c : v = i
      · subst c; exact put_same _ _ _
      · rw [put_ne _ _ c]; exact ha v (by omega)
theorem pTrimD_f (h : MayP n ops outs) : Ev (fun k => degree_Trim.f k n ops outs) (n, outT n (marksM n ops outs) ops ops.length, outsT n (marksM n ops outs) outs, 0) := by
  have hn := h.n0
  unfold degree_Trim.f
  have hm := slpMay_f n ops outs
  rw [may_iff.2 h] at hm
  refine Ev.bind (f := fun k t => _) hm ?_
  simp only [if_true]
  refine Ev.bind (f := fun k t => _) (pMarks_f h) ?_
  simp only [if_pos (show (320 : Nat) ≤ 35184372088832 by omega), rowG_rep]
  exact pTrim_l0 h n.toNat 0 (by omega) _ (fun v hv => by omega)
end
end Go.Proofs.Ytjgojlnnphkefaa.Plain
end
section
namespace Go.Proofs.Ytjgojlnnphkefaa.Plain
open Go.RowKit Go.Proofs Go.Proofs.Ytjgojlnnphkefaa.P Go.Proofs.YtjgojlnnphkefaaW.PrintWords Go.Proofs.YtjgojlnnphkefaaW.PrintLast Go.Proofs.YtjgojlnnphkefaaW.PrintMore
set_option linter.unusedVariables false
set_option linter.unusedSimpArgs false
def ruleV (o : OpS) (l : List Int) : Int := if o.f0 = 1 ∨ o.f0 = 2 then mx (rd l o.f1) (rd l o.f2) else if o.f0 = 3 then mn (rd l o.f1 + rd l o.f2) 1025 else 0
def degL (n : Int) (ops : List OpS) : Nat → List Int
  | 0 => List.replicate n.toNat 1
  | i + 1 => degL n ops i ++ [ruleV (rdO ops (i : Int)) (degL n ops i)]
theorem degL_len (n : Int) (ops : List OpS) (i : Nat) : (degL n ops i).length = n.toNat + i := by
  induction i with
  | zero => simp [degL]
  | succ i ih => simp [degL, ih]; omega
def Cap (l : List Int) : Prop := ∀ x ∈ l, 0 ≤ x ∧ x ≤ 1025
theorem rd_cap {l : List Int} (h : Cap l) (i : Int) : 0 ≤ rd l i ∧ rd l i ≤ 1025 := by
  unfold rd
  rw [List.getD_eq_getElem?_getD]
  cases e : l[i.toNat]? with
  | none => simp
  | some x => simpa using h x (List.mem_of_getElem? e)
theorem ruleV_cap (o : OpS) {l : List Int} (h : Cap l) : 0 ≤ ruleV o l ∧ ruleV o l ≤ 1025 := by
  have h1 := rd_cap h o.f1
  have h2 := rd_cap h o.f2
  unfold ruleV mx mn
  split
  · split <;> omega
  · split
    · split <;> omega
    · omega
theorem degL_cap (n : Int) (ops : List OpS) (i : Nat) : Cap (degL n ops i) := by
  induction i with
  | zero => intro x hx; have := List.eq_of_mem_replicate hx; omega
  | succ i ih =>
    intro x hx
    rcases List.mem_append.1 hx with hx | hx
    · exact ih x hx
    · rw [List.mem_singleton.1 hx]; exact ruleV_cap _ ih
theorem rd_left {l m : List Int} {i : Int} (h0 : 0 ≤ i) (h1 : i < l.length) : rd (l ++ m) i = rd l i := by
  unfold rd
  rw [List.getD_eq_getElem?_getD, List.getD_eq_getElem?_getD, List.getElem?_append_left (by omega)]
theorem rd_last (l : List Int) (x : Int) : rd (l ++ [x]) (l.length : Int) = x := by
  unfold rd
  rw [List.getD_eq_getElem?_getD, Int.toNat_natCast, List.getElem?_append_right (Nat.le_refl _)]
  simp
theorem degL_mono (n : Int) (ops : List OpS) {i j : Nat} (hij : i ≤ j) {v : Int} (h0 : 0 ≤ v) (h1 : v < n.toNat + i) : rd (degL n ops j) v = rd (degL n ops i) v := by
  induction j with
  | zero => obtain rfl : i = 0 := by omega
            rfl
  | succ j ih =>
    by_cases c : i = j + 1
    · subst c; rfl
    · simp only [degL]
      rw [rd_left h0 (by rw [degL_len]; omega), ih (by omega)]
theorem degL_op (n : Int) (h0 : 0 ≤ n) (ops : List OpS) {i j : Nat} (hij : i < j) : rd (degL n ops j) (n + (i : Int)) = ruleV (rdO ops (i : Int)) (degL n ops i) := by
  rw [degL_mono n ops (i := i + 1) (by omega) (by omega) (by omega)]
  simp only [degL]
  have := rd_last (degL n ops i) (ruleV (rdO ops (i : Int)) (degL n ops i))
  rw [degL_len, show ((n.toNat + i : Nat) : Int) = n + (i : Int) by omega] at this
  exact this
theorem degL_in (n : Int) (h0 : 0 ≤ n) (ops : List OpS) (j : Nat) {v : Int} (hv : 0 ≤ v) (h1 : v < n) : rd (degL n ops j) v = 1 := by
  rw [degL_mono n ops (i := 0) (by omega) hv (by omega)]
  simp only [degL, rd]
  rw [List.getD_eq_getElem?_getD, List.getElem?_replicate, if_pos (by omega)]
  rfl
section
variable {n : Int} {ops : List OpS} {outs : List Int}
theorem okO_kind {m : Int} {o : OpS} (h : okO m o = true) : o.f0 = 1 ∨ o.f0 = 2 ∨ o.f0 = 3 ∨ o.f0 = 4 := by
  unfold okO at h
  by_cases c : o.f0 = 1 ∨ o.f0 = 2 ∨ o.f0 = 3
  · omega
  · rw [if_neg c] at h
    simp only [Bool.and_eq_true, decide_eq_true_eq] at h
    omega
theorem MayP.kind (h : MayP n ops outs) {i : Nat} (hi : i < ops.length) : (rdO ops (i : Int)).f0 = 1 ∨ (rdO ops (i : Int)).f0 = 2 ∨ (rdO ops (i : Int)).f0 = 3 ∨ (rdO ops (i : Int)).f0 = 4 := by
  rw [rdO_at hi]
  exact okO_kind (h.op i hi)
theorem Repeat_f (n : Nat) (hn : n ≤ 1000) : Ev (fun k => slices_Repeat_int_int.f k [1] (n : Int)) (List.replicate n 1) := by
  have hl : ∀ (d i : Nat), i + d = n → Ev (fun k => slices_Repeat_int_int.l0 k [1] (List.replicate i 1 ++ List.replicate (n - i) 0) (n : Int) (i : Int)) (List.replicate n 1) := by
    intro d
    induction d with
    | zero =>
      intro i hi
      obtain rfl : i = n := by omega
      refine Ev.step (f := fun _ => some (List.replicate i 1)) (fun k => ?_) (Ev.now _)
      simp only [slices_Repeat_int_int.l0]; rw [if_neg (by omega), Nat.sub_self]; simp
    | succ d ih =>
      intro i hi
      have e1 : wrap64 ((i : Int) + 1) = ((i + 1 : Nat) : Int) := by rw [w64 (by omega) (by omega)]; rfl
      have hset : (List.replicate i (1 : Int) ++ List.replicate (n - i) 0).set i (rd [1] 0) = List.replicate (i + 1) (1 : Int) ++ List.replicate (n - (i + 1)) 0 := by
        rw [List.set_append_right _ _ (by simp)]
        simp only [List.length_replicate, Nat.sub_self]
        rw [show n - i = (n - (i + 1)) + 1 by omega, List.replicate_succ, List.set_cons_zero, List.replicate_succ', List.append_assoc]; rfl
      refine Ev.step (f := fun k => slices_Repeat_int_int.l0 k [1] (List.replicate (i + 1) 1 ++ List.replicate (n - (i + 1)) 0) (n : Int) ((i + 1 : Nat) : Int)) (fun k => ?_) (ih (i + 1) (by omega))
      simp only [slices_Repeat_int_int.l0]
      rw [if_pos (by omega), if_pos (by simp), if_pos (by omega), if_pos (by simp; omega), Int.toNat_natCast, e1, hset]
  unfold slices_Repeat_int_int.f
  have e0 : wrap64 ((([1] : List Int).length : Int) - 1) = 0 := by rw [w64 (by simp) (by simp)]; rfl
  simp only [if_pos (show (1 : Nat) ≤ 35184372088832 by omega), e0, if_pos (show (0 : Int) ≤ 0 by omega), List.length_replicate, if_pos (show (0 : Int) < ((1 : Nat) : Int) by omega), if_pos (show (0 : Int) ≤ (n : Int) by omega), Int.toNat_natCast, if_pos (show n ≤ 35184372088832 by omega), Option.bind_some]
  have h := hl n 0 (by omega)
  simpa using h
theorem rule_v {o : OpS} (hk : o.f0 = 1 ∨ o.f0 = 2 ∨ o.f0 = 3) {l : List Int} (h : Cap l) : degree_rule.f o.f0 (rd l o.f1) (rd l o.f2) = some (ruleV o l) := by
  have h1 := rd_cap h o.f1
  have h2 := rd_cap h o.f2
  unfold degree_rule.f ruleV
  rcases hk with c | c | c
  · rw [if_pos c, if_pos (Or.inl c)]
  · rw [if_neg (by omega), if_pos c, if_pos (Or.inr c)]
  · rw [if_neg (by omega), if_neg (by omega), if_pos c, if_neg (by omega), if_pos c, w64 (by omega) (by omega)]
theorem rule_4 {o : OpS} (hk : o.f0 = 4) (l : List Int) : degree_rule.f o.f0 0 0 = some (ruleV o l) := by
  unfold degree_rule.f ruleV
  rw [if_neg (by omega), if_neg (by omega), if_neg (by omega), if_pos hk, if_neg (by omega), if_neg (by omega)]
theorem pAll_l0 (h : MayP n ops outs) : ∀ (d i : Nat), i + d = ops.length → Ev (fun k => degree_all.l0 k (degL n ops i) ops (ops.length : Int) (i : Int)) (degL n ops ops.length) := by
  have hn := h.n0
  have hn1 := h.n1
  have hl := h.len
  intro d
  induction d with
  | zero =>
    intro i hi
    obtain rfl : i = ops.length := by omega
    refine Ev.step (f := fun _ => some (degL n ops ops.length)) (fun k => ?_) (Ev.now _)
    simp only [degree_all.l0]; rw [if_neg (by omega)]
  | succ d ih =>
    intro i hi
    have e1 : wrap64 ((i : Int) + 1) = ((i + 1 : Nat) : Int) := by rw [w64 (by omega) (by omega)]; rfl
    have hc := degL_cap n ops i
    have hlen := degL_len n ops i
    have hk := h.kind (i := i) (by omega)
    refine Ev.step (f := fun k => degree_all.l0 k (degL n ops (i + 1)) ops (ops.length : Int) ((i + 1 : Nat) : Int)) (fun k => ?_) (ih (i + 1) (by omega))
    simp only [degree_all.l0]
    rw [if_pos (by omega), if_pos (by omega), if_pos (by omega), e1]
    by_cases c4 : (rdO ops (i : Int)).f0 = 4
    · rw [if_pos c4, rule_4 c4 (degL n ops i), Option.bind_some, if_pos (by omega)]
      rfl
    · have hb : 0 ≤ (rd_T93 ops (i : Int)).f1 ∧ (rd_T93 ops (i : Int)).f1 < n + (i : Int) ∧ 0 ≤ (rd_T93 ops (i : Int)).f2 ∧ (rd_T93 ops (i : Int)).f2 < n + (i : Int) := h.args (by omega) c4
      rw [if_neg c4, if_pos hb.1, if_pos (by omega), if_pos hb.2.2.1, if_pos (by omega), rule_v (o := rdO ops (i : Int)) (by omega) hc, Option.bind_some, if_pos (by omega)]
      rfl
theorem pAll_f (h : MayP n ops outs) : Ev (fun k => degree_all.f k n ops outs) (degL n ops ops.length) := by
  have hn := h.n0
  have hn1 := h.n1
  unfold degree_all.f
  have hr := Repeat_f n.toNat (by omega)
  rw [show ((n.toNat : Nat) : Int) = n by omega] at hr
  exact Ev.bind (f := fun k t => degree_all.l0 k t ops (ops.length : Int) 0) hr (pAll_l0 h ops.length 0 (by omega))
def mostO (l : List Int) : List Int → Int → Int
  | [], m => m
  | v :: t, m => mostO l t (mx m (rd l v))
def ofR (m : Int) : Int × Int := if m > 1024 then (0, 4) else (m, 0)
theorem pOf_l0 (h : MayP n ops outs) (l : List Int) (hc : Cap l) (hl : (l.length : Int) = n + (ops.length : Int)) : ∀ (d i : Nat), i + d = outs.length → ∀ m : Int, 0 ≤ m → m ≤ 1025 → Ev (fun k => degree_Of.l0 k l m outs (outs.length : Int) (i : Int)) (ofR (mostO l (outs.drop i) m)) := by
  have ho := h.olen
  intro d
  induction d with
  | zero =>
    intro i hi m h0 h1
    rw [List.drop_eq_nil_of_le (by omega)]
    refine Ev.step (f := fun _ => some (ofR m)) (fun k => ?_) (Ev.now _)
    simp only [degree_Of.l0]; rw [if_neg (by omega)]
    unfold ofR
    by_cases c : m = 1025
    · rw [if_pos c, if_pos (by omega)]
    · rw [if_neg c, if_neg (by omega)]
  | succ d ih =>
    intro i hi m h0 h1
    have e1 : wrap64 ((i : Int) + 1) = ((i + 1 : Nat) : Int) := by rw [w64 (by omega) (by omega)]; rfl
    have hv := h.out (rd outs (i : Int)) (by rw [rd_at (by omega)]; exact List.getElem_mem _)
    have hx := rd_cap hc (rd outs (i : Int))
    rw [drop_at (l := outs) (by omega)]
    refine Ev.step (f := fun k => degree_Of.l0 k l (mx m (rd l (rd outs (i : Int)))) outs (outs.length : Int) ((i + 1 : Nat) : Int)) (fun k => ?_) (ih (i + 1) (by omega) _ (by unfold mx; split <;> omega) (by unfold mx; split <;> omega))
    simp only [degree_Of.l0]; rw [if_pos (by omega), if_pos (by omega), if_pos (by omega), if_pos hv.1, if_pos (by omega), e1]
def ofM (n : Int) (ops : List OpS) (outs : List Int) : Int := mostO (degL n ops ops.length) outs 0
theorem degL_lenI (h : MayP n ops outs) : ((degL n ops ops.length).length : Int) = n + (ops.length : Int) := by
  rw [degL_len]; have := h.n0; omega
theorem pOf_f (h : MayP n ops outs) : Ev (fun k => degree_Of.f k n ops outs) (ofR (ofM n ops outs)) := by
  unfold degree_Of.f
  have hm := slpMay_f n ops outs
  rw [may_iff.2 h] at hm
  refine Ev.bind (f := fun k t => _) hm ?_
  simp only [if_true]
  refine Ev.bind (f := fun k t => _) (pAll_f h) ?_
  have := pOf_l0 h _ (degL_cap n ops ops.length) (degL_lenI h) outs.length 0 (by omega) 0 (by omega) (by omega)
  rw [List.drop_zero] at this
  exact this
end
theorem anchored10_k : conclavelaw10_anchored.f 40 = some true := by decide +kernel
theorem anchored10_f : Ev (fun k => conclavelaw10_anchored.f k) true := Ev.of (fun k => conclavelaw10_anchored.mono k) anchored10_k
end Go.Proofs.Ytjgojlnnphkefaa.Plain
end
section
namespace Go.Proofs.Ytjgojlnnphkefaa.Plain
open Go.RowKit Go.Proofs Go.Proofs.Ytjgojlnnphkefaa.P Go.Proofs.YtjgojlnnphkefaaW.PrintWords Go.Proofs.YtjgojlnnphkefaaW.PrintLast Go.Proofs.YtjgojlnnphkefaaW.PrintMore
set_option linter.unusedVariables false
set_option linter.unusedSimpArgs false
section
variable {n : Int} {ops : List OpS} {outs : List Int}
theorem downM_min (h : MayP n ops outs) (S : Nat → Prop) (hS : ∀ j, j < ops.length → S (n.toNat + j) → (rdO ops (j : Int)).f0 ≠ 4 → S (rdO ops (j : Int)).f1.toNat ∧ S (rdO ops (j : Int)).f2.toNat) :
    ∀ (i : Nat), i ≤ ops.length → ∀ f : Nat → Bool, (∀ x, f x = true → S x) → ∀ x, downM n ops i f x = true → S x := by
  intro i
  induction i with
  | zero => intro _ f hf x hx; exact hf x hx
  | succ i ih =>
    intro hi f hf x hx
    refine ih (by omega) _ (fun y hy => ?_) x hx
    unfold stepM at hy
    by_cases c : f (n.toNat + i) = true
    · rw [if_pos c] at hy
      by_cases c4 : (rdO ops (i : Int)).f0 = 4
      · rw [if_pos c4] at hy; exact hf y hy
      · rw [if_neg c4] at hy
        have hc := hS i (by omega) (hf _ c) c4
        by_cases e2 : y = (rdO ops (i : Int)).f2.toNat
        · subst e2; exact hc.2
        · rw [put_ne _ _ e2] at hy
          by_cases e1 : y = (rdO ops (i : Int)).f1.toNat
          · subst e1; exact hc.1
          · rw [put_ne _ _ e1] at hy; exact hf y hy
    · rw [if_neg c] at hy; exact hf y hy
theorem outM_min (S : Nat → Prop) : ∀ (l : List Int) (f : Nat → Bool), (∀ x, f x = true → S x) → (∀ v ∈ l, S v.toNat) → ∀ x, outM l f x = true → S x := by
  intro l
  induction l with
  | nil => intro f hf _ x hx; exact hf x hx
  | cons v l ih =>
    intro f hf hl x hx
    refine ih _ (fun y hy => ?_) (fun u hu => hl u (List.mem_cons_of_mem _ hu)) x hx
    by_cases e : y = v.toNat
    · subst e; exact hl v List.mem_cons_self
    · rw [put_ne _ _ e] at hy; exact hf y hy
theorem marksM_min (h : MayP n ops outs) (S : Nat → Prop) (hout : ∀ v ∈ outs, S v.toNat) (hS : ∀ j, j < ops.length → S (n.toNat + j) → (rdO ops (j : Int)).f0 ≠ 4 → S (rdO ops (j : Int)).f1.toNat ∧ S (rdO ops (j : Int)).f2.toNat) :
    ∀ x, marksM n ops outs x = true → S x :=
  downM_min h S hS _ (Nat.le_refl _) _ (outM_min S outs _ (fun x hx => by simp at hx) hout)
theorem outT_at (f : Nat → Bool) : ∀ (i j : Nat), j < i → f (n.toNat + j) = true → rdO (outT n f ops i) ((kept n f j : Nat) : Int) = reO n f (rdO ops (j : Int)) := by
  intro i
  induction i with
  | zero => intro j hj; omega
  | succ i ih =>
    intro j hj hf
    by_cases c : j = i
    · subst c
      have hlen := outT_len n f ops j
      simp only [outT, if_pos hf]
      rw [rdO_at (by rw [List.length_append, hlen]; simp)]
      rw [List.getElem_append_right (by omega)]
      simp [hlen]
    · have hlt : kept n f j < (outT n f ops i).length := by
        rw [outT_len]
        have : ∀ m, j < m → kept n f j < kept n f m := by
          intro m
          induction m with
          | zero => intro hm; omega
          | succ m ihm =>
            intro hm
            simp only [kept]
            by_cases e : j = m
            · subst e; rw [if_pos hf]; omega
            · have := ihm (by omega)
              split <;> omega
        exact this i (by omega)
      have h1 := ih j (by omega) hf
      simp only [outT]
      split
      · rw [rdO_at (by rw [List.length_append]; omega), List.getElem_append_left hlt, ← rdO_at hlt]; exact h1
      · exact h1
theorem kept_lt (f : Nat → Bool) {j : Nat} (hf : f (n.toNat + j) = true) : ∀ m, j < m → kept n f j < kept n f m := by
  intro m
  induction m with
  | zero => intro hm; omega
  | succ m ihm =>
    intro hm
    simp only [kept]
    by_cases e : j = m
    · subst e; rw [if_pos hf]; omega
    · have := ihm (by omega)
      split <;> omega
theorem kept_onto (f : Nat → Bool) : ∀ (i w : Nat), w < kept n f i → ∃ j, j < i ∧ f (n.toNat + j) = true ∧ kept n f j = w := by
  intro i
  induction i with
  | zero => intro w hw; simp [kept] at hw
  | succ i ih =>
    intro w hw
    simp only [kept] at hw
    by_cases c : f (n.toNat + i) = true
    · rw [if_pos c] at hw
      by_cases e : w = kept n f i
      · exact ⟨i, by omega, c, e.symm⟩
      · obtain ⟨j, h1, h2, h3⟩ := ih w (by omega)
        exact ⟨j, by omega, h2, h3⟩
    · rw [if_neg c] at hw
      obtain ⟨j, h1, h2, h3⟩ := ih w hw
      exact ⟨j, by omega, h2, h3⟩
abbrev mk (n : Int) (ops : List OpS) (outs : List Int) := marksM n ops outs
abbrev opsT (n : Int) (ops : List OpS) (outs : List Int) := outT n (marksM n ops outs) ops ops.length
abbrev outsT' (n : Int) (ops : List OpS) (outs : List Int) := outsT n (marksM n ops outs) outs
theorem posT_lt (h : MayP n ops outs) (f : Nat → Bool) {v : Nat} {i : Nat} (hv : v < n.toNat + i) (hf : v < n.toNat ∨ f v = true) : 0 ≤ posT n f v ∧ posT n f v < n + (kept n f i : Int) := by
  have hn := h.n0
  unfold posT
  by_cases c : v < n.toNat
  · rw [if_pos c]; omega
  · rw [if_neg c]
    have hf2 : f (n.toNat + (v - n.toNat)) = true := by rw [show n.toNat + (v - n.toNat) = v by omega]; exact hf.resolve_left c
    have := kept_lt (n := n) f hf2 i (by omega)
    omega
theorem Trim_may (h : MayP n ops outs) : MayP n (opsT n ops outs) (outsT' n ops outs) := by
  have hn := h.n0
  have hl := h.len
  have hk := kept_le n (marksM n ops outs) ops.length
  refine ⟨h.n0, h.n1, by rw [outT_len]; omega, by unfold outsT' outsT; rw [List.length_map]; exact h.olen, fun w hw => ?_, fun v hv => ?_⟩
  · rw [← rdO_at hw]
    rw [outT_len] at hw
    obtain ⟨j, h1, h2, h3⟩ := kept_onto (marksM n ops outs) _ w hw
    subst h3
    rw [outT_at (marksM n ops outs) ops.length j h1 h2]
    have ho := h.op j h1
    rw [← rdO_at h1] at ho
    unfold reO
    by_cases c4 : (rdO ops (j : Int)).f0 = 4
    · rw [if_pos c4]
      unfold okO at ho ⊢
      rw [if_neg (by omega)] at ho ⊢
      exact ho
    · rw [if_neg c4]
      have hb := h.args h1 c4
      have hc := marksM_closed h h1 h2 c4
      have hkd := h.kind h1
      have ha1 := posT_lt h (marksM n ops outs) (v := (rdO ops (j : Int)).f1.toNat) (i := j) (by omega) (Or.inr hc.1)
      have ha2 := posT_lt h (marksM n ops outs) (v := (rdO ops (j : Int)).f2.toNat) (i := j) (by omega) (Or.inr hc.2)
      have h3 : (rdO ops (j : Int)).f3 = 0 := by
        unfold okO at ho
        rw [if_pos (by omega)] at ho
        simp only [Bool.and_eq_true, decide_eq_true_eq] at ho
        exact ho.2
      unfold okO
      rw [if_pos (show (rdO ops (j : Int)).f0 = 1 ∨ (rdO ops (j : Int)).f0 = 2 ∨ (rdO ops (j : Int)).f0 = 3 by omega)]
      simp only [Bool.and_eq_true, decide_eq_true_eq]
      exact ⟨⟨⟨⟨ha1.1, ha1.2⟩, ha2.1⟩, ha2.2⟩, h3⟩
  · unfold outsT' outsT at hv
    obtain ⟨u, hu, rfl⟩ := List.mem_map.1 hv
    have hb := h.out u hu
    have := posT_lt h (marksM n ops outs) (v := u.toNat) (i := ops.length) (by omega) (Or.inr (marksM_out u hu))
    rw [outT_len]; exact this
theorem Trim_marks (h : MayP n ops outs) (w : Nat) : marksM n (opsT n ops outs) (outsT' n ops outs) w = true ↔ ∃ v, v < n.toNat + ops.length ∧ marksM n ops outs v = true ∧ (posT n (marksM n ops outs) v).toNat = w := by
  have ht := Trim_may h
  have hn := h.n0
  constructor
  · refine marksM_min ht (fun w => ∃ v, v < n.toNat + ops.length ∧ marksM n ops outs v = true ∧ (posT n (marksM n ops outs) v).toNat = w) (fun v hv => ?_) (fun j hj hS hk => ?_) w
    · unfold outsT' outsT at hv
      obtain ⟨u, hu, rfl⟩ := List.mem_map.1 hv
      have hb := h.out u hu
      exact ⟨u.toNat, by omega, marksM_out u hu, rfl⟩
    · rw [outT_len] at hj
      obtain ⟨i, h1, h2, h3⟩ := kept_onto (marksM n ops outs) _ j hj
      subst h3
      rw [outT_at (marksM n ops outs) ops.length i h1 h2] at hk ⊢
      unfold reO at hk ⊢
      by_cases c4 : (rdO ops (i : Int)).f0 = 4
      · rw [if_pos c4] at hk; exact absurd c4 hk
      · rw [if_neg c4]
        have hb := h.args h1 c4
        have hc := marksM_closed h h1 h2 c4
        exact ⟨⟨_, by omega, hc.1, rfl⟩, ⟨_, by omega, hc.2, rfl⟩⟩
  · rintro ⟨v, hv, hm, rfl⟩
    have hmin := marksM_min h (fun v => v < n.toNat + ops.length → marksM n ops outs v = true → marksM n (opsT n ops outs) (outsT' n ops outs) (posT n (marksM n ops outs) v).toNat = true)
    refine (marksM_min h (fun v => marksM n ops outs v = true ∧ marksM n (opsT n ops outs) (outsT' n ops outs) (posT n (marksM n ops outs) v).toNat = true) (fun u hu => ⟨marksM_out u hu, ?_⟩) (fun j hj hS hk => ?_) v hm).2
    · exact marksM_out _ (List.mem_map_of_mem hu)
    · obtain ⟨h1, h2⟩ := hS
      have hc := marksM_closed h hj h1 hk
      have hlt := kept_lt (n := n) (marksM n ops outs) h1 ops.length hj
      have e1 : (posT n (marksM n ops outs) (n.toNat + j)).toNat = n.toNat + kept n (marksM n ops outs) j := by
        unfold posT; rw [if_neg (by omega), show n.toNat + j - n.toNat = j by omega]; omega
      rw [e1] at h2
      have hcl := marksM_closed ht (j := kept n (marksM n ops outs) j) (by rw [outT_len]; exact hlt) h2
      rw [outT_at (marksM n ops outs) ops.length j hj h1] at hcl
      unfold reO at hcl
      rw [if_neg hk] at hcl
      have := hcl hk
      exact ⟨⟨hc.1, this.1⟩, ⟨hc.2, this.2⟩⟩
theorem Trim_marks_in (h : MayP n ops outs) {w : Nat} (hw : w < n.toNat) : marksM n (opsT n ops outs) (outsT' n ops outs) w = marksM n ops outs w := by
  have hn := h.n0
  have h1 := Trim_marks h w
  have h2 : (∃ v, v < n.toNat + ops.length ∧ marksM n ops outs v = true ∧ (posT n (marksM n ops outs) v).toNat = w) ↔ marksM n ops outs w = true := by
    constructor
    · rintro ⟨v, hv, hm, rfl⟩
      have : v < n.toNat := by
        unfold posT at hw
        by_cases c : v < n.toNat
        · exact c
        · rw [if_neg c] at hw; omega
      have e : (posT n (marksM n ops outs) v).toNat = v := by unfold posT; rw [if_pos this]; omega
      rw [e]; exact hm
    · intro hm
      exact ⟨w, by omega, hm, by unfold posT; rw [if_pos hw]; omega⟩
  rw [h2] at h1
  cases a : marksM n (opsT n ops outs) (outsT' n ops outs) w <;> cases b : marksM n ops outs w <;> simp_all
theorem Trim_marks_op (h : MayP n ops outs) {j : Nat} (hj : j < (opsT n ops outs).length) : marksM n (opsT n ops outs) (outsT' n ops outs) (n.toNat + j) = true := by
  have hn := h.n0
  rw [Trim_marks h]
  rw [outT_len] at hj
  obtain ⟨i, h1, h2, h3⟩ := kept_onto (marksM n ops outs) _ j hj
  refine ⟨n.toNat + i, by omega, h2, ?_⟩
  unfold posT
  rw [if_neg (by omega), show n.toNat + i - n.toNat = i by omega, h3]; omega
theorem all_kept {f : Nat → Bool} {ops : List OpS} (hf : ∀ j, j < ops.length → f (n.toNat + j) = true) : ∀ i, i ≤ ops.length → kept n f i = i := by
  intro i
  induction i with
  | zero => intro _; rfl
  | succ i ih => intro hi; simp only [kept, if_pos (hf i (by omega)), ih (by omega)]
theorem all_pos (h0 : 0 ≤ n) {f : Nat → Bool} {ops : List OpS} (hf : ∀ j, j < ops.length → f (n.toNat + j) = true) {v : Nat} (hv : v < n.toNat + ops.length) : posT n f v = (v : Int) := by
  unfold posT
  by_cases c : v < n.toNat
  · rw [if_pos c]
  · rw [if_neg c, all_kept hf _ (by omega)]; omega
theorem all_outT (h : MayP n ops outs) {f : Nat → Bool} (hf : ∀ j, j < ops.length → f (n.toNat + j) = true) : ∀ i, i ≤ ops.length → outT n f ops i = ops.take i := by
  have hn := h.n0
  intro i
  induction i with
  | zero => intro _; rfl
  | succ i ih =>
    intro hi
    simp only [outT, if_pos (hf i (by omega))]
    rw [ih (by omega), List.take_succ_eq_append_getElem (by omega : i < ops.length), ← rdO_at (by omega)]
    congr 2
    unfold reO
    by_cases c4 : (rdO ops (i : Int)).f0 = 4
    · rw [if_pos c4]
    · have hb := h.args (i := i) (by omega) c4
      rw [if_neg c4, all_pos hn hf (by omega), all_pos hn hf (by omega)]
      have e1 : (((rdO ops (i : Int)).f1.toNat : Nat) : Int) = (rdO ops (i : Int)).f1 := by omega
      have e2 : (((rdO ops (i : Int)).f2.toNat : Nat) : Int) = (rdO ops (i : Int)).f2 := by omega
      rw [e1, e2]
theorem all_outsT (h : MayP n ops outs) {f : Nat → Bool} (hf : ∀ j, j < ops.length → f (n.toNat + j) = true) : outsT n f outs = outs := by
  have hn := h.n0
  unfold outsT
  conv => rhs; rw [← List.map_id outs]
  refine List.map_congr_left fun v hv => ?_
  have hb := h.out v hv
  rw [all_pos hn hf (by omega)]
  simp only [id]; omega
theorem Trim_deg (h : MayP n ops outs) : ∀ (i : Nat), i ≤ ops.length → ∀ v : Nat, v < n.toNat + i → (v < n.toNat ∨ marksM n ops outs v = true) →
    rd (degL n (opsT n ops outs) (kept n (marksM n ops outs) i)) (posT n (marksM n ops outs) v) = rd (degL n ops i) (v : Int) := by
  have hn := h.n0
  intro i
  induction i with
  | zero =>
    intro _ v hv _
    have hv2 : v < n.toNat := by omega
    unfold posT
    rw [if_pos hv2, degL_in n hn _ _ (by omega) (by omega), degL_in n hn _ _ (by omega) (by omega)]
  | succ i ih =>
    intro hi v hv hm
    by_cases cv : v < n.toNat + i
    · have hp := posT_lt h (marksM n ops outs) cv hm
      have hkk : kept n (marksM n ops outs) i ≤ kept n (marksM n ops outs) (i + 1) := by simp only [kept]; split <;> omega
      rw [degL_mono n ops (i := i) (j := i + 1) (by omega) (by omega) (by omega), degL_mono n (opsT n ops outs) hkk hp.1 (by omega)]
      exact ih (by omega) v cv hm
    · obtain rfl : v = n.toNat + i := by omega
      have hf : marksM n ops outs (n.toNat + i) = true := hm.resolve_left (by omega)
      have e1 : posT n (marksM n ops outs) (n.toNat + i) = n + (kept n (marksM n ops outs) i : Int) := by unfold posT; rw [if_neg (by omega), show n.toNat + i - n.toNat = i by omega]
      have e2 : ((n.toNat + i : Nat) : Int) = n + (i : Int) := by omega
      have e3 : kept n (marksM n ops outs) (i + 1) = kept n (marksM n ops outs) i + 1 := by simp only [kept, if_pos hf]
      rw [e1, e2, e3, degL_op n hn _ (Nat.lt_succ_self _), degL_op n hn _ (Nat.lt_succ_self _), outT_at (marksM n ops outs) ops.length i (by omega) hf]
      unfold reO
      by_cases c4 : (rdO ops (i : Int)).f0 = 4
      · rw [if_pos c4]
        unfold ruleV
        rw [if_neg (by omega), if_neg (by omega), if_neg (by omega), if_neg (by omega)]
      · rw [if_neg c4]
        have hb := h.args (i := i) (by omega) c4
        have hc := marksM_closed h (by omega) hf c4
        have h1 := ih (by omega) (rdO ops (i : Int)).f1.toNat (by omega) (Or.inr hc.1)
        have h2 := ih (by omega) (rdO ops (i : Int)).f2.toNat (by omega) (Or.inr hc.2)
        have q1 : (((rdO ops (i : Int)).f1.toNat : Nat) : Int) = (rdO ops (i : Int)).f1 := by omega
        have q2 : (((rdO ops (i : Int)).f2.toNat : Nat) : Int) = (rdO ops (i : Int)).f2 := by omega
        rw [q1] at h1
        rw [q2] at h2
        unfold ruleV
        simp only [h1, h2]
theorem Trim_of (h : MayP n ops outs) : ofM n (opsT n ops outs) (outsT' n ops outs) = ofM n ops outs := by
  have hn := h.n0
  unfold ofM
  have key : ∀ (l : List Int), (∀ v ∈ l, v ∈ outs) → ∀ m, mostO (degL n (opsT n ops outs) (opsT n ops outs).length) (l.map fun v => posT n (marksM n ops outs) v.toNat) m = mostO (degL n ops ops.length) l m := by
    intro l
    induction l with
    | nil => intro _ m; rfl
    | cons v l ih =>
      intro hl m
      have hv := hl v List.mem_cons_self
      have hb := h.out v hv
      have hd := Trim_deg h ops.length (Nat.le_refl _) v.toNat (by omega) (Or.inr (marksM_out v hv))
      rw [show ((v.toNat : Nat) : Int) = v by omega] at hd
      simp only [List.map_cons, mostO]
      rw [outT_len] at ih ⊢
      rw [hd]
      exact ih (fun u hu => hl u (List.mem_cons_of_mem _ hu)) _
  exact key outs (fun v hv => hv) 0
theorem usesL_congr {f g : Nat → Bool} : ∀ i, (∀ j, j < i → f j = g j) → usesL f i = usesL g i := by
  intro i
  induction i with
  | zero => intro _; rfl
  | succ i ih => intro hfg; simp only [usesL]; rw [hfg i (by omega), ih fun j hj => hfg j (by omega)]
end
end Go.Proofs.Ytjgojlnnphkefaa.Plain
namespace Go.Proofs.Ytjgojlnnphkefaa.Pure
open Go.RowKit Go.Proofs.Ytjgojlnnphkefaa.P Go.Proofs.Ytjgojlnnphkefaa.Plain Go.Proofs.YtjgojlnnphkefaaW.PrintWords Go.Proofs.YtjgojlnnphkefaaW.PrintLast Go.Proofs.YtjgojlnnphkefaaW.PrintMore
set_option linter.unusedVariables false
set_option linter.unusedSimpArgs false
theorem DegreeStays : Form.DegreeStays.Pure := by
  intro n ops outs hn ho hu
  refine Ev.rounds ?_
  unfold conclavelaw10_DegreeStays.f
  by_cases c : mayB n ops outs = true
  · have h := may_iff.1 c
    have ht := Trim_may h
    have hall : ∀ j, j < (opsT n ops outs).length → marksM n (opsT n ops outs) (outsT' n ops outs) (n.toNat + j) = true := fun j hj => Trim_marks_op h hj
    have hm := rMay_f n ops outs
    rw [c] at hm
    have hm2 := rMay_f n (opsT n ops outs) (outsT' n ops outs)
    rw [may_iff.2 ht] at hm2
    have hT2 := pTrimD_f ht
    rw [all_outT ht hall _ (Nat.le_refl _), List.take_of_length_le (Nat.le_refl _), all_outsT ht hall] at hT2
    have hO2 := pOf_f ht
    rw [Trim_of h] at hO2
    have hU2 := pUses_f ht
    rw [usesL_congr (g := marksM n ops outs) n.toNat fun j hj => Trim_marks_in h hj] at hU2
    have hul := usesL_len (marksM n ops outs) n.toNat
    have hn1 := h.n1
    have hkl := kept_le n (marksM n ops outs) ops.length
    have hlen : (opsT n ops outs).length = kept n (marksM n ops outs) ops.length := outT_len _ _ _ _
    have hl := h.len
    have hol := h.olen
    refine Ev.bind (f := fun k t => _) (pTrimD_f h) ?_
    refine Ev.bind (f := fun k t => _) hm ?_
    simp only [if_true]
    refine Ev.bind (f := fun k t => _) hT2 ?_
    refine Ev.bind (f := fun k t => _) (pOf_f h) ?_
    refine Ev.bind (f := fun k t => _) hO2 ?_
    refine Ev.bind (f := fun k t => _) (pUses_f h) ?_
    refine Ev.bind (f := fun k t => _) hU2 ?_
    refine Ev.bind (f := fun k t => _) anchored10_f ?_
    simp only [if_true]
    refine Ev.bind (f := fun k t => _) hm2 ?_
    simp only [if_true]
    refine Ev.bind (f := fun k t => _) (Same9_self _ _ _ (by rw [outT_len]; omega) (by unfold outsT; rw [List.length_map]; omega)) ?_
    simp only [if_true]
    refine Ev.bind (f := fun k t => _) (Ints_f _ _ (by omega)) ?_
    simp only [decide_true, if_true]
    rw [decide_eq_true (show ((outT n (marksM n ops outs) ops ops.length).length : Int) ≤ (ops.length : Int) by rw [outT_len]; omega)]
    exact Ev.now _
  · have c : mayB n ops outs = false := by simpa using c
    have hm := rMay_f n ops outs
    rw [c] at hm
    have hT : Ev (fun k => degree_Trim.f k n ops outs) (0, [], [], 2) := by
      unfold degree_Trim.f
      have hs := slpMay_f n ops outs
      rw [c] at hs
      refine Ev.bind (f := fun k t => _) hs ?_
      simp only [Bool.false_eq_true, if_false]
      exact Ev.now _
    refine Ev.bind (f := fun k t => _) hT ?_
    refine Ev.bind (f := fun k t => _) hm ?_
    simp only [Bool.false_eq_true, if_false]
    refine Ev.bind (f := fun k t => _) anchored10_f ?_
    simp only [if_true, beq_self_eq_true]
    exact Ev.now _
end Go.Proofs.Ytjgojlnnphkefaa.Pure
end
section
namespace Go.Proofs.Ytjgojlnnphkefaa.degreeStays
open Go.ChangeShapes Go.WideShapes Go.ChangeAt Go.RowKit Go.Proofs.YtjgojlnnphkefaaW.PrintWords Go.Proofs.Ytjgojlnnphkefaa.P Go.Proofs.Ytjgojlnnphkefaa.Form.DegreeStays
set_option linter.unusedVariables false
theorem own : ownKnob Try.prog.godebug = none := by kernel_rfl
theorem laidOut : laidOutB Try.prog = true := by kernel_rfl
set_option maxRecDepth 100000 in
theorem lifted (os : Os) (started : os.Started) (H : Type) (enc : TypeId × Value → H) :
    ReturnsInHanded {} Try.checked os 10 .any (Rows.degreeStaysSpec.pre6 enc Try.prog Try.f10 Rows.degreeStaysRow.domain false) (Rows.degreeStaysSpec.post enc Try.prog Try.f10 false true false false) := by
  refine returnsInHanded_of_change_sized (C := Try.checked) own started (by kernel_rfl) Try.func10
    (ChangeSpec.witness6 (enc := enc) (C := Try.checked) false ⟨#[], #[.agg #[.int .i64 0, .slice none 0 0, .slice none 0 0]], []⟩ 8 (by kernel_rfl) (by kernel_rfl) (by kernel_rfl) (by kernel_rfl)) ?_
  intro W base args ds gs before hval0 hW hcnd hsz0 _
  have hsz : (DataW.weightsEach Try.prog (Try.f10.params.toList ++ Rows.degreeStaysSpec.plain.varTypes Try.prog) (ds ++ gs)).all (· ≤ reachBytes) = true := hsz0
  have hval : ∀ (j : Nat) t v, Try.f10.params[j]? = some t → args[j]? = some v → Value.okWide Try.prog W .any base t v := hval0
  have hW' := hW
  obtain ⟨p, q, hA0, hV, rfl, hfz, hnd⟩ := hW
  have hA : DataW.TrodAll enc Try.prog W 0 (fun _ => true) true Try.f10.params.toList args.toList ds p := hA0
  rw [Try.params10] at hA hval hsz
  obtain ⟨v0, vs0, d0, ds0, p0, q0, hargs, rfl, rfl, h0, r0⟩ := trodAll_cons hA
  obtain ⟨rfl, rfl, rfl⟩ := trodAll_nil r0
  obtain rfl : args = #[v0] := by cases args; simp_all
  obtain ⟨rfl, rfl⟩ := trodVars_none hV
  have k0_ := h0
  have lt0 : ∀ x ∈ p0, x.block < W.heap.size := by obtain ⟨m, hm⟩ := k0_; exact DataW.trod_lt m _ _ _ hm
  obtain ⟨z0, rfl, _⟩ := okWide_struct Try.underlying25 (hval 0 25 v0 rfl rfl)
  obtain ⟨⟨a0_0, l0_1, l0_2⟩, K0, ⟨F0_0, F0_1, F0_2⟩⟩ := Open.opens_at (Open.opens_struct Try.underlying25 (by kernel_rfl) (by kernel_rfl) (by kernel_rfl) (Open.opensL_cons (Open.opens_int Try.underlying3 (by kernel_rfl)) (Open.opensL_cons (Open.opens_slice (d := k93) Try.underlying22 (by kernel_rfl) (show 0 < 4 from by decide) (B := 32) (by kernel_rfl) opens93) (Open.opensL_one (Open.opens_slice (d := (Kd.int .i64)) Try.underlying23 (by kernel_rfl) (show 0 < 1 from by decide) (B := 8) (by kernel_rfl) (Open.opens_int Try.underlying3 (by kernel_rfl)))))) id id (fun _ => rfl)) h0 hsz (j := 0) rfl rfl
  have hz0 : ∀ cs : List Value, (z0.toList = cs) → z0 = cs.toArray := fun cs h => by rw [← h]
  obtain ⟨cs0, hcs0, K0'⟩ : ∃ cs, z0.toList = cs ∧ _ := ⟨_, rfl, K0⟩
  obtain ⟨_, _, rfl, rfl, ⟨_, _, rfl, ⟨A0_1, c0_1, rfl, hc0_1, hr0_1⟩, ⟨A0_2, c0_2, rfl, hc0_2, hr0_2⟩⟩⟩ := K0'
  obtain rfl := hz0 _ hcs0
  clear hA0 hval0 hsz0 hsz
  obtain ⟨k, h⟩ := Pure.DegreeStays _ _ _ F0_0 F0_1 F0_2
  refine (conclavelaw10_DegreeStays.calls k _ _ _ _ _ _ _ true W hr0_1 hc0_1 hr0_2 hc0_2 h rfl).mono fun e W' hee => ?_
  obtain ⟨he, bel⟩ := hee
  have bel : Below W.heap.size W W' := by first | exact bel | exact bel.below
  subst he
  exact ⟨_, rfl, _, _, _, [], _, [], hW', trodAll_mk1 (shut_bool Try.underlying4 _), (trodAll_cons_mk (Below.trod laidOut (by kernel_rfl) (of_decide_eq_true (by kernel_rfl)) k0_ bel lt0) trodAll_mk0), rfl, bel.frame _, fun h => by cases h⟩
theorem over : Rows.degreeStaysRow.holds Try.pinned (OpenSpec.ofChange Rows.degreeStaysSpec) :=
  OpenClaim.holds_of_wide 10 Try.f10 rfl rfl rfl rfl rfl rfl rfl ⟨rfl, rfl, rfl, rfl, rfl⟩ rfl rfl rfl rfl rfl (by kernel_rfl) Try.func10 (by kernel_rfl)
    (of_decide_eq_true (by kernel_rfl)) (by unfold Func.isWrapper; first | (rw [if_pos (by decide +kernel)]; kernel_rfl) | (rw [if_neg (by decide +kernel)]; exact ⟨rfl, rfl⟩))
    (fun os started H enc _ => lifted os started H enc)
theorem proved : Rows.DegreeStaysSaid := over
end Go.Proofs.Ytjgojlnnphkefaa.degreeStays
namespace Go.Proofs.Ytjgojlnnphkefaa
theorem degreeStays_holds : Rows.DegreeStaysSaid := degreeStays.proved
end Go.Proofs.Ytjgojlnnphkefaa
end
