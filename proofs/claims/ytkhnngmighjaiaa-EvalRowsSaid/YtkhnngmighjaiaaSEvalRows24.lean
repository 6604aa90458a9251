import Derived.Test.YtkhnngmighjaiaaSEvalRows21
import Derived.Test.YtkhnngmighjaiaaSEvalRows22
import Derived.Test.YtkhnngmighjaiaaSEvalRows23
import Derived.Test.YtkhnngmighjaiaaRows
import Derived.WalkKit
import Derived.ProofKit
import Derived.OpenShut
import Derived.ShutString
import Derived.ChangeOld
import Derived.Below
import Derived.SizedLaws
section
namespace Go.Proofs.Ytkhnngmighjaiaa.Plain
open Go.RowKit Go.Proofs Go.Proofs.Ytkhnngmighjaiaa.P Go.Proofs.Ytkhnngmighjaiaa.Mth Go.Proofs.YtkhnngmighjaiaaW.PrintWords Go.Proofs.YtkhnngmighjaiaaW.PrintLast Go.Proofs.YtkhnngmighjaiaaW.PrintMore
set_option linter.unusedVariables false
set_option linter.unusedSimpArgs false
set_option linter.unusedSectionVars false
def refR (f n : Int) : List (List Int) → Int → Int
  | [], e => e
  | l :: t, e => if inF f l = true then (if e = 0 then (if (l.length : Int) = n then refR f n t e else refR f n t 3) else refR f n t e) else refR f n t 2
def allF (f : Int) (rows : List (List Int)) : Bool := rows.all (inF f)
def allN (n : Int) (rows : List (List Int)) : Bool := rows.all fun l => decide ((l.length : Int) = n)
theorem allF_cons (f : Int) (l : List Int) (t : List (List Int)) : allF f (l :: t) = (inF f l && allF f t) := rfl
theorem allN_cons (n : Int) (l : List Int) (t : List (List Int)) : allN n (l :: t) = (decide ((l.length : Int) = n) && allN n t) := rfl
theorem mayR_is (f n : Int) : ∀ (rows : List (List Int)) (e : Int), mayR f n rows e = if allF f rows = true then (if allN n rows = true then e else 3) else 2 := by
  intro rows
  induction rows with
  | nil => intro e; rfl
  | cons l t ih =>
    intro e
    simp only [mayR]
    rw [allF_cons, allN_cons]
    by_cases c : inF f l = true
    rotate_left
    · rw [if_neg c, Bool.eq_false_iff.2 c]; simp
    · rw [if_pos c, c, Bool.true_and]
      by_cases c2 : (l.length : Int) = n
      · rw [if_pos c2, ih, decide_eq_true c2, Bool.true_and]
      · rw [if_neg c2, ih, decide_eq_false c2, Bool.false_and]
        simp
theorem refR_is (f n : Int) : ∀ (rows : List (List Int)) (e : Int), refR f n rows e = if allF f rows = true then (if e = 0 then (if allN n rows = true then 0 else 3) else e) else 2 := by
  intro rows
  induction rows with
  | nil => intro e; simp only [refR, allF, allN, List.all_nil, if_true]; by_cases c : e = 0
           · rw [if_pos c, c]
           · rw [if_neg c]
  | cons l t ih =>
    intro e
    simp only [refR]
    rw [allF_cons, allN_cons]
    by_cases c : inF f l = true
    rotate_left
    · rw [if_neg c, ih, Bool.eq_false_iff.2 c]; simp
    · rw [if_pos c, c, Bool.true_and]
      by_cases c1 : e = 0
      · rw [if_pos c1, if_pos c1]
        by_cases c2 : (l.length : Int) = n
        · rw [if_pos c2, ih, decide_eq_true c2, Bool.true_and, if_pos c1]
        · rw [if_neg c2, ih, decide_eq_false c2, Bool.false_and]
          simp
      · rw [if_neg c1, if_neg c1, ih, if_neg c1]
section
variable {f n : Int} {ops : List OpS} {outs : List Int}
def manyC (f n : Int) (ops : List OpS) (outs : List Int) (rows : List (List Int)) : Int := if (mayB n ops outs && isF f) = true then mayR f n rows 0 else 2
theorem manyC_zero {rows : List (List Int)} (h : manyC f n ops outs rows = 0) : MayP n ops outs ∧ isF f = true ∧ ∀ l ∈ rows, inF f l = true ∧ (l.length : Int) = n := by
  unfold manyC at h
  by_cases c : (mayB n ops outs && isF f) = true
  · rw [if_pos c, mayR_is] at h
    obtain ⟨c1, c2⟩ := Bool.and_eq_true_iff.1 c
    by_cases c3 : allF f rows = true
    · rw [if_pos c3] at h
      by_cases c4 : allN n rows = true
      · refine ⟨may_iff.1 c1, c2, fun l hl => ⟨?_, ?_⟩⟩
        · unfold allF at c3; exact List.all_eq_true.1 c3 l hl
        · unfold allN at c4; exact of_decide_eq_true (List.all_eq_true.1 c4 l hl)
      · rw [if_neg c4] at h; omega
    · rw [if_neg c3] at h; omega
  · rw [if_neg c] at h; omega
theorem eMany_l0 (G : List Int → List Int) (rows : List (List Int)) (hm : rows.length ≤ 4096) (hG : ∀ l ∈ rows, Ev (fun k => eval_Run.f k f n ops outs l) (G l, 0)) : ∀ (d i : Nat), i + d = rows.length →
    Ev (fun k => eval_Many.l0 k rows (rows.length : Int) (i : Int) ((rows.take i).map G) 0 f n ops outs) (rows.map G, 0) := by
  intro d
  induction d with
  | zero =>
    intro i hi
    rw [List.take_of_length_le (by omega)]
    refine Ev.step (f := fun _ => some (rows.map G, 0)) (fun k => ?_) (Ev.now _)
    simp only [eval_Many.l0]; rw [if_neg (by omega), if_pos trivial]
  | succ d ih =>
    intro i hi
    have e1 : wrap64 ((i : Int) + 1) = ((i + 1 : Nat) : Int) := by rw [w64 (by omega) (by omega)]; rfl
    have hl : ((rows.take i).map G).length < 5864062014805 := by rw [List.length_map, List.length_take]; omega
    have hr := hG (rd_L4 rows (i : Int)) (by rw [rowsAt (by omega)]; exact List.getElem_mem _)
    have hrec := ih (i + 1) (by omega)
    rw [List.take_succ_eq_append_getElem (by omega : i < rows.length), List.map_append, ← rowsAt (by omega : i < rows.length)] at hrec
    refine Ev.step (f := fun k => (eval_Run.f k f n ops outs (rd_L4 rows (i : Int))).bind fun bt => if ((rows.take i).map G).length < 5864062014805 then eval_Many.l0 k rows (rows.length : Int) ((i + 1 : Nat) : Int) ((rows.take i).map G ++ [bt.1]) bt.2 f n ops outs else none) (fun k => ?_) (Ev.bind (f := fun k (bt : List Int × Int) => if ((rows.take i).map G).length < 5864062014805 then eval_Many.l0 k rows (rows.length : Int) ((i + 1 : Nat) : Int) ((rows.take i).map G ++ [bt.1]) bt.2 f n ops outs else none) hr ?_)
    · simp only [eval_Many.l0]
      rw [if_pos (by omega), if_pos (by omega), if_pos (by omega), e1]
      simp only [if_true]
    · refine Ev.congr (fun k => ?_) hrec
      dsimp only
      rw [if_pos hl]
      rfl
theorem rMany_l1 (G : List Int → List Int) (rows : List (List Int)) (hm : rows.length ≤ 4096) (hG : ∀ l ∈ rows, Ev (fun k => conclaveref11_Run.f k f n ops outs l) (G l, 0)) : ∀ (d i : Nat), i + d = rows.length →
    Ev (fun k => conclaveref11_Many.l1 k f rows 0 ((rows.take i).map G) (i : Int) n ops outs) (rows.map G, 0) := by
  intro d
  induction d with
  | zero =>
    intro i hi
    rw [List.take_of_length_le (by omega)]
    refine Ev.step (f := fun _ => some (rows.map G, 0)) (fun k => ?_) (Ev.now _)
    simp only [conclaveref11_Many.l1]; rw [if_neg (by omega)]
  | succ d ih =>
    intro i hi
    have e1 : wrap64 ((i : Int) + 1) = ((i + 1 : Nat) : Int) := by rw [w64 (by omega) (by omega)]; rfl
    have hl : ((rows.take i).map G).length < 5864062014805 := by rw [List.length_map, List.length_take]; omega
    have hr := hG (rd_L4 rows (i : Int)) (by rw [rowsAt (by omega)]; exact List.getElem_mem _)
    have hrec := ih (i + 1) (by omega)
    rw [List.take_succ_eq_append_getElem (by omega : i < rows.length), List.map_append, ← rowsAt (by omega : i < rows.length)] at hrec
    refine Ev.step (f := fun k => (conclaveref11_Run.f k f n ops outs (rd_L4 rows (i : Int))).bind fun bt => if ((rows.take i).map G).length < 5864062014805 then conclaveref11_Many.l1 k f rows 0 ((rows.take i).map G ++ [bt.1]) ((i + 1 : Nat) : Int) n ops outs else none) (fun k => ?_) (Ev.bind (f := fun k (bt : List Int × Int) => if ((rows.take i).map G).length < 5864062014805 then conclaveref11_Many.l1 k f rows 0 ((rows.take i).map G ++ [bt.1]) ((i + 1 : Nat) : Int) n ops outs else none) hr ?_)
    · simp only [conclaveref11_Many.l1]
      rw [if_pos (by omega), if_pos trivial, if_pos (by omega), e1]
    · refine Ev.congr (fun k => ?_) hrec
      dsimp only
      rw [if_pos hl]
      rfl
theorem rMany_l0 (rows : List (List Int)) (hr : ∀ l ∈ rows, U64 l ∧ l.length ≤ 9223372036854775807) (hl : rows.length ≤ 9223372036854775806) {R : List (List Int) × Int} : ∀ (d i : Nat), i + d = rows.length → ∀ e : Int,
    Ev (fun k => if refR f n (rows.drop i) e = 0 then conclaveref11_Many.j3 k f rows (refR f n (rows.drop i) e) (decide ((rows.length : Int) > 4096)) n ops outs else conclaveref11_Many.j3 k f rows (refR f n (rows.drop i) e) false n ops outs) R → Ev (fun k => conclaveref11_Many.l0 k f rows e (i : Int) n ops outs) R := by
  intro d
  induction d with
  | zero =>
    intro i hi e h
    rw [List.drop_eq_nil_of_le (by omega)] at h
    refine Ev.step (f := fun k => _) (fun k => rfl) (Ev.congr (fun k => ?_) h)
    simp only [conclaveref11_Many.l0]; rw [if_neg (by omega)]; rfl
  | succ d ih =>
    intro i hi e h
    have e1 : wrap64 ((i : Int) + 1) = ((i + 1 : Nat) : Int) := by rw [w64 (by omega) (by omega)]; rfl
    obtain ⟨hu, hin⟩ := hr (rd_L4 rows (i : Int)) (by rw [rowsAt (by omega)]; exact List.getElem_mem _)
    rw [rowsDrop (by omega)] at h
    simp only [refR] at h
    have hI := rIn_f f (rd_L4 rows (i : Int)) hu hin
    have key : ∀ b : Bool, Ev (fun k => conclaveref01_In.f k f (rd_L4 rows (i : Int))) b → Ev (fun k => if b = true then (if e = 0 then (if ((rd_L4 rows (i : Int)).length : Int) = n then conclaveref11_Many.l0 k f rows e ((i + 1 : Nat) : Int) n ops outs else conclaveref11_Many.l0 k f rows 3 ((i + 1 : Nat) : Int) n ops outs) else conclaveref11_Many.l0 k f rows e ((i + 1 : Nat) : Int) n ops outs) else (if (2 : Nat) = 0 then (if ((rd_L4 rows (i : Int)).length : Int) = n then conclaveref11_Many.l0 k f rows 2 ((i + 1 : Nat) : Int) n ops outs else conclaveref11_Many.l0 k f rows 3 ((i + 1 : Nat) : Int) n ops outs) else conclaveref11_Many.l0 k f rows 2 ((i + 1 : Nat) : Int) n ops outs)) R → Ev (fun k => conclaveref11_Many.l0 k f rows e (i : Int) n ops outs) R := fun b hb hR => by
      refine Ev.step (f := fun k => (conclaveref01_In.f k f (rd_L4 rows (i : Int))).bind fun t => if t = true then (if e = 0 then (if ((rd_L4 rows (i : Int)).length : Int) = n then conclaveref11_Many.l0 k f rows e ((i + 1 : Nat) : Int) n ops outs else conclaveref11_Many.l0 k f rows 3 ((i + 1 : Nat) : Int) n ops outs) else conclaveref11_Many.l0 k f rows e ((i + 1 : Nat) : Int) n ops outs) else (if (2 : Nat) = 0 then (if ((rd_L4 rows (i : Int)).length : Int) = n then conclaveref11_Many.l0 k f rows 2 ((i + 1 : Nat) : Int) n ops outs else conclaveref11_Many.l0 k f rows 3 ((i + 1 : Nat) : Int) n ops outs) else conclaveref11_Many.l0 k f rows 2 ((i + 1 : Nat) : Int) n ops outs)) (fun k => ?_) (Ev.bind (f := fun k (t : Bool) => if t = true then (if e = 0 then (if ((rd_L4 rows (i : Int)).length : Int) = n then conclaveref11_Many.l0 k f rows e ((i + 1 : Nat) : Int) n ops outs else conclaveref11_Many.l0 k f rows 3 ((i + 1 : Nat) : Int) n ops outs) else conclaveref11_Many.l0 k f rows e ((i + 1 : Nat) : Int) n ops outs) else (if (2 : Nat) = 0 then (if ((rd_L4 rows (i : Int)).length : Int) = n then conclaveref11_Many.l0 k f rows 2 ((i + 1 : Nat) : Int) n ops outs else conclaveref11_Many.l0 k f rows 3 ((i + 1 : Nat) : Int) n ops outs) else conclaveref11_Many.l0 k f rows 2 ((i + 1 : Nat) : Int) n ops outs)) hb hR)
      show conclaveref11_Many.l0 (k + 1) f rows e (i : Int) n ops outs = _
      rw [conclaveref11_Many.l0, if_pos (by omega), if_pos (by omega), e1]
    by_cases c : inF f (rd_L4 rows (i : Int)) = true
    · rw [c] at hI
      simp only [if_pos c] at h
      refine key true hI (Ev.congr (fun k => if_pos rfl) ?_)
      by_cases c1 : e = 0
      · simp only [if_pos c1] at h ⊢
        by_cases c2 : ((rd_L4 rows (i : Int)).length : Int) = n
        · simp only [if_pos c2] at h ⊢
          exact ih (i + 1) (by omega) e h
        · simp only [if_neg c2] at h ⊢
          exact ih (i + 1) (by omega) 3 h
      · simp only [if_neg c1] at h ⊢
        exact ih (i + 1) (by omega) e h
    · rw [Bool.eq_false_iff.2 c] at hI
      simp only [if_neg c] at h
      exact key false hI (Ev.congr (fun k => (if_neg (by decide)).trans (if_neg (by decide))) (ih (i + 1) (by omega) 2 h))
theorem Many_bad (rows : List (List Int)) (hr : ∀ l ∈ rows, U64 l ∧ l.length ≤ 9223372036854775807) (hl : rows.length ≤ 9223372036854775806) (hc : ¬ (manyC f n ops outs rows = 0 ∧ rows.length ≤ 4096)) :
    ∃ e : Int, e ≠ 0 ∧ Ev (fun k => eval_Many.f k f n ops outs rows) ([], e) ∧ Ev (fun k => conclaveref11_Many.f k f n ops outs rows) ([], e) := by
  have j4 : ∀ e : Int, e ≠ 0 → Ev (fun k => conclaveref11_Many.j4 k f rows e n ops outs) ([], e) := fun e he => by
    refine Ev.step (f := fun k => conclaveref11_Many.l1 k f rows e [] 0 n ops outs) (fun k => by simp only [conclaveref11_Many.j4]) ?_
    refine Ev.step (f := fun _ => some ([], e)) (fun k => ?_) (Ev.now _)
    simp only [conclaveref11_Many.l1]
    by_cases c : (0 : Int) < (rows.length : Int)
    · rw [if_pos c, if_neg he]
    · rw [if_neg c]
  have j3f : ∀ e : Int, e ≠ 0 → Ev (fun k => conclaveref11_Many.j3 k f rows e false n ops outs) ([], e) := fun e he => Ev.step (f := fun k => conclaveref11_Many.j4 k f rows e n ops outs) (fun k => by simp only [conclaveref11_Many.j3, Bool.false_eq_true, if_false]) (j4 e he)
  have j3t : ∀ e : Int, Ev (fun k => conclaveref11_Many.j3 k f rows e true n ops outs) ([], 4) := fun e => Ev.step (f := fun k => conclaveref11_Many.j4 k f rows 4 n ops outs) (fun k => by simp only [conclaveref11_Many.j3, if_true]) (j4 4 (by decide))
  have j1 : ∀ e : Int, ∀ R, Ev (fun k => if refR f n rows e = 0 then conclaveref11_Many.j3 k f rows (refR f n rows e) (decide ((rows.length : Int) > 4096)) n ops outs else conclaveref11_Many.j3 k f rows (refR f n rows e) false n ops outs) R → Ev (fun k => conclaveref11_Many.j1 k f rows e n ops outs) R := fun e R h => by
    refine Ev.step (f := fun k => conclaveref11_Many.l0 k f rows e 0 n ops outs) (fun k => by simp only [conclaveref11_Many.j1]) ?_
    have := rMany_l0 (f := f) (n := n) (ops := ops) (outs := outs) rows hr hl rows.length 0 (by omega) e (R := R)
    rw [List.drop_zero] at this
    exact this h
  have j0t : Ev (fun k => conclaveref11_Many.j0 k f rows 0 true n ops outs) ([], 2) := by
    refine Ev.step (f := fun k => conclaveref11_Many.j1 k f rows 2 n ops outs) (fun k => by simp only [conclaveref11_Many.j0, if_true]) (j1 2 _ ?_)
    rw [refR_is, show (if allF f rows = true then (if (2 : Int) = 0 then (if allN n rows = true then (0 : Int) else 3) else 2) else 2) = 2 by simp]
    exact Ev.congr (fun k => if_neg (by decide)) (j3f 2 (by decide))
  by_cases c : (mayB n ops outs && isF f) = true
  · obtain ⟨c1, c2⟩ := Bool.and_eq_true_iff.1 c
    have j0f : ∀ R, Ev (fun k => if refR f n rows 0 = 0 then conclaveref11_Many.j3 k f rows (refR f n rows 0) (decide ((rows.length : Int) > 4096)) n ops outs else conclaveref11_Many.j3 k f rows (refR f n rows 0) false n ops outs) R → Ev (fun k => conclaveref11_Many.f k f n ops outs rows) R := fun R h => by
      unfold conclaveref11_Many.f
      have hm := rMay_f n ops outs
      rw [c1] at hm
      refine Ev.bind (f := fun k t => _) hm ?_
      simp only [if_true]
      have hI := rIn_f f [] (fun x hx => by simp at hx) (by simp)
      rw [inF_nil, c2] at hI
      refine Ev.bind (f := fun k t => _) hI ?_
      simp only [Bool.not_true]
      exact Ev.step (f := fun k => conclaveref11_Many.j1 k f rows 0 n ops outs) (fun k => by simp only [conclaveref11_Many.j0, Bool.false_eq_true, if_false]) (j1 0 R h)
    have hcm : manyC f n ops outs rows = refR f n rows 0 := by unfold manyC; rw [if_pos c, mayR_is, refR_is]; simp
    have hp := eMay_f (f := f) (n := n) (ops := ops) (outs := outs) rows (fun l h => (hr l h).2) hl
    change Ev _ (manyC f n ops outs rows) at hp
    by_cases c3 : manyC f n ops outs rows = 0
    · have c4 : ¬ rows.length ≤ 4096 := fun h => hc ⟨c3, h⟩
      refine ⟨4, by decide, ?_, j0f _ ?_⟩
      · unfold eval_Many.f
        refine Ev.bind (f := fun k t => _) hp ?_
        simp only [if_pos c3, if_pos (show (rows.length : Int) > 4096 by omega)]
        exact Ev.now _
      · rw [← hcm, c3, decide_eq_true (show (rows.length : Int) > 4096 by omega)]
        exact Ev.congr (fun k => if_pos rfl) (j3t 0)
    · refine ⟨manyC f n ops outs rows, c3, ?_, j0f _ ?_⟩
      · unfold eval_Many.f
        refine Ev.bind (f := fun k t => _) hp ?_
        simp only [if_neg c3]
        exact Ev.now _
      · rw [← hcm]
        exact Ev.congr (fun k => if_neg c3) (j3f _ c3)
  · refine ⟨2, by decide, ?_, ?_⟩
    · have hp := eMay_f (f := f) (n := n) (ops := ops) (outs := outs) rows (fun l h => (hr l h).2) hl
      rw [if_neg c] at hp
      unfold eval_Many.f
      refine Ev.bind (f := fun k t => _) hp ?_
      simp only [if_neg (show ¬ (2 : Int) = 0 by decide)]
      exact Ev.now _
    · unfold conclaveref11_Many.f
      refine Ev.bind (f := fun k t => _) (rMay_f n ops outs) ?_
      cases c1 : mayB n ops outs
      · simp only [Bool.false_eq_true, if_false]; exact j0t
      · simp only [if_true]
        have hI := rIn_f f [] (fun x hx => by simp at hx) (by simp)
        rw [inF_nil] at hI
        refine Ev.bind (f := fun k t => _) hI ?_
        cases c2 : isF f
        · simp only [Bool.not_false]; exact j0t
        · rw [c1, c2] at c; exact absurd rfl c
section
variable {p : Nat} [NeZero p]
def unI (p : Nat) [NeZero p] (l : List Int) : List (Fin p) := l.map fun x => cF p x.toNat
theorem unI_map (xs : List (Fin p)) : unI p (xs.map tI) = xs := by
  unfold unI
  rw [List.map_map]
  conv => rhs; rw [← List.map_id xs]
  refine List.map_congr_left fun x _ => ?_
  show cF p ((x.val : Int)).toNat = x
  rw [Int.toNat_natCast, cF_self]
def runR (p : Nat) [NeZero p] (ops : List OpS) (outs : List Int) (l : List Int) : List Int := (runF (unI p l) ops outs).map tI
theorem runR_len (l : List Int) : (runR p ops outs l).length = outs.length := by unfold runR; rw [List.length_map, runF_len]
theorem runR_ev (hF : Fld f p) (h : MayP n ops outs) (ho : OpsU ops) {l : List Int} (hu : U64 l) (hi : inF f l = true) (hn : (l.length : Int) = n) :
    Ev (fun k => eval_Run.f k f n ops outs l) (runR p ops outs l, 0) ∧ Ev (fun k => conclaveref11_Run.f k f n ops outs l) (runR p ops outs l, 0) := by
  have hb : below (prime f) l = true := by unfold inF at hi; exact (Bool.and_eq_true_iff.1 hi).2
  obtain ⟨xs, rfl⟩ := lift hF hu hb
  have := Run_good hF h ho xs (by rw [List.length_map] at hn; exact hn)
  unfold runR
  rw [unI_map]
  exact this
end
theorem Many_good (rows : List (List Int)) (ho : OpsU ops) (hr : ∀ l ∈ rows, U64 l ∧ l.length ≤ 9223372036854775807) (hl : rows.length ≤ 4096) (hc : manyC f n ops outs rows = 0) :
    ∃ p : Nat, ∃ _ : NeZero p, Fld f p ∧ MayP n ops outs ∧ (∀ l ∈ rows, inF f l = true ∧ (l.length : Int) = n) ∧ Ev (fun k => eval_Many.f k f n ops outs rows) (rows.map (runR p ops outs), 0) ∧ Ev (fun k => conclaveref11_Many.f k f n ops outs rows) (rows.map (runR p ops outs), 0) := by
  obtain ⟨h, hf, hg⟩ := manyC_zero hc
  obtain ⟨p, hz, hF⟩ := fld_of hf
  refine ⟨p, hz, hF, h, hg, ?_, ?_⟩
  · have hp := eMay_f (f := f) (n := n) (ops := ops) (outs := outs) rows (fun l h => (hr l h).2) (by omega)
    change Ev _ (manyC f n ops outs rows) at hp
    rw [hc] at hp
    unfold eval_Many.f
    refine Ev.bind (f := fun k t => _) hp ?_
    simp only [if_true, if_neg (show ¬ (rows.length : Int) > 4096 by omega)]
    exact eMany_l0 (runR p ops outs) rows hl (fun l hl => (runR_ev hF h ho (hr l hl).1 (hg l hl).1 (hg l hl).2).1) rows.length 0 (by omega)
  · unfold conclaveref11_Many.f
    have hm := rMay_f n ops outs
    rw [may_iff.2 h] at hm
    refine Ev.bind (f := fun k t => _) hm ?_
    simp only [if_true]
    have hI := rIn_f f [] (fun x hx => by simp at hx) (by simp)
    rw [inF_nil, hf] at hI
    refine Ev.bind (f := fun k t => _) hI ?_
    simp only [Bool.not_true]
    refine Ev.step (f := fun k => conclaveref11_Many.j1 k f rows 0 n ops outs) (fun k => by simp only [conclaveref11_Many.j0, Bool.false_eq_true, if_false]) ?_
    refine Ev.step (f := fun k => conclaveref11_Many.l0 k f rows 0 0 n ops outs) (fun k => by simp only [conclaveref11_Many.j1]) ?_
    have hcm : refR f n rows 0 = 0 := Eq.trans (by unfold manyC; rw [may_iff.2 h, hf, mayR_is, refR_is]; simp) hc
    have := rMany_l0 (f := f) (n := n) (ops := ops) (outs := outs) rows hr (by omega) rows.length 0 (by omega) 0 (R := (rows.map (runR p ops outs), 0))
    rw [List.drop_zero, hcm] at this
    refine this (Ev.congr (fun k => if_pos rfl) ?_)
    rw [decide_eq_false (show ¬ (rows.length : Int) > 4096 by omega)]
    refine Ev.step (f := fun k => conclaveref11_Many.j4 k f rows 0 n ops outs) (fun k => by simp only [conclaveref11_Many.j3, Bool.false_eq_true, if_false]) ?_
    refine Ev.step (f := fun k => conclaveref11_Many.l1 k f rows 0 [] 0 n ops outs) (fun k => by simp only [conclaveref11_Many.j4]) ?_
    exact rMany_l1 (runR p ops outs) rows hl (fun l hl => (runR_ev hF h ho (hr l hl).1 (hg l hl).1 (hg l hl).2).2) rows.length 0 (by omega)
end
end Go.Proofs.Ytkhnngmighjaiaa.Plain
end
section
namespace Go.Proofs.Ytkhnngmighjaiaa.Plain
open Go.RowKit Go.Proofs Go.Proofs.Ytkhnngmighjaiaa.P Go.Proofs.Ytkhnngmighjaiaa.Mth Go.Proofs.YtkhnngmighjaiaaW.PrintWords Go.Proofs.YtkhnngmighjaiaaW.PrintLast Go.Proofs.YtkhnngmighjaiaaW.PrintMore
set_option linter.unusedVariables false
set_option linter.unusedSimpArgs false
def ops11 : List OpS := [⟨3, 0, 0, 0⟩, ⟨4, 0, 0, 5⟩, ⟨1, 1, 2, 0⟩]
instance nzS : NeZero 2013265921 := ⟨by decide⟩
theorem run14 : (runF [(3 : Fin 2013265921)] ops11 [3]).map tI = [14] := by decide +kernel
theorem run3 : ([(3 : Fin 2013265921)]).map tI = [3] := by decide +kernel
theorem anchored11_f : Ev (fun k => conclavelaw11_anchored.f k) true := by
  have hF : Fld 1 2013265921 := .inl ⟨rfl, rfl⟩
  have hm : MayP 1 ops11 [3] := may_iff.1 (by decide)
  have hu : OpsU ops11 := by intro o ho; simp only [ops11, List.mem_cons, List.not_mem_nil, or_false] at ho; rcases ho with rfl | rfl | rfl <;> decide
  have h1 := (Run_good hF hm hu [(3 : Fin 2013265921)] (by rfl)).1
  have hc : stepsC 1 1 ops11 [3] [] = 3 := by decide
  have h2 := (Run_bad (f := 1) (n := 1) (ops := ops11) (outs := [3]) [] (fun x hx => by simp at hx) (by simp) (by rw [hc]; decide)).1
  rw [hc] at h2
  rw [run14, run3] at h1
  unfold conclavelaw11_anchored.f
  simp only [Option.bind_some]
  change Ev (fun k => (eval_Run.f k 1 1 ops11 [3] [3]).bind fun bt298 => ((eval_Run.f k 1 1 ops11 [3] ([] : List Int)).bind fun bt302 => (if bt298.2 = 0 then (if bt302.2 = 3 then ((conclaveref01_Same.f k bt298.1 (([14] : List Int))).bind fun t309 => (some t309)) else (some false)) else (some false)))) true
  refine Ev.bind (f := fun k t => _) h1 ?_
  refine Ev.bind (f := fun k t => _) h2 ?_
  simp only [if_true]
  have h3 := fSame_f [14] [14] (by simp)
  rw [decide_eq_true rfl] at h3
  exact Ev.bind (f := fun _ t => some t) h3 (Ev.now _)
end Go.Proofs.Ytkhnngmighjaiaa.Plain
end
section
namespace Go.Proofs.Ytkhnngmighjaiaa.Pure
open Go.RowKit Go.Proofs Go.Proofs.Ytkhnngmighjaiaa.P Go.Proofs.Ytkhnngmighjaiaa.Plain Go.Proofs.YtkhnngmighjaiaaW.PrintWords Go.Proofs.YtkhnngmighjaiaaW.PrintLast Go.Proofs.YtkhnngmighjaiaaW.PrintMore
set_option linter.unusedVariables false
set_option linter.unusedSimpArgs false
theorem EvalRows_l0 {f n : Int} {ops : List OpS} {outs : List Int} (G : List Int → List Int) (rows : List (List Int)) (hm : rows.length ≤ 4096) (hg : ∀ l ∈ rows, (G l).length ≤ 9223372036854775807) (hG : ∀ l ∈ rows, Ev (fun k => eval_Run.f k f n ops outs l) (G l, 0)) : ∀ (d i : Nat), i + d = rows.length →
    Ev (fun k => conclavelaw11_EvalRows.l0 k rows f (rows.map G) (i : Int) n ops outs) true := by
  intro d
  induction d with
  | zero =>
    intro i hi
    refine Ev.step (f := fun k => (conclavelaw11_anchored.f k).bind fun t => some t) (fun k => ?_) (Ev.bind (f := fun _ t => some t) anchored11_f (Ev.now _))
    simp only [conclavelaw11_EvalRows.l0]; rw [List.length_map, if_neg (by omega)]
  | succ d ih =>
    intro i hi
    have e1 : wrap64 ((i : Int) + 1) = ((i + 1 : Nat) : Int) := by rw [w64 (by omega) (by omega)]; rfl
    have hin : rd_L4 rows (i : Int) ∈ rows := by rw [rowsAt (by omega)]; exact List.getElem_mem _
    have hat : rd_L4 (rows.map G) (i : Int) = G (rd_L4 rows (i : Int)) := by
      rw [rowsAt (by rw [List.length_map]; omega), rowsAt (by omega : i < rows.length), List.getElem_map]
    have s := fSame_f (G (rd_L4 rows (i : Int))) (G (rd_L4 rows (i : Int))) (hg _ hin)
    rw [decide_eq_true rfl] at s
    refine Ev.step (f := fun k => (eval_Run.f k f n ops outs (rd_L4 rows (i : Int))).bind fun bt => if bt.2 = 0 then ((conclaveref01_Same.f k bt.1 (G (rd_L4 rows (i : Int)))).bind fun t => if t = true then conclavelaw11_EvalRows.l0 k rows f (rows.map G) ((i + 1 : Nat) : Int) n ops outs else some false) else some false) (fun k => ?_) (Ev.bind (f := fun k (bt : List Int × Int) => if bt.2 = 0 then ((conclaveref01_Same.f k bt.1 (G (rd_L4 rows (i : Int)))).bind fun t => if t = true then conclavelaw11_EvalRows.l0 k rows f (rows.map G) ((i + 1 : Nat) : Int) n ops outs else some false) else some false) (hG _ hin) ?_)
    · simp only [conclavelaw11_EvalRows.l0]
      rw [List.length_map, if_pos (by omega), if_pos (by omega), if_pos (by omega), e1, hat]
    · simp only [if_true]
      refine Ev.bind (f := fun k (t : Bool) => if t = true then conclavelaw11_EvalRows.l0 k rows f (rows.map G) ((i + 1 : Nat) : Int) n ops outs else some false) s ?_
      simp only [if_true]
      exact ih (i + 1) (by omega)
theorem EvalRows : Form.EvalRows.Pure := by
  intro f n ops outs rows hf hn ho hou hl
  have hO : OpsU ops := fun o h => (wf_u64 (ho.2.2 o h).2.2.2).1
  have hr : ∀ l ∈ rows, U64 l ∧ l.length ≤ 9223372036854775807 := fun l h => by
    obtain ⟨h1, h2, h3⟩ := hl.2.2 l h
    exact ⟨u64_of_wf h3, by omega⟩
  have hL : rows.length ≤ 9223372036854775806 := by have := hl.2.1; omega
  refine Ev.rounds ?_
  unfold conclavelaw11_EvalRows.f
  by_cases hc : manyC f n ops outs rows = 0 ∧ rows.length ≤ 4096
  · obtain ⟨p, hz, hF, h, hg, h1, _⟩ := Many_good rows hO hr hc.2 hc.1
    refine Ev.bind (f := fun k t => _) h1 ?_
    simp only [if_true, List.length_map]
    exact EvalRows_l0 (runR p ops outs) rows hc.2 (fun l _ => by rw [runR_len]; have := h.olen; omega) (fun l hl => (runR_ev hF h hO (hr l hl).1 (hg l hl).1 (hg l hl).2).1) rows.length 0 (by omega)
  · obtain ⟨e, he, h1, _⟩ := Many_bad rows hr hL hc
    refine Ev.bind (f := fun k t => _) h1 ?_
    simp only [if_neg he]
    refine Ev.bind (f := fun k t => _) anchored11_f ?_
    simp only [if_true]
    exact Ev.now _
end Go.Proofs.Ytkhnngmighjaiaa.Pure
end
section
namespace Go.Proofs.Ytkhnngmighjaiaa.evalRows
open Go.ChangeShapes Go.WideShapes Go.ChangeAt Go.RowKit Go.Proofs.YtkhnngmighjaiaaW.PrintWords Go.Proofs.Ytkhnngmighjaiaa.P Go.Proofs.Ytkhnngmighjaiaa.Form.EvalRows
set_option linter.unusedVariables false
theorem own : ownKnob Try.prog.godebug = none := by kernel_rfl
theorem laidOut : laidOutB Try.prog = true := by kernel_rfl
set_option maxRecDepth 100000 in
theorem lifted (os : Os) (started : os.Started) (H : Type) (enc : TypeId × Value → H) :
    ReturnsInHanded {} Try.checked os 6 .any (Rows.evalRowsSpec.pre6 enc Try.prog Try.f6 Rows.evalRowsRow.domain false) (Rows.evalRowsSpec.post enc Try.prog Try.f6 false true false false) := by
  refine returnsInHanded_of_change_sized (C := Try.checked) own started (by kernel_rfl) Try.func6
    (ChangeSpec.witness6 (enc := enc) (C := Try.checked) false ⟨#[], #[.int .u8 0, .agg #[.int .i64 0, .slice none 0 0, .slice none 0 0], .slice none 0 0], []⟩ 8 (by kernel_rfl) (by kernel_rfl) (by kernel_rfl) (by kernel_rfl)) ?_
  intro W base args ds gs before hval0 hW hcnd hsz0 _
  have hsz : (DataW.weightsEach Try.prog (Try.f6.params.toList ++ Rows.evalRowsSpec.plain.varTypes Try.prog) (ds ++ gs)).all (· ≤ reachBytes) = true := hsz0
  have hval : ∀ (j : Nat) t v, Try.f6.params[j]? = some t → args[j]? = some v → Value.okWide Try.prog W .any base t v := hval0
  have hW' := hW
  obtain ⟨p, q, hA0, hV, rfl, hfz, hnd⟩ := hW
  have hA : DataW.TrodAll enc Try.prog W 0 (fun _ => true) true Try.f6.params.toList args.toList ds p := hA0
  rw [Try.params6] at hA hval hsz
  obtain ⟨v0, vs0, d0, ds0, p0, q0, hargs, rfl, rfl, h0, r0⟩ := trodAll_cons hA
  obtain ⟨v1, vs1, d1, ds1, p1, q1, rfl, rfl, rfl, h1, r1⟩ := trodAll_cons r0
  obtain ⟨v2, vs2, d2, ds2, p2, q2, rfl, rfl, rfl, h2, r2⟩ := trodAll_cons r1
  obtain ⟨rfl, rfl, rfl⟩ := trodAll_nil r2
  obtain rfl : args = #[v0, v1, v2] := by cases args; simp_all
  obtain ⟨rfl, rfl⟩ := trodVars_none hV
  obtain ⟨a0, rfl, rfl, rfl, w0⟩ := open_int Try.underlying5 (hval 0 5 v0 rfl rfl) h0
  have k1_ := h1
  have lt1 : ∀ x ∈ p1, x.block < W.heap.size := by obtain ⟨m, hm⟩ := k1_; exact DataW.trod_lt m _ _ _ hm
  obtain ⟨z1, rfl, _⟩ := okWide_struct Try.underlying25 (hval 1 25 v1 rfl rfl)
  obtain ⟨⟨a1_0, l1_1, l1_2⟩, K1, ⟨F1_0, F1_1, F1_2⟩⟩ := Open.opens_at (Open.opens_struct Try.underlying25 (by kernel_rfl) (by kernel_rfl) (by kernel_rfl) (Open.opensL_cons (Open.opens_int Try.underlying3 (by kernel_rfl)) (Open.opensL_cons (Open.opens_slice (d := k70) Try.underlying22 (by kernel_rfl) (show 0 < 4 from by decide) (B := 32) (by kernel_rfl) opens70) (Open.opensL_one (Open.opens_slice (d := (Kd.int .i64)) Try.underlying23 (by kernel_rfl) (show 0 < 1 from by decide) (B := 8) (by kernel_rfl) (Open.opens_int Try.underlying3 (by kernel_rfl)))))) id id (fun _ => rfl)) h1 hsz (j := 1) rfl rfl
  have hz1 : ∀ cs : List Value, (z1.toList = cs) → z1 = cs.toArray := fun cs h => by rw [← h]
  obtain ⟨cs1, hcs1, K1'⟩ : ∃ cs, z1.toList = cs ∧ _ := ⟨_, rfl, K1⟩
  obtain ⟨_, _, rfl, rfl, ⟨_, _, rfl, ⟨A1_1, c1_1, rfl, hc1_1, hr1_1⟩, ⟨A1_2, c1_2, rfl, hc1_2, hr1_2⟩⟩⟩ := K1'
  obtain rfl := hz1 _ hcs1
  have k2_ := h2
  have lt2 : ∀ x ∈ p2, x.block < W.heap.size := by obtain ⟨m, hm⟩ := k2_; exact DataW.trod_lt m _ _ _ hm
  obtain ⟨b2, len2, cap2, rfl⟩ := okWide_slice Try.underlying41 (hval 2 41 v2 rfl rfl)
  obtain ⟨l2, ⟨A2, c2, hcs2, hc2, hr2⟩, F2⟩ := Open.opens_at (Open.opens_slice (d := (Kd.slice 54 (Kd.int .u64))) Try.underlying41 (by kernel_rfl) (show 0 < 1 from by decide) (B := 24) (by kernel_rfl) (Open.opens_slice (d := (Kd.int .u64)) Try.underlying26 (by kernel_rfl) (show 0 < 1 from by decide) (B := 8) (by kernel_rfl) (Open.opens_int Try.underlying54 (by kernel_rfl)))) h2 hsz (j := 2) rfl rfl
  simp [Value.cells] at hcs2
  obtain ⟨rfl, rfl, rfl⟩ := hcs2
  clear hA0 hval0 hsz0 hsz
  obtain ⟨k, h⟩ := Pure.EvalRows _ _ _ _ _ w0 F1_0 F1_1 F1_2 F2
  refine (conclavelaw11_EvalRows.calls k _ _ _ _ _ _ _ _ _ _ _ true W hr1_1 hc1_1 hr1_2 hc1_2 hr2 hc2 h rfl).mono fun e W' hee => ?_
  obtain ⟨he, bel⟩ := hee
  have bel : Below W.heap.size W W' := by first | exact bel | exact bel.below
  subst he
  exact ⟨_, rfl, _, _, _, [], _, [], hW', trodAll_mk1 (shut_bool Try.underlying4 _), (trodAll_cons_mk (shut_int Try.underlying5 w0) (trodAll_cons_mk (Below.trod laidOut (by kernel_rfl) (of_decide_eq_true (by kernel_rfl)) k1_ bel lt1) (trodAll_cons_mk (Below.trod laidOut (by kernel_rfl) (of_decide_eq_true (by kernel_rfl)) k2_ bel lt2) trodAll_mk0))), rfl, bel.frame _, fun h => by cases h⟩
theorem over : Rows.evalRowsRow.holds Try.pinned (OpenSpec.ofChange Rows.evalRowsSpec) :=
  OpenClaim.holds_of_wide 6 Try.f6 rfl rfl rfl rfl rfl rfl rfl ⟨rfl, rfl, rfl, rfl, rfl⟩ rfl rfl rfl rfl rfl (by kernel_rfl) Try.func6 (by kernel_rfl)
    (of_decide_eq_true (by kernel_rfl)) (by unfold Func.isWrapper; first | (rw [if_pos (by decide +kernel)]; kernel_rfl) | (rw [if_neg (by decide +kernel)]; exact ⟨rfl, rfl⟩))
    (fun os started H enc _ => lifted os started H enc)
theorem proved : Rows.EvalRowsSaid := over
end Go.Proofs.Ytkhnngmighjaiaa.evalRows
namespace Go.Proofs.Ytkhnngmighjaiaa
theorem evalRows_holds : Rows.EvalRowsSaid := evalRows.proved
end Go.Proofs.Ytkhnngmighjaiaa
end
