-- Written by the kit's printer, called by a program of ours; the proofs of some functions are our own. Not trusted: Lean checks it.
import Derived.Test.YtclanpkekocndaaPx0
import Derived.Test.YtclanpkekocndaaPx2
import Derived.Test.YtclanpkekocndaaPx16
namespace Go.Proofs.Ytclanpkekocndaa.P
open Go.RowKit Go.Proofs.YtclanpkekocndaaW.PrintWords Go.Proofs.YtclanpkekocndaaW.PrintLast Go.Proofs.YtclanpkekocndaaW.PrintMore
attribute [local go_sem] max2_int min2_int max_two min_two max_three min_three max_four min_four   -- for this text's walks alone
set_option linter.unusedVariables false
set_option linter.unusedSimpArgs false

/-! ### conclaveref08_ReadList: function 35 -/
mutual
def conclaveref08_ReadList.j0 : Nat → List Int → Int → Bool → Option (Int × List Int × Int × Int)
  | 0, _, _, _ => none
  | k + 1, x0, x6, x24 => if x24 = true then (some (0, ([] : List Int), 0, 8)) else (if 1 ≤ (x0.length : Int) then ((conclaveref08_ReadCount.f k (x0.drop 1)).bind fun bt333 => (if bt333.2.2 = 0 then (conclaveref08_ReadList.j1 k x0 x6 bt333.1 bt333.2.1 bt333.2.2 (decide (bt333.1 > 4096))) else (conclaveref08_ReadList.j1 k x0 x6 bt333.1 bt333.2.1 bt333.2.2 false))) else (none))
def conclaveref08_ReadList.j1 : Nat → List Int → Int → Int → Int → Int → Bool → Option (Int × List Int × Int × Int)
  | 0, _, _, _, _, _, _ => none
  | k + 1, x0, x6, x7, x8, x9, x37 => if x37 = true then (conclaveref08_ReadList.j2 k x0 x6 x7 x8 4) else (conclaveref08_ReadList.j2 k x0 x6 x7 x8 x9)
def conclaveref08_ReadList.j2 : Nat → List Int → Int → Int → Int → Int → Option (Int × List Int × Int × Int)
  | 0, _, _, _, _, _ => none
  | k + 1, x0, x6, x7, x8, x9 => if x9 = 0 then ((conclaveref08_width.f x6).bind fun t336 => (conclaveref08_ReadList.j3 k x0 x6 x7 (wrap64 (x8 + 1)) x9 (decide ((wrap64 ((x0.length : Int) - (wrap64 (x8 + 1)))) < (wrap64 (x7 * t336)))))) else (conclaveref08_ReadList.j3 k x0 x6 x7 (wrap64 (x8 + 1)) x9 false)
def conclaveref08_ReadList.j3 : Nat → List Int → Int → Int → Int → Int → Bool → Option (Int × List Int × Int × Int)
  | 0, _, _, _, _, _, _ => none
  | k + 1, x0, x6, x7, x8, x9, x52 => if x52 = true then (conclaveref08_ReadList.j4 k x0 x6 x7 x8 7) else (conclaveref08_ReadList.j4 k x0 x6 x7 x8 x9)
def conclaveref08_ReadList.j4 : Nat → List Int → Int → Int → Int → Int → Option (Int × List Int × Int × Int)
  | 0, _, _, _, _, _ => none
  | k + 1, x0, x6, x7, x8, x9 => conclaveref08_ReadList.l0 k x0 x6 x7 x8 x9 ([] : List Int) 0
def conclaveref08_ReadList.l0 : Nat → List Int → Int → Int → Int → Int → List Int → Int → Option (Int × List Int × Int × Int)
  | 0, _, _, _, _, _, _, _ => none
  | k + 1, x0, x6, x7, x8, x9, x10, x11 => if x11 < x7 then (conclaveref08_ReadList.j6 k x0 x6 x7 x8 x9 x10 x11 (x9 == 0)) else (conclaveref08_ReadList.j6 k x0 x6 x7 x8 x9 x10 x11 false)
def conclaveref08_ReadList.j6 : Nat → List Int → Int → Int → Int → Int → List Int → Int → Bool → Option (Int × List Int × Int × Int)
  | 0, _, _, _, _, _, _, _, _ => none
  | k + 1, x0, x6, x7, x8, x9, x10, x11, x59 => if x59 = true then ((conclaveref08_width.f x6).bind fun t337 => (if 0 ≤ x8 then (if x8 ≤ (wrap64 (x8 + t337)) then (if (wrap64 (x8 + t337)) ≤ (x0.length : Int) then ((conclaveref08_Taken.f k ((x0.take ((wrap64 (x8 + t337)) : Int).toNat).drop (x8 : Int).toNat)).bind fun t339 => ((conclaveref01_In.f k x6 (([t339] : List Int))).bind fun t343 => (if t343 = true then (if x10.length < 17592186044416 then ((conclaveref08_width.f x6).bind fun t347 => (conclaveref08_ReadList.l0 k x0 x6 x7 (wrap64 (x8 + t347)) x9 (x10 ++ [t339]) (wrap64 (x11 + 1)))) else (none)) else (if x10.length < 17592186044416 then ((conclaveref08_width.f x6).bind fun t351 => (conclaveref08_ReadList.l0 k x0 x6 x7 (wrap64 (x8 + t351)) 8 (x10 ++ [t339]) (wrap64 (x11 + 1)))) else (none))))) else (none)) else (none)) else (none))) else (if x9 = 0 then (some (x6, x10, x8, 0)) else (some (0, ([] : List Int), 0, x9)))
end
def conclaveref08_ReadList.f (k : Nat) (l0 : List Int) : Option (Int × List Int × Int × Int) := if (l0.length : Int) = 0 then (some (0, ([] : List Int), 0, 7)) else (if 0 < (l0.length : Int) then (if (rd l0 0) = 1 then (conclaveref08_ReadList.j0 k l0 (rd l0 0) false) else (conclaveref08_ReadList.j0 k l0 (rd l0 0) ((rd l0 0) != 2))) else (none))
theorem conclaveref08_ReadList.mono_l : ∀ k, (∀ y0 y1 y2, LeO (conclaveref08_ReadList.j0 k y0 y1 y2) (conclaveref08_ReadList.j0 (k + 1) y0 y1 y2)) ∧ (∀ y0 y1 y2 y3 y4 y5, LeO (conclaveref08_ReadList.j1 k y0 y1 y2 y3 y4 y5) (conclaveref08_ReadList.j1 (k + 1) y0 y1 y2 y3 y4 y5)) ∧ (∀ y0 y1 y2 y3 y4, LeO (conclaveref08_ReadList.j2 k y0 y1 y2 y3 y4) (conclaveref08_ReadList.j2 (k + 1) y0 y1 y2 y3 y4)) ∧ (∀ y0 y1 y2 y3 y4 y5, LeO (conclaveref08_ReadList.j3 k y0 y1 y2 y3 y4 y5) (conclaveref08_ReadList.j3 (k + 1) y0 y1 y2 y3 y4 y5)) ∧ (∀ y0 y1 y2 y3 y4, LeO (conclaveref08_ReadList.j4 k y0 y1 y2 y3 y4) (conclaveref08_ReadList.j4 (k + 1) y0 y1 y2 y3 y4)) ∧ (∀ y0 y1 y2 y3 y4 y5 y6, LeO (conclaveref08_ReadList.l0 k y0 y1 y2 y3 y4 y5 y6) (conclaveref08_ReadList.l0 (k + 1) y0 y1 y2 y3 y4 y5 y6)) ∧ (∀ y0 y1 y2 y3 y4 y5 y6 y7, LeO (conclaveref08_ReadList.j6 k y0 y1 y2 y3 y4 y5 y6 y7) (conclaveref08_ReadList.j6 (k + 1) y0 y1 y2 y3 y4 y5 y6 y7))
  | 0 => ⟨fun _ _ _ r h => by simp [conclaveref08_ReadList.j0] at h, fun _ _ _ _ _ _ r h => by simp [conclaveref08_ReadList.j1] at h, fun _ _ _ _ _ r h => by simp [conclaveref08_ReadList.j2] at h, fun _ _ _ _ _ _ r h => by simp [conclaveref08_ReadList.j3] at h, fun _ _ _ _ _ r h => by simp [conclaveref08_ReadList.j4] at h, fun _ _ _ _ _ _ _ r h => by simp [conclaveref08_ReadList.l0] at h, fun _ _ _ _ _ _ _ _ r h => by simp [conclaveref08_ReadList.j6] at h⟩
  | k + 1 => by
    obtain ⟨ih0, ih1, ih2, ih3, ih4, ih5, ih6⟩ := conclaveref08_ReadList.mono_l k
    refine ⟨?_, ?_, ?_, ?_, ?_, ?_, ?_⟩
    · intro y0 y1 y2
      unfold conclaveref08_ReadList.j0
      repeat' first
      | (with_reducible exact ih0 _ _ _)
      | (with_reducible exact ih1 _ _ _ _ _ _)
      | (with_reducible exact ih2 _ _ _ _ _)
      | (with_reducible exact ih3 _ _ _ _ _ _)
      | (with_reducible exact ih4 _ _ _ _ _)
      | (with_reducible exact ih5 _ _ _ _ _ _ _)
      | (with_reducible exact ih6 _ _ _ _ _ _ _ _)
      | (with_reducible exact conclaveref01_In.mono _ _ _)
      | (with_reducible exact conclaveref08_ReadCount.mono _ _)
      | (with_reducible exact conclaveref08_Taken.mono _ _)
      | (with_reducible exact LeO.refl _)
      | (with_reducible exact LeO.none _)
      | (with_reducible refine LeO.ite ?_ ?_)
      | (with_reducible refine LeO.bind ?_ (fun _ => ?_))
      | exact ih0 _ _ _
      | exact ih1 _ _ _ _ _ _
      | exact ih2 _ _ _ _ _
      | exact ih3 _ _ _ _ _ _
      | exact ih4 _ _ _ _ _
      | exact ih5 _ _ _ _ _ _ _
      | exact ih6 _ _ _ _ _ _ _ _
      | exact conclaveref01_In.mono _ _ _
      | exact conclaveref08_ReadCount.mono _ _
      | exact conclaveref08_Taken.mono _ _
      | exact LeO.none _
      | refine LeO.ite ?_ ?_
      | refine LeO.bind ?_ (fun _ => ?_)
    · intro y0 y1 y2 y3 y4 y5
      unfold conclaveref08_ReadList.j1
      repeat' first
      | (with_reducible exact ih0 _ _ _)
      | (with_reducible exact ih1 _ _ _ _ _ _)
      | (with_reducible exact ih2 _ _ _ _ _)
      | (with_reducible exact ih3 _ _ _ _ _ _)
      | (with_reducible exact ih4 _ _ _ _ _)
      | (with_reducible exact ih5 _ _ _ _ _ _ _)
      | (with_reducible exact ih6 _ _ _ _ _ _ _ _)
      | (with_reducible exact conclaveref01_In.mono _ _ _)
      | (with_reducible exact conclaveref08_ReadCount.mono _ _)
      | (with_reducible exact conclaveref08_Taken.mono _ _)
      | (with_reducible exact LeO.refl _)
      | (with_reducible exact LeO.none _)
      | (with_reducible refine LeO.ite ?_ ?_)
      | (with_reducible refine LeO.bind ?_ (fun _ => ?_))
      | exact ih0 _ _ _
      | exact ih1 _ _ _ _ _ _
      | exact ih2 _ _ _ _ _
      | exact ih3 _ _ _ _ _ _
      | exact ih4 _ _ _ _ _
      | exact ih5 _ _ _ _ _ _ _
      | exact ih6 _ _ _ _ _ _ _ _
      | exact conclaveref01_In.mono _ _ _
      | exact conclaveref08_ReadCount.mono _ _
      | exact conclaveref08_Taken.mono _ _
      | exact LeO.none _
      | refine LeO.ite ?_ ?_
      | refine LeO.bind ?_ (fun _ => ?_)
    · intro y0 y1 y2 y3 y4
      unfold conclaveref08_ReadList.j2
      repeat' first
      | (with_reducible exact ih0 _ _ _)
      | (with_reducible exact ih1 _ _ _ _ _ _)
      | (with_reducible exact ih2 _ _ _ _ _)
      | (with_reducible exact ih3 _ _ _ _ _ _)
      | (with_reducible exact ih4 _ _ _ _ _)
      | (with_reducible exact ih5 _ _ _ _ _ _ _)
      | (with_reducible exact ih6 _ _ _ _ _ _ _ _)
      | (with_reducible exact conclaveref01_In.mono _ _ _)
      | (with_reducible exact conclaveref08_ReadCount.mono _ _)
      | (with_reducible exact conclaveref08_Taken.mono _ _)
      | (with_reducible exact LeO.refl _)
      | (with_reducible exact LeO.none _)
      | (with_reducible refine LeO.ite ?_ ?_)
      | (with_reducible refine LeO.bind ?_ (fun _ => ?_))
      | exact ih0 _ _ _
      | exact ih1 _ _ _ _ _ _
      | exact ih2 _ _ _ _ _
      | exact ih3 _ _ _ _ _ _
      | exact ih4 _ _ _ _ _
      | exact ih5 _ _ _ _ _ _ _
      | exact ih6 _ _ _ _ _ _ _ _
      | exact conclaveref01_In.mono _ _ _
      | exact conclaveref08_ReadCount.mono _ _
      | exact conclaveref08_Taken.mono _ _
      | exact LeO.none _
      | refine LeO.ite ?_ ?_
      | refine LeO.bind ?_ (fun _ => ?_)
    · intro y0 y1 y2 y3 y4 y5
      unfold conclaveref08_ReadList.j3
      repeat' first
      | (with_reducible exact ih0 _ _ _)
      | (with_reducible exact ih1 _ _ _ _ _ _)
      | (with_reducible exact ih2 _ _ _ _ _)
      | (with_reducible exact ih3 _ _ _ _ _ _)
      | (with_reducible exact ih4 _ _ _ _ _)
      | (with_reducible exact ih5 _ _ _ _ _ _ _)
      | (with_reducible exact ih6 _ _ _ _ _ _ _ _)
      | (with_reducible exact conclaveref01_In.mono _ _ _)
      | (with_reducible exact conclaveref08_ReadCount.mono _ _)
      | (with_reducible exact conclaveref08_Taken.mono _ _)
      | (with_reducible exact LeO.refl _)
      | (with_reducible exact LeO.none _)
      | (with_reducible refine LeO.ite ?_ ?_)
      | (with_reducible refine LeO.bind ?_ (fun _ => ?_))
      | exact ih0 _ _ _
      | exact ih1 _ _ _ _ _ _
      | exact ih2 _ _ _ _ _
      | exact ih3 _ _ _ _ _ _
      | exact ih4 _ _ _ _ _
      | exact ih5 _ _ _ _ _ _ _
      | exact ih6 _ _ _ _ _ _ _ _
      | exact conclaveref01_In.mono _ _ _
      | exact conclaveref08_ReadCount.mono _ _
      | exact conclaveref08_Taken.mono _ _
      | exact LeO.none _
      | refine LeO.ite ?_ ?_
      | refine LeO.bind ?_ (fun _ => ?_)
    · intro y0 y1 y2 y3 y4
      unfold conclaveref08_ReadList.j4
      repeat' first
      | (with_reducible exact ih0 _ _ _)
      | (with_reducible exact ih1 _ _ _ _ _ _)
      | (with_reducible exact ih2 _ _ _ _ _)
      | (with_reducible exact ih3 _ _ _ _ _ _)
      | (with_reducible exact ih4 _ _ _ _ _)
      | (with_reducible exact ih5 _ _ _ _ _ _ _)
      | (with_reducible exact ih6 _ _ _ _ _ _ _ _)
      | (with_reducible exact conclaveref01_In.mono _ _ _)
      | (with_reducible exact conclaveref08_ReadCount.mono _ _)
      | (with_reducible exact conclaveref08_Taken.mono _ _)
      | (with_reducible exact LeO.refl _)
      | (with_reducible exact LeO.none _)
      | (with_reducible refine LeO.ite ?_ ?_)
      | (with_reducible refine LeO.bind ?_ (fun _ => ?_))
      | exact ih0 _ _ _
      | exact ih1 _ _ _ _ _ _
      | exact ih2 _ _ _ _ _
      | exact ih3 _ _ _ _ _ _
      | exact ih4 _ _ _ _ _
      | exact ih5 _ _ _ _ _ _ _
      | exact ih6 _ _ _ _ _ _ _ _
      | exact conclaveref01_In.mono _ _ _
      | exact conclaveref08_ReadCount.mono _ _
      | exact conclaveref08_Taken.mono _ _
      | exact LeO.none _
      | refine LeO.ite ?_ ?_
      | refine LeO.bind ?_ (fun _ => ?_)
    · intro y0 y1 y2 y3 y4 y5 y6
      unfold conclaveref08_ReadList.l0
      repeat' first
      | (with_reducible exact ih0 _ _ _)
      | (with_reducible exact ih1 _ _ _ _ _ _)
      | (with_reducible exact ih2 _ _ _ _ _)
      | (with_reducible exact ih3 _ _ _ _ _ _)
      | (with_reducible exact ih4 _ _ _ _ _)
      | (with_reducible exact ih5 _ _ _ _ _ _ _)
      | (with_reducible exact ih6 _ _ _ _ _ _ _ _)
      | (with_reducible exact conclaveref01_In.mono _ _ _)
      | (with_reducible exact conclaveref08_ReadCount.mono _ _)
      | (with_reducible exact conclaveref08_Taken.mono _ _)
      | (with_reducible exact LeO.refl _)
      | (with_reducible exact LeO.none _)
      | (with_reducible refine LeO.ite ?_ ?_)
      | (with_reducible refine LeO.bind ?_ (fun _ => ?_))
      | exact ih0 _ _ _
      | exact ih1 _ _ _ _ _ _
      | exact ih2 _ _ _ _ _
      | exact ih3 _ _ _ _ _ _
      | exact ih4 _ _ _ _ _
      | exact ih5 _ _ _ _ _ _ _
      | exact ih6 _ _ _ _ _ _ _ _
      | exact conclaveref01_In.mono _ _ _
      | exact conclaveref08_ReadCount.mono _ _
      | exact conclaveref08_Taken.mono _ _
      | exact LeO.none _
      | refine LeO.ite ?_ ?_
      | refine LeO.bind ?_ (fun _ => ?_)
    · intro y0 y1 y2 y3 y4 y5 y6 y7
      unfold conclaveref08_ReadList.j6
      repeat' first
      | (with_reducible exact ih0 _ _ _)
      | (with_reducible exact ih1 _ _ _ _ _ _)
      | (with_reducible exact ih2 _ _ _ _ _)
      | (with_reducible exact ih3 _ _ _ _ _ _)
      | (with_reducible exact ih4 _ _ _ _ _)
      | (with_reducible exact ih5 _ _ _ _ _ _ _)
      | (with_reducible exact ih6 _ _ _ _ _ _ _ _)
      | (with_reducible exact conclaveref01_In.mono _ _ _)
      | (with_reducible exact conclaveref08_ReadCount.mono _ _)
      | (with_reducible exact conclaveref08_Taken.mono _ _)
      | (with_reducible exact LeO.refl _)
      | (with_reducible exact LeO.none _)
      | (with_reducible refine LeO.ite ?_ ?_)
      | (with_reducible refine LeO.bind ?_ (fun _ => ?_))
      | exact ih0 _ _ _
      | exact ih1 _ _ _ _ _ _
      | exact ih2 _ _ _ _ _
      | exact ih3 _ _ _ _ _ _
      | exact ih4 _ _ _ _ _
      | exact ih5 _ _ _ _ _ _ _
      | exact ih6 _ _ _ _ _ _ _ _
      | exact conclaveref01_In.mono _ _ _
      | exact conclaveref08_ReadCount.mono _ _
      | exact conclaveref08_Taken.mono _ _
      | exact LeO.none _
      | refine LeO.ite ?_ ?_
      | refine LeO.bind ?_ (fun _ => ?_)
theorem conclaveref08_ReadList.mono : ∀ a0 k, LeO (conclaveref08_ReadList.f k a0) (conclaveref08_ReadList.f (k + 1) a0) := by
  intro a0 k
  obtain ⟨ih0, ih1, ih2, ih3, ih4, ih5, ih6⟩ := conclaveref08_ReadList.mono_l k
  unfold conclaveref08_ReadList.f
  repeat' first
      | (with_reducible exact ih0 _ _ _)
      | (with_reducible exact ih1 _ _ _ _ _ _)
      | (with_reducible exact ih2 _ _ _ _ _)
      | (with_reducible exact ih3 _ _ _ _ _ _)
      | (with_reducible exact ih4 _ _ _ _ _)
      | (with_reducible exact ih5 _ _ _ _ _ _ _)
      | (with_reducible exact ih6 _ _ _ _ _ _ _ _)
      | (with_reducible exact conclaveref01_In.mono _ _ _)
      | (with_reducible exact conclaveref08_ReadCount.mono _ _)
      | (with_reducible exact conclaveref08_Taken.mono _ _)
      | (with_reducible exact LeO.refl _)
      | (with_reducible exact LeO.none _)
      | (with_reducible refine LeO.ite ?_ ?_)
      | (with_reducible refine LeO.bind ?_ (fun _ => ?_))
      | exact ih0 _ _ _
      | exact ih1 _ _ _ _ _ _
      | exact ih2 _ _ _ _ _
      | exact ih3 _ _ _ _ _ _
      | exact ih4 _ _ _ _ _
      | exact ih5 _ _ _ _ _ _ _
      | exact ih6 _ _ _ _ _ _ _ _
      | exact conclaveref01_In.mono _ _ _
      | exact conclaveref08_ReadCount.mono _ _
      | exact conclaveref08_Taken.mono _ _
      | exact LeO.none _
      | refine LeO.ite ?_ ?_
      | refine LeO.bind ?_ (fun _ => ?_)
set_option maxHeartbeats 8000000 in
set_option maxRecDepth 100000 in
theorem conclaveref08_ReadList.calls (k : Nat) (A0 : Option Addr) (c0 : Nat) (l0 : List Int) (r1 : Int) (r2 : List Int) (r3 : Int) (r4 : Int) (w : World) (hr0 : Kd.C (Kd.int .u8) w A0 l0.length l0) (hc0 : l0.length ≤ c0) (h : conclaveref08_ReadList.f k l0 = some (r1, r2, r3, r4)) :
    Calls Try.prog 35 #[.slice A0 l0.length c0] w fun e w' => ∃ v1_ : Value, e = .returned (.tuple #[.int .u8 r1, v1_, .int .i64 r3, .int .i64 r4]) ∧ Kd.R (Kd.int .u64) 32 w' w.heap.size (fun _ => True) v1_ r2 ∧ Below w.heap.size w w' := by
  have HR0 := Aside0.mk hr0
  have HC0 := Aside0.mk hc0
  clear hr0 hc0
  have HB := Aside0.mk (Below.refl w.heap.size w)
  have H : (if (l0.length : Int) = 0 then (some (0, ([] : List Int), 0, 7)) else (if 0 < (l0.length : Int) then (if (rd l0 0) = 1 then (conclaveref08_ReadList.j0 k l0 (rd l0 0) false) else (conclaveref08_ReadList.j0 k l0 (rd l0 0) ((rd l0 0) != 2))) else (none))) = some (r1, r2, r3, r4) := h
  clear h
  by_cases c2 : (l0.length : Int) = 0
  · rw [if_pos c2] at H
    have c2b0 : ((l0.length : Int) == 0) = true := beq_iff_eq.mpr c2
    have c2b1 : ((l0.length : Int) != 0) = false := bne_eq_false_iff_eq.mpr c2
    clear c2
    simp only [Option.some.injEq, Prod.mk.injEq] at H
    obtain ⟨rfl, rfl, rfl, rfl⟩ := H
    go_enter Try.func35, Try.ntmps35
    go_wp2
    refine bodyPost_ret (results_list (rs := [.tmp 2, .tmp 3, .tmp 4, .tmp 5]) rfl (by simp) (.tmp (.tmp (.tmp (.tmp .nil))))) rfl ?_
    exact ⟨_, by first | rfl | (simp [errW_none, errW_some] <;> rfl) | (simp [*, errW_none, errW_some] <;> rfl), by first | exact Kd.R_nil _ _ _ _ _ | exact Kd.N_nil _ _ _ _ _ | exact Kd.V_nil _ _ _ _ _ | exact Kd.Q_nil _ _ _ _ _ | exact Kd.S_nil _ _ _ _ _, by repeat (first | (with_reducible first | exact HB.out | apply below_alloc | apply pw_below_drewN | apply below_drew1) | exact HB.out)⟩
  · rw [if_neg c2] at H
    have c2b0 : ((l0.length : Int) == 0) = false := beq_eq_false_iff_ne.mpr c2
    have c2b1 : ((l0.length : Int) != 0) = true := bne_iff_ne.mpr c2
    have c2b2 : ¬ (l0 = []) := fun h_ => c2 (by rw [h_]; rfl)
    by_cases c3 : 0 < (l0.length : Int)
    · rw [if_pos c3] at H
      have c3b0 : decide (0 < (l0.length : Int)) = true := decide_eq_true c3
      have c3b1 : decide (0 < l0.length) = true := decide_eq_true (by omega)
      clear c3
      have HC4 := Aside0.mk H
      clear H
      have p331 : 0 ≤ (0 : Int) := (by omega)
      have q331 : 0 < (l0.length : Int) := of_decide_eq_true (by first | (with_reducible assumption) | assumption)
      obtain ⟨ad331, e331, hx331_0⟩ := Kd.at_int HR0.out 0 p331 q331
      cases e331
      have qi331 : (0 < l0.length) = True := eq_true (by omega)
      (try rw [show ((0 : Int)).toNat = 0 from rfl] at hx331_0)
      (try rw [Addr.add_zero'] at hx331_0)
      replace p331 := eq_true p331
      replace q331 := eq_true q331
      go_enter Try.func35, Try.ntmps35
      go_upto_region 4 with (fail)
      go_cut [24] (fun v24 wc => ∃ (kq : Nat) (x24_3 : Bool), v24 = .bool x24_3 ∧ Aside0 (conclaveref08_ReadList.j0 kq l0 (rd l0 0) x24_3 = some (r1, r2, r3, r4)) ∧ Aside0 (kq ≤ k) ∧ Aside0 (Below w.heap.size w wc))
      case first =>
        have H := HC4.out
        clear HC4
        by_cases c5 : (rd l0 0) = 1
        · rw [if_pos c5] at H
          have c5b0 : ((rd l0 0) == 1) = true := beq_iff_eq.mpr c5
          have c5b1 : ((rd l0 0) != 1) = false := bne_eq_false_iff_eq.mpr c5
          clear c5
          (first | rw [c5b0] | (simp only [i64_w, i32_w]; rw [c5b0]) | skip)
          have H' := Aside0.mk H
          clear H
          go_wp2
          go_meet
          case rel => exact ⟨_, (false), (by first | rfl | (simp; done) | (simp [*]; done)), H', ⟨by first | omega | exact Nat.le_refl _⟩, ⟨by repeat (first | (with_reducible first | exact HB.out | apply below_alloc | apply pw_below_drewN | apply below_drew1) | exact HB.out)⟩⟩
        · rw [if_neg c5] at H
          have c5b0 : ((rd l0 0) == 1) = false := beq_eq_false_iff_ne.mpr c5
          have c5b1 : ((rd l0 0) != 1) = true := bne_iff_ne.mpr c5
          (first | rw [c5b0] | (simp only [i64_w, i32_w]; rw [c5b0]) | skip)
          have H' := Aside0.mk H
          clear H
          go_wp2
          go_meet
          case rel => exact ⟨_, (((rd l0 0) != 2)), (by first | rfl | (simp; done) | (simp [*]; done)), H', ⟨by first | omega | exact Nat.le_refl _⟩, ⟨by repeat (first | (with_reducible first | exact HB.out | apply below_alloc | apply pw_below_drewN | apply below_drew1) | exact HB.out)⟩⟩
      case rest =>
        clear HC4
        try clear c2
        try clear c2b0
        try clear c2b1
        try clear c2b2
        try clear p2
        try clear c3
        try clear c3b0
        try clear c3b1
        try clear p3
        try clear q3
        try clear hx3
        try clear qi3
        try clear c5
        try clear c5b0
        try clear c5b1
        try clear hx331_0
        try clear p331
        try clear q331
        obtain ⟨kq, x24_3, rfl, HA, HJ3, HB⟩ := hcut
        cases kq with
        | zero => exact absurd HA.out (by simp [conclaveref08_ReadList.j0])
        | succ kj3 =>
          have H := HA.out
          clear HA
          simp only [conclaveref08_ReadList.j0] at H
          by_cases c6 : x24_3 = true
          · subst c6
            have H1 : (some (0, ([] : List Int), 0, 8)) = some (r1, r2, r3, r4) := by rw [if_pos rfl] at H; exact H
            clear H
            have H := H1
            clear H1
            simp only [Option.some.injEq, Prod.mk.injEq] at H
            obtain ⟨rfl, rfl, rfl, rfl⟩ := H
            go_wp2
            refine bodyPost_ret (results_list (rs := [.tmp 2, .tmp 3, .tmp 4, .tmp 5]) rfl (by simp) (.tmp (.tmp (.tmp (.tmp .nil))))) rfl ?_
            exact ⟨_, by first | rfl | (simp [errW_none, errW_some] <;> rfl) | (simp [*, errW_none, errW_some] <;> rfl), by first | exact Kd.R_nil _ _ _ _ _ | exact Kd.N_nil _ _ _ _ _ | exact Kd.V_nil _ _ _ _ _ | exact Kd.Q_nil _ _ _ _ _ | exact Kd.S_nil _ _ _ _ _, by repeat (first | (with_reducible first | exact HB.out | apply below_alloc | apply pw_below_drewN | apply below_drew1) | exact HB.out)⟩
          · replace c6 := Bool.eq_false_iff.mpr c6
            subst c6
            have H1 : (if 1 ≤ (l0.length : Int) then ((conclaveref08_ReadCount.f kj3 (l0.drop 1)).bind fun bt333 => (if bt333.2.2 = 0 then (conclaveref08_ReadList.j1 kj3 l0 (rd l0 0) bt333.1 bt333.2.1 bt333.2.2 (decide (bt333.1 > 4096))) else (conclaveref08_ReadList.j1 kj3 l0 (rd l0 0) bt333.1 bt333.2.1 bt333.2.2 false))) else (none)) = some (r1, r2, r3, r4) := by rw [if_neg (show ¬ (false = true) by decide)] at H; exact H
            clear H
            have H := H1
            clear H1
            by_cases c7 : 1 ≤ (l0.length : Int)
            · rw [if_pos c7] at H
              have c7b0 := eq_true c7
              have c7b1 : decide (1 ≤ (l0.length : Int)) = true := decide_eq_true c7
              clear c7
              replace H := Option.bind_eq_some_iff.mp H
              obtain ⟨⟨t333, t334, t335⟩, A80, H⟩ := H
              replace H : (if t335 = 0 then (conclaveref08_ReadList.j1 kj3 l0 (rd l0 0) t333 t334 t335 (decide (t333 > 4096))) else (conclaveref08_ReadList.j1 kj3 l0 (rd l0 0) t333 t334 t335 false)) = some (r1, r2, r3, r4) := H
              have A8 := Aside0.mk A80
              clear A80
              have HC9 := Aside0.mk H
              clear H
              obtain ⟨i010, hi010, _, hsz10, _⟩ := info_parts info5
              obtain ⟨A10, hcut10, hA10, hC10⟩ := print_drop_of (P := Try.prog) (Value.int .u8) 0 22 5 .i64 Try.underlying22 hi010 hsz10 (some ad331) c0 l0 1 (by omega) (of_decide_eq_true (by first | (with_reducible assumption) | assumption)) HC0.out
              have HR332 := Aside0.mk (Kd.C_of_reads (h1 := fun _ => rfl) (hA10 _ (Kd.reads_of_C HR0.out)))
              have HC332 := Aside0.mk hC10
              clear hA10 hC10 hi010 hsz10
              go_upto_region 7 with (first | ((with_reducible refine gate_callee (f := 16) rfl ?_); refine goesL_ (some 28) rfl rfl Try.func16 (by kernel_rfl) rfl #[.slice A10 (l0.drop 1).length (c0 - 1)] rfl (by (try simp only [List.map_toArray, List.map_cons, List.map_nil]); first | done | (rw [show (l0.drop 1).length = (l0.length - 1) from List.length_drop] <;> rfl) | rfl | (simp only [List.length_drop, List.length_take]; rfl)) ?_; (with_reducible refine (conclaveref08_ReadCount.calls kj3 _ _ (l0.drop 1) t333 t334 t335 _ ?side1 ?side2 A8.out).mono ?_); (case side1 => repeat (first | exact (Kd.C_below HR332.out HB.out) | (with_reducible refine Kd.C_alloc ?_ _) | (with_reducible refine Kd.C_drewN ?_ _) | (with_reducible refine Kd.C_drew ?_))); (case side2 => exact HC332.out); rintro e w' ⟨rfl, ⟨nd, rfl⟩⟩; refine ⟨_, rfl, ?_⟩))
              (try simp only [Act.put, List.setIfInBounds_toArray, List.set_cons_zero, List.set_cons_succ])
              go_cut [37] (fun v37 wc => ∃ (kq : Nat) (x37_8 : Bool), v37 = .bool x37_8 ∧ Aside0 (conclaveref08_ReadList.j1 kq l0 (rd l0 0) t333 t334 t335 x37_8 = some (r1, r2, r3, r4)) ∧ Aside0 (kq ≤ kj3) ∧ Aside0 (Below w.heap.size w wc))
              case first =>
                have H := HC9.out
                clear HC9
                by_cases c11 : t335 = 0
                · rw [if_pos c11] at H
                  have c11b0 : (t335 == 0) = true := beq_iff_eq.mpr c11
                  have c11b1 : (t335 != 0) = false := bne_eq_false_iff_eq.mpr c11
                  clear c11
                  (first | rw [c11b0] | (simp only [i64_w, i32_w]; rw [c11b0]) | skip)
                  have H' := Aside0.mk H
                  clear H
                  go_wp2
                  go_meet
                  case rel => exact ⟨_, (decide (t333 > 4096)), (by first | rfl | (simp; done) | (simp [*]; done)), H', ⟨by have := HJ3.out; first | omega | exact Nat.le_refl _⟩, ⟨by repeat (first | (with_reducible first | exact HB.out | apply below_alloc | apply pw_below_drewN | apply below_drew1) | exact HB.out)⟩⟩
                · rw [if_neg c11] at H
                  have c11b0 : (t335 == 0) = false := beq_eq_false_iff_ne.mpr c11
                  have c11b1 : (t335 != 0) = true := bne_iff_ne.mpr c11
                  (first | rw [c11b0] | (simp only [i64_w, i32_w]; rw [c11b0]) | skip)
                  have H' := Aside0.mk H
                  clear H
                  go_wp2
                  go_meet
                  case rel => exact ⟨_, (false), (by first | rfl | (simp; done) | (simp [*]; done)), H', ⟨by have := HJ3.out; first | omega | exact Nat.le_refl _⟩, ⟨by repeat (first | (with_reducible first | exact HB.out | apply below_alloc | apply pw_below_drewN | apply below_drew1) | exact HB.out)⟩⟩
              case rest =>
                clear HC9
                try clear c1
                try clear c2
                try clear c2b0
                try clear c2b1
                try clear c2b2
                try clear p2
                try clear c3
                try clear c3b0
                try clear c3b1
                try clear p3
                try clear q3
                try clear hx3
                try clear qi3
                try clear c5
                try clear c5b0
                try clear c5b1
                try clear c6
                try clear c7
                try clear c7b0
                try clear c7b1
                try clear c11
                try clear c11b0
                try clear c11b1
                try clear hx331_0
                try clear p2
                try clear p3
                try clear p331
                try clear q3
                try clear q331
                obtain ⟨kq, x37_8, rfl, HA, HJ8, HB⟩ := hcut
                cases kq with
                | zero => exact absurd HA.out (by simp [conclaveref08_ReadList.j1])
                | succ kj8 =>
                  have H := HA.out
                  clear HA
                  simp only [conclaveref08_ReadList.j1] at H
                  have HC12 := Aside0.mk H
                  clear H
                  go_upto_if 37 with (fail)
                  go_cut [9] (fun v9 wc => ∃ (kq : Nat) (x9_11 : Int), v9 = .int .i64 x9_11 ∧ Aside0 (conclaveref08_ReadList.j2 kq l0 (rd l0 0) t333 t334 x9_11 = some (r1, r2, r3, r4)) ∧ Aside0 (kq ≤ kj8) ∧ Aside0 (Below w.heap.size w wc))
                  case first =>
                    have H := HC12.out
                    clear HC12
                    by_cases c13 : x37_8 = true
                    · subst c13
                      have H1 : (conclaveref08_ReadList.j2 kj8 l0 (rd l0 0) t333 t334 4) = some (r1, r2, r3, r4) := by rw [if_pos rfl] at H; exact H
                      clear H
                      have H := H1
                      clear H1
                      have H' := Aside0.mk H
                      clear H
                      go_wp2
                      go_meet
                      case rel => exact ⟨_, (4), (by first | rfl | (simp; done) | (simp [*]; done)), H', ⟨by have := HJ3.out; have := HJ8.out; first | omega | exact Nat.le_refl _⟩, ⟨by repeat (first | (with_reducible first | exact HB.out | apply below_alloc | apply pw_below_drewN | apply below_drew1) | exact HB.out)⟩⟩
                    · replace c13 := Bool.eq_false_iff.mpr c13
                      subst c13
                      have H1 : (conclaveref08_ReadList.j2 kj8 l0 (rd l0 0) t333 t334 t335) = some (r1, r2, r3, r4) := by rw [if_neg (show ¬ (false = true) by decide)] at H; exact H
                      clear H
                      have H := H1
                      clear H1
                      have H' := Aside0.mk H
                      clear H
                      go_wp2
                      go_meet
                      case rel => exact ⟨_, (t335), (by first | rfl | (simp; done) | (simp [*]; done)), H', ⟨by have := HJ3.out; have := HJ8.out; first | omega | exact Nat.le_refl _⟩, ⟨by repeat (first | (with_reducible first | exact HB.out | apply below_alloc | apply pw_below_drewN | apply below_drew1) | exact HB.out)⟩⟩
                  case rest =>
                    clear HC12
                    try clear c1
                    try clear c2
                    try clear c2b0
                    try clear c2b1
                    try clear c2b2
                    try clear p2
                    try clear c3
                    try clear c3b0
                    try clear c3b1
                    try clear p3
                    try clear q3
                    try clear hx3
                    try clear qi3
                    try clear c5
                    try clear c5b0
                    try clear c5b1
                    try clear c6
                    try clear c7
                    try clear c7b0
                    try clear c7b1
                    try clear c11
                    try clear c11b0
                    try clear c11b1
                    try clear c13
                    try clear hx331_0
                    try clear p2
                    try clear p3
                    try clear p331
                    try clear q3
                    try clear q331
                    obtain ⟨kq, x9_11, rfl, HA, HJ11, HB⟩ := hcut
                    cases kq with
                    | zero => exact absurd HA.out (by simp [conclaveref08_ReadList.j2])
                    | succ kj11 =>
                      have H := HA.out
                      clear HA
                      simp only [conclaveref08_ReadList.j2] at H
                      have HC14 := Aside0.mk H
                      clear H
                      go_upto_region 10 with (fail)
                      go_cut [52] (fun v52 wc => ∃ (kq : Nat) (x52_13 : Bool), v52 = .bool x52_13 ∧ Aside0 (conclaveref08_ReadList.j3 kq l0 (rd l0 0) t333 (wrap64 (t334 + 1)) x9_11 x52_13 = some (r1, r2, r3, r4)) ∧ Aside0 (kq ≤ kj11) ∧ Aside0 (Below w.heap.size w wc))
                      case first =>
                        have H := HC14.out
                        clear HC14
                        by_cases c15 : x9_11 = 0
                        · rw [if_pos c15] at H
                          have c15b0 : (x9_11 == 0) = true := beq_iff_eq.mpr c15
                          have c15b1 : (x9_11 != 0) = false := bne_eq_false_iff_eq.mpr c15
                          clear c15
                          (first | rw [c15b0] | (simp only [i64_w, i32_w]; rw [c15b0]) | skip)
                          replace H := Option.bind_eq_some_iff.mp H
                          obtain ⟨t336, A160, H⟩ := H
                          replace H : (conclaveref08_ReadList.j3 kj11 l0 (rd l0 0) t333 (wrap64 (t334 + 1)) x9_11 (decide ((wrap64 ((l0.length : Int) - (wrap64 (t334 + 1)))) < (wrap64 (t333 * t336))))) = some (r1, r2, r3, r4) := H
                          have A16 := Aside0.mk A160
                          clear A160
                          have H' := Aside0.mk H
                          clear H
                          go_wp2_with (first | (go_at_call 55; (with_reducible refine (conclaveref08_width.calls (rd l0 0) t336 _ A16.out).mono ?_); rintro e w' ⟨rfl, ⟨nd, rfl⟩⟩))
                          go_meet
                          case rel => exact ⟨_, (decide ((wrap64 ((l0.length : Int) - (wrap64 (t334 + 1)))) < (wrap64 (t333 * t336)))), (by first | rfl | (simp; done) | (simp [*]; done)), H', ⟨by have := HJ3.out; have := HJ8.out; have := HJ11.out; first | omega | exact Nat.le_refl _⟩, ⟨by repeat (first | (with_reducible first | exact HB.out | apply below_alloc | apply pw_below_drewN | apply below_drew1) | exact HB.out)⟩⟩
                        · rw [if_neg c15] at H
                          have c15b0 : (x9_11 == 0) = false := beq_eq_false_iff_ne.mpr c15
                          have c15b1 : (x9_11 != 0) = true := bne_iff_ne.mpr c15
                          (first | rw [c15b0] | (simp only [i64_w, i32_w]; rw [c15b0]) | skip)
                          have H' := Aside0.mk H
                          clear H
                          go_wp2
                          go_meet
                          case rel => exact ⟨_, (false), (by first | rfl | (simp; done) | (simp [*]; done)), H', ⟨by have := HJ3.out; have := HJ8.out; have := HJ11.out; first | omega | exact Nat.le_refl _⟩, ⟨by repeat (first | (with_reducible first | exact HB.out | apply below_alloc | apply pw_below_drewN | apply below_drew1) | exact HB.out)⟩⟩
                      case rest =>
                        clear HC14
                        try clear c1
                        try clear c2
                        try clear c2b0
                        try clear c2b1
                        try clear c2b2
                        try clear p2
                        try clear c3
                        try clear c3b0
                        try clear c3b1
                        try clear p3
                        try clear q3
                        try clear hx3
                        try clear qi3
                        try clear c5
                        try clear c5b0
                        try clear c5b1
                        try clear c6
                        try clear p6
                        try clear c7
                        try clear c7b0
                        try clear c7b1
                        try clear c11
                        try clear c11b0
                        try clear c11b1
                        try clear c13
                        try clear c15
                        try clear c15b0
                        try clear c15b1
                        try clear c16
                        try clear hx331_0
                        try clear p2
                        try clear p3
                        try clear p331
                        try clear q3
                        try clear q331
                        obtain ⟨kq, x52_13, rfl, HA, HJ13, HB⟩ := hcut
                        cases kq with
                        | zero => exact absurd HA.out (by simp [conclaveref08_ReadList.j3])
                        | succ kj13 =>
                          have H := HA.out
                          clear HA
                          simp only [conclaveref08_ReadList.j3] at H
                          have HC17 := Aside0.mk H
                          clear H
                          go_upto_if 52 with (fail)
                          go_cut [9] (fun v9 wc => ∃ (kq : Nat) (x9_16 : Int), v9 = .int .i64 x9_16 ∧ Aside0 (conclaveref08_ReadList.j4 kq l0 (rd l0 0) t333 (wrap64 (t334 + 1)) x9_16 = some (r1, r2, r3, r4)) ∧ Aside0 (kq ≤ kj13) ∧ Aside0 (Below w.heap.size w wc))
                          case first =>
                            have H := HC17.out
                            clear HC17
                            by_cases c18 : x52_13 = true
                            · subst c18
                              have H1 : (conclaveref08_ReadList.j4 kj13 l0 (rd l0 0) t333 (wrap64 (t334 + 1)) 7) = some (r1, r2, r3, r4) := by rw [if_pos rfl] at H; exact H
                              clear H
                              have H := H1
                              clear H1
                              have H' := Aside0.mk H
                              clear H
                              go_wp2
                              go_meet
                              case rel => exact ⟨_, (7), (by first | rfl | (simp; done) | (simp [*]; done)), H', ⟨by have := HJ3.out; have := HJ8.out; have := HJ11.out; have := HJ13.out; first | omega | exact Nat.le_refl _⟩, ⟨by repeat (first | (with_reducible first | exact HB.out | apply below_alloc | apply pw_below_drewN | apply below_drew1) | exact HB.out)⟩⟩
                            · replace c18 := Bool.eq_false_iff.mpr c18
                              subst c18
                              have H1 : (conclaveref08_ReadList.j4 kj13 l0 (rd l0 0) t333 (wrap64 (t334 + 1)) x9_11) = some (r1, r2, r3, r4) := by rw [if_neg (show ¬ (false = true) by decide)] at H; exact H
                              clear H
                              have H := H1
                              clear H1
                              have H' := Aside0.mk H
                              clear H
                              go_wp2
                              go_meet
                              case rel => exact ⟨_, (x9_11), (by first | rfl | (simp; done) | (simp [*]; done)), H', ⟨by have := HJ3.out; have := HJ8.out; have := HJ11.out; have := HJ13.out; first | omega | exact Nat.le_refl _⟩, ⟨by repeat (first | (with_reducible first | exact HB.out | apply below_alloc | apply pw_below_drewN | apply below_drew1) | exact HB.out)⟩⟩
                          case rest =>
                            clear HC17
                            try clear c1
                            try clear c2
                            try clear c2b0
                            try clear c2b1
                            try clear c2b2
                            try clear p2
                            try clear c3
                            try clear c3b0
                            try clear c3b1
                            try clear p3
                            try clear q3
                            try clear hx3
                            try clear qi3
                            try clear c5
                            try clear c5b0
                            try clear c5b1
                            try clear c6
                            try clear p6
                            try clear c7
                            try clear c7b0
                            try clear c7b1
                            try clear c11
                            try clear c11b0
                            try clear c11b1
                            try clear c13
                            try clear c15
                            try clear c15b0
                            try clear c15b1
                            try clear c16
                            try clear c18
                            try clear hx331_0
                            try clear p2
                            try clear p3
                            try clear p331
                            try clear p6
                            try clear q3
                            try clear q331
                            obtain ⟨kq, x9_16, rfl, HA, HJ16, HB⟩ := hcut
                            cases kq with
                            | zero => exact absurd HA.out (by simp [conclaveref08_ReadList.j4])
                            | succ kj16 =>
                              have H := HA.out
                              clear HA
                              simp only [conclaveref08_ReadList.j4] at H
                              have H' := Aside0.mk H
                              clear H
                              go_wp2
                              go_loopg [8, 9, 10, 11] kj16 (fun kq v8 v9 v10 v11 w' => ∃ (x8_6 : Int) (x9_6 : Int) (x10_6 : List Int) (x11_6 : Int), v8 = .int .i64 x8_6 ∧ v9 = .int .i64 x9_6 ∧ v11 = .int .i64 x11_6 ∧ Aside0 (conclaveref08_ReadList.l0 kq l0 (rd l0 0) t333 x8_6 x9_6 x10_6 x11_6 = some (r1, r2, r3, r4)) ∧ Aside0 (kq ≤ kj16) ∧ Aside0 (Kd.R (Kd.int .u64) 32 w' w.heap.size (fun _ => True) v10 x10_6) ∧ Aside0 (Below w.heap.size w w'))
                              case atStart => exact ⟨((wrap64 (t334 + 1))), (x9_16), (([] : List Int)), (0), (by first | rfl | (simp; done) | (simp [*]; done)), (by first | rfl | (simp; done) | (simp [*]; done)), (by first | rfl | (simp; done) | (simp [*]; done)), H', ⟨Nat.le_refl _⟩, ⟨by first | exact Kd.R_nil _ _ _ _ _ | exact Kd.N_nil _ _ _ _ _ | exact Kd.V_nil _ _ _ _ _ | exact Kd.Q_nil _ _ _ _ _ | exact Kd.S_nil _ _ _ _ _⟩, ⟨by repeat (first | (with_reducible first | exact HB.out | apply below_alloc | apply pw_below_drewN | apply below_drew1) | exact HB.out)⟩⟩
                              case round =>
                                clear H'
                                try clear c1
                                try clear c2
                                try clear c2b0
                                try clear c2b1
                                try clear c2b2
                                try clear p2
                                try clear c3
                                try clear c3b0
                                try clear c3b1
                                try clear p3
                                try clear q3
                                try clear hx3
                                try clear qi3
                                try clear c5
                                try clear c5b0
                                try clear c5b1
                                try clear c6
                                try clear p6
                                try clear c7
                                try clear c7b0
                                try clear c7b1
                                try clear c11
                                try clear c11b0
                                try clear c11b1
                                try clear c13
                                try clear c15
                                try clear c15b0
                                try clear c15b1
                                try clear c16
                                try clear c18
                                try clear hx331_0
                                try clear p2
                                try clear p3
                                try clear p331
                                try clear p6
                                try clear q3
                                try clear q331
                                obtain ⟨x8_6, x9_6, x10_6, x11_6, rfl, rfl, rfl, HA, HK6, HO_10, HB⟩ := hrel
                                cases gk with
                                | zero => exact absurd HA.out (by simp [conclaveref08_ReadList.l0])
                                | succ k6 =>
                                  have H := HA.out
                                  clear HA
                                  simp only [conclaveref08_ReadList.l0] at H
                                  have HC19 := Aside0.mk H
                                  clear H
                                  go_upto_region 14 with (fail)
                                  go_cut [59] (fun v59 wc => ∃ (kq : Nat) (x59_18 : Bool), v59 = .bool x59_18 ∧ Aside0 (conclaveref08_ReadList.j6 kq l0 (rd l0 0) t333 x8_6 x9_6 x10_6 x11_6 x59_18 = some (r1, r2, r3, r4)) ∧ Aside0 (kq ≤ k6) ∧ Aside0 (Kd.R (Kd.int .u64) 32 wc w.heap.size (fun _ => True) u10 x10_6) ∧ Aside0 (Below w.heap.size w wc))
                                  case first =>
                                    have H := HC19.out
                                    clear HC19
                                    by_cases c20 : x11_6 < t333
                                    · rw [if_pos c20] at H
                                      have c20b0 : decide (x11_6 < t333) = true := decide_eq_true c20
                                      clear c20
                                      (first | rw [c20b0] | (simp only [i64_w, i32_w]; rw [c20b0]) | skip)
                                      have H' := Aside0.mk H
                                      clear H
                                      go_wp2
                                      go_meet
                                      case rel => exact ⟨_, ((x9_6 == 0)), (by first | rfl | (simp; done) | (simp [*]; done)), H', ⟨by have := HJ3.out; have := HJ8.out; have := HJ11.out; have := HJ13.out; have := HJ16.out; have := HK6.out; first | omega | exact Nat.le_refl _⟩, ⟨by (with_reducible repeat (first | apply Kd.R_alloc | apply Kd.R_drewN | apply Kd.R_drew)); exact HO_10.out⟩, ⟨by repeat (first | (with_reducible first | exact HB.out | apply below_alloc | apply pw_below_drewN | apply below_drew1) | exact HB.out)⟩⟩
                                    · rw [if_neg c20] at H
                                      have c20b0 : decide (x11_6 < t333) = false := decide_eq_false c20
                                      clear c20
                                      (first | rw [c20b0] | (simp only [i64_w, i32_w]; rw [c20b0]) | skip)
                                      have H' := Aside0.mk H
                                      clear H
                                      go_wp2
                                      go_meet
                                      case rel => exact ⟨_, (false), (by first | rfl | (simp; done) | (simp [*]; done)), H', ⟨by have := HJ3.out; have := HJ8.out; have := HJ11.out; have := HJ13.out; have := HJ16.out; have := HK6.out; first | omega | exact Nat.le_refl _⟩, ⟨by (with_reducible repeat (first | apply Kd.R_alloc | apply Kd.R_drewN | apply Kd.R_drew)); exact HO_10.out⟩, ⟨by repeat (first | (with_reducible first | exact HB.out | apply below_alloc | apply pw_below_drewN | apply below_drew1) | exact HB.out)⟩⟩
                                  case rest =>
                                    clear HC19
                                    try clear c1
                                    try clear c2
                                    try clear c2b0
                                    try clear c2b1
                                    try clear c2b2
                                    try clear p2
                                    try clear c3
                                    try clear c3b0
                                    try clear c3b1
                                    try clear p3
                                    try clear q3
                                    try clear hx3
                                    try clear qi3
                                    try clear c5
                                    try clear c5b0
                                    try clear c5b1
                                    try clear c6
                                    try clear p6
                                    try clear c7
                                    try clear c7b0
                                    try clear c7b1
                                    try clear c11
                                    try clear c11b0
                                    try clear c11b1
                                    try clear c13
                                    try clear c15
                                    try clear c15b0
                                    try clear c15b1
                                    try clear c16
                                    try clear c18
                                    try clear c20
                                    try clear c20b0
                                    try clear hx331_0
                                    try clear p2
                                    try clear p3
                                    try clear p331
                                    try clear p6
                                    try clear q3
                                    try clear q331
                                    obtain ⟨kq, x59_18, rfl, HA, HJ18, HO_10, HB⟩ := hcut
                                    cases kq with
                                    | zero => exact absurd HA.out (by simp [conclaveref08_ReadList.j6])
                                    | succ kj18 =>
                                      have H := HA.out
                                      clear HA
                                      simp only [conclaveref08_ReadList.j6] at H
                                      by_cases c21 : x59_18 = true
                                      · subst c21
                                        have H1 : ((conclaveref08_width.f (rd l0 0)).bind fun t337 => (if 0 ≤ x8_6 then (if x8_6 ≤ (wrap64 (x8_6 + t337)) then (if (wrap64 (x8_6 + t337)) ≤ (l0.length : Int) then ((conclaveref08_Taken.f kj18 ((l0.take ((wrap64 (x8_6 + t337)) : Int).toNat).drop (x8_6 : Int).toNat)).bind fun t339 => ((conclaveref01_In.f kj18 (rd l0 0) (([t339] : List Int))).bind fun t343 => (if t343 = true then (if x10_6.length < 17592186044416 then ((conclaveref08_width.f (rd l0 0)).bind fun t347 => (conclaveref08_ReadList.l0 kj18 l0 (rd l0 0) t333 (wrap64 (x8_6 + t347)) x9_6 (x10_6 ++ [t339]) (wrap64 (x11_6 + 1)))) else (none)) else (if x10_6.length < 17592186044416 then ((conclaveref08_width.f (rd l0 0)).bind fun t351 => (conclaveref08_ReadList.l0 kj18 l0 (rd l0 0) t333 (wrap64 (x8_6 + t351)) 8 (x10_6 ++ [t339]) (wrap64 (x11_6 + 1)))) else (none))))) else (none)) else (none)) else (none))) = some (r1, r2, r3, r4) := by rw [if_pos rfl] at H; exact H
                                        clear H
                                        have H := H1
                                        clear H1
                                        replace H := Option.bind_eq_some_iff.mp H
                                        obtain ⟨t337, A220, H⟩ := H
                                        replace H : (if 0 ≤ x8_6 then (if x8_6 ≤ (wrap64 (x8_6 + t337)) then (if (wrap64 (x8_6 + t337)) ≤ (l0.length : Int) then ((conclaveref08_Taken.f kj18 ((l0.take ((wrap64 (x8_6 + t337)) : Int).toNat).drop (x8_6 : Int).toNat)).bind fun t339 => ((conclaveref01_In.f kj18 (rd l0 0) (([t339] : List Int))).bind fun t343 => (if t343 = true then (if x10_6.length < 17592186044416 then ((conclaveref08_width.f (rd l0 0)).bind fun t347 => (conclaveref08_ReadList.l0 kj18 l0 (rd l0 0) t333 (wrap64 (x8_6 + t347)) x9_6 (x10_6 ++ [t339]) (wrap64 (x11_6 + 1)))) else (none)) else (if x10_6.length < 17592186044416 then ((conclaveref08_width.f (rd l0 0)).bind fun t351 => (conclaveref08_ReadList.l0 kj18 l0 (rd l0 0) t333 (wrap64 (x8_6 + t351)) 8 (x10_6 ++ [t339]) (wrap64 (x11_6 + 1)))) else (none))))) else (none)) else (none)) else (none)) = some (r1, r2, r3, r4) := H
                                        have A22 := Aside0.mk A220
                                        clear A220
                                        by_cases c23 : 0 ≤ x8_6
                                        · rw [if_pos c23] at H
                                          have c23b0 := eq_true c23
                                          have c23b1 : decide (0 ≤ x8_6) = true := decide_eq_true c23
                                          clear c23
                                          by_cases c24 : x8_6 ≤ (wrap64 (x8_6 + t337))
                                          · rw [if_pos c24] at H
                                            have c24b0 := eq_true c24
                                            have c24b1 : decide (x8_6 ≤ (wrap64 (x8_6 + t337))) = true := decide_eq_true c24
                                            by_cases c25 : (wrap64 (x8_6 + t337)) ≤ (l0.length : Int)
                                            · rw [if_pos c25] at H
                                              have c25b0 := eq_true c25
                                              have c25b1 : decide ((wrap64 (x8_6 + t337)) ≤ (l0.length : Int)) = true := decide_eq_true c25
                                              replace H := Option.bind_eq_some_iff.mp H
                                              obtain ⟨t339, A260, H⟩ := H
                                              replace H : ((conclaveref01_In.f kj18 (rd l0 0) (([t339] : List Int))).bind fun t343 => (if t343 = true then (if x10_6.length < 17592186044416 then ((conclaveref08_width.f (rd l0 0)).bind fun t347 => (conclaveref08_ReadList.l0 kj18 l0 (rd l0 0) t333 (wrap64 (x8_6 + t347)) x9_6 (x10_6 ++ [t339]) (wrap64 (x11_6 + 1)))) else (none)) else (if x10_6.length < 17592186044416 then ((conclaveref08_width.f (rd l0 0)).bind fun t351 => (conclaveref08_ReadList.l0 kj18 l0 (rd l0 0) t333 (wrap64 (x8_6 + t351)) 8 (x10_6 ++ [t339]) (wrap64 (x11_6 + 1)))) else (none)))) = some (r1, r2, r3, r4) := H
                                              have A26 := Aside0.mk A260
                                              clear A260
                                              obtain ⟨y340, hy340⟩ : ∃ y_ : List Int, y_ = (([t339] : List Int)) := ⟨_, rfl⟩
                                              replace H : ((conclaveref01_In.f kj18 (rd l0 0) y340).bind fun t343 => (if t343 = true then (if x10_6.length < 17592186044416 then ((conclaveref08_width.f (rd l0 0)).bind fun t347 => (conclaveref08_ReadList.l0 kj18 l0 (rd l0 0) t333 (wrap64 (x8_6 + t347)) x9_6 (x10_6 ++ [t339]) (wrap64 (x11_6 + 1)))) else (none)) else (if x10_6.length < 17592186044416 then ((conclaveref08_width.f (rd l0 0)).bind fun t351 => (conclaveref08_ReadList.l0 kj18 l0 (rd l0 0) t333 (wrap64 (x8_6 + t351)) 8 (x10_6 ++ [t339]) (wrap64 (x11_6 + 1)))) else (none)))) = some (r1, r2, r3, r4) := by first | (rw [hy340]; with_reducible exact H) | (have H2_ := (Option.bind_some _ _).symm.trans H; rw [hy340]; with_reducible exact H2_) | (have H2_ := (Option.bind_some _ _).symm.trans H; with_reducible exact H2_) | with_reducible exact H | (rw [hy340]; exact H) | exact H
                                              have Ny340 := Aside0.mk hy340
                                              clear hy340
                                              replace H := Option.bind_eq_some_iff.mp H
                                              obtain ⟨t343, A270, H⟩ := H
                                              replace H : (if t343 = true then (if x10_6.length < 17592186044416 then ((conclaveref08_width.f (rd l0 0)).bind fun t347 => (conclaveref08_ReadList.l0 kj18 l0 (rd l0 0) t333 (wrap64 (x8_6 + t347)) x9_6 (x10_6 ++ [t339]) (wrap64 (x11_6 + 1)))) else (none)) else (if x10_6.length < 17592186044416 then ((conclaveref08_width.f (rd l0 0)).bind fun t351 => (conclaveref08_ReadList.l0 kj18 l0 (rd l0 0) t333 (wrap64 (x8_6 + t351)) 8 (x10_6 ++ [t339]) (wrap64 (x11_6 + 1)))) else (none))) = some (r1, r2, r3, r4) := H
                                              have A27 := Aside0.mk A270
                                              clear A270
                                              by_cases c28 : t343 = true
                                              · subst c28
                                                have H1 : (if x10_6.length < 17592186044416 then ((conclaveref08_width.f (rd l0 0)).bind fun t347 => (conclaveref08_ReadList.l0 kj18 l0 (rd l0 0) t333 (wrap64 (x8_6 + t347)) x9_6 (x10_6 ++ [t339]) (wrap64 (x11_6 + 1)))) else (none)) = some (r1, r2, r3, r4) := by rw [if_pos rfl] at H; exact H
                                                clear H
                                                have H := H1
                                                clear H1
                                                by_cases c29 : x10_6.length < 17592186044416
                                                · rw [if_pos c29] at H
                                                  have LMc29 := Aside0.mk c29
                                                  clear c29
                                                  obtain ⟨y344, hy344⟩ : ∃ y_ : List Int, y_ = (x10_6 ++ [t339]) := ⟨_, rfl⟩
                                                  replace H : ((conclaveref08_width.f (rd l0 0)).bind fun t347 => (conclaveref08_ReadList.l0 kj18 l0 (rd l0 0) t333 (wrap64 (x8_6 + t347)) x9_6 y344 (wrap64 (x11_6 + 1)))) = some (r1, r2, r3, r4) := by first | (rw [hy344]; with_reducible exact H) | (have H2_ := (Option.bind_some _ _).symm.trans H; rw [hy344]; with_reducible exact H2_) | (have H2_ := (Option.bind_some _ _).symm.trans H; with_reducible exact H2_) | with_reducible exact H | (rw [hy344]; exact H) | exact H
                                                  have Ny344 := Aside0.mk hy344
                                                  clear hy344
                                                  replace H := Option.bind_eq_some_iff.mp H
                                                  obtain ⟨t347, A300, H⟩ := H
                                                  replace H : (conclaveref08_ReadList.l0 kj18 l0 (rd l0 0) t333 (wrap64 (x8_6 + t347)) x9_6 y344 (wrap64 (x11_6 + 1))) = some (r1, r2, r3, r4) := H
                                                  have A30 := Aside0.mk A300
                                                  clear A300
                                                  have H' := Aside0.mk H
                                                  clear H
                                                  go_wp2_with (first | ((with_reducible refine gate_callee (f := 55) rfl ?_); refine goesL_ (some 66) rfl rfl Try.func55 (by kernel_rfl) rfl #[.int .u8 (rd l0 0)] rfl (by (try simp only [List.map_toArray, List.map_cons, List.map_nil]); first | done | rfl | (simp only [List.length_drop, List.length_take]; rfl)) ?_; (with_reducible refine (conclaveref08_width.calls (rd l0 0) t337 _ A22.out).mono ?_); rintro e w' ⟨rfl, ⟨nd, rfl⟩⟩; refine ⟨_, rfl, ?_⟩; obtain ⟨i031, hi031, _, hsz31, _⟩ := info_parts info5; obtain ⟨A31, hcut31, hA31, hC31⟩ := print_mid_of (P := Try.prog) (Value.int .u8) 0 22 5 .i64 .i64 Try.underlying22 hi031 hsz31 (some ad331) c0 l0 x8_6 (wrap64 (x8_6 + t337)) (of_decide_eq_true (by first | (with_reducible assumption) | assumption)) (by first | omega | exact of_decide_eq_true (by first | (with_reducible assumption) | assumption)) (of_decide_eq_true (by first | (with_reducible assumption) | assumption)) HC0.out; have HR338 := Aside0.mk (Kd.C_of_reads (h1 := fun _ => rfl) (hA31 _ (Kd.reads_of_C HR0.out))); have HC338 := Aside0.mk hC31; clear hA31 hC31 hi031 hsz31) | ((with_reducible refine gate_callee (f := 47) rfl ?_); refine goesL_ (some 69) rfl rfl Try.func47 (by kernel_rfl) rfl #[.slice A31 ((l0.take ((wrap64 (x8_6 + t337)) : Int).toNat).drop (x8_6 : Int).toNat).length (c0 - x8_6.toNat)] rfl (by (try simp only [List.map_toArray, List.map_cons, List.map_nil]); first | done | (rw [show ((l0.take ((wrap64 (x8_6 + t337)) : Int).toNat).drop (x8_6 : Int).toNat).length = ((wrap64 (x8_6 + t337)).toNat - x8_6.toNat) from (by rw [List.length_drop, List.length_take]; have h_ : ((wrap64 (x8_6 + t337)) : Int) ≤ (l0.length : Int) := of_decide_eq_true (by first | (with_reducible assumption) | assumption); omega)] <;> rfl) | rfl | (simp only [List.length_drop, List.length_take]; rfl)) ?_; (with_reducible refine (conclaveref08_Taken.calls kj18 _ _ ((l0.take ((wrap64 (x8_6 + t337)) : Int).toNat).drop (x8_6 : Int).toNat) t339 _ ?side1 ?side2 A26.out).mono ?_); (case side1 => repeat (first | exact (Kd.C_below HR338.out (by repeat (first | (with_reducible first | exact HB.out | apply below_alloc | apply pw_below_drewN | apply below_drew1) | exact HB.out))) | (with_reducible refine Kd.C_alloc ?_ _) | (with_reducible refine Kd.C_drewN ?_ _) | (with_reducible refine Kd.C_drew ?_))); (case side2 => exact HC338.out); rintro e w' ⟨rfl, ⟨nd, rfl⟩⟩; refine ⟨_, rfl, ?_⟩) | ((with_reducible refine gate_dst (N := 72) rfl ?_); (try (refine gate_guard (by rfl) ?_; dsimp only)); refine Kd.R_lit (Kd.int .u64) _ 32 ?hg (N := 72) ?hd (xs := ([t339] : List Int)) (inner := [.int .u64 t339]) (ok := fun _ => True) (okp := fun _ => True) ?hr ?hp (fun _ hk => hk) trivial (Below.refl _ _) (Nat.le_refl _) (by simp) ?_; (case hd => rfl); (case hg => rfl); (case hr => first | (go_simp; done) | (go_simp; rfl)); (case hp => exact (Reps.one (show Kd.M (Kd.int .u64) _ _ _ t339 [.int .u64 t339] from rfl) (Reps.none _ _))); intro v341 w32 ho33 hb hg_ hnew_; clear hg_ hnew_; (first | rw [← Ny340.out] at ho33 | (simp only [Int.reduceToNat] at ho33; rw [← Ny340.out] at ho33)); have n0_ := Aside0.mk (Kd.R_elder' (by (with_reducible repeat (first | apply Kd.R_alloc | apply Kd.R_drewN | apply Kd.R_drew)); exact HO_10.out) (Kd.R_base ho33) hb); have n1_ := Aside0.mk (Kd.R_lower (Kd.R_new' ho33 (Kd.R_lt (by (with_reducible repeat (first | apply Kd.R_alloc | apply Kd.R_drewN | apply Kd.R_drew)); exact HO_10.out))) (below_size (by repeat (first | (with_reducible first | exact HB.out | apply below_alloc | apply pw_below_drewN | apply below_drew1) | exact HB.out)))); have n2_ := Aside0.mk (below_step (by repeat (first | (with_reducible first | exact HB.out | apply below_alloc | apply pw_below_drewN | apply below_drew1) | exact HB.out)) hb); clear HO_10; clear HB; have HO_10 := n0_; have HO342 := n1_; have HB := n2_; clear n0_ n1_ n2_; clear hb ho33; obtain ⟨Ao34, co34, eo34⟩ := Kd.R_slice HO342.out; subst eo34) | ((with_reducible refine gate_callee (f := 54) rfl ?_); refine goesL_ (some 73) rfl rfl Try.func54 (by kernel_rfl) rfl #[.int .u8 (rd l0 0), .slice Ao34 y340.length co34] rfl (by (try simp only [List.map_toArray, List.map_cons, List.map_nil]); first | done | rfl | (simp only [List.length_drop, List.length_take]; rfl)) ?_; (with_reducible refine (conclaveref01_In.calls kj18 (rd l0 0) _ _ y340 true _ ?side1 ?side2 A27.out).mono ?_); (case side1 => repeat (first | exact (Kd.R_reads' HO342.out).2.2 | (with_reducible refine Kd.C_alloc ?_ _) | (with_reducible refine Kd.C_drewN ?_ _) | (with_reducible refine Kd.C_drew ?_))); (case side2 => exact (Kd.R_reads' HO342.out).2.1); rintro e w' ⟨rfl, ⟨nd, rfl⟩⟩; refine ⟨_, rfl, ?_⟩) | ((with_reducible refine gate_builtin (b := .append) (xs := #[.tmp 75, .tmp 77]) rfl ?_); (try (refine gate_guard (by rfl) ?_; dsimp only)); at_builtin; refine Kd.R_append (Kd.int .u64) (w0 := w) w.heap.size rfl (.tmp 75) (.tmp 77) 36 32 (.int .u64 0) 8 rfl Try.underlying36 info32 rfl (by decide) (by omega) u10 x10_6 t339 [.int .u64 t339] (fun k_ => some k_ ≠ (.slice Ao34 y340.length co34 : Value).ownBlock) (fun _ => False) rfl rfl ?aP (fun _ hk => hk.elim) ?aF ?aO ?aB ?aS ?aL ?_; (case aP => exact rfl); (case aB => exact (by repeat (first | (with_reducible first | exact HB.out | apply below_alloc | apply pw_below_drewN | apply below_drew1) | exact HB.out))); (case aF => exact (fun k_ hk => Kd.fresh' (Kd.R_lt (by (with_reducible repeat (first | apply Kd.R_alloc | apply Kd.R_drewN | apply Kd.R_drew)); exact HO342.out)) k_ hk)); (case aO => exact (by (with_reducible repeat (first | apply Kd.R_alloc | apply Kd.R_drewN | apply Kd.R_drew)); exact Kd.R_mono HO_10.out (fun _ hk => hk.2))); (case aS => exact (below_size (by repeat (first | (with_reducible first | exact HB.out | apply below_alloc | apply pw_below_drewN | apply below_drew1) | exact HB.out)))); (case aL => have := LMc29.out; omega); intro v345 w35 ho hb hg hat; rw [← Ny344.out] at ho; have n0_ := Aside0.mk (Kd.R_after (ok := (fun _ => True)) (by (with_reducible repeat (first | apply Kd.R_alloc | apply Kd.R_drewN | apply Kd.R_drew)); exact HO342.out) hg hat); have n1_ := Aside0.mk (hb); have n2_ := Aside0.mk (ho); clear HO342; clear HB; clear HO_10; have HO342 := n0_; have HB := n1_; have HO346 := n2_; clear n0_ n1_ n2_; clear ho hb hg hat) | ((with_reducible refine gate_callee (f := 55) rfl ?_); refine goesL_ (some 81) rfl rfl Try.func55 (by kernel_rfl) rfl #[.int .u8 (rd l0 0)] rfl (by (try simp only [List.map_toArray, List.map_cons, List.map_nil]); first | done | rfl | (simp only [List.length_drop, List.length_take]; rfl)) ?_; (with_reducible refine (conclaveref08_width.calls (rd l0 0) t347 _ A30.out).mono ?_); rintro e w' ⟨rfl, ⟨nd, rfl⟩⟩; refine ⟨_, rfl, ?_⟩))
                                                  go_roundg kj18
                                                  case measure => have := HJ3.out; have := HJ8.out; have := HJ11.out; have := HJ13.out; have := HJ16.out; have := HK6.out; have := HJ18.out; omega
                                                  case rel => exact ⟨(wrap64 (x8_6 + t347)), (x9_6), (y344), (wrap64 (x11_6 + 1)), (by first | rfl | (simp; done) | (simp [*]; done)), (by first | rfl | (simp; done) | (simp [*]; done)), (by first | rfl | (simp; done) | (simp [*]; done)), H', ⟨by have := HJ3.out; have := HJ8.out; have := HJ11.out; have := HJ13.out; have := HJ16.out; have := HK6.out; have := HJ18.out; omega⟩, ⟨by (with_reducible repeat (first | apply Kd.R_alloc | apply Kd.R_drewN | apply Kd.R_drew)); exact Kd.R_mono HO346.out (fun _ hk => trivial)⟩, ⟨by repeat (first | (with_reducible first | exact HB.out | apply below_alloc | apply pw_below_drewN | apply below_drew1) | exact HB.out)⟩⟩
                                                · rw [if_neg c29] at H
                                                  exact absurd H (by simp)
                                              · replace c28 := Bool.eq_false_iff.mpr c28
                                                subst c28
                                                have H1 : (if x10_6.length < 17592186044416 then ((conclaveref08_width.f (rd l0 0)).bind fun t351 => (conclaveref08_ReadList.l0 kj18 l0 (rd l0 0) t333 (wrap64 (x8_6 + t351)) 8 (x10_6 ++ [t339]) (wrap64 (x11_6 + 1)))) else (none)) = some (r1, r2, r3, r4) := by rw [if_neg (show ¬ (false = true) by decide)] at H; exact H
                                                clear H
                                                have H := H1
                                                clear H1
                                                by_cases c36 : x10_6.length < 17592186044416
                                                · rw [if_pos c36] at H
                                                  have LMc36 := Aside0.mk c36
                                                  clear c36
                                                  obtain ⟨y348, hy348⟩ : ∃ y_ : List Int, y_ = (x10_6 ++ [t339]) := ⟨_, rfl⟩
                                                  replace H : ((conclaveref08_width.f (rd l0 0)).bind fun t351 => (conclaveref08_ReadList.l0 kj18 l0 (rd l0 0) t333 (wrap64 (x8_6 + t351)) 8 y348 (wrap64 (x11_6 + 1)))) = some (r1, r2, r3, r4) := by first | (rw [hy348]; with_reducible exact H) | (have H2_ := (Option.bind_some _ _).symm.trans H; rw [hy348]; with_reducible exact H2_) | (have H2_ := (Option.bind_some _ _).symm.trans H; with_reducible exact H2_) | with_reducible exact H | (rw [hy348]; exact H) | exact H
                                                  have Ny348 := Aside0.mk hy348
                                                  clear hy348
                                                  replace H := Option.bind_eq_some_iff.mp H
                                                  obtain ⟨t351, A370, H⟩ := H
                                                  replace H : (conclaveref08_ReadList.l0 kj18 l0 (rd l0 0) t333 (wrap64 (x8_6 + t351)) 8 y348 (wrap64 (x11_6 + 1))) = some (r1, r2, r3, r4) := H
                                                  have A37 := Aside0.mk A370
                                                  clear A370
                                                  have H' := Aside0.mk H
                                                  clear H
                                                  go_wp2_with (first | ((with_reducible refine gate_callee (f := 55) rfl ?_); refine goesL_ (some 66) rfl rfl Try.func55 (by kernel_rfl) rfl #[.int .u8 (rd l0 0)] rfl (by (try simp only [List.map_toArray, List.map_cons, List.map_nil]); first | done | rfl | (simp only [List.length_drop, List.length_take]; rfl)) ?_; (with_reducible refine (conclaveref08_width.calls (rd l0 0) t337 _ A22.out).mono ?_); rintro e w' ⟨rfl, ⟨nd, rfl⟩⟩; refine ⟨_, rfl, ?_⟩; obtain ⟨i038, hi038, _, hsz38, _⟩ := info_parts info5; obtain ⟨A38, hcut38, hA38, hC38⟩ := print_mid_of (P := Try.prog) (Value.int .u8) 0 22 5 .i64 .i64 Try.underlying22 hi038 hsz38 (some ad331) c0 l0 x8_6 (wrap64 (x8_6 + t337)) (of_decide_eq_true (by first | (with_reducible assumption) | assumption)) (by first | omega | exact of_decide_eq_true (by first | (with_reducible assumption) | assumption)) (of_decide_eq_true (by first | (with_reducible assumption) | assumption)) HC0.out; have HR338 := Aside0.mk (Kd.C_of_reads (h1 := fun _ => rfl) (hA38 _ (Kd.reads_of_C HR0.out))); have HC338 := Aside0.mk hC38; clear hA38 hC38 hi038 hsz38) | ((with_reducible refine gate_callee (f := 47) rfl ?_); refine goesL_ (some 69) rfl rfl Try.func47 (by kernel_rfl) rfl #[.slice A38 ((l0.take ((wrap64 (x8_6 + t337)) : Int).toNat).drop (x8_6 : Int).toNat).length (c0 - x8_6.toNat)] rfl (by (try simp only [List.map_toArray, List.map_cons, List.map_nil]); first | done | (rw [show ((l0.take ((wrap64 (x8_6 + t337)) : Int).toNat).drop (x8_6 : Int).toNat).length = ((wrap64 (x8_6 + t337)).toNat - x8_6.toNat) from (by rw [List.length_drop, List.length_take]; have h_ : ((wrap64 (x8_6 + t337)) : Int) ≤ (l0.length : Int) := of_decide_eq_true (by first | (with_reducible assumption) | assumption); omega)] <;> rfl) | rfl | (simp only [List.length_drop, List.length_take]; rfl)) ?_; (with_reducible refine (conclaveref08_Taken.calls kj18 _ _ ((l0.take ((wrap64 (x8_6 + t337)) : Int).toNat).drop (x8_6 : Int).toNat) t339 _ ?side1 ?side2 A26.out).mono ?_); (case side1 => repeat (first | exact (Kd.C_below HR338.out (by repeat (first | (with_reducible first | exact HB.out | apply below_alloc | apply pw_below_drewN | apply below_drew1) | exact HB.out))) | (with_reducible refine Kd.C_alloc ?_ _) | (with_reducible refine Kd.C_drewN ?_ _) | (with_reducible refine Kd.C_drew ?_))); (case side2 => exact HC338.out); rintro e w' ⟨rfl, ⟨nd, rfl⟩⟩; refine ⟨_, rfl, ?_⟩) | ((with_reducible refine gate_dst (N := 72) rfl ?_); (try (refine gate_guard (by rfl) ?_; dsimp only)); refine Kd.R_lit (Kd.int .u64) _ 32 ?hg (N := 72) ?hd (xs := ([t339] : List Int)) (inner := [.int .u64 t339]) (ok := fun _ => True) (okp := fun _ => True) ?hr ?hp (fun _ hk => hk) trivial (Below.refl _ _) (Nat.le_refl _) (by simp) ?_; (case hd => rfl); (case hg => rfl); (case hr => first | (go_simp; done) | (go_simp; rfl)); (case hp => exact (Reps.one (show Kd.M (Kd.int .u64) _ _ _ t339 [.int .u64 t339] from rfl) (Reps.none _ _))); intro v341 w39 ho40 hb hg_ hnew_; clear hg_ hnew_; (first | rw [← Ny340.out] at ho40 | (simp only [Int.reduceToNat] at ho40; rw [← Ny340.out] at ho40)); have n0_ := Aside0.mk (Kd.R_elder' (by (with_reducible repeat (first | apply Kd.R_alloc | apply Kd.R_drewN | apply Kd.R_drew)); exact HO_10.out) (Kd.R_base ho40) hb); have n1_ := Aside0.mk (Kd.R_lower (Kd.R_new' ho40 (Kd.R_lt (by (with_reducible repeat (first | apply Kd.R_alloc | apply Kd.R_drewN | apply Kd.R_drew)); exact HO_10.out))) (below_size (by repeat (first | (with_reducible first | exact HB.out | apply below_alloc | apply pw_below_drewN | apply below_drew1) | exact HB.out)))); have n2_ := Aside0.mk (below_step (by repeat (first | (with_reducible first | exact HB.out | apply below_alloc | apply pw_below_drewN | apply below_drew1) | exact HB.out)) hb); clear HO_10; clear HB; have HO_10 := n0_; have HO342 := n1_; have HB := n2_; clear n0_ n1_ n2_; clear hb ho40; obtain ⟨Ao41, co41, eo41⟩ := Kd.R_slice HO342.out; subst eo41) | ((with_reducible refine gate_callee (f := 54) rfl ?_); refine goesL_ (some 73) rfl rfl Try.func54 (by kernel_rfl) rfl #[.int .u8 (rd l0 0), .slice Ao41 y340.length co41] rfl (by (try simp only [List.map_toArray, List.map_cons, List.map_nil]); first | done | rfl | (simp only [List.length_drop, List.length_take]; rfl)) ?_; (with_reducible refine (conclaveref01_In.calls kj18 (rd l0 0) _ _ y340 false _ ?side1 ?side2 A27.out).mono ?_); (case side1 => repeat (first | exact (Kd.R_reads' HO342.out).2.2 | (with_reducible refine Kd.C_alloc ?_ _) | (with_reducible refine Kd.C_drewN ?_ _) | (with_reducible refine Kd.C_drew ?_))); (case side2 => exact (Kd.R_reads' HO342.out).2.1); rintro e w' ⟨rfl, ⟨nd, rfl⟩⟩; refine ⟨_, rfl, ?_⟩) | ((with_reducible refine gate_builtin (b := .append) (xs := #[.tmp 75, .tmp 77]) rfl ?_); (try (refine gate_guard (by rfl) ?_; dsimp only)); at_builtin; refine Kd.R_append (Kd.int .u64) (w0 := w) w.heap.size rfl (.tmp 75) (.tmp 77) 36 32 (.int .u64 0) 8 rfl Try.underlying36 info32 rfl (by decide) (by omega) u10 x10_6 t339 [.int .u64 t339] (fun k_ => some k_ ≠ (.slice Ao41 y340.length co41 : Value).ownBlock) (fun _ => False) rfl rfl ?aP (fun _ hk => hk.elim) ?aF ?aO ?aB ?aS ?aL ?_; (case aP => exact rfl); (case aB => exact (by repeat (first | (with_reducible first | exact HB.out | apply below_alloc | apply pw_below_drewN | apply below_drew1) | exact HB.out))); (case aF => exact (fun k_ hk => Kd.fresh' (Kd.R_lt (by (with_reducible repeat (first | apply Kd.R_alloc | apply Kd.R_drewN | apply Kd.R_drew)); exact HO342.out)) k_ hk)); (case aO => exact (by (with_reducible repeat (first | apply Kd.R_alloc | apply Kd.R_drewN | apply Kd.R_drew)); exact Kd.R_mono HO_10.out (fun _ hk => hk.2))); (case aS => exact (below_size (by repeat (first | (with_reducible first | exact HB.out | apply below_alloc | apply pw_below_drewN | apply below_drew1) | exact HB.out)))); (case aL => have := LMc36.out; omega); intro v349 w42 ho hb hg hat; rw [← Ny348.out] at ho; have n0_ := Aside0.mk (Kd.R_after (ok := (fun _ => True)) (by (with_reducible repeat (first | apply Kd.R_alloc | apply Kd.R_drewN | apply Kd.R_drew)); exact HO342.out) hg hat); have n1_ := Aside0.mk (hb); have n2_ := Aside0.mk (ho); clear HO342; clear HB; clear HO_10; have HO342 := n0_; have HB := n1_; have HO350 := n2_; clear n0_ n1_ n2_; clear ho hb hg hat) | ((with_reducible refine gate_callee (f := 55) rfl ?_); refine goesL_ (some 81) rfl rfl Try.func55 (by kernel_rfl) rfl #[.int .u8 (rd l0 0)] rfl (by (try simp only [List.map_toArray, List.map_cons, List.map_nil]); first | done | rfl | (simp only [List.length_drop, List.length_take]; rfl)) ?_; (with_reducible refine (conclaveref08_width.calls (rd l0 0) t351 _ A37.out).mono ?_); rintro e w' ⟨rfl, ⟨nd, rfl⟩⟩; refine ⟨_, rfl, ?_⟩))
                                                  go_roundg kj18
                                                  case measure => have := HJ3.out; have := HJ8.out; have := HJ11.out; have := HJ13.out; have := HJ16.out; have := HK6.out; have := HJ18.out; omega
                                                  case rel => exact ⟨(wrap64 (x8_6 + t351)), (8), (y348), (wrap64 (x11_6 + 1)), (by first | rfl | (simp; done) | (simp [*]; done)), (by first | rfl | (simp; done) | (simp [*]; done)), (by first | rfl | (simp; done) | (simp [*]; done)), H', ⟨by have := HJ3.out; have := HJ8.out; have := HJ11.out; have := HJ13.out; have := HJ16.out; have := HK6.out; have := HJ18.out; omega⟩, ⟨by (with_reducible repeat (first | apply Kd.R_alloc | apply Kd.R_drewN | apply Kd.R_drew)); exact Kd.R_mono HO350.out (fun _ hk => trivial)⟩, ⟨by repeat (first | (with_reducible first | exact HB.out | apply below_alloc | apply pw_below_drewN | apply below_drew1) | exact HB.out)⟩⟩
                                                · rw [if_neg c36] at H
                                                  exact absurd H (by simp)
                                            · rw [if_neg c25] at H
                                              exact absurd H (by simp)
                                          · rw [if_neg c24] at H
                                            exact absurd H (by simp)
                                        · rw [if_neg c23] at H
                                          exact absurd H (by simp)
                                      · replace c21 := Bool.eq_false_iff.mpr c21
                                        subst c21
                                        have H1 : (if x9_6 = 0 then (some ((rd l0 0), x10_6, x8_6, 0)) else (some (0, ([] : List Int), 0, x9_6))) = some (r1, r2, r3, r4) := by rw [if_neg (show ¬ (false = true) by decide)] at H; exact H
                                        clear H
                                        have H := H1
                                        clear H1
                                        by_cases c43 : x9_6 = 0
                                        · rw [if_pos c43] at H
                                          have c43b0 : (x9_6 == 0) = true := beq_iff_eq.mpr c43
                                          have c43b1 : (x9_6 != 0) = false := bne_eq_false_iff_eq.mpr c43
                                          clear c43
                                          simp only [Option.some.injEq, Prod.mk.injEq] at H
                                          obtain ⟨rfl, rfl, rfl, rfl⟩ := H
                                          go_wp2
                                          refine bodyPost_ret (results_list (rs := [.tmp 2, .tmp 3, .tmp 4, .tmp 5]) rfl (by simp) (.tmp (.tmp (.tmp (.tmp .nil))))) rfl ?_
                                          exact ⟨_, by first | rfl | (simp [errW_none, errW_some] <;> rfl) | (simp [*, errW_none, errW_some] <;> rfl), by (with_reducible repeat (first | apply Kd.R_alloc | apply Kd.R_drewN | apply Kd.R_drew)); exact HO_10.out, by repeat (first | (with_reducible first | exact HB.out | apply below_alloc | apply pw_below_drewN | apply below_drew1) | exact HB.out)⟩
                                        · rw [if_neg c43] at H
                                          have c43b0 : (x9_6 == 0) = false := beq_eq_false_iff_ne.mpr c43
                                          have c43b1 : (x9_6 != 0) = true := bne_iff_ne.mpr c43
                                          simp only [Option.some.injEq, Prod.mk.injEq] at H
                                          obtain ⟨rfl, rfl, rfl, rfl⟩ := H
                                          go_wp2
                                          refine bodyPost_ret (results_list (rs := [.tmp 2, .tmp 3, .tmp 4, .tmp 5]) rfl (by simp) (.tmp (.tmp (.tmp (.tmp .nil))))) rfl ?_
                                          exact ⟨_, by first | rfl | (simp [errW_none, errW_some] <;> rfl) | (simp [*, errW_none, errW_some] <;> rfl), by first | exact Kd.R_nil _ _ _ _ _ | exact Kd.N_nil _ _ _ _ _ | exact Kd.V_nil _ _ _ _ _ | exact Kd.Q_nil _ _ _ _ _ | exact Kd.S_nil _ _ _ _ _, by repeat (first | (with_reducible first | exact HB.out | apply below_alloc | apply pw_below_drewN | apply below_drew1) | exact HB.out)⟩
            · rw [if_neg c7] at H
              exact absurd H (by simp)
    · rw [if_neg c3] at H
      exact absurd H (by simp)

end Go.Proofs.Ytclanpkekocndaa.P
