-- Written by the kit's printer, called by a program of ours; the proofs of some functions are our own. Not trusted: Lean checks it.
import Derived.Test.YtclanpkekocndaaPx0
import Derived.Test.YtclanpkekocndaaPx2
import Derived.Test.YtclanpkekocndaaPx3
import Derived.Test.YtclanpkekocndaaPx21
namespace Go.Proofs.Ytclanpkekocndaa.P
open Go.RowKit Go.Proofs.YtclanpkekocndaaW.PrintWords Go.Proofs.YtclanpkekocndaaW.PrintLast Go.Proofs.YtclanpkekocndaaW.PrintMore
attribute [local go_sem] max2_int min2_int max_two min_two max_three min_three max_four min_four   -- for this text's walks alone
set_option linter.unusedVariables false
set_option linter.unusedSimpArgs false

/-! ### conclaveref08_Unseal: function 39 -/
mutual
def conclaveref08_Unseal.j0 : Nat → List Int → Int → Int → Bool → Option (List Int × Int × Int)
  | 0, _, _, _, _ => none
  | k + 1, x0, x5, x7, x19 => if x19 = true then (conclaveref08_Unseal.j1 k x0 x5 4) else (conclaveref08_Unseal.j1 k x0 x5 x7)
def conclaveref08_Unseal.j1 : Nat → List Int → Int → Int → Option (List Int × Int × Int)
  | 0, _, _, _ => none
  | k + 1, x0, x5, x7 => if x7 = 0 then (conclaveref08_Unseal.j2 k x0 x5 x7 (decide ((x0.length : Int) < (wrap64 ((wrap64 (4 + x5)) + 8))))) else (conclaveref08_Unseal.j2 k x0 x5 x7 false)
def conclaveref08_Unseal.j2 : Nat → List Int → Int → Int → Bool → Option (List Int × Int × Int)
  | 0, _, _, _, _ => none
  | k + 1, x0, x5, x7, x29 => if x29 = true then (conclaveref08_Unseal.j3 k x0 x5 7) else (conclaveref08_Unseal.j3 k x0 x5 x7)
def conclaveref08_Unseal.j3 : Nat → List Int → Int → Int → Option (List Int × Int × Int)
  | 0, _, _, _ => none
  | k + 1, x0, x5, x7 => if x7 = 0 then (if 0 ≤ (wrap64 (4 + x5)) then (if (wrap64 (4 + x5)) ≤ (wrap64 (12 + x5)) then (if (wrap64 (12 + x5)) ≤ (x0.length : Int) then ((conclaveref08_Taken.f k ((x0.take ((wrap64 (12 + x5)) : Int).toNat).drop ((wrap64 (4 + x5)) : Int).toNat)).bind fun t418 => (if (wrap64 (4 + x5)) ≤ (x0.length : Int) then ((conclaveref08_Sum.f k (x0.take ((wrap64 (4 + x5)) : Int).toNat)).bind fun t420 => (conclaveref08_Unseal.j4 k x0 x5 x7 (t418 != t420))) else (none))) else (none)) else (none)) else (none)) else (conclaveref08_Unseal.j4 k x0 x5 x7 false)
def conclaveref08_Unseal.j4 : Nat → List Int → Int → Int → Bool → Option (List Int × Int × Int)
  | 0, _, _, _, _ => none
  | k + 1, x0, x5, x7, x46 => if x46 = true then (if 80 = 0 then (if 4 ≤ (wrap64 (4 + x5)) then (if (wrap64 (4 + x5)) ≤ (x0.length : Int) then ((conclaveref08_Bytes.f ((x0.take ((wrap64 (4 + x5)) : Int).toNat).drop 4)).bind fun t422 => (some (t422, wrap64 (12 + x5), 0))) else (none)) else (none)) else (some (([] : List Int), 0, 80))) else (if x7 = 0 then (if 4 ≤ (wrap64 (4 + x5)) then (if (wrap64 (4 + x5)) ≤ (x0.length : Int) then ((conclaveref08_Bytes.f ((x0.take ((wrap64 (4 + x5)) : Int).toNat).drop 4)).bind fun t426 => (some (t426, wrap64 (12 + x5), 0))) else (none)) else (none)) else (some (([] : List Int), 0, x7)))
end
def conclaveref08_Unseal.f (k : Nat) (l0 : List Int) : Option (List Int × Int × Int) := (conclaveref08_ReadCount.f k l0).bind fun bt414 => (if bt414.2.2 = 0 then (conclaveref08_Unseal.j0 k l0 bt414.1 bt414.2.2 (decide (bt414.1 > 1048576))) else (conclaveref08_Unseal.j0 k l0 bt414.1 bt414.2.2 false))
theorem conclaveref08_Unseal.mono_l : ∀ k, (∀ y0 y1 y2 y3, LeO (conclaveref08_Unseal.j0 k y0 y1 y2 y3) (conclaveref08_Unseal.j0 (k + 1) y0 y1 y2 y3)) ∧ (∀ y0 y1 y2, LeO (conclaveref08_Unseal.j1 k y0 y1 y2) (conclaveref08_Unseal.j1 (k + 1) y0 y1 y2)) ∧ (∀ y0 y1 y2 y3, LeO (conclaveref08_Unseal.j2 k y0 y1 y2 y3) (conclaveref08_Unseal.j2 (k + 1) y0 y1 y2 y3)) ∧ (∀ y0 y1 y2, LeO (conclaveref08_Unseal.j3 k y0 y1 y2) (conclaveref08_Unseal.j3 (k + 1) y0 y1 y2)) ∧ (∀ y0 y1 y2 y3, LeO (conclaveref08_Unseal.j4 k y0 y1 y2 y3) (conclaveref08_Unseal.j4 (k + 1) y0 y1 y2 y3))
  | 0 => ⟨fun _ _ _ _ r h => by simp [conclaveref08_Unseal.j0] at h, fun _ _ _ r h => by simp [conclaveref08_Unseal.j1] at h, fun _ _ _ _ r h => by simp [conclaveref08_Unseal.j2] at h, fun _ _ _ r h => by simp [conclaveref08_Unseal.j3] at h, fun _ _ _ _ r h => by simp [conclaveref08_Unseal.j4] at h⟩
  | k + 1 => by
    obtain ⟨ih0, ih1, ih2, ih3, ih4⟩ := conclaveref08_Unseal.mono_l k
    refine ⟨?_, ?_, ?_, ?_, ?_⟩
    · intro y0 y1 y2 y3
      unfold conclaveref08_Unseal.j0
      repeat' first
      | (with_reducible exact ih0 _ _ _ _)
      | (with_reducible exact ih1 _ _ _)
      | (with_reducible exact ih2 _ _ _ _)
      | (with_reducible exact ih3 _ _ _)
      | (with_reducible exact ih4 _ _ _ _)
      | (with_reducible exact conclaveref08_ReadCount.mono _ _)
      | (with_reducible exact conclaveref08_Sum.mono _ _)
      | (with_reducible exact conclaveref08_Taken.mono _ _)
      | (with_reducible exact LeO.refl _)
      | (with_reducible exact LeO.none _)
      | (with_reducible refine LeO.ite ?_ ?_)
      | (with_reducible refine LeO.bind ?_ (fun _ => ?_))
      | exact ih0 _ _ _ _
      | exact ih1 _ _ _
      | exact ih2 _ _ _ _
      | exact ih3 _ _ _
      | exact ih4 _ _ _ _
      | exact conclaveref08_ReadCount.mono _ _
      | exact conclaveref08_Sum.mono _ _
      | exact conclaveref08_Taken.mono _ _
      | exact LeO.none _
      | refine LeO.ite ?_ ?_
      | refine LeO.bind ?_ (fun _ => ?_)
    · intro y0 y1 y2
      unfold conclaveref08_Unseal.j1
      repeat' first
      | (with_reducible exact ih0 _ _ _ _)
      | (with_reducible exact ih1 _ _ _)
      | (with_reducible exact ih2 _ _ _ _)
      | (with_reducible exact ih3 _ _ _)
      | (with_reducible exact ih4 _ _ _ _)
      | (with_reducible exact conclaveref08_ReadCount.mono _ _)
      | (with_reducible exact conclaveref08_Sum.mono _ _)
      | (with_reducible exact conclaveref08_Taken.mono _ _)
      | (with_reducible exact LeO.refl _)
      | (with_reducible exact LeO.none _)
      | (with_reducible refine LeO.ite ?_ ?_)
      | (with_reducible refine LeO.bind ?_ (fun _ => ?_))
      | exact ih0 _ _ _ _
      | exact ih1 _ _ _
      | exact ih2 _ _ _ _
      | exact ih3 _ _ _
      | exact ih4 _ _ _ _
      | exact conclaveref08_ReadCount.mono _ _
      | exact conclaveref08_Sum.mono _ _
      | exact conclaveref08_Taken.mono _ _
      | exact LeO.none _
      | refine LeO.ite ?_ ?_
      | refine LeO.bind ?_ (fun _ => ?_)
    · intro y0 y1 y2 y3
      unfold conclaveref08_Unseal.j2
      repeat' first
      | (with_reducible exact ih0 _ _ _ _)
      | (with_reducible exact ih1 _ _ _)
      | (with_reducible exact ih2 _ _ _ _)
      | (with_reducible exact ih3 _ _ _)
      | (with_reducible exact ih4 _ _ _ _)
      | (with_reducible exact conclaveref08_ReadCount.mono _ _)
      | (with_reducible exact conclaveref08_Sum.mono _ _)
      | (with_reducible exact conclaveref08_Taken.mono _ _)
      | (with_reducible exact LeO.refl _)
      | (with_reducible exact LeO.none _)
      | (with_reducible refine LeO.ite ?_ ?_)
      | (with_reducible refine LeO.bind ?_ (fun _ => ?_))
      | exact ih0 _ _ _ _
      | exact ih1 _ _ _
      | exact ih2 _ _ _ _
      | exact ih3 _ _ _
      | exact ih4 _ _ _ _
      | exact conclaveref08_ReadCount.mono _ _
      | exact conclaveref08_Sum.mono _ _
      | exact conclaveref08_Taken.mono _ _
      | exact LeO.none _
      | refine LeO.ite ?_ ?_
      | refine LeO.bind ?_ (fun _ => ?_)
    · intro y0 y1 y2
      unfold conclaveref08_Unseal.j3
      repeat' first
      | (with_reducible exact ih0 _ _ _ _)
      | (with_reducible exact ih1 _ _ _)
      | (with_reducible exact ih2 _ _ _ _)
      | (with_reducible exact ih3 _ _ _)
      | (with_reducible exact ih4 _ _ _ _)
      | (with_reducible exact conclaveref08_ReadCount.mono _ _)
      | (with_reducible exact conclaveref08_Sum.mono _ _)
      | (with_reducible exact conclaveref08_Taken.mono _ _)
      | (with_reducible exact LeO.refl _)
      | (with_reducible exact LeO.none _)
      | (with_reducible refine LeO.ite ?_ ?_)
      | (with_reducible refine LeO.bind ?_ (fun _ => ?_))
      | exact ih0 _ _ _ _
      | exact ih1 _ _ _
      | exact ih2 _ _ _ _
      | exact ih3 _ _ _
      | exact ih4 _ _ _ _
      | exact conclaveref08_ReadCount.mono _ _
      | exact conclaveref08_Sum.mono _ _
      | exact conclaveref08_Taken.mono _ _
      | exact LeO.none _
      | refine LeO.ite ?_ ?_
      | refine LeO.bind ?_ (fun _ => ?_)
    · intro y0 y1 y2 y3
      unfold conclaveref08_Unseal.j4
      repeat' first
      | (with_reducible exact ih0 _ _ _ _)
      | (with_reducible exact ih1 _ _ _)
      | (with_reducible exact ih2 _ _ _ _)
      | (with_reducible exact ih3 _ _ _)
      | (with_reducible exact ih4 _ _ _ _)
      | (with_reducible exact conclaveref08_ReadCount.mono _ _)
      | (with_reducible exact conclaveref08_Sum.mono _ _)
      | (with_reducible exact conclaveref08_Taken.mono _ _)
      | (with_reducible exact LeO.refl _)
      | (with_reducible exact LeO.none _)
      | (with_reducible refine LeO.ite ?_ ?_)
      | (with_reducible refine LeO.bind ?_ (fun _ => ?_))
      | exact ih0 _ _ _ _
      | exact ih1 _ _ _
      | exact ih2 _ _ _ _
      | exact ih3 _ _ _
      | exact ih4 _ _ _ _
      | exact conclaveref08_ReadCount.mono _ _
      | exact conclaveref08_Sum.mono _ _
      | exact conclaveref08_Taken.mono _ _
      | exact LeO.none _
      | refine LeO.ite ?_ ?_
      | refine LeO.bind ?_ (fun _ => ?_)
theorem conclaveref08_Unseal.mono : ∀ a0 k, LeO (conclaveref08_Unseal.f k a0) (conclaveref08_Unseal.f (k + 1) a0) := by
  intro a0 k
  obtain ⟨ih0, ih1, ih2, ih3, ih4⟩ := conclaveref08_Unseal.mono_l k
  unfold conclaveref08_Unseal.f
  repeat' first
      | (with_reducible exact ih0 _ _ _ _)
      | (with_reducible exact ih1 _ _ _)
      | (with_reducible exact ih2 _ _ _ _)
      | (with_reducible exact ih3 _ _ _)
      | (with_reducible exact ih4 _ _ _ _)
      | (with_reducible exact conclaveref08_ReadCount.mono _ _)
      | (with_reducible exact conclaveref08_Sum.mono _ _)
      | (with_reducible exact conclaveref08_Taken.mono _ _)
      | (with_reducible exact LeO.refl _)
      | (with_reducible exact LeO.none _)
      | (with_reducible refine LeO.ite ?_ ?_)
      | (with_reducible refine LeO.bind ?_ (fun _ => ?_))
      | exact ih0 _ _ _ _
      | exact ih1 _ _ _
      | exact ih2 _ _ _ _
      | exact ih3 _ _ _
      | exact ih4 _ _ _ _
      | exact conclaveref08_ReadCount.mono _ _
      | exact conclaveref08_Sum.mono _ _
      | exact conclaveref08_Taken.mono _ _
      | exact LeO.none _
      | refine LeO.ite ?_ ?_
      | refine LeO.bind ?_ (fun _ => ?_)
set_option maxHeartbeats 8000000 in
set_option maxRecDepth 100000 in
theorem conclaveref08_Unseal.calls (k : Nat) (A0 : Option Addr) (c0 : Nat) (l0 : List Int) (r1 : List Int) (r2 : Int) (r3 : Int) (w : World) (hr0 : Kd.C (Kd.int .u8) w A0 l0.length l0) (hc0 : l0.length ≤ c0) (h : conclaveref08_Unseal.f k l0 = some (r1, r2, r3)) :
    Calls Try.prog 39 #[.slice A0 l0.length c0] w fun e w' => ∃ v0_ : Value, e = .returned (.tuple #[v0_, .int .i64 r2, .int .i64 r3]) ∧ Kd.R (Kd.int .u8) 5 w' w.heap.size (fun _ => True) v0_ r1 ∧ Below w.heap.size w w' := by
  have HR0 := Aside0.mk hr0
  have HC0 := Aside0.mk hc0
  clear hr0 hc0
  have HB := Aside0.mk (Below.refl w.heap.size w)
  have H : ((conclaveref08_ReadCount.f k l0).bind fun bt414 => (if bt414.2.2 = 0 then (conclaveref08_Unseal.j0 k l0 bt414.1 bt414.2.2 (decide (bt414.1 > 1048576))) else (conclaveref08_Unseal.j0 k l0 bt414.1 bt414.2.2 false))) = some (r1, r2, r3) := h
  clear h
  replace H := Option.bind_eq_some_iff.mp H
  obtain ⟨⟨t414, t415, t416⟩, A20, H⟩ := H
  replace H : (if t416 = 0 then (conclaveref08_Unseal.j0 k l0 t414 t416 (decide (t414 > 1048576))) else (conclaveref08_Unseal.j0 k l0 t414 t416 false)) = some (r1, r2, r3) := H
  have A2 := Aside0.mk A20
  clear A20
  have HC3 := Aside0.mk H
  clear H
  go_enter Try.func39, Try.ntmps39
  go_upto_region 2 with (first | (go_at_call 16; (with_reducible refine (conclaveref08_ReadCount.calls k _ _ l0 t414 t415 t416 _ ?side1 ?side2 A2.out).mono ?_); (case side1 => repeat (first | exact HR0.out | (with_reducible refine Kd.C_alloc ?_ _) | (with_reducible refine Kd.C_drewN ?_ _) | (with_reducible refine Kd.C_drew ?_))); (case side2 => exact HC0.out); rintro e w' ⟨rfl, ⟨nd, rfl⟩⟩; (try first | exact ⟨rfl, _, World.drewN_drewN _ _ _⟩ | exact ⟨rfl, _, Eq.trans (World.drewN_drewN _ _ _) (congrArg (World.drewN _) (Nat.add_assoc _ _ _))⟩)))
  repeat (go_quiet (first | (go_at_call 16; (with_reducible refine (conclaveref08_ReadCount.calls k _ _ l0 t414 t415 t416 _ ?side1 ?side2 A2.out).mono ?_); (case side1 => repeat (first | exact HR0.out | (with_reducible refine Kd.C_alloc ?_ _) | (with_reducible refine Kd.C_drewN ?_ _) | (with_reducible refine Kd.C_drew ?_))); (case side2 => exact HC0.out); rintro e w' ⟨rfl, ⟨nd, rfl⟩⟩; (try first | exact ⟨rfl, _, World.drewN_drewN _ _ _⟩ | exact ⟨rfl, _, Eq.trans (World.drewN_drewN _ _ _) (congrArg (World.drewN _) (Nat.add_assoc _ _ _))⟩))); go_upto_region 2 with (first | (go_at_call 16; (with_reducible refine (conclaveref08_ReadCount.calls k _ _ l0 t414 t415 t416 _ ?side1 ?side2 A2.out).mono ?_); (case side1 => repeat (first | exact HR0.out | (with_reducible refine Kd.C_alloc ?_ _) | (with_reducible refine Kd.C_drewN ?_ _) | (with_reducible refine Kd.C_drew ?_))); (case side2 => exact HC0.out); rintro e w' ⟨rfl, ⟨nd, rfl⟩⟩; (try first | exact ⟨rfl, _, World.drewN_drewN _ _ _⟩ | exact ⟨rfl, _, Eq.trans (World.drewN_drewN _ _ _) (congrArg (World.drewN _) (Nat.add_assoc _ _ _))⟩))))
  (try simp only [Act.put, List.setIfInBounds_toArray, List.set_cons_zero, List.set_cons_succ])
  go_cut [19] (fun v19 wc => ∃ (kq : Nat) (x19_2 : Bool), v19 = .bool x19_2 ∧ Aside0 (conclaveref08_Unseal.j0 kq l0 t414 t416 x19_2 = some (r1, r2, r3)) ∧ Aside0 (kq ≤ k) ∧ Aside0 (Below w.heap.size w wc))
  case first =>
    have H := HC3.out
    clear HC3
    by_cases c4 : t416 = 0
    · rw [if_pos c4] at H
      have c4b0 : (t416 == 0) = true := beq_iff_eq.mpr c4
      have c4b1 : (t416 != 0) = false := bne_eq_false_iff_eq.mpr c4
      clear c4
      (first | rw [c4b0] | (simp only [i64_w, i32_w]; rw [c4b0]) | skip)
      have H' := Aside0.mk H
      clear H
      go_wp2
      repeat (go_quiet (fail); try go_wp2)
      go_meet
      case rel => exact ⟨_, (decide (t414 > 1048576)), (by first | rfl | (simp; done) | (simp [*]; done)), H', ⟨by first | omega | exact Nat.le_refl _⟩, ⟨by repeat (first | (with_reducible first | exact HB.out | apply below_alloc | apply pw_below_drewN | apply below_drew1) | exact HB.out)⟩⟩
    · rw [if_neg c4] at H
      have c4b0 : (t416 == 0) = false := beq_eq_false_iff_ne.mpr c4
      have c4b1 : (t416 != 0) = true := bne_iff_ne.mpr c4
      (first | rw [c4b0] | (simp only [i64_w, i32_w]; rw [c4b0]) | skip)
      have H' := Aside0.mk H
      clear H
      go_wp2
      repeat (go_quiet (fail); try go_wp2)
      go_meet
      case rel => exact ⟨_, (false), (by first | rfl | (simp; done) | (simp [*]; done)), H', ⟨by first | omega | exact Nat.le_refl _⟩, ⟨by repeat (first | (with_reducible first | exact HB.out | apply below_alloc | apply pw_below_drewN | apply below_drew1) | exact HB.out)⟩⟩
  case rest =>
    clear HC3
    try clear p2
    try clear c3
    try clear c4
    try clear c4b0
    try clear c4b1
    obtain ⟨kq, x19_2, rfl, HA, HJ2, HB⟩ := hcut
    cases kq with
    | zero => exact absurd HA.out (by simp [conclaveref08_Unseal.j0])
    | succ kj2 =>
      have H := HA.out
      clear HA
      simp only [conclaveref08_Unseal.j0] at H
      have HC5 := Aside0.mk H
      clear H
      go_upto_if 19 with (fail)
      repeat (go_quiet (fail); go_upto_if 19 with (fail))
      go_cut [7] (fun v7 wc => ∃ (kq : Nat) (x7_4 : Int), v7 = .int .i64 x7_4 ∧ Aside0 (conclaveref08_Unseal.j1 kq l0 t414 x7_4 = some (r1, r2, r3)) ∧ Aside0 (kq ≤ kj2) ∧ Aside0 (Below w.heap.size w wc))
      case first =>
        have H := HC5.out
        clear HC5
        by_cases c6 : x19_2 = true
        · subst c6
          have H1 : (conclaveref08_Unseal.j1 kj2 l0 t414 4) = some (r1, r2, r3) := by rw [if_pos rfl] at H; exact H
          clear H
          have H := H1
          clear H1
          have H' := Aside0.mk H
          clear H
          go_wp2
          repeat (go_quiet (fail); try go_wp2)
          go_meet
          case rel => exact ⟨_, (4), (by first | rfl | (simp; done) | (simp [*]; done)), H', ⟨by have := HJ2.out; first | omega | exact Nat.le_refl _⟩, ⟨by repeat (first | (with_reducible first | exact HB.out | apply below_alloc | apply pw_below_drewN | apply below_drew1) | exact HB.out)⟩⟩
        · replace c6 := Bool.eq_false_iff.mpr c6
          subst c6
          have H1 : (conclaveref08_Unseal.j1 kj2 l0 t414 t416) = some (r1, r2, r3) := by rw [if_neg (show ¬ (false = true) by decide)] at H; exact H
          clear H
          have H := H1
          clear H1
          have H' := Aside0.mk H
          clear H
          go_wp2
          repeat (go_quiet (fail); try go_wp2)
          go_meet
          case rel => exact ⟨_, (t416), (by first | rfl | (simp; done) | (simp [*]; done)), H', ⟨by have := HJ2.out; first | omega | exact Nat.le_refl _⟩, ⟨by repeat (first | (with_reducible first | exact HB.out | apply below_alloc | apply pw_below_drewN | apply below_drew1) | exact HB.out)⟩⟩
      case rest =>
        clear HC5
        try clear p2
        try clear c3
        try clear c4
        try clear c4b0
        try clear c4b1
        try clear c6
        try clear p2
        obtain ⟨kq, x7_4, rfl, HA, HJ4, HB⟩ := hcut
        cases kq with
        | zero => exact absurd HA.out (by simp [conclaveref08_Unseal.j1])
        | succ kj4 =>
          have H := HA.out
          clear HA
          simp only [conclaveref08_Unseal.j1] at H
          have HC7 := Aside0.mk H
          clear H
          go_upto_region 4 with (fail)
          repeat (go_quiet (fail); go_upto_region 4 with (fail))
          go_cut [29] (fun v29 wc => ∃ (kq : Nat) (x29_6 : Bool), v29 = .bool x29_6 ∧ Aside0 (conclaveref08_Unseal.j2 kq l0 t414 x7_4 x29_6 = some (r1, r2, r3)) ∧ Aside0 (kq ≤ kj4) ∧ Aside0 (Below w.heap.size w wc))
          case first =>
            have H := HC7.out
            clear HC7
            by_cases c8 : x7_4 = 0
            · rw [if_pos c8] at H
              have c8b0 : (x7_4 == 0) = true := beq_iff_eq.mpr c8
              have c8b1 : (x7_4 != 0) = false := bne_eq_false_iff_eq.mpr c8
              clear c8
              (first | rw [c8b0] | (simp only [i64_w, i32_w]; rw [c8b0]) | skip)
              have H' := Aside0.mk H
              clear H
              go_wp2
              repeat (go_quiet (fail); try go_wp2)
              go_meet
              case rel => exact ⟨_, (decide ((l0.length : Int) < (wrap64 ((wrap64 (4 + t414)) + 8)))), (by first | rfl | (simp; done) | (simp [*]; done)), H', ⟨by have := HJ2.out; have := HJ4.out; first | omega | exact Nat.le_refl _⟩, ⟨by repeat (first | (with_reducible first | exact HB.out | apply below_alloc | apply pw_below_drewN | apply below_drew1) | exact HB.out)⟩⟩
            · rw [if_neg c8] at H
              have c8b0 : (x7_4 == 0) = false := beq_eq_false_iff_ne.mpr c8
              have c8b1 : (x7_4 != 0) = true := bne_iff_ne.mpr c8
              (first | rw [c8b0] | (simp only [i64_w, i32_w]; rw [c8b0]) | skip)
              have H' := Aside0.mk H
              clear H
              go_wp2
              repeat (go_quiet (fail); try go_wp2)
              go_meet
              case rel => exact ⟨_, (false), (by first | rfl | (simp; done) | (simp [*]; done)), H', ⟨by have := HJ2.out; have := HJ4.out; first | omega | exact Nat.le_refl _⟩, ⟨by repeat (first | (with_reducible first | exact HB.out | apply below_alloc | apply pw_below_drewN | apply below_drew1) | exact HB.out)⟩⟩
          case rest =>
            clear HC7
            try clear p2
            try clear c3
            try clear c4
            try clear c4b0
            try clear c4b1
            try clear c6
            try clear p6
            try clear c8
            try clear c8b0
            try clear c8b1
            try clear p2
            obtain ⟨kq, x29_6, rfl, HA, HJ6, HB⟩ := hcut
            cases kq with
            | zero => exact absurd HA.out (by simp [conclaveref08_Unseal.j2])
            | succ kj6 =>
              have H := HA.out
              clear HA
              simp only [conclaveref08_Unseal.j2] at H
              have HC9 := Aside0.mk H
              clear H
              go_upto_if 29 with (fail)
              repeat (go_quiet (fail); go_upto_if 29 with (fail))
              go_cut [7] (fun v7 wc => ∃ (kq : Nat) (x7_8 : Int), v7 = .int .i64 x7_8 ∧ Aside0 (conclaveref08_Unseal.j3 kq l0 t414 x7_8 = some (r1, r2, r3)) ∧ Aside0 (kq ≤ kj6) ∧ Aside0 (Below w.heap.size w wc))
              case first =>
                have H := HC9.out
                clear HC9
                by_cases c10 : x29_6 = true
                · subst c10
                  have H1 : (conclaveref08_Unseal.j3 kj6 l0 t414 7) = some (r1, r2, r3) := by rw [if_pos rfl] at H; exact H
                  clear H
                  have H := H1
                  clear H1
                  have H' := Aside0.mk H
                  clear H
                  go_wp2
                  repeat (go_quiet (fail); try go_wp2)
                  go_meet
                  case rel => exact ⟨_, (7), (by first | rfl | (simp; done) | (simp [*]; done)), H', ⟨by have := HJ2.out; have := HJ4.out; have := HJ6.out; first | omega | exact Nat.le_refl _⟩, ⟨by repeat (first | (with_reducible first | exact HB.out | apply below_alloc | apply pw_below_drewN | apply below_drew1) | exact HB.out)⟩⟩
                · replace c10 := Bool.eq_false_iff.mpr c10
                  subst c10
                  have H1 : (conclaveref08_Unseal.j3 kj6 l0 t414 x7_4) = some (r1, r2, r3) := by rw [if_neg (show ¬ (false = true) by decide)] at H; exact H
                  clear H
                  have H := H1
                  clear H1
                  have H' := Aside0.mk H
                  clear H
                  go_wp2
                  repeat (go_quiet (fail); try go_wp2)
                  go_meet
                  case rel => exact ⟨_, (x7_4), (by first | rfl | (simp; done) | (simp [*]; done)), H', ⟨by have := HJ2.out; have := HJ4.out; have := HJ6.out; first | omega | exact Nat.le_refl _⟩, ⟨by repeat (first | (with_reducible first | exact HB.out | apply below_alloc | apply pw_below_drewN | apply below_drew1) | exact HB.out)⟩⟩
              case rest =>
                clear HC9
                try clear c1
                try clear p2
                try clear c3
                try clear c4
                try clear c4b0
                try clear c4b1
                try clear c6
                try clear p6
                try clear c8
                try clear c8b0
                try clear c8b1
                try clear c10
                try clear p2
                try clear p6
                obtain ⟨kq, x7_8, rfl, HA, HJ8, HB⟩ := hcut
                cases kq with
                | zero => exact absurd HA.out (by simp [conclaveref08_Unseal.j3])
                | succ kj8 =>
                  have H := HA.out
                  clear HA
                  simp only [conclaveref08_Unseal.j3] at H
                  have HC11 := Aside0.mk H
                  clear H
                  go_upto_region 6 with (fail)
                  repeat (go_quiet (fail); go_upto_region 6 with (fail))
                  go_cut [46] (fun v46 wc => ∃ (kq : Nat) (x46_10 : Bool), v46 = .bool x46_10 ∧ Aside0 (conclaveref08_Unseal.j4 kq l0 t414 x7_8 x46_10 = some (r1, r2, r3)) ∧ Aside0 (kq ≤ kj8) ∧ Aside0 (Below w.heap.size w wc))
                  case first =>
                    have H := HC11.out
                    clear HC11
                    by_cases c12 : x7_8 = 0
                    · rw [if_pos c12] at H
                      have c12b0 : (x7_8 == 0) = true := beq_iff_eq.mpr c12
                      have c12b1 : (x7_8 != 0) = false := bne_eq_false_iff_eq.mpr c12
                      clear c12
                      (first | rw [c12b0] | (simp only [i64_w, i32_w]; rw [c12b0]) | skip)
                      obtain ⟨ji13, hji13⟩ : ∃ j_ : Int, (wrap64 (4 + t414)) = j_ := ⟨_, rfl⟩
                      replace H : (if 0 ≤ (ji13) then (if (ji13) ≤ (wrap64 (12 + t414)) then (if (wrap64 (12 + t414)) ≤ (l0.length : Int) then ((conclaveref08_Taken.f kj8 ((l0.take ((wrap64 (12 + t414)) : Int).toNat).drop ((ji13) : Int).toNat)).bind fun t418 => (if (ji13) ≤ (l0.length : Int) then ((conclaveref08_Sum.f kj8 (l0.take ((ji13) : Int).toNat)).bind fun t420 => (conclaveref08_Unseal.j4 kj8 l0 t414 x7_8 (t418 != t420))) else (none))) else (none)) else (none)) else (none)) = some (r1, r2, r3) := by first | (rw [hji13] at H; exact H) | (simp only [hji13] at H ⊢; exact H)
                      have hji13w : (IntKind.i64.wrap (4 + t414)) = ji13 := (i64_w _).trans hji13
                      by_cases c14 : 0 ≤ (ji13)
                      · rw [if_pos c14] at H
                        have c14b0 := eq_true c14
                        have c14b1 : decide (0 ≤ (ji13)) = true := decide_eq_true c14
                        clear c14
                        by_cases c15 : (ji13) ≤ (wrap64 (12 + t414))
                        · rw [if_pos c15] at H
                          have c15b0 := eq_true c15
                          have c15b1 : decide ((ji13) ≤ (wrap64 (12 + t414))) = true := decide_eq_true c15
                          by_cases c16 : (wrap64 (12 + t414)) ≤ (l0.length : Int)
                          · rw [if_pos c16] at H
                            have c16b0 := eq_true c16
                            have c16b1 : decide ((wrap64 (12 + t414)) ≤ (l0.length : Int)) = true := decide_eq_true c16
                            replace H := Option.bind_eq_some_iff.mp H
                            obtain ⟨t418, A170, H⟩ := H
                            replace H : (if (ji13) ≤ (l0.length : Int) then ((conclaveref08_Sum.f kj8 (l0.take ((ji13) : Int).toNat)).bind fun t420 => (conclaveref08_Unseal.j4 kj8 l0 t414 x7_8 (t418 != t420))) else (none)) = some (r1, r2, r3) := H
                            have A17 := Aside0.mk A170
                            clear A170
                            have c18b0 := eq_true (of_decide_eq_true (by first | (with_reducible assumption) | assumption) : 0 ≤ (ji13))
                            by_cases c19 : (ji13) ≤ (l0.length : Int)
                            · rw [if_pos c19] at H
                              have c19b0 := eq_true c19
                              have c19b1 : decide ((ji13) ≤ (l0.length : Int)) = true := decide_eq_true c19
                              clear c19
                              replace H := Option.bind_eq_some_iff.mp H
                              obtain ⟨t420, A200, H⟩ := H
                              replace H : (conclaveref08_Unseal.j4 kj8 l0 t414 x7_8 (t418 != t420)) = some (r1, r2, r3) := H
                              have A20 := Aside0.mk A200
                              clear A200
                              have H' := Aside0.mk H
                              clear H
                              obtain ⟨i021, hi021, _, hsz21, _⟩ := info_parts info5
                              obtain ⟨A21, hcut21, hA21, hC21⟩ := print_mid_of (P := Try.prog) (Value.int .u8) 0 22 5 .i64 .i64 Try.underlying22 hi021 hsz21 A0 c0 l0 (ji13) (wrap64 (12 + t414)) (of_decide_eq_true (by first | (with_reducible assumption) | assumption)) (by first | omega | exact of_decide_eq_true (by first | (with_reducible assumption) | assumption)) (of_decide_eq_true (by first | (with_reducible assumption) | assumption)) HC0.out
                              have HR417 := Aside0.mk (Kd.C_of_reads (h1 := fun _ => rfl) (hA21 _ (Kd.reads_of_C HR0.out)))
                              have HC417 := Aside0.mk hC21
                              obtain ⟨zc21, hzc21⟩ : ∃ z_, z_ = ((l0.take ((wrap64 (12 + t414)) : Int).toNat).drop ((ji13) : Int).toNat) := ⟨_, rfl⟩
                              rw [← hzc21] at hcut21 HR417 HC417
                              have A17z := Aside0.mk (by have z9 := A17.out; rw [← hzc21] at z9; exact z9)
                              clear hzc21
                              clear hA21 hC21 hi021 hsz21
                              go_wp2_with (first | (go_at_call 47; (with_reducible refine (conclaveref08_Taken.calls kj8 _ _ zc21 t418 _ ?side1 ?side2 A17z.out).mono ?_); (case side1 => repeat (first | exact (Kd.C_below HR417.out HB.out) | (with_reducible refine Kd.C_alloc ?_ _) | (with_reducible refine Kd.C_drewN ?_ _) | (with_reducible refine Kd.C_drew ?_))); (case side2 => exact HC417.out); rintro e w' ⟨rfl, ⟨nd, rfl⟩⟩; (try first | exact ⟨rfl, _, World.drewN_drewN _ _ _⟩ | exact ⟨rfl, _, Eq.trans (World.drewN_drewN _ _ _) (congrArg (World.drewN _) (Nat.add_assoc _ _ _))⟩); obtain ⟨i022, hi022, _, hsz22, _⟩ := info_parts info5; obtain ⟨hcut22, hA22, hC22⟩ := print_take_of (P := Try.prog) (Value.int .u8) 0 22 5 .i64 Try.underlying22 hi022 hsz22 A0 c0 l0 (ji13) (of_decide_eq_true (by first | (with_reducible assumption) | assumption)) (of_decide_eq_true (by first | (with_reducible assumption) | assumption)) HC0.out; have HR419 := Aside0.mk (Kd.C_of_reads (h1 := fun _ => rfl) (hA22 _ (Kd.reads_of_C HR0.out))); have HC419 := Aside0.mk hC22; obtain ⟨zc22, hzc22⟩ : ∃ z_, z_ = (l0.take ((ji13) : Int).toNat) := ⟨_, rfl⟩; rw [← hzc22] at hcut22 HR419 HC419; have A20z := Aside0.mk (by have z9 := A20.out; rw [← hzc22] at z9; exact z9); clear hzc22; clear hA22 hC22 hi022 hsz22) | (go_at_call 18; (with_reducible refine (conclaveref08_Sum.calls kj8 _ _ zc22 t420 _ ?side1 ?side2 A20z.out).mono ?_); (case side1 => repeat (first | exact (Kd.C_below HR419.out (by repeat (first | (with_reducible first | exact HB.out | apply below_alloc | apply pw_below_drewN | apply below_drew1) | exact HB.out))) | (with_reducible refine Kd.C_alloc ?_ _) | (with_reducible refine Kd.C_drewN ?_ _) | (with_reducible refine Kd.C_drew ?_))); (case side2 => exact HC419.out); rintro e w' ⟨rfl, ⟨nd, rfl⟩⟩; (try first | exact ⟨rfl, _, World.drewN_drewN _ _ _⟩ | exact ⟨rfl, _, Eq.trans (World.drewN_drewN _ _ _) (congrArg (World.drewN _) (Nat.add_assoc _ _ _))⟩)))
                              try (obtain ⟨i022, hi022, _, hsz22, _⟩ := info_parts info5; obtain ⟨hcut22, hA22, hC22⟩ := print_take_of (P := Try.prog) (Value.int .u8) 0 22 5 .i64 Try.underlying22 hi022 hsz22 A0 c0 l0 (ji13) (of_decide_eq_true (by first | (with_reducible assumption) | assumption)) (of_decide_eq_true (by first | (with_reducible assumption) | assumption)) HC0.out; have HR419 := Aside0.mk (Kd.C_of_reads (h1 := fun _ => rfl) (hA22 _ (Kd.reads_of_C HR0.out))); have HC419 := Aside0.mk hC22; obtain ⟨zc22, hzc22⟩ : ∃ z_, z_ = (l0.take ((ji13) : Int).toNat) := ⟨_, rfl⟩; rw [← hzc22] at hcut22 HR419 HC419; have A20z := Aside0.mk (by have z9 := A20.out; rw [← hzc22] at z9; exact z9); clear hzc22; clear hA22 hC22 hi022 hsz22)
                              repeat (go_quiet (first | (go_at_call 47; (with_reducible refine (conclaveref08_Taken.calls kj8 _ _ zc21 t418 _ ?side1 ?side2 A17z.out).mono ?_); (case side1 => repeat (first | exact (Kd.C_below HR417.out HB.out) | (with_reducible refine Kd.C_alloc ?_ _) | (with_reducible refine Kd.C_drewN ?_ _) | (with_reducible refine Kd.C_drew ?_))); (case side2 => exact HC417.out); rintro e w' ⟨rfl, ⟨nd, rfl⟩⟩; (try first | exact ⟨rfl, _, World.drewN_drewN _ _ _⟩ | exact ⟨rfl, _, Eq.trans (World.drewN_drewN _ _ _) (congrArg (World.drewN _) (Nat.add_assoc _ _ _))⟩)) | (go_at_call 18; (with_reducible refine (conclaveref08_Sum.calls kj8 _ _ zc22 t420 _ ?side1 ?side2 A20z.out).mono ?_); (case side1 => repeat (first | exact (Kd.C_below HR419.out (by repeat (first | (with_reducible first | exact HB.out | apply below_alloc | apply pw_below_drewN | apply below_drew1) | exact HB.out))) | (with_reducible refine Kd.C_alloc ?_ _) | (with_reducible refine Kd.C_drewN ?_ _) | (with_reducible refine Kd.C_drew ?_))); (case side2 => exact HC419.out); rintro e w' ⟨rfl, ⟨nd, rfl⟩⟩; (try first | exact ⟨rfl, _, World.drewN_drewN _ _ _⟩ | exact ⟨rfl, _, Eq.trans (World.drewN_drewN _ _ _) (congrArg (World.drewN _) (Nat.add_assoc _ _ _))⟩))); try go_wp2_with (first | (go_at_call 47; (with_reducible refine (conclaveref08_Taken.calls kj8 _ _ zc21 t418 _ ?side1 ?side2 A17z.out).mono ?_); (case side1 => repeat (first | exact (Kd.C_below HR417.out HB.out) | (with_reducible refine Kd.C_alloc ?_ _) | (with_reducible refine Kd.C_drewN ?_ _) | (with_reducible refine Kd.C_drew ?_))); (case side2 => exact HC417.out); rintro e w' ⟨rfl, ⟨nd, rfl⟩⟩; (try first | exact ⟨rfl, _, World.drewN_drewN _ _ _⟩ | exact ⟨rfl, _, Eq.trans (World.drewN_drewN _ _ _) (congrArg (World.drewN _) (Nat.add_assoc _ _ _))⟩); obtain ⟨i022, hi022, _, hsz22, _⟩ := info_parts info5; obtain ⟨hcut22, hA22, hC22⟩ := print_take_of (P := Try.prog) (Value.int .u8) 0 22 5 .i64 Try.underlying22 hi022 hsz22 A0 c0 l0 (ji13) (of_decide_eq_true (by first | (with_reducible assumption) | assumption)) (of_decide_eq_true (by first | (with_reducible assumption) | assumption)) HC0.out; have HR419 := Aside0.mk (Kd.C_of_reads (h1 := fun _ => rfl) (hA22 _ (Kd.reads_of_C HR0.out))); have HC419 := Aside0.mk hC22; obtain ⟨zc22, hzc22⟩ : ∃ z_, z_ = (l0.take ((ji13) : Int).toNat) := ⟨_, rfl⟩; rw [← hzc22] at hcut22 HR419 HC419; have A20z := Aside0.mk (by have z9 := A20.out; rw [← hzc22] at z9; exact z9); clear hzc22; clear hA22 hC22 hi022 hsz22) | (go_at_call 18; (with_reducible refine (conclaveref08_Sum.calls kj8 _ _ zc22 t420 _ ?side1 ?side2 A20z.out).mono ?_); (case side1 => repeat (first | exact (Kd.C_below HR419.out (by repeat (first | (with_reducible first | exact HB.out | apply below_alloc | apply pw_below_drewN | apply below_drew1) | exact HB.out))) | (with_reducible refine Kd.C_alloc ?_ _) | (with_reducible refine Kd.C_drewN ?_ _) | (with_reducible refine Kd.C_drew ?_))); (case side2 => exact HC419.out); rintro e w' ⟨rfl, ⟨nd, rfl⟩⟩; (try first | exact ⟨rfl, _, World.drewN_drewN _ _ _⟩ | exact ⟨rfl, _, Eq.trans (World.drewN_drewN _ _ _) (congrArg (World.drewN _) (Nat.add_assoc _ _ _))⟩))))
                              go_meet
                              case rel => exact ⟨_, ((t418 != t420)), (by first | rfl | (simp; done) | (simp [*]; done)), H', ⟨by have := HJ2.out; have := HJ4.out; have := HJ6.out; have := HJ8.out; first | omega | exact Nat.le_refl _⟩, ⟨by repeat (first | (with_reducible first | exact HB.out | apply below_alloc | apply pw_below_drewN | apply below_drew1) | exact HB.out)⟩⟩
                            · rw [if_neg c19] at H
                              exact absurd H (by simp)
                          · rw [if_neg c16] at H
                            exact absurd H (by simp)
                        · rw [if_neg c15] at H
                          exact absurd H (by simp)
                      · rw [if_neg c14] at H
                        exact absurd H (by simp)
                    · rw [if_neg c12] at H
                      have c12b0 : (x7_8 == 0) = false := beq_eq_false_iff_ne.mpr c12
                      have c12b1 : (x7_8 != 0) = true := bne_iff_ne.mpr c12
                      (first | rw [c12b0] | (simp only [i64_w, i32_w]; rw [c12b0]) | skip)
                      have H' := Aside0.mk H
                      clear H
                      go_wp2
                      repeat (go_quiet (fail); try go_wp2)
                      go_meet
                      case rel => exact ⟨_, (false), (by first | rfl | (simp; done) | (simp [*]; done)), H', ⟨by have := HJ2.out; have := HJ4.out; have := HJ6.out; have := HJ8.out; first | omega | exact Nat.le_refl _⟩, ⟨by repeat (first | (with_reducible first | exact HB.out | apply below_alloc | apply pw_below_drewN | apply below_drew1) | exact HB.out)⟩⟩
                  case rest =>
                    clear HC11
                    try clear c1
                    try clear p2
                    try clear c3
                    try clear c4
                    try clear c4b0
                    try clear c4b1
                    try clear c6
                    try clear p6
                    try clear c8
                    try clear c8b0
                    try clear c8b1
                    try clear c10
                    try clear c12
                    try clear c12b0
                    try clear c12b1
                    try clear c14
                    try clear c14b0
                    try clear c14b1
                    try clear c15
                    try clear c15b0
                    try clear c15b1
                    try clear c16
                    try clear c16b0
                    try clear c16b1
                    try clear c18
                    try clear c18b0
                    try clear c19
                    try clear c19b0
                    try clear c19b1
                    try clear p2
                    try clear p6
                    obtain ⟨kq, x46_10, rfl, HA, HJ10, HB⟩ := hcut
                    cases kq with
                    | zero => exact absurd HA.out (by simp [conclaveref08_Unseal.j4])
                    | succ kj10 =>
                      have H := HA.out
                      clear HA
                      simp only [conclaveref08_Unseal.j4] at H
                      by_cases c23 : x46_10 = true
                      · subst c23
                        have H1 : (if 80 = 0 then (if 4 ≤ (wrap64 (4 + t414)) then (if (wrap64 (4 + t414)) ≤ (l0.length : Int) then ((conclaveref08_Bytes.f ((l0.take ((wrap64 (4 + t414)) : Int).toNat).drop 4)).bind fun t422 => (some (t422, wrap64 (12 + t414), 0))) else (none)) else (none)) else (some (([] : List Int), 0, 80))) = some (r1, r2, r3) := by rw [if_pos rfl] at H; exact H
                        clear H
                        have H := H1
                        clear H1
                        by_cases c24 : 80 = 0
                        · exact absurd c24 (by decide)
                        · rw [if_neg c24] at H
                          have c24b0 : (80 == 0) = false := beq_eq_false_iff_ne.mpr c24
                          have c24b1 : (80 != 0) = true := bne_iff_ne.mpr c24
                          simp only [Option.some.injEq, Prod.mk.injEq] at H
                          obtain ⟨rfl, rfl, rfl⟩ := H
                          go_wp2
                          repeat (go_quiet (fail); try go_wp2)
                          go_ret3
                          exact ⟨_, by first | rfl | (simp [errW_none, errW_some] <;> rfl) | (simp [*, errW_none, errW_some] <;> rfl), by first | exact Kd.R_nil _ _ _ _ _ | exact Kd.N_nil _ _ _ _ _ | exact Kd.V_nil _ _ _ _ _ | exact Kd.Q_nil _ _ _ _ _ | exact Kd.S_nil _ _ _ _ _, by repeat (first | (with_reducible first | exact HB.out | apply below_alloc | apply pw_below_drewN | apply below_drew1) | exact HB.out)⟩
                      · replace c23 := Bool.eq_false_iff.mpr c23
                        subst c23
                        have H1 : (if x7_8 = 0 then (if 4 ≤ (wrap64 (4 + t414)) then (if (wrap64 (4 + t414)) ≤ (l0.length : Int) then ((conclaveref08_Bytes.f ((l0.take ((wrap64 (4 + t414)) : Int).toNat).drop 4)).bind fun t426 => (some (t426, wrap64 (12 + t414), 0))) else (none)) else (none)) else (some (([] : List Int), 0, x7_8))) = some (r1, r2, r3) := by rw [if_neg (show ¬ (false = true) by decide)] at H; exact H
                        clear H
                        have H := H1
                        clear H1
                        by_cases c30 : x7_8 = 0
                        · rw [if_pos c30] at H
                          have c30b0 : (x7_8 == 0) = true := beq_iff_eq.mpr c30
                          have c30b1 : (x7_8 != 0) = false := bne_eq_false_iff_eq.mpr c30
                          clear c30
                          by_cases c31 : 4 ≤ (wrap64 (4 + t414))
                          · rw [if_pos c31] at H
                            have c31b0 := eq_true c31
                            have c31b1 : decide (4 ≤ (wrap64 (4 + t414))) = true := decide_eq_true c31
                            by_cases c32 : (wrap64 (4 + t414)) ≤ (l0.length : Int)
                            · rw [if_pos c32] at H
                              have c32b0 := eq_true c32
                              have c32b1 : decide ((wrap64 (4 + t414)) ≤ (l0.length : Int)) = true := decide_eq_true c32
                              replace H := Option.bind_eq_some_iff.mp H
                              obtain ⟨t426, A330, H⟩ := H
                              replace H : (some (t426, wrap64 (12 + t414), 0)) = some (r1, r2, r3) := H
                              have A33 := Aside0.mk A330
                              clear A330
                              simp only [Option.some.injEq, Prod.mk.injEq] at H
                              obtain ⟨rfl, rfl, rfl⟩ := H
                              obtain ⟨i034, hi034, _, hsz34, _⟩ := info_parts info5
                              obtain ⟨A34, hcut34, hA34, hC34⟩ := print_mid_of (P := Try.prog) (Value.int .u8) 0 22 5 .i64 .i64 Try.underlying22 hi034 hsz34 A0 c0 l0 4 (wrap64 (4 + t414)) (by omega) (by first | omega | exact of_decide_eq_true (by first | (with_reducible assumption) | assumption)) (of_decide_eq_true (by first | (with_reducible assumption) | assumption)) HC0.out
                              have HR425 := Aside0.mk (Kd.C_of_reads (h1 := fun _ => rfl) (hA34 _ (Kd.reads_of_C HR0.out)))
                              have HC425 := Aside0.mk hC34
                              obtain ⟨zc34, hzc34⟩ : ∃ z_, z_ = ((l0.take ((wrap64 (4 + t414)) : Int).toNat).drop 4) := ⟨_, rfl⟩
                              (try simp only [show (4 : Int).toNat = 4 from rfl] at hcut34 HR425 HC425)
                              rw [← hzc34] at hcut34 HR425 HC425
                              have A33z := Aside0.mk (by have z9 := A33.out; rw [← hzc34] at z9; exact z9)
                              clear hzc34
                              clear hA34 hC34 hi034 hsz34
                              go_wp2_with (first | (go_at_call 41; (with_reducible refine (conclaveref08_Bytes.calls _ _ zc34 t426 _ ?side1 ?side2 A33z.out).mono ?_); (case side1 => repeat (first | exact (Kd.C_below HR425.out HB.out) | (with_reducible refine Kd.C_alloc ?_ _) | (with_reducible refine Kd.C_drewN ?_ _) | (with_reducible refine Kd.C_drew ?_))); (case side2 => exact HC425.out); rintro e w35 ⟨v427, rfl, ho0, hb⟩; have n0_ := Aside0.mk (Kd.R_lower ho0 (below_size (by repeat (first | (with_reducible first | exact HB.out | apply below_alloc | apply pw_below_drewN | apply below_drew1) | exact HB.out)))); have n1_ := Aside0.mk (below_step (by repeat (first | (with_reducible first | exact HB.out | apply below_alloc | apply pw_below_drewN | apply below_drew1) | exact HB.out)) hb); clear HB; have HO428 := n0_; have HB := n1_; clear n0_ n1_; (try clear hb); (try clear hb2); (try clear hk); (try clear hi); (try clear ho0)))
                              repeat (go_quiet (first | (go_at_call 41; (with_reducible refine (conclaveref08_Bytes.calls _ _ zc34 t426 _ ?side1 ?side2 A33z.out).mono ?_); (case side1 => repeat (first | exact (Kd.C_below HR425.out HB.out) | (with_reducible refine Kd.C_alloc ?_ _) | (with_reducible refine Kd.C_drewN ?_ _) | (with_reducible refine Kd.C_drew ?_))); (case side2 => exact HC425.out); rintro e w35 ⟨v427, rfl, ho0, hb⟩; have n0_ := Aside0.mk (Kd.R_lower ho0 (below_size (by repeat (first | (with_reducible first | exact HB.out | apply below_alloc | apply pw_below_drewN | apply below_drew1) | exact HB.out)))); have n1_ := Aside0.mk (below_step (by repeat (first | (with_reducible first | exact HB.out | apply below_alloc | apply pw_below_drewN | apply below_drew1) | exact HB.out)) hb); clear HB; have HO428 := n0_; have HB := n1_; clear n0_ n1_; (try clear hb); (try clear hb2); (try clear hk); (try clear hi); (try clear ho0))); try go_wp2_with (first | (go_at_call 41; (with_reducible refine (conclaveref08_Bytes.calls _ _ zc34 t426 _ ?side1 ?side2 A33z.out).mono ?_); (case side1 => repeat (first | exact (Kd.C_below HR425.out HB.out) | (with_reducible refine Kd.C_alloc ?_ _) | (with_reducible refine Kd.C_drewN ?_ _) | (with_reducible refine Kd.C_drew ?_))); (case side2 => exact HC425.out); rintro e w35 ⟨v427, rfl, ho0, hb⟩; have n0_ := Aside0.mk (Kd.R_lower ho0 (below_size (by repeat (first | (with_reducible first | exact HB.out | apply below_alloc | apply pw_below_drewN | apply below_drew1) | exact HB.out)))); have n1_ := Aside0.mk (below_step (by repeat (first | (with_reducible first | exact HB.out | apply below_alloc | apply pw_below_drewN | apply below_drew1) | exact HB.out)) hb); clear HB; have HO428 := n0_; have HB := n1_; clear n0_ n1_; (try clear hb); (try clear hb2); (try clear hk); (try clear hi); (try clear ho0))))
                              go_ret3
                              exact ⟨_, by first | rfl | (simp [errW_none, errW_some] <;> rfl) | (simp [*, errW_none, errW_some] <;> rfl), by (with_reducible repeat (first | apply Kd.R_alloc | apply Kd.R_drewN | apply Kd.R_drew)); exact HO428.out, by repeat (first | (with_reducible first | exact HB.out | apply below_alloc | apply pw_below_drewN | apply below_drew1) | exact HB.out)⟩
                            · rw [if_neg c32] at H
                              exact absurd H (by simp)
                          · rw [if_neg c31] at H
                            exact absurd H (by simp)
                        · rw [if_neg c30] at H
                          have c30b0 : (x7_8 == 0) = false := beq_eq_false_iff_ne.mpr c30
                          have c30b1 : (x7_8 != 0) = true := bne_iff_ne.mpr c30
                          simp only [Option.some.injEq, Prod.mk.injEq] at H
                          obtain ⟨rfl, rfl, rfl⟩ := H
                          go_wp2
                          repeat (go_quiet (fail); try go_wp2)
                          go_ret3
                          exact ⟨_, by first | rfl | (simp [errW_none, errW_some] <;> rfl) | (simp [*, errW_none, errW_some] <;> rfl), by first | exact Kd.R_nil _ _ _ _ _ | exact Kd.N_nil _ _ _ _ _ | exact Kd.V_nil _ _ _ _ _ | exact Kd.Q_nil _ _ _ _ _ | exact Kd.S_nil _ _ _ _ _, by repeat (first | (with_reducible first | exact HB.out | apply below_alloc | apply pw_below_drewN | apply below_drew1) | exact HB.out)⟩

end Go.Proofs.Ytclanpkekocndaa.P
