-- Written by the kit's printer, called by a program of ours; the proofs of some functions are our own. Not trusted: Lean checks it.
import Derived.Test.YtclanpkekocndaaPx0
import Derived.Test.YtclanpkekocndaaPx2
import Derived.Test.YtclanpkekocndaaPx16
namespace Go.Proofs.Ytclanpkekocndaa.P
open Go.RowKit Go.Proofs.YtclanpkekocndaaW.PrintWords Go.Proofs.YtclanpkekocndaaW.PrintLast Go.Proofs.YtclanpkekocndaaW.PrintMore
attribute [local go_sem] max2_int min2_int max_two min_two max_three min_three max_four min_four   -- for this text's walks alone
set_option linter.unusedVariables false
set_option linter.unusedSimpArgs false

/-! ### wire_ReadList: function 34 -/
def wire_ReadList.l0 : Nat → List Int → Int → List Int → Int → Int → Int → Int → Int → Option (Int × List Int × Int × Int)
  | 0, _, _, _, _, _, _, _, _ => none
  | k + 1, x0, x2, x3, x6, x7, x8, x45, x46 => if x46 < x45 then ((wire_width.f x2).bind fun t322 => (if 0 ≤ x8 then (if x8 ≤ (wrap64 (x8 + t322)) then (if (wrap64 (x8 + t322)) ≤ (x0.length : Int) then ((wire_taken.f k ((x0.take ((wrap64 (x8 + t322)) : Int).toNat).drop (x8 : Int).toNat)).bind fun t324 => (if x3.length < 17592186044416 then ((wire_width.f x2).bind fun t328 => (wire_ReadList.l0 k x0 x2 (x3 ++ [t324]) x6 x7 (wrap64 (x8 + t328)) x45 (wrap64 (x46 + 1)))) else (none))) else (none)) else (none)) else (none))) else ((field_In.f k x2 x3).bind fun t329 => (if t329 = true then ((wire_width.f x2).bind fun t330 => (some (x2, x3, wrap64 (x7 + (wrap64 (x6 * t330))), 0))) else (some (0, ([] : List Int), 0, 8))))
def wire_ReadList.f (k : Nat) (l0 : List Int) : Option (Int × List Int × Int × Int) := if (l0.length : Int) = 0 then (some (0, ([] : List Int), 0, 7)) else (if 0 < (l0.length : Int) then ((field_In.f k (rd l0 0) ([] : List Int)).bind fun t316 => (if t316 = true then (if 1 ≤ (l0.length : Int) then ((wire_ReadCount.f k (l0.drop 1)).bind fun bt318 => (if bt318.2.2 = 0 then (if bt318.1 > 4096 then (some (0, ([] : List Int), 0, 4)) else ((wire_width.f (rd l0 0)).bind fun t321 => (if (wrap64 ((l0.length : Int) - (wrap64 (bt318.2.1 + 1)))) < (wrap64 (bt318.1 * t321)) then (some (0, ([] : List Int), 0, 7)) else (wire_ReadList.l0 k l0 (rd l0 0) ([] : List Int) bt318.1 (wrap64 (bt318.2.1 + 1)) (wrap64 (bt318.2.1 + 1)) bt318.1 0)))) else (some (0, ([] : List Int), 0, bt318.2.2)))) else (none)) else (some (0, ([] : List Int), 0, 8)))) else (none))
theorem wire_ReadList.mono_l : ∀ k, (∀ y0 y1 y2 y3 y4 y5 y6 y7, LeO (wire_ReadList.l0 k y0 y1 y2 y3 y4 y5 y6 y7) (wire_ReadList.l0 (k + 1) y0 y1 y2 y3 y4 y5 y6 y7))
  | 0 => fun _ _ _ _ _ _ _ _ r h => by simp [wire_ReadList.l0] at h
  | k + 1 => by
    have ih0 := wire_ReadList.mono_l k
    · intro y0 y1 y2 y3 y4 y5 y6 y7
      unfold wire_ReadList.l0
      repeat' first
      | (with_reducible exact ih0 _ _ _ _ _ _ _ _)
      | (with_reducible exact field_In.mono _ _ _)
      | (with_reducible exact wire_ReadCount.mono _ _)
      | (with_reducible exact wire_taken.mono _ _)
      | (with_reducible exact LeO.refl _)
      | (with_reducible exact LeO.none _)
      | (with_reducible refine LeO.ite ?_ ?_)
      | (with_reducible refine LeO.bind ?_ (fun _ => ?_))
      | exact ih0 _ _ _ _ _ _ _ _
      | exact field_In.mono _ _ _
      | exact wire_ReadCount.mono _ _
      | exact wire_taken.mono _ _
      | exact LeO.none _
      | refine LeO.ite ?_ ?_
      | refine LeO.bind ?_ (fun _ => ?_)
theorem wire_ReadList.mono : ∀ a0 k, LeO (wire_ReadList.f k a0) (wire_ReadList.f (k + 1) a0) := by
  intro a0 k
  have ih0 := wire_ReadList.mono_l k
  unfold wire_ReadList.f
  repeat' first
      | (with_reducible exact ih0 _ _ _ _ _ _ _ _)
      | (with_reducible exact field_In.mono _ _ _)
      | (with_reducible exact wire_ReadCount.mono _ _)
      | (with_reducible exact wire_taken.mono _ _)
      | (with_reducible exact LeO.refl _)
      | (with_reducible exact LeO.none _)
      | (with_reducible refine LeO.ite ?_ ?_)
      | (with_reducible refine LeO.bind ?_ (fun _ => ?_))
      | exact ih0 _ _ _ _ _ _ _ _
      | exact field_In.mono _ _ _
      | exact wire_ReadCount.mono _ _
      | exact wire_taken.mono _ _
      | exact LeO.none _
      | refine LeO.ite ?_ ?_
      | refine LeO.bind ?_ (fun _ => ?_)
theorem readCount_inv {k : Nat} {l : List Int} {a b : Int} (h : wire_ReadCount.f k l = some (a, b, 0)) : b = 4 ∧ 4 ≤ l.length := by
  unfold wire_ReadCount.f at h
  by_cases c : (l.length : Int) < 4
  · rw [if_pos c] at h; simp at h
  · rw [if_neg c, if_pos (by omega)] at h
    obtain ⟨t, _, h⟩ := Option.bind_eq_some_iff.mp h
    by_cases c2 : t > 2147483647
    · rw [if_pos c2] at h; simp at h
    · rw [if_neg c2] at h
      simp only [Option.some.injEq, Prod.mk.injEq] at h
      exact ⟨h.2.1.symm, by omega⟩
theorem width_cases {a t : Int} (h : wire_width.f a = some t) : t = 4 ∨ t = 8 := by
  unfold wire_width.f at h
  by_cases c : a = 1
  · rw [if_pos c] at h; injection h with h; omega
  · rw [if_neg c] at h; injection h with h; omega
set_option maxHeartbeats 8000000 in
set_option maxRecDepth 100000 in
theorem wire_ReadList.calls (k : Nat) (A0 : Option Addr) (c0 : Nat) (l0 : List Int) (r1 : Int) (r2 : List Int) (r3 : Int) (r4 : Int) (w : World) (hr0 : Kd.C (Kd.int .u8) w A0 l0.length l0) (hc0 : l0.length ≤ c0) (h : wire_ReadList.f k l0 = some (r1, r2, r3, r4)) :
    Calls Try.prog 34 #[.slice A0 l0.length c0] w fun e w' => ∃ v1_ : Value, e = .returned (.tuple #[.int .u8 r1, v1_, .int .i64 r3, .int .i64 r4]) ∧ Kd.R (Kd.int .u64) 32 w' w.heap.size (fun _ => True) v1_ r2 ∧ Below w.heap.size w w' := by
  have HR0 := Aside0.mk hr0
  have HC0 := Aside0.mk hc0
  clear hr0 hc0
  have HB := Aside0.mk (Below.refl w.heap.size w)
  have H : (if (l0.length : Int) = 0 then (some (0, ([] : List Int), 0, 7)) else (if 0 < (l0.length : Int) then ((field_In.f k (rd l0 0) ([] : List Int)).bind fun t316 => (if t316 = true then (if 1 ≤ (l0.length : Int) then ((wire_ReadCount.f k (l0.drop 1)).bind fun bt318 => (if bt318.2.2 = 0 then (if bt318.1 > 4096 then (some (0, ([] : List Int), 0, 4)) else ((wire_width.f (rd l0 0)).bind fun t321 => (if (wrap64 ((l0.length : Int) - (wrap64 (bt318.2.1 + 1)))) < (wrap64 (bt318.1 * t321)) then (some (0, ([] : List Int), 0, 7)) else (wire_ReadList.l0 k l0 (rd l0 0) ([] : List Int) bt318.1 (wrap64 (bt318.2.1 + 1)) (wrap64 (bt318.2.1 + 1)) bt318.1 0)))) else (some (0, ([] : List Int), 0, bt318.2.2)))) else (none)) else (some (0, ([] : List Int), 0, 8)))) else (none))) = some (r1, r2, r3, r4) := h
  clear h
  by_cases c2 : (l0.length : Int) = 0
  · rw [if_pos c2] at H
    have c2b0 : ((l0.length : Int) == 0) = true := beq_iff_eq.mpr c2
    have c2b1 : ((l0.length : Int) != 0) = false := bne_eq_false_iff_eq.mpr c2
    clear c2
    simp only [Option.some.injEq, Prod.mk.injEq] at H
    obtain ⟨rfl, rfl, rfl, rfl⟩ := H
    go_enter Try.func34, Try.ntmps34
    go_wp2
    refine bodyPost_ret (results_list (rs := [.tmp 2, .tmp 3, .tmp 4, .tmp 5]) rfl (by simp) (.tmp (.tmp (.tmp (.tmp .nil))))) rfl ?_
    exact ⟨_, by first | rfl | (simp [errW_none, errW_some] <;> rfl) | (simp [*, errW_none, errW_some] <;> rfl), by first | exact Kd.R_nil _ _ _ _ _ | exact Kd.N_nil _ _ _ _ _ | exact Kd.V_nil _ _ _ _ _ | exact Kd.Q_nil _ _ _ _ _ | exact Kd.S_nil _ _ _ _ _, by repeat (first | (with_reducible first | exact HB.out | apply below_alloc | apply pw_below_drewN | apply below_drew1) | exact HB.out)⟩
  · rw [if_neg c2] at H
    have c2b0 : ((l0.length : Int) == 0) = false := beq_eq_false_iff_ne.mpr c2
    have c2b1 : ((l0.length : Int) != 0) = true := bne_iff_ne.mpr c2
    have c2b2 : ¬ (l0 = []) := fun h_ => c2 (by rw [h_]; rfl)
    by_cases c3 : 0 < (l0.length : Int)
    · rw [if_pos c3] at H
      have c3b0 : decide (0 < (l0.length : Int)) = true := decide_eq_true c3
      have c3b1 : decide (0 < l0.length) = true := decide_eq_true (by omega)
      clear c3
      replace H := Option.bind_eq_some_iff.mp H
      obtain ⟨t316, A40, H⟩ := H
      replace H : (if t316 = true then (if 1 ≤ (l0.length : Int) then ((wire_ReadCount.f k (l0.drop 1)).bind fun bt318 => (if bt318.2.2 = 0 then (if bt318.1 > 4096 then (some (0, ([] : List Int), 0, 4)) else ((wire_width.f (rd l0 0)).bind fun t321 => (if (wrap64 ((l0.length : Int) - (wrap64 (bt318.2.1 + 1)))) < (wrap64 (bt318.1 * t321)) then (some (0, ([] : List Int), 0, 7)) else (wire_ReadList.l0 k l0 (rd l0 0) ([] : List Int) bt318.1 (wrap64 (bt318.2.1 + 1)) (wrap64 (bt318.2.1 + 1)) bt318.1 0)))) else (some (0, ([] : List Int), 0, bt318.2.2)))) else (none)) else (some (0, ([] : List Int), 0, 8))) = some (r1, r2, r3, r4) := H
      have A4 := Aside0.mk A40
      clear A40
      by_cases c5 : t316 = true
      · subst c5
        have H1 : (if 1 ≤ (l0.length : Int) then ((wire_ReadCount.f k (l0.drop 1)).bind fun bt318 => (if bt318.2.2 = 0 then (if bt318.1 > 4096 then (some (0, ([] : List Int), 0, 4)) else ((wire_width.f (rd l0 0)).bind fun t321 => (if (wrap64 ((l0.length : Int) - (wrap64 (bt318.2.1 + 1)))) < (wrap64 (bt318.1 * t321)) then (some (0, ([] : List Int), 0, 7)) else (wire_ReadList.l0 k l0 (rd l0 0) ([] : List Int) bt318.1 (wrap64 (bt318.2.1 + 1)) (wrap64 (bt318.2.1 + 1)) bt318.1 0)))) else (some (0, ([] : List Int), 0, bt318.2.2)))) else (none)) = some (r1, r2, r3, r4) := by rw [if_pos rfl] at H; exact H
        clear H
        have H := H1
        clear H1
        by_cases c6 : 1 ≤ (l0.length : Int)
        · rw [if_pos c6] at H
          have c6b0 := eq_true c6
          have c6b1 : decide (1 ≤ (l0.length : Int)) = true := decide_eq_true c6
          clear c6
          replace H := Option.bind_eq_some_iff.mp H
          obtain ⟨⟨t318, t319, t320⟩, A70, H⟩ := H
          replace H : (if t320 = 0 then (if t318 > 4096 then (some (0, ([] : List Int), 0, 4)) else ((wire_width.f (rd l0 0)).bind fun t321 => (if (wrap64 ((l0.length : Int) - (wrap64 (t319 + 1)))) < (wrap64 (t318 * t321)) then (some (0, ([] : List Int), 0, 7)) else (wire_ReadList.l0 k l0 (rd l0 0) ([] : List Int) t318 (wrap64 (t319 + 1)) (wrap64 (t319 + 1)) t318 0)))) else (some (0, ([] : List Int), 0, t320))) = some (r1, r2, r3, r4) := H
          have A7 := Aside0.mk A70
          clear A70
          by_cases c8 : t320 = 0
          · rw [if_pos c8] at H
            have c8b0 : (t320 == 0) = true := beq_iff_eq.mpr c8
            have c8b1 : (t320 != 0) = false := bne_eq_false_iff_eq.mpr c8
            clear c8
            by_cases c9 : t318 > 4096
            · rw [if_pos c9] at H
              have c9b0 : decide (4096 < t318) = true := decide_eq_true c9
              clear c9
              simp only [Option.some.injEq, Prod.mk.injEq] at H
              obtain ⟨rfl, rfl, rfl, rfl⟩ := H
              have p315 : 0 ≤ (0 : Int) := (by omega)
              have q315 : 0 < (l0.length : Int) := of_decide_eq_true (by first | (with_reducible assumption) | assumption)
              obtain ⟨ad315, e315, hx315_0⟩ := Kd.at_int HR0.out 0 p315 q315
              cases e315
              have qi315 : (0 < l0.length) = True := eq_true (by omega)
              (try rw [show ((0 : Int)).toNat = 0 from rfl] at hx315_0)
              (try rw [Addr.add_zero'] at hx315_0)
              replace p315 := eq_true p315
              replace q315 := eq_true q315
              go_enter Try.func34, Try.ntmps34
              go_wp2_with (first | ((with_reducible refine gate_callee (f := 52) rfl ?_); refine goesL_ (some 16) rfl rfl Try.func52 (by kernel_rfl) rfl #[.int .u8 (rd l0 0), .slice none 0 0] rfl (by (try simp only [List.map_toArray, List.map_cons, List.map_nil]); first | done | rfl | (simp only [List.length_drop, List.length_take]; rfl)) ?_; (refine (field_In.calls k (rd l0 0) _ _ ([] : List Int) true _ ?side1 ?side2 A4.out).mono ?_); (case side1 => exact Kd.C_nil _ _); (case side2 => exact Nat.le_refl _); rintro e w10 ⟨rfl, hb⟩; refine ⟨_, rfl, ?_⟩; have n0_ := Aside0.mk (below_step (by repeat (first | (with_reducible first | exact HB.out | apply below_alloc | apply pw_below_drewN | apply below_drew1) | exact HB.out)) hb); clear HB; have HB := n0_; clear n0_; (try clear hb); (try clear hb2); (try clear hk); (try clear hi); obtain ⟨i011, hi011, _, hsz11, _⟩ := info_parts info5; obtain ⟨A11, hcut11, hA11, hC11⟩ := print_drop_of (P := Try.prog) (Value.int .u8) 0 22 5 .i64 Try.underlying22 hi011 hsz11 (some ad315) c0 l0 1 (by omega) (of_decide_eq_true (by first | (with_reducible assumption) | assumption)) HC0.out; have HR317 := Aside0.mk (Kd.C_of_reads (h1 := fun _ => rfl) (hA11 _ (Kd.reads_of_C HR0.out))); have HC317 := Aside0.mk hC11; clear hA11 hC11 hi011 hsz11) | ((with_reducible refine gate_callee (f := 15) rfl ?_); refine goesL_ (some 21) rfl rfl Try.func15 (by kernel_rfl) rfl #[.slice A11 (l0.drop 1).length (c0 - 1)] rfl (by (try simp only [List.map_toArray, List.map_cons, List.map_nil]); first | done | (rw [show (l0.drop 1).length = (l0.length - 1) from List.length_drop] <;> rfl) | rfl | (simp only [List.length_drop, List.length_take]; rfl)) ?_; (with_reducible refine (wire_ReadCount.calls k _ _ (l0.drop 1) t318 t319 t320 _ ?side1 ?side2 A7.out).mono ?_); (case side1 => repeat (first | exact (Kd.C_below HR317.out HB.out) | (with_reducible refine Kd.C_alloc ?_ _) | (with_reducible refine Kd.C_drewN ?_ _) | (with_reducible refine Kd.C_drew ?_))); (case side2 => exact HC317.out); rintro e w12 ⟨rfl, hb⟩; refine ⟨_, rfl, ?_⟩; have n0_ := Aside0.mk (below_step (by repeat (first | (with_reducible first | exact HB.out | apply below_alloc | apply pw_below_drewN | apply below_drew1) | exact HB.out)) hb); clear HB; have HB := n0_; clear n0_; (try clear hb); (try clear hb2); (try clear hk); (try clear hi)))
              refine bodyPost_ret (results_list (rs := [.tmp 2, .tmp 3, .tmp 4, .tmp 5]) rfl (by simp) (.tmp (.tmp (.tmp (.tmp .nil))))) rfl ?_
              exact ⟨_, by first | rfl | (simp [errW_none, errW_some] <;> rfl) | (simp [*, errW_none, errW_some] <;> rfl), by first | exact Kd.R_nil _ _ _ _ _ | exact Kd.N_nil _ _ _ _ _ | exact Kd.V_nil _ _ _ _ _ | exact Kd.Q_nil _ _ _ _ _ | exact Kd.S_nil _ _ _ _ _, by repeat (first | (with_reducible first | exact HB.out | apply below_alloc | apply pw_below_drewN | apply below_drew1) | exact HB.out)⟩
            · rw [if_neg c9] at H
              have c9b0 : decide (4096 < t318) = false := decide_eq_false c9
              clear c9
              replace H := Option.bind_eq_some_iff.mp H
              obtain ⟨t321, A130, H⟩ := H
              replace H : (if (wrap64 ((l0.length : Int) - (wrap64 (t319 + 1)))) < (wrap64 (t318 * t321)) then (some (0, ([] : List Int), 0, 7)) else (wire_ReadList.l0 k l0 (rd l0 0) ([] : List Int) t318 (wrap64 (t319 + 1)) (wrap64 (t319 + 1)) t318 0)) = some (r1, r2, r3, r4) := H
              have A13 := Aside0.mk A130
              clear A130
              by_cases c14 : (wrap64 ((l0.length : Int) - (wrap64 (t319 + 1)))) < (wrap64 (t318 * t321))
              · rw [if_pos c14] at H
                have c14b0 : decide ((wrap64 ((l0.length : Int) - (wrap64 (t319 + 1)))) < (wrap64 (t318 * t321))) = true := decide_eq_true c14
                clear c14
                simp only [Option.some.injEq, Prod.mk.injEq] at H
                obtain ⟨rfl, rfl, rfl, rfl⟩ := H
                have p315 : 0 ≤ (0 : Int) := (by omega)
                have q315 : 0 < (l0.length : Int) := of_decide_eq_true (by first | (with_reducible assumption) | assumption)
                obtain ⟨ad315, e315, hx315_0⟩ := Kd.at_int HR0.out 0 p315 q315
                cases e315
                have qi315 : (0 < l0.length) = True := eq_true (by omega)
                (try rw [show ((0 : Int)).toNat = 0 from rfl] at hx315_0)
                (try rw [Addr.add_zero'] at hx315_0)
                replace p315 := eq_true p315
                replace q315 := eq_true q315
                go_enter Try.func34, Try.ntmps34
                go_wp2_with (first | ((with_reducible refine gate_callee (f := 52) rfl ?_); refine goesL_ (some 16) rfl rfl Try.func52 (by kernel_rfl) rfl #[.int .u8 (rd l0 0), .slice none 0 0] rfl (by (try simp only [List.map_toArray, List.map_cons, List.map_nil]); first | done | rfl | (simp only [List.length_drop, List.length_take]; rfl)) ?_; (refine (field_In.calls k (rd l0 0) _ _ ([] : List Int) true _ ?side1 ?side2 A4.out).mono ?_); (case side1 => exact Kd.C_nil _ _); (case side2 => exact Nat.le_refl _); rintro e w15 ⟨rfl, hb⟩; refine ⟨_, rfl, ?_⟩; have n0_ := Aside0.mk (below_step (by repeat (first | (with_reducible first | exact HB.out | apply below_alloc | apply pw_below_drewN | apply below_drew1) | exact HB.out)) hb); clear HB; have HB := n0_; clear n0_; (try clear hb); (try clear hb2); (try clear hk); (try clear hi); obtain ⟨i016, hi016, _, hsz16, _⟩ := info_parts info5; obtain ⟨A16, hcut16, hA16, hC16⟩ := print_drop_of (P := Try.prog) (Value.int .u8) 0 22 5 .i64 Try.underlying22 hi016 hsz16 (some ad315) c0 l0 1 (by omega) (of_decide_eq_true (by first | (with_reducible assumption) | assumption)) HC0.out; have HR317 := Aside0.mk (Kd.C_of_reads (h1 := fun _ => rfl) (hA16 _ (Kd.reads_of_C HR0.out))); have HC317 := Aside0.mk hC16; clear hA16 hC16 hi016 hsz16) | ((with_reducible refine gate_callee (f := 15) rfl ?_); refine goesL_ (some 21) rfl rfl Try.func15 (by kernel_rfl) rfl #[.slice A16 (l0.drop 1).length (c0 - 1)] rfl (by (try simp only [List.map_toArray, List.map_cons, List.map_nil]); first | done | (rw [show (l0.drop 1).length = (l0.length - 1) from List.length_drop] <;> rfl) | rfl | (simp only [List.length_drop, List.length_take]; rfl)) ?_; (with_reducible refine (wire_ReadCount.calls k _ _ (l0.drop 1) t318 t319 t320 _ ?side1 ?side2 A7.out).mono ?_); (case side1 => repeat (first | exact (Kd.C_below HR317.out HB.out) | (with_reducible refine Kd.C_alloc ?_ _) | (with_reducible refine Kd.C_drewN ?_ _) | (with_reducible refine Kd.C_drew ?_))); (case side2 => exact HC317.out); rintro e w17 ⟨rfl, hb⟩; refine ⟨_, rfl, ?_⟩; have n0_ := Aside0.mk (below_step (by repeat (first | (with_reducible first | exact HB.out | apply below_alloc | apply pw_below_drewN | apply below_drew1) | exact HB.out)) hb); clear HB; have HB := n0_; clear n0_; (try clear hb); (try clear hb2); (try clear hk); (try clear hi)) | ((with_reducible refine gate_callee (f := 53) rfl ?_); refine goesL_ (some 41) rfl rfl Try.func53 (by kernel_rfl) rfl #[.int .u8 (rd l0 0)] rfl (by (try simp only [List.map_toArray, List.map_cons, List.map_nil]); first | done | rfl | (simp only [List.length_drop, List.length_take]; rfl)) ?_; (with_reducible refine (wire_width.calls (rd l0 0) t321 _ A13.out).mono ?_); rintro e w' ⟨rfl, ⟨nd, rfl⟩⟩; refine ⟨_, rfl, ?_⟩))
                refine bodyPost_ret (results_list (rs := [.tmp 2, .tmp 3, .tmp 4, .tmp 5]) rfl (by simp) (.tmp (.tmp (.tmp (.tmp .nil))))) rfl ?_
                exact ⟨_, by first | rfl | (simp [errW_none, errW_some] <;> rfl) | (simp [*, errW_none, errW_some] <;> rfl), by first | exact Kd.R_nil _ _ _ _ _ | exact Kd.N_nil _ _ _ _ _ | exact Kd.V_nil _ _ _ _ _ | exact Kd.Q_nil _ _ _ _ _ | exact Kd.S_nil _ _ _ _ _, by repeat (first | (with_reducible first | exact HB.out | apply below_alloc | apply pw_below_drewN | apply below_drew1) | exact HB.out)⟩
              · rw [if_neg c14] at H
                have c14b0 : decide ((wrap64 ((l0.length : Int) - (wrap64 (t319 + 1)))) < (wrap64 (t318 * t321))) = false := decide_eq_false c14
                clear c14
                have H' := Aside0.mk H
                clear H
                have p315 : 0 ≤ (0 : Int) := (by omega)
                have q315 : 0 < (l0.length : Int) := of_decide_eq_true (by first | (with_reducible assumption) | assumption)
                obtain ⟨ad315, e315, hx315_0⟩ := Kd.at_int HR0.out 0 p315 q315
                cases e315
                have qi315 : (0 < l0.length) = True := eq_true (by omega)
                (try rw [show ((0 : Int)).toNat = 0 from rfl] at hx315_0)
                (try rw [Addr.add_zero'] at hx315_0)
                replace p315 := eq_true p315
                replace q315 := eq_true q315
                have hinv := readCount_inv (show wire_ReadCount.f k (l0.drop 1) = some (t318, t319, 0) from by rw [A7.out, eq_of_beq c8b0])
                have h319 : t319 = 4 := hinv.1
                have hlen1 : 4 ≤ (l0.drop 1).length := hinv.2
                rw [List.length_drop] at hlen1
                clear hinv
                have hl0 : l0.length ≤ 9223372036854775807 := HR0.out.2.1
                have hw5 : wrap64 (t319 + 1) = 5 := by rw [h319]; unfold wrap64; omega
                have qA : 0 ≤ wrap64 (t319 + 1) := by rw [hw5]; omega
                have qB : wrap64 (t319 + 1) ≤ l0.length := by rw [hw5]; omega
                obtain ⟨iX, hiX, _, hszX, _⟩ := info_parts info5
                obtain ⟨AB, hcutB, hAB, hCB⟩ := print_drop_of (P := Try.prog) (Value.int .u8) 0 22 5 .i64 Try.underlying22 hiX hszX (some ad315) c0 l0 (wrap64 (t319 + 1)) qA qB HC0.out
                have HRB := Aside0.mk (show Kd.C (Kd.int .u8) w AB (l0.drop (wrap64 (t319 + 1)).toNat).length (l0.drop (wrap64 (t319 + 1)).toNat) from Kd.C_of_reads (h1 := fun _ => rfl) (hAB _ (Kd.reads_of_C HR0.out)))
                have HCB := Aside0.mk hCB
                have HQ := Aside0.mk (And.intro qA qB)
                have HL0 := Aside0.mk hl0
                clear hAB hCB hiX hszX qA qB hw5 h319 hlen1 hl0
                go_enter Try.func34, Try.ntmps34
                go_wp2_with (first | ((with_reducible refine gate_callee (f := 52) rfl ?_); refine goesL_ (some 16) rfl rfl Try.func52 (by kernel_rfl) rfl #[.int .u8 (rd l0 0), .slice none 0 0] rfl (by (try simp only [List.map_toArray, List.map_cons, List.map_nil]); first | done | rfl | (simp only [List.length_drop, List.length_take]; rfl)) ?_; (refine (field_In.calls k (rd l0 0) _ _ ([] : List Int) true _ ?side1 ?side2 A4.out).mono ?_); (case side1 => exact Kd.C_nil _ _); (case side2 => exact Nat.le_refl _); rintro e w18 ⟨rfl, hb⟩; refine ⟨_, rfl, ?_⟩; have n0_ := Aside0.mk (below_step (by repeat (first | (with_reducible first | exact HB.out | apply below_alloc | apply pw_below_drewN | apply below_drew1) | exact HB.out)) hb); clear HB; have HB := n0_; clear n0_; (try clear hb); (try clear hb2); (try clear hk); (try clear hi); obtain ⟨i019, hi019, _, hsz19, _⟩ := info_parts info5; obtain ⟨A19, hcut19, hA19, hC19⟩ := print_drop_of (P := Try.prog) (Value.int .u8) 0 22 5 .i64 Try.underlying22 hi019 hsz19 (some ad315) c0 l0 1 (by omega) (of_decide_eq_true (by first | (with_reducible assumption) | assumption)) HC0.out; have HR317 := Aside0.mk (Kd.C_of_reads (h1 := fun _ => rfl) (hA19 _ (Kd.reads_of_C HR0.out))); have HC317 := Aside0.mk hC19; clear hA19 hC19 hi019 hsz19) | ((with_reducible refine gate_callee (f := 15) rfl ?_); refine goesL_ (some 21) rfl rfl Try.func15 (by kernel_rfl) rfl #[.slice A19 (l0.drop 1).length (c0 - 1)] rfl (by (try simp only [List.map_toArray, List.map_cons, List.map_nil]); first | done | (rw [show (l0.drop 1).length = (l0.length - 1) from List.length_drop] <;> rfl) | rfl | (simp only [List.length_drop, List.length_take]; rfl)) ?_; (with_reducible refine (wire_ReadCount.calls k _ _ (l0.drop 1) t318 t319 t320 _ ?side1 ?side2 A7.out).mono ?_); (case side1 => repeat (first | exact (Kd.C_below HR317.out HB.out) | (with_reducible refine Kd.C_alloc ?_ _) | (with_reducible refine Kd.C_drewN ?_ _) | (with_reducible refine Kd.C_drew ?_))); (case side2 => exact HC317.out); rintro e w20 ⟨rfl, hb⟩; refine ⟨_, rfl, ?_⟩; have n0_ := Aside0.mk (below_step (by repeat (first | (with_reducible first | exact HB.out | apply below_alloc | apply pw_below_drewN | apply below_drew1) | exact HB.out)) hb); clear HB; have HB := n0_; clear n0_; (try clear hb); (try clear hb2); (try clear hk); (try clear hi)) | ((with_reducible refine gate_callee (f := 53) rfl ?_); refine goesL_ (some 41) rfl rfl Try.func53 (by kernel_rfl) rfl #[.int .u8 (rd l0 0)] rfl (by (try simp only [List.map_toArray, List.map_cons, List.map_nil]); first | done | rfl | (simp only [List.length_drop, List.length_take]; rfl)) ?_; (with_reducible refine (wire_width.calls (rd l0 0) t321 _ A13.out).mono ?_); rintro e w' ⟨rfl, ⟨nd, rfl⟩⟩; refine ⟨_, rfl, ?_⟩))
                go_wp2_with (go_at_call 46; refine (wire_takerC.calls _ _ _ _).mono ?_; rintro e w' ⟨rfl, rfl⟩)
                have HGS := Aside0.mk HB.out.size
                go_loopg [3, 49] k (fun kq v3 v49 w' => ∃ (x3 : List Int) (x8 x46 : Int) (A' : Option Addr) (c' : Nat), v49 = .int .i64 x46 ∧ Aside0 (wire_ReadList.l0 kq l0 (rd l0 0) x3 t318 (wrap64 (t319 + 1)) x8 t318 x46 = some (r1, r2, r3, r4)) ∧ Aside0 (kq ≤ k) ∧ Aside0 (Kd.R (Kd.int .u64) 32 w' w.heap.size (fun _ => True) v3 x3) ∧ Aside0 (Below w.heap.size w w') ∧ Aside0 (0 ≤ x8 ∧ x8 ≤ l0.length) ∧ Aside0 (w'.heap[w20.heap.size]? = some (.cells #[.slice A' (l0.drop x8.toNat).length c'] 22 (0, 0))) ∧ Aside0 (Kd.C (Kd.int .u8) w A' (l0.drop x8.toNat).length (l0.drop x8.toNat)) ∧ Aside0 ((l0.drop x8.toNat).length ≤ c'))
                case atStart => exact ⟨[], wrap64 (t319 + 1), 0, AB, c0 - (wrap64 (t319 + 1)).toNat, rfl, H', ⟨Nat.le_refl _⟩, ⟨Kd.R_nil _ _ _ _ _⟩, ⟨by repeat (first | (with_reducible first | exact HB.out | apply below_alloc | apply pw_below_drewN | apply below_drew1) | exact HB.out)⟩, HQ, ⟨by rw [List.length_drop]; exact heap_alloc_new _ _⟩, HRB, HCB⟩
                case round =>
                  clear H'
                  obtain ⟨x3, x8, x46, A', c', rfl, HA, HK1, HO, HB2, HX, HG, HC2, HCC⟩ := hrel
                  cases gk with
                  | zero => exact absurd HA.out (by simp [wire_ReadList.l0])
                  | succ k1 =>
                    have H := HA.out
                    clear HA
                    simp only [wire_ReadList.l0] at H
                    by_cases c20 : x46 < t318
                    · rw [if_pos c20] at H
                      obtain ⟨t1, hw1, H⟩ := Option.bind_eq_some_iff.mp H
                      have hwc := width_cases hw1
                      have hx0 := HX.out.1
                      have hx1 := HX.out.2
                      have hl0 := HL0.out
                      rw [if_pos hx0] at H
                      by_cases c22 : x8 ≤ wrap64 (x8 + t1)
                      · rw [if_pos c22] at H
                        have ew : wrap64 (x8 + t1) = x8 + t1 := by unfold wrap64 at c22 ⊢; omega
                        by_cases c23 : wrap64 (x8 + t1) ≤ (l0.length : Int)
                        · rw [if_pos c23] at H
                          obtain ⟨t2, ht, H⟩ := Option.bind_eq_some_iff.mp H
                          by_cases c24 : x3.length < 17592186044416
                          · rw [if_pos c24] at H
                            obtain ⟨t3, hw2, H⟩ := Option.bind_eq_some_iff.mp H
                            rw [hw1] at hw2
                            obtain rfl := Option.some.inj hw2
                            have HT := Aside0.mk (show wire_taken.f k1 ((l0.drop x8.toNat).take t1.toNat) = some t2 from by rw [← ht, List.drop_take, ew, show (x8 + t1).toNat - x8.toNat = t1.toNat by omega])
                            have HW := Aside0.mk hw1
                            have HN := Aside0.mk (show 0 ≤ t1 ∧ t1 ≤ (l0.drop x8.toNat).length from by rw [List.length_drop]; omega)
                            have HN2 := Aside0.mk (show 0 ≤ wrap64 (x8 + t1) ∧ wrap64 (x8 + t1) ≤ l0.length from ⟨by omega, c23⟩)
                            have HN3 := Aside0.mk (show (wrap64 (x8 + t1)).toNat = x8.toNat + t1.toNat from by rw [ew]; omega)
                            have H' := Aside0.mk H
                            have LM := Aside0.mk c24
                            have c20b0 : decide (x46 < t318) = true := decide_eq_true c20
                            clear H ht hw1 hw2 hwc hx0 hx1 hl0 c22 c23 c24 c20 ew
                            go_wp2_with fail
                            refine (wire_width.calls (rd l0 0) t1 _ HW.out).mono ?_
                            rintro e w1 ⟨rfl, ⟨m1, rfl⟩⟩
                            go_wp2_with fail
                            refine (wire_taker1.calls (w := wr.drewN m1) k1 A' c' w20.heap.size t1 (l0.drop x8.toNat) t2 HG.out (Kd.C_drewN (Kd.C_below HC2.out HB2.out) _) HCC.out HN.out.1 HN.out.2 HT.out).mono ?_
                            rintro e w2 ⟨rfl, A2, hC2, hw2⟩
                            have HG3 := Aside0.mk (show w2.heap[w20.heap.size]? = some (.cells #[.slice A2 ((l0.drop x8.toNat).length - t1.toNat) ((l0.drop x8.toNat).length - t1.toNat)] 22 (0, 0)) from hw2 ▸ one_setCell (w := wr.drewN m1) HG.out)
                            have HB3 := Aside0.mk (show Below w.heap.size w w2 from hw2 ▸ below_set (pw_below_drewN HB2.out m1) HGS.out)
                            have HO3 := Aside0.mk (show Kd.R (Kd.int .u64) 32 w2 w.heap.size (fun _ => True) u3 x3 from hw2 ▸ Kd.R_set (Kd.R_drewN HO.out m1) (w := wr.drewN m1) HG.out (by decide) 0 _)
                            have HC4 := Aside0.mk (hC2 w HC2.out)
                            clear hw2 hC2 HG HB2 HO HC2
                            go_wp2_with ((with_reducible refine gate_builtin (b := .append) (xs := #[.tmp 51, .tmp 56]) rfl ?_); at_builtin; refine Kd.R_append (Kd.int .u64) (w0 := w) w.heap.size rfl (.tmp 51) (.tmp 56) 36 32 (.int .u64 0) 8 rfl Try.underlying36 info32 rfl (by decide) (by omega) u3 x3 t2 [.int .u64 t2] (fun _ => True) (fun _ => False) rfl rfl ?aP (fun _ hk => hk.elim) ?aF ?aO ?aB ?aS ?aL ?_; (case aP => exact rfl); (case aB => exact HB3.out); (case aF => exact (fun _ _ => trivial)); (case aO => exact HO3.out); (case aS => exact below_size HB3.out); (case aL => have := LM.out; omega); intro v9 w9 ho hb hg hat; have HB5 := Aside0.mk hb; have HO5 := Aside0.mk ho; have HG5 := Aside0.mk (blk_grown HG3.out hg (Kd.R_ne HO3.out HG3.out (by decide))); clear ho hb hg hat HB3 HO3 HG3)
                            go_roundg k1
                            case measure => have := HK1.out; omega
                            case rel =>
                              have e1 : (l0.drop (wrap64 (x8 + t1)).toNat).length = (l0.drop x8.toNat).length - t1.toNat := by rw [HN3.out, List.length_drop, List.length_drop]; omega
                              have e2 : l0.drop (wrap64 (x8 + t1)).toNat = (l0.drop x8.toNat).drop t1.toNat := by rw [HN3.out, List.drop_drop]
                              exact ⟨x3 ++ [t2], wrap64 (x8 + t1), wrap64 (x46 + 1), A2, (l0.drop x8.toNat).length - t1.toNat, (by first | rfl | (simp; done) | (simp [*]; done)), H', ⟨by have := HK1.out; omega⟩, HO5, HB5, HN2, ⟨by rw [e1]; exact HG5.out⟩, ⟨by rw [e1, e2]; exact HC4.out⟩, ⟨by rw [e1]; exact Nat.le_refl _⟩⟩
                          · rw [if_neg c24] at H
                            exact absurd H (by simp)
                        · rw [if_neg c23] at H
                          exact absurd H (by simp)
                      · rw [if_neg c22] at H
                        exact absurd H (by simp)
                    · rw [if_neg c20] at H
                      have c20b0 : decide (x46 < t318) = false := decide_eq_false c20
                      clear c20
                      obtain ⟨t1, hin, H⟩ := Option.bind_eq_some_iff.mp H
                      have HI := Aside0.mk hin
                      clear hin
                      obtain ⟨Ao, co, eo⟩ := Kd.R_slice HO.out
                      subst eo
                      have HR9 := Aside0.mk (Kd.R_reads' HO.out).2.2
                      have HC9 := Aside0.mk (Kd.R_reads' HO.out).2.1
                      cases t1 with
                      | true =>
                        rw [if_pos rfl] at H
                        obtain ⟨t2, hw, H⟩ := Option.bind_eq_some_iff.mp H
                        have HW := Aside0.mk hw
                        clear hw
                        simp only [Option.some.injEq, Prod.mk.injEq] at H
                        obtain ⟨rfl, rfl, rfl, rfl⟩ := H
                        go_wp2_with fail
                        refine (field_In.calls k1 (rd l0 0) Ao co x3 true _ HR9.out HC9.out HI.out).mono ?_
                        rintro e w5 ⟨rfl, hb5⟩
                        have HB5 := Aside0.mk hb5
                        clear hb5
                        go_wp2_with fail
                        refine (wire_width.calls (rd l0 0) t2 _ HW.out).mono ?_
                        rintro e w6 ⟨rfl, ⟨m6, rfl⟩⟩
                        go_wp2_with fail
                        refine bodyPost_ret (results_list (rs := [.tmp 2, .tmp 3, .tmp 4, .tmp 5]) rfl (by simp) (.tmp (.tmp (.tmp (.tmp .nil))))) rfl ?_
                        exact ⟨_, rfl, Kd.R_drewN (Kd.R_below HO.out HB5.out) _, pw_below_drewN (below_step HB2.out HB5.out) _⟩
                      | false =>
                        rw [if_neg (by decide)] at H
                        simp only [Option.some.injEq, Prod.mk.injEq] at H
                        obtain ⟨rfl, rfl, rfl, rfl⟩ := H
                        go_wp2_with fail
                        refine (field_In.calls k1 (rd l0 0) Ao co x3 false _ HR9.out HC9.out HI.out).mono ?_
                        rintro e w5 ⟨rfl, hb5⟩
                        have HB5 := Aside0.mk hb5
                        clear hb5
                        go_wp2_with fail
                        refine bodyPost_ret (results_list (rs := [.tmp 2, .tmp 3, .tmp 4, .tmp 5]) rfl (by simp) (.tmp (.tmp (.tmp (.tmp .nil))))) rfl ?_
                        exact ⟨_, rfl, Kd.R_nil _ _ _ _ _, below_step HB2.out HB5.out⟩
          · rw [if_neg c8] at H
            have c8b0 : (t320 == 0) = false := beq_eq_false_iff_ne.mpr c8
            have c8b1 : (t320 != 0) = true := bne_iff_ne.mpr c8
            simp only [Option.some.injEq, Prod.mk.injEq] at H
            obtain ⟨rfl, rfl, rfl, rfl⟩ := H
            have p315 : 0 ≤ (0 : Int) := (by omega)
            have q315 : 0 < (l0.length : Int) := of_decide_eq_true (by first | (with_reducible assumption) | assumption)
            obtain ⟨ad315, e315, hx315_0⟩ := Kd.at_int HR0.out 0 p315 q315
            cases e315
            have qi315 : (0 < l0.length) = True := eq_true (by omega)
            (try rw [show ((0 : Int)).toNat = 0 from rfl] at hx315_0)
            (try rw [Addr.add_zero'] at hx315_0)
            replace p315 := eq_true p315
            replace q315 := eq_true q315
            go_enter Try.func34, Try.ntmps34
            go_wp2_with (first | ((with_reducible refine gate_callee (f := 52) rfl ?_); refine goesL_ (some 16) rfl rfl Try.func52 (by kernel_rfl) rfl #[.int .u8 (rd l0 0), .slice none 0 0] rfl (by (try simp only [List.map_toArray, List.map_cons, List.map_nil]); first | done | rfl | (simp only [List.length_drop, List.length_take]; rfl)) ?_; (refine (field_In.calls k (rd l0 0) _ _ ([] : List Int) true _ ?side1 ?side2 A4.out).mono ?_); (case side1 => exact Kd.C_nil _ _); (case side2 => exact Nat.le_refl _); rintro e w38 ⟨rfl, hb⟩; refine ⟨_, rfl, ?_⟩; have n0_ := Aside0.mk (below_step (by repeat (first | (with_reducible first | exact HB.out | apply below_alloc | apply pw_below_drewN | apply below_drew1) | exact HB.out)) hb); clear HB; have HB := n0_; clear n0_; (try clear hb); (try clear hb2); (try clear hk); (try clear hi); obtain ⟨i039, hi039, _, hsz39, _⟩ := info_parts info5; obtain ⟨A39, hcut39, hA39, hC39⟩ := print_drop_of (P := Try.prog) (Value.int .u8) 0 22 5 .i64 Try.underlying22 hi039 hsz39 (some ad315) c0 l0 1 (by omega) (of_decide_eq_true (by first | (with_reducible assumption) | assumption)) HC0.out; have HR317 := Aside0.mk (Kd.C_of_reads (h1 := fun _ => rfl) (hA39 _ (Kd.reads_of_C HR0.out))); have HC317 := Aside0.mk hC39; clear hA39 hC39 hi039 hsz39) | ((with_reducible refine gate_callee (f := 15) rfl ?_); refine goesL_ (some 21) rfl rfl Try.func15 (by kernel_rfl) rfl #[.slice A39 (l0.drop 1).length (c0 - 1)] rfl (by (try simp only [List.map_toArray, List.map_cons, List.map_nil]); first | done | (rw [show (l0.drop 1).length = (l0.length - 1) from List.length_drop] <;> rfl) | rfl | (simp only [List.length_drop, List.length_take]; rfl)) ?_; (with_reducible refine (wire_ReadCount.calls k _ _ (l0.drop 1) t318 t319 t320 _ ?side1 ?side2 A7.out).mono ?_); (case side1 => repeat (first | exact (Kd.C_below HR317.out HB.out) | (with_reducible refine Kd.C_alloc ?_ _) | (with_reducible refine Kd.C_drewN ?_ _) | (with_reducible refine Kd.C_drew ?_))); (case side2 => exact HC317.out); rintro e w40 ⟨rfl, hb⟩; refine ⟨_, rfl, ?_⟩; have n0_ := Aside0.mk (below_step (by repeat (first | (with_reducible first | exact HB.out | apply below_alloc | apply pw_below_drewN | apply below_drew1) | exact HB.out)) hb); clear HB; have HB := n0_; clear n0_; (try clear hb); (try clear hb2); (try clear hk); (try clear hi)))
            refine bodyPost_ret (results_list (rs := [.tmp 2, .tmp 3, .tmp 4, .tmp 5]) rfl (by simp) (.tmp (.tmp (.tmp (.tmp .nil))))) rfl ?_
            exact ⟨_, by first | rfl | (simp [errW_none, errW_some] <;> rfl) | (simp [*, errW_none, errW_some] <;> rfl), by first | exact Kd.R_nil _ _ _ _ _ | exact Kd.N_nil _ _ _ _ _ | exact Kd.V_nil _ _ _ _ _ | exact Kd.Q_nil _ _ _ _ _ | exact Kd.S_nil _ _ _ _ _, by repeat (first | (with_reducible first | exact HB.out | apply below_alloc | apply pw_below_drewN | apply below_drew1) | exact HB.out)⟩
        · rw [if_neg c6] at H
          exact absurd H (by simp)
      · replace c5 := Bool.eq_false_iff.mpr c5
        subst c5
        have H1 : (some (0, ([] : List Int), 0, 8)) = some (r1, r2, r3, r4) := by rw [if_neg (show ¬ (false = true) by decide)] at H; exact H
        clear H
        have H := H1
        clear H1
        simp only [Option.some.injEq, Prod.mk.injEq] at H
        obtain ⟨rfl, rfl, rfl, rfl⟩ := H
        have p315 : 0 ≤ (0 : Int) := (by omega)
        have q315 : 0 < (l0.length : Int) := of_decide_eq_true (by first | (with_reducible assumption) | assumption)
        obtain ⟨ad315, e315, hx315_0⟩ := Kd.at_int HR0.out 0 p315 q315
        cases e315
        have qi315 : (0 < l0.length) = True := eq_true (by omega)
        (try rw [show ((0 : Int)).toNat = 0 from rfl] at hx315_0)
        (try rw [Addr.add_zero'] at hx315_0)
        replace p315 := eq_true p315
        replace q315 := eq_true q315
        go_enter Try.func34, Try.ntmps34
        go_wp2_with (first | ((with_reducible refine gate_callee (f := 52) rfl ?_); refine goesL_ (some 16) rfl rfl Try.func52 (by kernel_rfl) rfl #[.int .u8 (rd l0 0), .slice none 0 0] rfl (by (try simp only [List.map_toArray, List.map_cons, List.map_nil]); first | done | rfl | (simp only [List.length_drop, List.length_take]; rfl)) ?_; (refine (field_In.calls k (rd l0 0) _ _ ([] : List Int) false _ ?side1 ?side2 A4.out).mono ?_); (case side1 => exact Kd.C_nil _ _); (case side2 => exact Nat.le_refl _); rintro e w41 ⟨rfl, hb⟩; refine ⟨_, rfl, ?_⟩; have n0_ := Aside0.mk (below_step (by repeat (first | (with_reducible first | exact HB.out | apply below_alloc | apply pw_below_drewN | apply below_drew1) | exact HB.out)) hb); clear HB; have HB := n0_; clear n0_; (try clear hb); (try clear hb2); (try clear hk); (try clear hi)))
        refine bodyPost_ret (results_list (rs := [.tmp 2, .tmp 3, .tmp 4, .tmp 5]) rfl (by simp) (.tmp (.tmp (.tmp (.tmp .nil))))) rfl ?_
        exact ⟨_, by first | rfl | (simp [errW_none, errW_some] <;> rfl) | (simp [*, errW_none, errW_some] <;> rfl), by first | exact Kd.R_nil _ _ _ _ _ | exact Kd.N_nil _ _ _ _ _ | exact Kd.V_nil _ _ _ _ _ | exact Kd.Q_nil _ _ _ _ _ | exact Kd.S_nil _ _ _ _ _, by repeat (first | (with_reducible first | exact HB.out | apply below_alloc | apply pw_below_drewN | apply below_drew1) | exact HB.out)⟩
    · rw [if_neg c3] at H
      exact absurd H (by simp)


end Go.Proofs.Ytclanpkekocndaa.P
