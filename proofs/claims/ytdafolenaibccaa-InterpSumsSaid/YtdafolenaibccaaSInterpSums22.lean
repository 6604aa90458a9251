import Derived.Test.YtdafolenaibccaaSInterpSums18
import Derived.Test.YtdafolenaibccaaSInterpSums19
import Derived.Test.YtdafolenaibccaaSInterpSums21
section
namespace Go.Proofs.Ytdafolenaibccaa.P
open Go.RowKit Go.Proofs.YtdafolenaibccaaW.PrintWords Go.Proofs.YtdafolenaibccaaW.PrintLast Go.Proofs.YtdafolenaibccaaW.PrintMore
attribute [local go_sem] max2_int min2_int max_two min_two max_three min_three max_four min_four
set_option linter.unusedVariables false
set_option linter.unusedSimpArgs false
mutual
def conclavelaw07_InterpSums.j0 : Nat → Int → List Int → List Int → List Int → Int → Int → Int → Bool → Option (Bool)
  | 0, _, _, _, _, _, _, _, _ => none
  | k + 1, x7, x8, x9, x10, x11, x12, x13, x54 => if x54 = true then ((conclavelaw07_anchored.f k).bind fun t792 => (if t792 = true then (if x11 = 0 then (some (x13 != 0)) else (some true)) else (some false))) else ((conclaveref01_Dot.f k x7 x10 x9).bind fun bt793 => (if (x10.length : Int) = (x8.length : Int) then (conclavelaw07_InterpSums.l0 k x7 x8 x10 x11 x12 x13 bt793.1 bt793.2 0 0) else (some false)))
def conclavelaw07_InterpSums.l0 : Nat → Int → List Int → List Int → Int → Int → Int → Int → Int → Int → Int → Option (Bool)
  | 0, _, _, _, _, _, _, _, _, _, _ => none
  | k + 1, x7, x8, x10, x11, x12, x13, x14, x15, x16, x17 => if x17 < (x10.length : Int) then ((conclaveref01_P.f x7).bind fun t796 => (if 0 ≤ x17 then ((conclaveref01_Sum.f t796 x16 (rd x10 x17)).bind fun t798 => (if x17 < (x8.length : Int) then ((interp_Basis.f k x7 x8 (rd x8 x17)).bind fun bt800 => (if bt800.2 = 0 then (conclavelaw07_InterpSums.j2 k x7 x8 x10 x11 x12 x13 x14 x15 t798 x17 bt800.1 ((bt800.1.length : Int) != (x8.length : Int))) else (conclavelaw07_InterpSums.j2 k x7 x8 x10 x11 x12 x13 x14 x15 t798 x17 bt800.1 true))) else (none))) else (none))) else ((conclavelaw07_anchored.f k).bind fun t795 => (if t795 = true then (if x11 = 0 then (if x13 = 0 then (if x15 = 0 then (if x14 = x12 then (if (x10.length : Int) = (x8.length : Int) then (if (x8.length : Int) = 0 then (some true) else (some (x16 == 1))) else (some false)) else (some false)) else (some false)) else (some false)) else (some false)) else (some false)))
def conclavelaw07_InterpSums.j2 : Nat → Int → List Int → List Int → Int → Int → Int → Int → Int → Int → Int → List Int → Bool → Option (Bool)
  | 0, _, _, _, _, _, _, _, _, _, _, _, _ => none
  | k + 1, x7, x8, x10, x11, x12, x13, x14, x15, x16, x17, x18, x108 => if x108 = true then (some false) else (conclavelaw07_InterpSums.l1 k x7 x8 x10 x11 x12 x13 x14 x15 x16 x17 x18 0)
def conclavelaw07_InterpSums.l1 : Nat → Int → List Int → List Int → Int → Int → Int → Int → Int → Int → Int → List Int → Int → Option (Bool)
  | 0, _, _, _, _, _, _, _, _, _, _, _, _ => none
  | k + 1, x7, x8, x10, x11, x12, x13, x14, x15, x16, x17, x18, x20 => if x20 < (x18.length : Int) then (if x20 = x17 then (if 0 ≤ x20 then (if (rd x18 x20) = 1 then (conclavelaw07_InterpSums.l1 k x7 x8 x10 x11 x12 x13 x14 x15 x16 x17 x18 (wrap64 (x20 + 1))) else (some false)) else (none)) else (if 0 ≤ x20 then (if (rd x18 x20) = 0 then (conclavelaw07_InterpSums.l1 k x7 x8 x10 x11 x12 x13 x14 x15 x16 x17 x18 (wrap64 (x20 + 1))) else (some false)) else (none))) else (conclavelaw07_InterpSums.l0 k x7 x8 x10 x11 x12 x13 x14 x15 x16 (wrap64 (x17 + 1)))
end
def conclavelaw07_InterpSums.f (k : Nat) (a0 : Int) (l1_0 : List Int) (l1_1 : List Int) (a2 : Int) : Option (Bool) := (interp_Basis.f k a0 l1_0 a2).bind fun bt781 => ((interp_Value.f k a0 l1_0 l1_1 a2).bind fun bt785 => ((conclaveref07_Bad.f k a0 l1_0 l1_1 (l1_1.length : Int)).bind fun t787 => (if t787 = 0 then ((conclaveref07_Bad.f k a0 ([] : List Int) (([a2] : List Int)) 0).bind fun t791 => (conclavelaw07_InterpSums.j0 k a0 l1_0 l1_1 bt781.1 bt781.2 bt785.1 bt785.2 (t791 != 0))) else (conclavelaw07_InterpSums.j0 k a0 l1_0 l1_1 bt781.1 bt781.2 bt785.1 bt785.2 true))))
set_option maxHeartbeats 8000000 in
set_option maxRecDepth 100000 in
theorem conclavelaw07_InterpSums.calls (k : Nat) (a0 : Int) (A1_0 : Option Addr) (c1_0 : Nat) (l1_0 : List Int) (A1_1 : Option Addr) (c1_1 : Nat) (l1_1 : List Int) (a2 : Int) (r : Bool) (w : World) (hr1_0 : Kd.C (Kd.int .u64) w A1_0 l1_0.length l1_0) (hc1_0 : l1_0.length ≤ c1_0) (hr1_1 : Kd.C (Kd.int .u64) w A1_1 l1_1.length l1_1) (hc1_1 : l1_1.length ≤ c1_1) (h : conclavelaw07_InterpSums.f k a0 l1_0 l1_1 a2 = some r) (hrt : r = true) :
    Calls Try.prog 9 #[.int .u8 a0, .agg #[.slice A1_0 l1_0.length c1_0, .slice A1_1 l1_1.length c1_1], .int .u64 a2] w fun e w' => e = .returned (.bool r) ∧ Below w.heap.size w w' := by
  have hu23 := Try.underlying23
  have HR1_0 := Aside0.mk hr1_0
  have HC1_0 := Aside0.mk hc1_0
  clear hr1_0 hc1_0
  have HR1_1 := Aside0.mk hr1_1
  have HC1_1 := Aside0.mk hc1_1
  clear hr1_1 hc1_1
  have HB := Aside0.mk (Below.refl w.heap.size w)
  have H : ((interp_Basis.f k a0 l1_0 a2).bind fun bt781 => ((interp_Value.f k a0 l1_0 l1_1 a2).bind fun bt785 => ((conclaveref07_Bad.f k a0 l1_0 l1_1 (l1_1.length : Int)).bind fun t787 => (if t787 = 0 then ((conclaveref07_Bad.f k a0 ([] : List Int) (([a2] : List Int)) 0).bind fun t791 => (conclavelaw07_InterpSums.j0 k a0 l1_0 l1_1 bt781.1 bt781.2 bt785.1 bt785.2 (t791 != 0))) else (conclavelaw07_InterpSums.j0 k a0 l1_0 l1_1 bt781.1 bt781.2 bt785.1 bt785.2 true))))) = some r := h
  clear h
  replace H := Option.bind_eq_some_iff.mp H
  obtain ⟨⟨t781, t782⟩, A40, H⟩ := H
  replace H : ((interp_Value.f k a0 l1_0 l1_1 a2).bind fun bt785 => ((conclaveref07_Bad.f k a0 l1_0 l1_1 (l1_1.length : Int)).bind fun t787 => (if t787 = 0 then ((conclaveref07_Bad.f k a0 ([] : List Int) (([a2] : List Int)) 0).bind fun t791 => (conclavelaw07_InterpSums.j0 k a0 l1_0 l1_1 t781 t782 bt785.1 bt785.2 (t791 != 0))) else (conclavelaw07_InterpSums.j0 k a0 l1_0 l1_1 t781 t782 bt785.1 bt785.2 true)))) = some r := H
  have A4 := Aside0.mk A40
  clear A40
  replace H := Option.bind_eq_some_iff.mp H
  obtain ⟨⟨t785, t786⟩, A50, H⟩ := H
  replace H : ((conclaveref07_Bad.f k a0 l1_0 l1_1 (l1_1.length : Int)).bind fun t787 => (if t787 = 0 then ((conclaveref07_Bad.f k a0 ([] : List Int) (([a2] : List Int)) 0).bind fun t791 => (conclavelaw07_InterpSums.j0 k a0 l1_0 l1_1 t781 t782 t785 t786 (t791 != 0))) else (conclavelaw07_InterpSums.j0 k a0 l1_0 l1_1 t781 t782 t785 t786 true))) = some r := H
  have A5 := Aside0.mk A50
  clear A50
  have HC6 := Aside0.mk H
  clear H
  go_enter Try.func9, Try.ntmps9
  go_upto_region 5 with (first | ((with_reducible refine gate_dst (N := 4) rfl ?_); (try (refine gate_guard (by rfl) ?_; dsimp only)); refine box_event ?hg (N := 4) ?hd (cs := #[.slice A1_0 l1_0.length c1_0, .slice A1_1 l1_1.length c1_1]) (t := 23) ?hr ?_; (case hd => rfl); (case hg => rfl); (case hr => first | (go_simp; done) | (go_simp; rfl)); intro gb780 hg w7 hbox hb; have n0_ := Aside0.mk (below_step (by repeat (first | (with_reducible first | exact HB.out | apply below_alloc | apply pw_below_drewN | apply below_drew1) | exact HB.out)) hb); have n1_ := Aside0.mk (hbox); have n2_ := Aside0.mk ((by rw [hg]; exact (below_size (by repeat (first | (with_reducible first | exact HB.out | apply below_alloc | apply pw_below_drewN | apply below_drew1) | exact HB.out))) : w.heap.size ≤ gb780)); have n3_ := Aside0.mk ((by rw [hg]; exact (below_size (by repeat (first | (with_reducible first | exact HB.out | apply below_alloc | apply pw_below_drewN | apply below_drew1) | exact HB.out))) : w.heap.size ≤ gb780)); clear HB; have HB := n0_; have BK780 := n1_; have GW780 := n2_; have GE780 := n3_; clear n0_ n1_ n2_ n3_; clear hb hbox hg; have hcz8_0 : w7.cell? ⟨gb780, 0, none⟩ = some (.slice A1_0 l1_0.length c1_0) := (blk_cell BK780.out 0).trans rfl; have hcz8_1 : w7.cell? ⟨gb780, 1, none⟩ = some (.slice A1_1 l1_1.length c1_1) := (blk_cell BK780.out 1).trans rfl; have hfz8_0 := blk_frozen BK780.out 0; have hfz8_1 := blk_frozen BK780.out 1) | (go_at_call 14; (with_reducible refine (interp_Basis.calls k a0 _ _ l1_0 a2 t781 t782 _ ?side1 ?side2 A4.out).mono ?_); (case side1 => repeat (first | exact (Kd.C_below HR1_0.out HB.out) | (with_reducible refine Kd.C_alloc ?_ _) | (with_reducible refine Kd.C_drewN ?_ _) | (with_reducible refine Kd.C_drew ?_))); (case side2 => exact HC1_0.out); rintro e w9 ⟨v783, rfl, ho0, hb⟩; have n0_ := Aside0.mk (Kd.R_lower ho0 (below_size (by repeat (first | (with_reducible first | exact HB.out | apply below_alloc | apply pw_below_drewN | apply below_drew1 | refine below_set ?_ GE780.out) | exact HB.out)))); have n1_ := Aside0.mk (blk_below (g := gb780) (o := .cells #[.slice A1_0 l1_0.length c1_0, .slice A1_1 l1_1.length c1_1] 23 (0, 0)) (by (with_reducible repeat (first | refine blk_drewN ?_ _ | refine blk_drew ?_ | refine blk_alloc ?_ _)); exact BK780.out) hb); have n2_ := Aside0.mk (below_step (by repeat (first | (with_reducible first | exact HB.out | apply below_alloc | apply pw_below_drewN | apply below_drew1 | refine below_set ?_ GE780.out) | exact HB.out)) hb); clear BK780; clear HB; have HO784 := n0_; have BK780 := n1_; have HB := n2_; clear n0_ n1_ n2_; (try clear hb); (try clear hb2); (try clear hk); (try clear hi); (try clear ho0)) | (go_at_call 10; (with_reducible refine (interp_Value.calls k a0 _ _ l1_0 _ _ l1_1 a2 t785 t786 _ ?side1 ?side2 ?side3 ?side4 A5.out).mono ?_); (case side1 => repeat (first | exact (Kd.C_below HR1_0.out HB.out) | (with_reducible refine Kd.C_alloc ?_ _) | (with_reducible refine Kd.C_drewN ?_ _) | (with_reducible refine Kd.C_drew ?_))); (case side2 => exact HC1_0.out); (case side3 => repeat (first | exact (Kd.C_below HR1_1.out HB.out) | (with_reducible refine Kd.C_alloc ?_ _) | (with_reducible refine Kd.C_drewN ?_ _) | (with_reducible refine Kd.C_drew ?_))); (case side4 => exact HC1_1.out); rintro e w10 ⟨rfl, hb⟩; have n0_ := Aside0.mk (Kd.R_below (by (with_reducible repeat (first | apply Kd.R_alloc | apply Kd.R_drewN | apply Kd.R_drew)); exact HO784.out) hb); have n1_ := Aside0.mk (blk_below (g := gb780) (o := .cells #[.slice A1_0 l1_0.length c1_0, .slice A1_1 l1_1.length c1_1] 23 (0, 0)) (by (with_reducible repeat (first | refine blk_drewN ?_ _ | refine blk_drew ?_ | refine blk_alloc ?_ _)); exact BK780.out) hb); have n2_ := Aside0.mk (below_step (by repeat (first | (with_reducible first | exact HB.out | apply below_alloc | apply pw_below_drewN | apply below_drew1 | refine below_set ?_ GE780.out) | exact HB.out)) hb); clear HO784; clear BK780; clear HB; have HO784 := n0_; have BK780 := n1_; have HB := n2_; clear n0_ n1_ n2_; (try clear hb); (try clear hb2); (try clear hk); (try clear hi)))
  repeat (go_quiet (first | ((with_reducible refine gate_dst (N := 4) rfl ?_); (try (refine gate_guard (by rfl) ?_; dsimp only)); refine box_event ?hg (N := 4) ?hd (cs := #[.slice A1_0 l1_0.length c1_0, .slice A1_1 l1_1.length c1_1]) (t := 23) ?hr ?_; (case hd => rfl); (case hg => rfl); (case hr => first | (go_simp; done) | (go_simp; rfl)); intro gb780 hg w7 hbox hb; have n0_ := Aside0.mk (below_step (by repeat (first | (with_reducible first | exact HB.out | apply below_alloc | apply pw_below_drewN | apply below_drew1) | exact HB.out)) hb); have n1_ := Aside0.mk (hbox); have n2_ := Aside0.mk ((by rw [hg]; exact (below_size (by repeat (first | (with_reducible first | exact HB.out | apply below_alloc | apply pw_below_drewN | apply below_drew1) | exact HB.out))) : w.heap.size ≤ gb780)); have n3_ := Aside0.mk ((by rw [hg]; exact (below_size (by repeat (first | (with_reducible first | exact HB.out | apply below_alloc | apply pw_below_drewN | apply below_drew1) | exact HB.out))) : w.heap.size ≤ gb780)); clear HB; have HB := n0_; have BK780 := n1_; have GW780 := n2_; have GE780 := n3_; clear n0_ n1_ n2_ n3_; clear hb hbox hg; have hcz8_0 : w7.cell? ⟨gb780, 0, none⟩ = some (.slice A1_0 l1_0.length c1_0) := (blk_cell BK780.out 0).trans rfl; have hcz8_1 : w7.cell? ⟨gb780, 1, none⟩ = some (.slice A1_1 l1_1.length c1_1) := (blk_cell BK780.out 1).trans rfl; have hfz8_0 := blk_frozen BK780.out 0; have hfz8_1 := blk_frozen BK780.out 1) | (go_at_call 14; (with_reducible refine (interp_Basis.calls k a0 _ _ l1_0 a2 t781 t782 _ ?side1 ?side2 A4.out).mono ?_); (case side1 => repeat (first | exact (Kd.C_below HR1_0.out HB.out) | (with_reducible refine Kd.C_alloc ?_ _) | (with_reducible refine Kd.C_drewN ?_ _) | (with_reducible refine Kd.C_drew ?_))); (case side2 => exact HC1_0.out); rintro e w9 ⟨v783, rfl, ho0, hb⟩; have n0_ := Aside0.mk (Kd.R_lower ho0 (below_size (by repeat (first | (with_reducible first | exact HB.out | apply below_alloc | apply pw_below_drewN | apply below_drew1 | refine below_set ?_ GE780.out) | exact HB.out)))); have n1_ := Aside0.mk (blk_below (g := gb780) (o := .cells #[.slice A1_0 l1_0.length c1_0, .slice A1_1 l1_1.length c1_1] 23 (0, 0)) (by (with_reducible repeat (first | refine blk_drewN ?_ _ | refine blk_drew ?_ | refine blk_alloc ?_ _)); exact BK780.out) hb); have n2_ := Aside0.mk (below_step (by repeat (first | (with_reducible first | exact HB.out | apply below_alloc | apply pw_below_drewN | apply below_drew1 | refine below_set ?_ GE780.out) | exact HB.out)) hb); clear BK780; clear HB; have HO784 := n0_; have BK780 := n1_; have HB := n2_; clear n0_ n1_ n2_; (try clear hb); (try clear hb2); (try clear hk); (try clear hi); (try clear ho0)) | (go_at_call 10; (with_reducible refine (interp_Value.calls k a0 _ _ l1_0 _ _ l1_1 a2 t785 t786 _ ?side1 ?side2 ?side3 ?side4 A5.out).mono ?_); (case side1 => repeat (first | exact (Kd.C_below HR1_0.out HB.out) | (with_reducible refine Kd.C_alloc ?_ _) | (with_reducible refine Kd.C_drewN ?_ _) | (with_reducible refine Kd.C_drew ?_))); (case side2 => exact HC1_0.out); (case side3 => repeat (first | exact (Kd.C_below HR1_1.out HB.out) | (with_reducible refine Kd.C_alloc ?_ _) | (with_reducible refine Kd.C_drewN ?_ _) | (with_reducible refine Kd.C_drew ?_))); (case side4 => exact HC1_1.out); rintro e w10 ⟨rfl, hb⟩; have n0_ := Aside0.mk (Kd.R_below (by (with_reducible repeat (first | apply Kd.R_alloc | apply Kd.R_drewN | apply Kd.R_drew)); exact HO784.out) hb); have n1_ := Aside0.mk (blk_below (g := gb780) (o := .cells #[.slice A1_0 l1_0.length c1_0, .slice A1_1 l1_1.length c1_1] 23 (0, 0)) (by (with_reducible repeat (first | refine blk_drewN ?_ _ | refine blk_drew ?_ | refine blk_alloc ?_ _)); exact BK780.out) hb); have n2_ := Aside0.mk (below_step (by repeat (first | (with_reducible first | exact HB.out | apply below_alloc | apply pw_below_drewN | apply below_drew1 | refine below_set ?_ GE780.out) | exact HB.out)) hb); clear HO784; clear BK780; clear HB; have HO784 := n0_; have BK780 := n1_; have HB := n2_; clear n0_ n1_ n2_; (try clear hb); (try clear hb2); (try clear hk); (try clear hi))); go_upto_region 5 with (first | ((with_reducible refine gate_dst (N := 4) rfl ?_); (try (refine gate_guard (by rfl) ?_; dsimp only)); refine box_event ?hg (N := 4) ?hd (cs := #[.slice A1_0 l1_0.length c1_0, .slice A1_1 l1_1.length c1_1]) (t := 23) ?hr ?_; (case hd => rfl); (case hg => rfl); (case hr => first | (go_simp; done) | (go_simp; rfl)); intro gb780 hg w7 hbox hb; have n0_ := Aside0.mk (below_step (by repeat (first | (with_reducible first | exact HB.out | apply below_alloc | apply pw_below_drewN | apply below_drew1) | exact HB.out)) hb); have n1_ := Aside0.mk (hbox); have n2_ := Aside0.mk ((by rw [hg]; exact (below_size (by repeat (first | (with_reducible first | exact HB.out | apply below_alloc | apply pw_below_drewN | apply below_drew1) | exact HB.out))) : w.heap.size ≤ gb780)); have n3_ := Aside0.mk ((by rw [hg]; exact (below_size (by repeat (first | (with_reducible first | exact HB.out | apply below_alloc | apply pw_below_drewN | apply below_drew1) | exact HB.out))) : w.heap.size ≤ gb780)); clear HB; have HB := n0_; have BK780 := n1_; have GW780 := n2_; have GE780 := n3_; clear n0_ n1_ n2_ n3_; clear hb hbox hg; have hcz8_0 : w7.cell? ⟨gb780, 0, none⟩ = some (.slice A1_0 l1_0.length c1_0) := (blk_cell BK780.out 0).trans rfl; have hcz8_1 : w7.cell? ⟨gb780, 1, none⟩ = some (.slice A1_1 l1_1.length c1_1) := (blk_cell BK780.out 1).trans rfl; have hfz8_0 := blk_frozen BK780.out 0; have hfz8_1 := blk_frozen BK780.out 1) | (go_at_call 14; (with_reducible refine (interp_Basis.calls k a0 _ _ l1_0 a2 t781 t782 _ ?side1 ?side2 A4.out).mono ?_); (case side1 => repeat (first | exact (Kd.C_below HR1_0.out HB.out) | (with_reducible refine Kd.C_alloc ?_ _) | (with_reducible refine Kd.C_drewN ?_ _) | (with_reducible refine Kd.C_drew ?_))); (case side2 => exact HC1_0.out); rintro e w9 ⟨v783, rfl, ho0, hb⟩; have n0_ := Aside0.mk (Kd.R_lower ho0 (below_size (by repeat (first | (with_reducible first | exact HB.out | apply below_alloc | apply pw_below_drewN | apply below_drew1 | refine below_set ?_ GE780.out) | exact HB.out)))); have n1_ := Aside0.mk (blk_below (g := gb780) (o := .cells #[.slice A1_0 l1_0.length c1_0, .slice A1_1 l1_1.length c1_1] 23 (0, 0)) (by (with_reducible repeat (first | refine blk_drewN ?_ _ | refine blk_drew ?_ | refine blk_alloc ?_ _)); exact BK780.out) hb); have n2_ := Aside0.mk (below_step (by repeat (first | (with_reducible first | exact HB.out | apply below_alloc | apply pw_below_drewN | apply below_drew1 | refine below_set ?_ GE780.out) | exact HB.out)) hb); clear BK780; clear HB; have HO784 := n0_; have BK780 := n1_; have HB := n2_; clear n0_ n1_ n2_; (try clear hb); (try clear hb2); (try clear hk); (try clear hi); (try clear ho0)) | (go_at_call 10; (with_reducible refine (interp_Value.calls k a0 _ _ l1_0 _ _ l1_1 a2 t785 t786 _ ?side1 ?side2 ?side3 ?side4 A5.out).mono ?_); (case side1 => repeat (first | exact (Kd.C_below HR1_0.out HB.out) | (with_reducible refine Kd.C_alloc ?_ _) | (with_reducible refine Kd.C_drewN ?_ _) | (with_reducible refine Kd.C_drew ?_))); (case side2 => exact HC1_0.out); (case side3 => repeat (first | exact (Kd.C_below HR1_1.out HB.out) | (with_reducible refine Kd.C_alloc ?_ _) | (with_reducible refine Kd.C_drewN ?_ _) | (with_reducible refine Kd.C_drew ?_))); (case side4 => exact HC1_1.out); rintro e w10 ⟨rfl, hb⟩; have n0_ := Aside0.mk (Kd.R_below (by (with_reducible repeat (first | apply Kd.R_alloc | apply Kd.R_drewN | apply Kd.R_drew)); exact HO784.out) hb); have n1_ := Aside0.mk (blk_below (g := gb780) (o := .cells #[.slice A1_0 l1_0.length c1_0, .slice A1_1 l1_1.length c1_1] 23 (0, 0)) (by (with_reducible repeat (first | refine blk_drewN ?_ _ | refine blk_drew ?_ | refine blk_alloc ?_ _)); exact BK780.out) hb); have n2_ := Aside0.mk (below_step (by repeat (first | (with_reducible first | exact HB.out | apply below_alloc | apply pw_below_drewN | apply below_drew1 | refine below_set ?_ GE780.out) | exact HB.out)) hb); clear HO784; clear BK780; clear HB; have HO784 := n0_; have BK780 := n1_; have HB := n2_; clear n0_ n1_ n2_; (try clear hb); (try clear hb2); (try clear hk); (try clear hi))))
  (try simp only [Act.put, List.setIfInBounds_toArray, List.set_cons_zero, List.set_cons_succ])
  go_cut [54] (fun v54 wc => ∃ (kq : Nat) (x54_5 : Bool), v54 = .bool x54_5 ∧ Aside0 (conclavelaw07_InterpSums.j0 kq a0 l1_0 l1_1 t781 t782 t785 t786 x54_5 = some r) ∧ Aside0 (kq ≤ k) ∧ Aside0 (Kd.R (Kd.int .u64) 24 wc w.heap.size (fun _ => True) v783 t781) ∧ Aside0 (wc.heap[gb780]? = some (.cells #[(.slice A1_0 l1_0.length c1_0), (.slice A1_1 l1_1.length c1_1)] 23 (0, 0))) ∧ Aside0 (Below w.heap.size w wc))
  case first =>
    have H := HC6.out
    clear HC6
    replace H := Option.bind_eq_some_iff.mp H
    obtain ⟨t787, A110, H⟩ := H
    replace H : (if t787 = 0 then ((conclaveref07_Bad.f k a0 ([] : List Int) (([a2] : List Int)) 0).bind fun t791 => (conclavelaw07_InterpSums.j0 k a0 l1_0 l1_1 t781 t782 t785 t786 (t791 != 0))) else (conclavelaw07_InterpSums.j0 k a0 l1_0 l1_1 t781 t782 t785 t786 true)) = some r := H
    have A11 := Aside0.mk A110
    clear A110
    by_cases c12 : t787 = 0
    · rw [if_pos c12] at H
      have c12b0 : (t787 == 0) = true := beq_iff_eq.mpr c12
      have c12b1 : (t787 != 0) = false := bne_eq_false_iff_eq.mpr c12
      clear c12
      (first | rw [c12b0] | (simp only [i64_w, i32_w]; rw [c12b0]) | skip)
      obtain ⟨y788, hy788⟩ : ∃ y_ : List Int, y_ = (([a2] : List Int)) := ⟨_, rfl⟩
      replace H : ((conclaveref07_Bad.f k a0 ([] : List Int) y788 0).bind fun t791 => (conclavelaw07_InterpSums.j0 k a0 l1_0 l1_1 t781 t782 t785 t786 (t791 != 0))) = some r := by first | (rw [hy788]; with_reducible exact H) | (have H2_ := (Option.bind_some _ _).symm.trans H; rw [hy788]; with_reducible exact H2_) | (have H2_ := (Option.bind_some _ _).symm.trans H; with_reducible exact H2_) | with_reducible exact H | (rw [hy788]; exact H) | exact H
      have Ny788 := Aside0.mk hy788
      clear hy788
      replace H := Option.bind_eq_some_iff.mp H
      obtain ⟨t791, A130, H⟩ := H
      replace H : (conclavelaw07_InterpSums.j0 k a0 l1_0 l1_1 t781 t782 t785 t786 (t791 != 0)) = some r := H
      have A13 := Aside0.mk A130
      clear A130
      have H' := Aside0.mk H
      clear H
      go_wp2_with (first | (go_at_call 18; (with_reducible refine (conclaveref07_Bad.calls k a0 _ _ l1_0 _ _ l1_1 (l1_1.length : Int) t787 _ ?side1 ?side2 ?side3 ?side4 A11.out).mono ?_); (case side1 => repeat (first | exact (Kd.C_below HR1_0.out HB.out) | (with_reducible refine Kd.C_alloc ?_ _) | (with_reducible refine Kd.C_drewN ?_ _) | (with_reducible refine Kd.C_drew ?_))); (case side2 => exact HC1_0.out); (case side3 => repeat (first | exact (Kd.C_below HR1_1.out HB.out) | (with_reducible refine Kd.C_alloc ?_ _) | (with_reducible refine Kd.C_drewN ?_ _) | (with_reducible refine Kd.C_drew ?_))); (case side4 => exact HC1_1.out); rintro e w' ⟨rfl, ⟨nd, rfl⟩⟩; (try first | exact ⟨rfl, _, World.drewN_drewN _ _ _⟩ | exact ⟨rfl, _, Eq.trans (World.drewN_drewN _ _ _) (congrArg (World.drewN _) (Nat.add_assoc _ _ _))⟩)) | ((with_reducible refine gate_dst (N := 51) rfl ?_); (try (refine gate_guard (by rfl) ?_; dsimp only)); refine Kd.R_lit (Kd.int .u64) _ 24 ?hg (N := 51) ?hd (xs := ([a2] : List Int)) (inner := [.int .u64 a2]) (ok := fun _ => True) (okp := fun _ => True) ?hr ?hp (fun _ hk => hk) trivial (Below.refl _ _) (Nat.le_refl _) (by simp) ?_; (case hd => rfl); (case hg => rfl); (case hr => first | (go_simp; done) | (go_simp; rfl)); (case hp => exact (Reps.one (show Kd.M (Kd.int .u64) _ _ _ a2 [.int .u64 a2] from rfl) (Reps.none _ _))); intro v789 w14 ho15 hb hg_ hnew_; clear hg_ hnew_; (first | rw [← Ny788.out] at ho15 | (simp only [Int.reduceToNat] at ho15; rw [← Ny788.out] at ho15)); have n0_ := Aside0.mk (Kd.R_elder' (by (with_reducible repeat (first | apply Kd.R_alloc | apply Kd.R_drewN | apply Kd.R_drew)); exact HO784.out) (Kd.R_base ho15) hb); have n1_ := Aside0.mk (Kd.R_lower (Kd.R_new' ho15 (Kd.R_lt (by (with_reducible repeat (first | apply Kd.R_alloc | apply Kd.R_drewN | apply Kd.R_drew)); exact HO784.out))) (below_size (by repeat (first | (with_reducible first | exact HB.out | apply below_alloc | apply pw_below_drewN | apply below_drew1 | refine below_set ?_ GE780.out) | exact HB.out)))); have n2_ := Aside0.mk (blk_below (g := gb780) (o := .cells #[.slice A1_0 l1_0.length c1_0, .slice A1_1 l1_1.length c1_1] 23 (0, 0)) (by (with_reducible repeat (first | refine blk_drewN ?_ _ | refine blk_drew ?_ | refine blk_alloc ?_ _)); exact BK780.out) hb); have n3_ := Aside0.mk (below_step (by repeat (first | (with_reducible first | exact HB.out | apply below_alloc | apply pw_below_drewN | apply below_drew1 | refine below_set ?_ GE780.out) | exact HB.out)) hb); clear HO784; clear BK780; clear HB; have HO784 := n0_; have HO790 := n1_; have BK780 := n2_; have HB := n3_; clear n0_ n1_ n2_ n3_; clear hb ho15; obtain ⟨Ao16, co16, eo16⟩ := Kd.R_slice HO790.out; subst eo16) | (go_at_call 18; (refine (conclaveref07_Bad.calls k a0 _ _ ([] : List Int) _ _ y788 0 t791 _ ?side1 ?side2 ?side3 ?side4 A13.out).mono ?_); (case side1 => exact Kd.C_nil _ _); (case side2 => exact Nat.le_refl _); (case side3 => repeat (first | exact (Kd.R_reads' HO790.out).2.2 | (with_reducible refine Kd.C_alloc ?_ _) | (with_reducible refine Kd.C_drewN ?_ _) | (with_reducible refine Kd.C_drew ?_))); (case side4 => exact (Kd.R_reads' HO790.out).2.1); rintro e w' ⟨rfl, ⟨nd, rfl⟩⟩; (try first | exact ⟨rfl, _, World.drewN_drewN _ _ _⟩ | exact ⟨rfl, _, Eq.trans (World.drewN_drewN _ _ _) (congrArg (World.drewN _) (Nat.add_assoc _ _ _))⟩)))
      repeat (go_quiet (first | (go_at_call 18; (with_reducible refine (conclaveref07_Bad.calls k a0 _ _ l1_0 _ _ l1_1 (l1_1.length : Int) t787 _ ?side1 ?side2 ?side3 ?side4 A11.out).mono ?_); (case side1 => repeat (first | exact (Kd.C_below HR1_0.out HB.out) | (with_reducible refine Kd.C_alloc ?_ _) | (with_reducible refine Kd.C_drewN ?_ _) | (with_reducible refine Kd.C_drew ?_))); (case side2 => exact HC1_0.out); (case side3 => repeat (first | exact (Kd.C_below HR1_1.out HB.out) | (with_reducible refine Kd.C_alloc ?_ _) | (with_reducible refine Kd.C_drewN ?_ _) | (with_reducible refine Kd.C_drew ?_))); (case side4 => exact HC1_1.out); rintro e w' ⟨rfl, ⟨nd, rfl⟩⟩; (try first | exact ⟨rfl, _, World.drewN_drewN _ _ _⟩ | exact ⟨rfl, _, Eq.trans (World.drewN_drewN _ _ _) (congrArg (World.drewN _) (Nat.add_assoc _ _ _))⟩)) | ((with_reducible refine gate_dst (N := 51) rfl ?_); (try (refine gate_guard (by rfl) ?_; dsimp only)); refine Kd.R_lit (Kd.int .u64) _ 24 ?hg (N := 51) ?hd (xs := ([a2] : List Int)) (inner := [.int .u64 a2]) (ok := fun _ => True) (okp := fun _ => True) ?hr ?hp (fun _ hk => hk) trivial (Below.refl _ _) (Nat.le_refl _) (by simp) ?_; (case hd => rfl); (case hg => rfl); (case hr => first | (go_simp; done) | (go_simp; rfl)); (case hp => exact (Reps.one (show Kd.M (Kd.int .u64) _ _ _ a2 [.int .u64 a2] from rfl) (Reps.none _ _))); intro v789 w14 ho15 hb hg_ hnew_; clear hg_ hnew_; (first | rw [← Ny788.out] at ho15 | (simp only [Int.reduceToNat] at ho15; rw [← Ny788.out] at ho15)); have n0_ := Aside0.mk (Kd.R_elder' (by (with_reducible repeat (first | apply Kd.R_alloc | apply Kd.R_drewN | apply Kd.R_drew)); exact HO784.out) (Kd.R_base ho15) hb); have n1_ := Aside0.mk (Kd.R_lower (Kd.R_new' ho15 (Kd.R_lt (by (with_reducible repeat (first | apply Kd.R_alloc | apply Kd.R_drewN | apply Kd.R_drew)); exact HO784.out))) (below_size (by repeat (first | (with_reducible first | exact HB.out | apply below_alloc | apply pw_below_drewN | apply below_drew1 | refine below_set ?_ GE780.out) | exact HB.out)))); have n2_ := Aside0.mk (blk_below (g := gb780) (o := .cells #[.slice A1_0 l1_0.length c1_0, .slice A1_1 l1_1.length c1_1] 23 (0, 0)) (by (with_reducible repeat (first | refine blk_drewN ?_ _ | refine blk_drew ?_ | refine blk_alloc ?_ _)); exact BK780.out) hb); have n3_ := Aside0.mk (below_step (by repeat (first | (with_reducible first | exact HB.out | apply below_alloc | apply pw_below_drewN | apply below_drew1 | refine below_set ?_ GE780.out) | exact HB.out)) hb); clear HO784; clear BK780; clear HB; have HO784 := n0_; have HO790 := n1_; have BK780 := n2_; have HB := n3_; clear n0_ n1_ n2_ n3_; clear hb ho15; obtain ⟨Ao16, co16, eo16⟩ := Kd.R_slice HO790.out; subst eo16) | (go_at_call 18; (refine (conclaveref07_Bad.calls k a0 _ _ ([] : List Int) _ _ y788 0 t791 _ ?side1 ?side2 ?side3 ?side4 A13.out).mono ?_); (case side1 => exact Kd.C_nil _ _); (case side2 => exact Nat.le_refl _); (case side3 => repeat (first | exact (Kd.R_reads' HO790.out).2.2 | (with_reducible refine Kd.C_alloc ?_ _) | (with_reducible refine Kd.C_drewN ?_ _) | (with_reducible refine Kd.C_drew ?_))); (case side4 => exact (Kd.R_reads' HO790.out).2.1); rintro e w' ⟨rfl, ⟨nd, rfl⟩⟩; (try first | exact ⟨rfl, _, World.drewN_drewN _ _ _⟩ | exact ⟨rfl, _, Eq.trans (World.drewN_drewN _ _ _) (congrArg (World.drewN _) (Nat.add_assoc _ _ _))⟩))); try go_wp2_with (first | (go_at_call 18; (with_reducible refine (conclaveref07_Bad.calls k a0 _ _ l1_0 _ _ l1_1 (l1_1.length : Int) t787 _ ?side1 ?side2 ?side3 ?side4 A11.out).mono ?_); (case side1 => repeat (first | exact (Kd.C_below HR1_0.out HB.out) | (with_reducible refine Kd.C_alloc ?_ _) | (with_reducible refine Kd.C_drewN ?_ _) | (with_reducible refine Kd.C_drew ?_))); (case side2 => exact HC1_0.out); (case side3 => repeat (first | exact (Kd.C_below HR1_1.out HB.out) | (with_reducible refine Kd.C_alloc ?_ _) | (with_reducible refine Kd.C_drewN ?_ _) | (with_reducible refine Kd.C_drew ?_))); (case side4 => exact HC1_1.out); rintro e w' ⟨rfl, ⟨nd, rfl⟩⟩; (try first | exact ⟨rfl, _, World.drewN_drewN _ _ _⟩ | exact ⟨rfl, _, Eq.trans (World.drewN_drewN _ _ _) (congrArg (World.drewN _) (Nat.add_assoc _ _ _))⟩)) | ((with_reducible refine gate_dst (N := 51) rfl ?_); (try (refine gate_guard (by rfl) ?_; dsimp only)); refine Kd.R_lit (Kd.int .u64) _ 24 ?hg (N := 51) ?hd (xs := ([a2] : List Int)) (inner := [.int .u64 a2]) (ok := fun _ => True) (okp := fun _ => True) ?hr ?hp (fun _ hk => hk) trivial (Below.refl _ _) (Nat.le_refl _) (by simp) ?_; (case hd => rfl); (case hg => rfl); (case hr => first | (go_simp; done) | (go_simp; rfl)); (case hp => exact (Reps.one (show Kd.M (Kd.int .u64) _ _ _ a2 [.int .u64 a2] from rfl) (Reps.none _ _))); intro v789 w14 ho15 hb hg_ hnew_; clear hg_ hnew_; (first | rw [← Ny788.out] at ho15 | (simp only [Int.reduceToNat] at ho15; rw [← Ny788.out] at ho15)); have n0_ := Aside0.mk (Kd.R_elder' (by (with_reducible repeat (first | apply Kd.R_alloc | apply Kd.R_drewN | apply Kd.R_drew)); exact HO784.out) (Kd.R_base ho15) hb); have n1_ := Aside0.mk (Kd.R_lower (Kd.R_new' ho15 (Kd.R_lt (by (with_reducible repeat (first | apply Kd.R_alloc | apply Kd.R_drewN | apply Kd.R_drew)); exact HO784.out))) (below_size (by repeat (first | (with_reducible first | exact HB.out | apply below_alloc | apply pw_below_drewN | apply below_drew1 | refine below_set ?_ GE780.out) | exact HB.out)))); have n2_ := Aside0.mk (blk_below (g := gb780) (o := .cells #[.slice A1_0 l1_0.length c1_0, .slice A1_1 l1_1.length c1_1] 23 (0, 0)) (by (with_reducible repeat (first | refine blk_drewN ?_ _ | refine blk_drew ?_ | refine blk_alloc ?_ _)); exact BK780.out) hb); have n3_ := Aside0.mk (below_step (by repeat (first | (with_reducible first | exact HB.out | apply below_alloc | apply pw_below_drewN | apply below_drew1 | refine below_set ?_ GE780.out) | exact HB.out)) hb); clear HO784; clear BK780; clear HB; have HO784 := n0_; have HO790 := n1_; have BK780 := n2_; have HB := n3_; clear n0_ n1_ n2_ n3_; clear hb ho15; obtain ⟨Ao16, co16, eo16⟩ := Kd.R_slice HO790.out; subst eo16) | (go_at_call 18; (refine (conclaveref07_Bad.calls k a0 _ _ ([] : List Int) _ _ y788 0 t791 _ ?side1 ?side2 ?side3 ?side4 A13.out).mono ?_); (case side1 => exact Kd.C_nil _ _); (case side2 => exact Nat.le_refl _); (case side3 => repeat (first | exact (Kd.R_reads' HO790.out).2.2 | (with_reducible refine Kd.C_alloc ?_ _) | (with_reducible refine Kd.C_drewN ?_ _) | (with_reducible refine Kd.C_drew ?_))); (case side4 => exact (Kd.R_reads' HO790.out).2.1); rintro e w' ⟨rfl, ⟨nd, rfl⟩⟩; (try first | exact ⟨rfl, _, World.drewN_drewN _ _ _⟩ | exact ⟨rfl, _, Eq.trans (World.drewN_drewN _ _ _) (congrArg (World.drewN _) (Nat.add_assoc _ _ _))⟩))))
      go_meet
      case rel => exact ⟨_, ((t791 != 0)), (by first | rfl | (simp; done) | (simp [*]; done)), H', ⟨by first | omega | exact Nat.le_refl _⟩, ⟨by (with_reducible repeat (first | apply Kd.R_alloc | apply Kd.R_drewN | apply Kd.R_drew)); exact Kd.R_mono HO784.out (fun _ hk => trivial)⟩, ⟨by (with_reducible repeat (first | refine blk_drewN ?_ _ | refine blk_drew ?_ | refine blk_alloc ?_ _)); exact BK780.out⟩, ⟨by repeat (first | (with_reducible first | exact HB.out | apply below_alloc | apply pw_below_drewN | apply below_drew1 | refine below_set ?_ GE780.out) | exact HB.out)⟩⟩
    · rw [if_neg c12] at H
      have c12b0 : (t787 == 0) = false := beq_eq_false_iff_ne.mpr c12
      have c12b1 : (t787 != 0) = true := bne_iff_ne.mpr c12
      (first | rw [c12b0] | (simp only [i64_w, i32_w]; rw [c12b0]) | skip)
      have H' := Aside0.mk H
      clear H
      go_wp2_with (first | (go_at_call 18; (with_reducible refine (conclaveref07_Bad.calls k a0 _ _ l1_0 _ _ l1_1 (l1_1.length : Int) t787 _ ?side1 ?side2 ?side3 ?side4 A11.out).mono ?_); (case side1 => repeat (first | exact (Kd.C_below HR1_0.out HB.out) | (with_reducible refine Kd.C_alloc ?_ _) | (with_reducible refine Kd.C_drewN ?_ _) | (with_reducible refine Kd.C_drew ?_))); (case side2 => exact HC1_0.out); (case side3 => repeat (first | exact (Kd.C_below HR1_1.out HB.out) | (with_reducible refine Kd.C_alloc ?_ _) | (with_reducible refine Kd.C_drewN ?_ _) | (with_reducible refine Kd.C_drew ?_))); (case side4 => exact HC1_1.out); rintro e w' ⟨rfl, ⟨nd, rfl⟩⟩; (try first | exact ⟨rfl, _, World.drewN_drewN _ _ _⟩ | exact ⟨rfl, _, Eq.trans (World.drewN_drewN _ _ _) (congrArg (World.drewN _) (Nat.add_assoc _ _ _))⟩)))
      repeat (go_quiet (first | (go_at_call 18; (with_reducible refine (conclaveref07_Bad.calls k a0 _ _ l1_0 _ _ l1_1 (l1_1.length : Int) t787 _ ?side1 ?side2 ?side3 ?side4 A11.out).mono ?_); (case side1 => repeat (first | exact (Kd.C_below HR1_0.out HB.out) | (with_reducible refine Kd.C_alloc ?_ _) | (with_reducible refine Kd.C_drewN ?_ _) | (with_reducible refine Kd.C_drew ?_))); (case side2 => exact HC1_0.out); (case side3 => repeat (first | exact (Kd.C_below HR1_1.out HB.out) | (with_reducible refine Kd.C_alloc ?_ _) | (with_reducible refine Kd.C_drewN ?_ _) | (with_reducible refine Kd.C_drew ?_))); (case side4 => exact HC1_1.out); rintro e w' ⟨rfl, ⟨nd, rfl⟩⟩; (try first | exact ⟨rfl, _, World.drewN_drewN _ _ _⟩ | exact ⟨rfl, _, Eq.trans (World.drewN_drewN _ _ _) (congrArg (World.drewN _) (Nat.add_assoc _ _ _))⟩))); try go_wp2_with (first | (go_at_call 18; (with_reducible refine (conclaveref07_Bad.calls k a0 _ _ l1_0 _ _ l1_1 (l1_1.length : Int) t787 _ ?side1 ?side2 ?side3 ?side4 A11.out).mono ?_); (case side1 => repeat (first | exact (Kd.C_below HR1_0.out HB.out) | (with_reducible refine Kd.C_alloc ?_ _) | (with_reducible refine Kd.C_drewN ?_ _) | (with_reducible refine Kd.C_drew ?_))); (case side2 => exact HC1_0.out); (case side3 => repeat (first | exact (Kd.C_below HR1_1.out HB.out) | (with_reducible refine Kd.C_alloc ?_ _) | (with_reducible refine Kd.C_drewN ?_ _) | (with_reducible refine Kd.C_drew ?_))); (case side4 => exact HC1_1.out); rintro e w' ⟨rfl, ⟨nd, rfl⟩⟩; (try first | exact ⟨rfl, _, World.drewN_drewN _ _ _⟩ | exact ⟨rfl, _, Eq.trans (World.drewN_drewN _ _ _) (congrArg (World.drewN _) (Nat.add_assoc _ _ _))⟩))))
      go_meet
      case rel => exact ⟨_, (true), (by first | rfl | (simp; done) | (simp [*]; done)), H', ⟨by first | omega | exact Nat.le_refl _⟩, ⟨by (with_reducible repeat (first | apply Kd.R_alloc | apply Kd.R_drewN | apply Kd.R_drew)); exact HO784.out⟩, ⟨by (with_reducible repeat (first | refine blk_drewN ?_ _ | refine blk_drew ?_ | refine blk_alloc ?_ _)); exact BK780.out⟩, ⟨by repeat (first | (with_reducible first | exact HB.out | apply below_alloc | apply pw_below_drewN | apply below_drew1 | refine below_set ?_ GE780.out) | exact HB.out)⟩⟩
  case rest =>
    clear HC6
    try clear c1
    try clear p2
    try clear c9
    try clear c12
    try clear c12b0
    try clear c12b1
    try clear hcz8_0
    try clear hcz8_1
    try clear hfz8_0
    try clear hfz8_1
    obtain ⟨kq, x54_5, rfl, HA, HJ5, HO_10, BK780, HB⟩ := hcut
    cases kq with
    | zero => exact absurd HA.out (by simp [conclavelaw07_InterpSums.j0])
    | succ kj5 =>
      have H := HA.out
      clear HA
      simp only [conclavelaw07_InterpSums.j0] at H
      by_cases c17 : x54_5 = true
      · subst c17
        have H1 : ((conclavelaw07_anchored.f kj5).bind fun t792 => (if t792 = true then (if t782 = 0 then (some (t786 != 0)) else (some true)) else (some false))) = some r := by rw [if_pos rfl] at H; exact H
        clear H
        have H := H1
        clear H1
        replace H := Option.bind_eq_some_iff.mp H
        obtain ⟨t792, A180, H⟩ := H
        replace H : (if t792 = true then (if t782 = 0 then (some (t786 != 0)) else (some true)) else (some false)) = some r := H
        have A18 := Aside0.mk A180
        clear A180
        by_cases c19 : t792 = true
        · subst c19
          have H1 : (if t782 = 0 then (some (t786 != 0)) else (some true)) = some r := by rw [if_pos rfl] at H; exact H
          clear H
          have H := H1
          clear H1
          by_cases c20 : t782 = 0
          · rw [if_pos c20] at H
            have c20b0 : (t782 == 0) = true := beq_iff_eq.mpr c20
            have c20b1 : (t782 != 0) = false := bne_eq_false_iff_eq.mpr c20
            clear c20
            obtain rfl := Option.some.inj H
            go_wp2_with (first | (go_at_call 19; (with_reducible refine (conclavelaw07_anchored.calls kj5  true _ A18.out).mono ?_); rintro e w21 ⟨rfl, hb⟩; have n0_ := Aside0.mk (Kd.R_below (by (with_reducible repeat (first | apply Kd.R_alloc | apply Kd.R_drewN | apply Kd.R_drew)); exact HO_10.out) hb); have n1_ := Aside0.mk (blk_below (g := gb780) (o := .cells #[.slice A1_0 l1_0.length c1_0, .slice A1_1 l1_1.length c1_1] 23 (0, 0)) (by (with_reducible repeat (first | refine blk_drewN ?_ _ | refine blk_drew ?_ | refine blk_alloc ?_ _)); exact BK780.out) hb); have n2_ := Aside0.mk (below_step (by repeat (first | (with_reducible first | exact HB.out | apply below_alloc | apply pw_below_drewN | apply below_drew1 | refine below_set ?_ GE780.out) | exact HB.out)) hb); clear HO_10; clear BK780; clear HB; have HO_10 := n0_; have BK780 := n1_; have HB := n2_; clear n0_ n1_ n2_; (try clear hb); (try clear hb2); (try clear hk); (try clear hi)))
            repeat (go_quiet (first | (go_at_call 19; (with_reducible refine (conclavelaw07_anchored.calls kj5  true _ A18.out).mono ?_); rintro e w21 ⟨rfl, hb⟩; have n0_ := Aside0.mk (Kd.R_below (by (with_reducible repeat (first | apply Kd.R_alloc | apply Kd.R_drewN | apply Kd.R_drew)); exact HO_10.out) hb); have n1_ := Aside0.mk (blk_below (g := gb780) (o := .cells #[.slice A1_0 l1_0.length c1_0, .slice A1_1 l1_1.length c1_1] 23 (0, 0)) (by (with_reducible repeat (first | refine blk_drewN ?_ _ | refine blk_drew ?_ | refine blk_alloc ?_ _)); exact BK780.out) hb); have n2_ := Aside0.mk (below_step (by repeat (first | (with_reducible first | exact HB.out | apply below_alloc | apply pw_below_drewN | apply below_drew1 | refine below_set ?_ GE780.out) | exact HB.out)) hb); clear HO_10; clear BK780; clear HB; have HO_10 := n0_; have BK780 := n1_; have HB := n2_; clear n0_ n1_ n2_; (try clear hb); (try clear hb2); (try clear hk); (try clear hi))); try go_wp2_with (first | (go_at_call 19; (with_reducible refine (conclavelaw07_anchored.calls kj5  true _ A18.out).mono ?_); rintro e w21 ⟨rfl, hb⟩; have n0_ := Aside0.mk (Kd.R_below (by (with_reducible repeat (first | apply Kd.R_alloc | apply Kd.R_drewN | apply Kd.R_drew)); exact HO_10.out) hb); have n1_ := Aside0.mk (blk_below (g := gb780) (o := .cells #[.slice A1_0 l1_0.length c1_0, .slice A1_1 l1_1.length c1_1] 23 (0, 0)) (by (with_reducible repeat (first | refine blk_drewN ?_ _ | refine blk_drew ?_ | refine blk_alloc ?_ _)); exact BK780.out) hb); have n2_ := Aside0.mk (below_step (by repeat (first | (with_reducible first | exact HB.out | apply below_alloc | apply pw_below_drewN | apply below_drew1 | refine below_set ?_ GE780.out) | exact HB.out)) hb); clear HO_10; clear BK780; clear HB; have HO_10 := n0_; have BK780 := n1_; have HB := n2_; clear n0_ n1_ n2_; (try clear hb); (try clear hb2); (try clear hk); (try clear hi))))
            go_ret
            exact ⟨by first | rfl | (simp [errW_none, errW_some] <;> rfl) | (simp [*, errW_none, errW_some] <;> rfl), by repeat (first | (with_reducible first | exact HB.out | apply below_alloc | apply pw_below_drewN | apply below_drew1 | refine below_set ?_ GE780.out) | exact HB.out)⟩
          · rw [if_neg c20] at H
            have c20b0 : (t782 == 0) = false := beq_eq_false_iff_ne.mpr c20
            have c20b1 : (t782 != 0) = true := bne_iff_ne.mpr c20
            obtain rfl := Option.some.inj H
            go_wp2_with (first | (go_at_call 19; (with_reducible refine (conclavelaw07_anchored.calls kj5  true _ A18.out).mono ?_); rintro e w22 ⟨rfl, hb⟩; have n0_ := Aside0.mk (Kd.R_below (by (with_reducible repeat (first | apply Kd.R_alloc | apply Kd.R_drewN | apply Kd.R_drew)); exact HO_10.out) hb); have n1_ := Aside0.mk (blk_below (g := gb780) (o := .cells #[.slice A1_0 l1_0.length c1_0, .slice A1_1 l1_1.length c1_1] 23 (0, 0)) (by (with_reducible repeat (first | refine blk_drewN ?_ _ | refine blk_drew ?_ | refine blk_alloc ?_ _)); exact BK780.out) hb); have n2_ := Aside0.mk (below_step (by repeat (first | (with_reducible first | exact HB.out | apply below_alloc | apply pw_below_drewN | apply below_drew1 | refine below_set ?_ GE780.out) | exact HB.out)) hb); clear HO_10; clear BK780; clear HB; have HO_10 := n0_; have BK780 := n1_; have HB := n2_; clear n0_ n1_ n2_; (try clear hb); (try clear hb2); (try clear hk); (try clear hi)))
            repeat (go_quiet (first | (go_at_call 19; (with_reducible refine (conclavelaw07_anchored.calls kj5  true _ A18.out).mono ?_); rintro e w22 ⟨rfl, hb⟩; have n0_ := Aside0.mk (Kd.R_below (by (with_reducible repeat (first | apply Kd.R_alloc | apply Kd.R_drewN | apply Kd.R_drew)); exact HO_10.out) hb); have n1_ := Aside0.mk (blk_below (g := gb780) (o := .cells #[.slice A1_0 l1_0.length c1_0, .slice A1_1 l1_1.length c1_1] 23 (0, 0)) (by (with_reducible repeat (first | refine blk_drewN ?_ _ | refine blk_drew ?_ | refine blk_alloc ?_ _)); exact BK780.out) hb); have n2_ := Aside0.mk (below_step (by repeat (first | (with_reducible first | exact HB.out | apply below_alloc | apply pw_below_drewN | apply below_drew1 | refine below_set ?_ GE780.out) | exact HB.out)) hb); clear HO_10; clear BK780; clear HB; have HO_10 := n0_; have BK780 := n1_; have HB := n2_; clear n0_ n1_ n2_; (try clear hb); (try clear hb2); (try clear hk); (try clear hi))); try go_wp2_with (first | (go_at_call 19; (with_reducible refine (conclavelaw07_anchored.calls kj5  true _ A18.out).mono ?_); rintro e w22 ⟨rfl, hb⟩; have n0_ := Aside0.mk (Kd.R_below (by (with_reducible repeat (first | apply Kd.R_alloc | apply Kd.R_drewN | apply Kd.R_drew)); exact HO_10.out) hb); have n1_ := Aside0.mk (blk_below (g := gb780) (o := .cells #[.slice A1_0 l1_0.length c1_0, .slice A1_1 l1_1.length c1_1] 23 (0, 0)) (by (with_reducible repeat (first | refine blk_drewN ?_ _ | refine blk_drew ?_ | refine blk_alloc ?_ _)); exact BK780.out) hb); have n2_ := Aside0.mk (below_step (by repeat (first | (with_reducible first | exact HB.out | apply below_alloc | apply pw_below_drewN | apply below_drew1 | refine below_set ?_ GE780.out) | exact HB.out)) hb); clear HO_10; clear BK780; clear HB; have HO_10 := n0_; have BK780 := n1_; have HB := n2_; clear n0_ n1_ n2_; (try clear hb); (try clear hb2); (try clear hk); (try clear hi))))
            go_ret
            exact ⟨by first | rfl | (simp [errW_none, errW_some] <;> rfl) | (simp [*, errW_none, errW_some] <;> rfl), by repeat (first | (with_reducible first | exact HB.out | apply below_alloc | apply pw_below_drewN | apply below_drew1 | refine below_set ?_ GE780.out) | exact HB.out)⟩
        · replace c19 := Bool.eq_false_iff.mpr c19
          subst c19
          have H1 : (some false) = some r := by rw [if_neg (show ¬ (false = true) by decide)] at H; exact H
          clear H
          have H := H1
          clear H1
          exact absurd (Option.some.inj H) (by rw [hrt]; decide)
      · replace c17 := Bool.eq_false_iff.mpr c17
        subst c17
        have H1 : ((conclaveref01_Dot.f kj5 a0 t781 l1_1).bind fun bt793 => (if (t781.length : Int) = (l1_0.length : Int) then (conclavelaw07_InterpSums.l0 kj5 a0 l1_0 t781 t782 t785 t786 bt793.1 bt793.2 0 0) else (some false))) = some r := by rw [if_neg (show ¬ (false = true) by decide)] at H; exact H
        clear H
        have H := H1
        clear H1
        replace H := Option.bind_eq_some_iff.mp H
        obtain ⟨⟨t793, t794⟩, A240, H⟩ := H
        replace H : (if (t781.length : Int) = (l1_0.length : Int) then (conclavelaw07_InterpSums.l0 kj5 a0 l1_0 t781 t782 t785 t786 t793 t794 0 0) else (some false)) = some r := H
        have A24 := Aside0.mk A240
        clear A240
        by_cases c25 : (t781.length : Int) = (l1_0.length : Int)
        · rw [if_pos c25] at H
          have c25b0 : ((t781.length : Int) == (l1_0.length : Int)) = true := beq_iff_eq.mpr c25
          have c25b1 : ((t781.length : Int) != (l1_0.length : Int)) = false := bne_eq_false_iff_eq.mpr c25
          have c25b2 : (t781.length == l1_0.length) = true := by first | simpa using c25 | (simp at c25 ⊢; omega)
          clear c25
          have H' := Aside0.mk H
          clear H
          obtain ⟨Ao26, co26, eo26⟩ := Kd.R_slice HO_10.out
          subst eo26
          go_wp2_with (first | (go_at_call 34; (with_reducible refine (conclaveref01_Dot.calls kj5 a0 _ _ t781 _ _ l1_1 t793 t794 _ ?side1 ?side2 ?side3 ?side4 A24.out).mono ?_); (case side1 => repeat (first | exact (Kd.R_reads' HO_10.out).2.2 | (with_reducible refine Kd.C_alloc ?_ _) | (with_reducible refine Kd.C_drewN ?_ _) | (with_reducible refine Kd.C_drew ?_))); (case side2 => exact (Kd.R_reads' HO_10.out).2.1); (case side3 => repeat (first | exact (Kd.C_below HR1_1.out HB.out) | (with_reducible refine Kd.C_alloc ?_ _) | (with_reducible refine Kd.C_drewN ?_ _) | (with_reducible refine Kd.C_drew ?_))); (case side4 => exact HC1_1.out); rintro e w' ⟨rfl, ⟨nd, rfl⟩⟩; (try first | exact ⟨rfl, _, World.drewN_drewN _ _ _⟩ | exact ⟨rfl, _, Eq.trans (World.drewN_drewN _ _ _) (congrArg (World.drewN _) (Nat.add_assoc _ _ _))⟩)))
          repeat (go_quiet (first | (go_at_call 34; (with_reducible refine (conclaveref01_Dot.calls kj5 a0 _ _ t781 _ _ l1_1 t793 t794 _ ?side1 ?side2 ?side3 ?side4 A24.out).mono ?_); (case side1 => repeat (first | exact (Kd.R_reads' HO_10.out).2.2 | (with_reducible refine Kd.C_alloc ?_ _) | (with_reducible refine Kd.C_drewN ?_ _) | (with_reducible refine Kd.C_drew ?_))); (case side2 => exact (Kd.R_reads' HO_10.out).2.1); (case side3 => repeat (first | exact (Kd.C_below HR1_1.out HB.out) | (with_reducible refine Kd.C_alloc ?_ _) | (with_reducible refine Kd.C_drewN ?_ _) | (with_reducible refine Kd.C_drew ?_))); (case side4 => exact HC1_1.out); rintro e w' ⟨rfl, ⟨nd, rfl⟩⟩; (try first | exact ⟨rfl, _, World.drewN_drewN _ _ _⟩ | exact ⟨rfl, _, Eq.trans (World.drewN_drewN _ _ _) (congrArg (World.drewN _) (Nat.add_assoc _ _ _))⟩))); try go_wp2_with (first | (go_at_call 34; (with_reducible refine (conclaveref01_Dot.calls kj5 a0 _ _ t781 _ _ l1_1 t793 t794 _ ?side1 ?side2 ?side3 ?side4 A24.out).mono ?_); (case side1 => repeat (first | exact (Kd.R_reads' HO_10.out).2.2 | (with_reducible refine Kd.C_alloc ?_ _) | (with_reducible refine Kd.C_drewN ?_ _) | (with_reducible refine Kd.C_drew ?_))); (case side2 => exact (Kd.R_reads' HO_10.out).2.1); (case side3 => repeat (first | exact (Kd.C_below HR1_1.out HB.out) | (with_reducible refine Kd.C_alloc ?_ _) | (with_reducible refine Kd.C_drewN ?_ _) | (with_reducible refine Kd.C_drew ?_))); (case side4 => exact HC1_1.out); rintro e w' ⟨rfl, ⟨nd, rfl⟩⟩; (try first | exact ⟨rfl, _, World.drewN_drewN _ _ _⟩ | exact ⟨rfl, _, Eq.trans (World.drewN_drewN _ _ _) (congrArg (World.drewN _) (Nat.add_assoc _ _ _))⟩))))
          go_loopg [16, 17] kj5 (fun kq v16 v17 w' => ∃ (x16_2 : Int) (x17_2 : Int), v16 = .int .u64 x16_2 ∧ v17 = .int .i64 x17_2 ∧ Aside0 (conclavelaw07_InterpSums.l0 kq a0 l1_0 t781 t782 t785 t786 t793 t794 x16_2 x17_2 = some r) ∧ Aside0 (kq ≤ kj5) ∧ Aside0 (Kd.R (Kd.int .u64) 24 w' w.heap.size (fun _ => True) (.slice Ao26 t781.length co26) t781) ∧ Aside0 (w'.heap[gb780]? = some (.cells #[(.slice A1_0 l1_0.length c1_0), (.slice A1_1 l1_1.length c1_1)] 23 (0, 0))) ∧ Aside0 (Below w.heap.size w w'))
          case atStart => exact ⟨(0), (0), (by first | rfl | (simp; done) | (simp [*]; done)), (by first | rfl | (simp; done) | (simp [*]; done)), H', ⟨Nat.le_refl _⟩, ⟨by (with_reducible repeat (first | apply Kd.R_alloc | apply Kd.R_drewN | apply Kd.R_drew)); exact HO_10.out⟩, ⟨by (with_reducible repeat (first | refine blk_drewN ?_ _ | refine blk_drew ?_ | refine blk_alloc ?_ _)); exact BK780.out⟩, ⟨by repeat (first | (with_reducible first | exact HB.out | apply below_alloc | apply pw_below_drewN | apply below_drew1 | refine below_set ?_ GE780.out) | exact HB.out)⟩⟩
          case round =>
            clear H'
            try clear c1
            try clear c2
            try clear p2
            try clear c9
            try clear c12
            try clear c12b0
            try clear c12b1
            try clear c17
            try clear c19
            try clear c20
            try clear c20b0
            try clear c20b1
            try clear c25
            try clear c25b0
            try clear c25b1
            try clear c25b2
            try clear hcz8_0
            try clear hcz8_1
            try clear hfz8_0
            try clear hfz8_1
            try clear p2
            obtain ⟨x16_2, x17_2, rfl, rfl, HA, HK2, HO_10, BK780, HB⟩ := hrel
            cases gk with
            | zero => exact absurd HA.out (by simp [conclavelaw07_InterpSums.l0])
            | succ k2 =>
              have H := HA.out
              clear HA
              simp only [conclavelaw07_InterpSums.l0] at H
              by_cases c27 : x17_2 < (t781.length : Int)
              · rw [if_pos c27] at H
                have c27b0 : decide (x17_2 < (t781.length : Int)) = true := decide_eq_true c27
                clear c27
                replace H := Option.bind_eq_some_iff.mp H
                obtain ⟨t796, A280, H⟩ := H
                replace H : (if 0 ≤ x17_2 then ((conclaveref01_Sum.f t796 x16_2 (rd t781 x17_2)).bind fun t798 => (if x17_2 < (l1_0.length : Int) then ((interp_Basis.f k2 a0 l1_0 (rd l1_0 x17_2)).bind fun bt800 => (if bt800.2 = 0 then (conclavelaw07_InterpSums.j2 k2 a0 l1_0 t781 t782 t785 t786 t793 t794 t798 x17_2 bt800.1 ((bt800.1.length : Int) != (l1_0.length : Int))) else (conclavelaw07_InterpSums.j2 k2 a0 l1_0 t781 t782 t785 t786 t793 t794 t798 x17_2 bt800.1 true))) else (none))) else (none)) = some r := H
                have A28 := Aside0.mk A280
                clear A280
                by_cases c29 : 0 ≤ x17_2
                · rw [if_pos c29] at H
                  have c29b0 : decide (0 ≤ x17_2) = true := decide_eq_true c29
                  clear c29
                  replace H := Option.bind_eq_some_iff.mp H
                  obtain ⟨t798, A300, H⟩ := H
                  replace H : (if x17_2 < (l1_0.length : Int) then ((interp_Basis.f k2 a0 l1_0 (rd l1_0 x17_2)).bind fun bt800 => (if bt800.2 = 0 then (conclavelaw07_InterpSums.j2 k2 a0 l1_0 t781 t782 t785 t786 t793 t794 t798 x17_2 bt800.1 ((bt800.1.length : Int) != (l1_0.length : Int))) else (conclavelaw07_InterpSums.j2 k2 a0 l1_0 t781 t782 t785 t786 t793 t794 t798 x17_2 bt800.1 true))) else (none)) = some r := H
                  have A30 := Aside0.mk A300
                  clear A300
                  by_cases c31 : x17_2 < (l1_0.length : Int)
                  · rw [if_pos c31] at H
                    have c31b0 : decide (x17_2 < (l1_0.length : Int)) = true := decide_eq_true c31
                    clear c31
                    replace H := Option.bind_eq_some_iff.mp H
                    obtain ⟨⟨t800, t801⟩, A320, H⟩ := H
                    replace H : (if t801 = 0 then (conclavelaw07_InterpSums.j2 k2 a0 l1_0 t781 t782 t785 t786 t793 t794 t798 x17_2 t800 ((t800.length : Int) != (l1_0.length : Int))) else (conclavelaw07_InterpSums.j2 k2 a0 l1_0 t781 t782 t785 t786 t793 t794 t798 x17_2 t800 true)) = some r := H
                    have A32 := Aside0.mk A320
                    clear A320
                    have HC33 := Aside0.mk H
                    clear H
                    go_upto_region 16 with (first | (go_at_call 29; (with_reducible refine (conclaveref01_P.calls a0 t796 _ A28.out).mono ?_); rintro e w' ⟨rfl, ⟨nd, rfl⟩⟩; (try first | exact ⟨rfl, _, World.drewN_drewN _ _ _⟩ | exact ⟨rfl, _, Eq.trans (World.drewN_drewN _ _ _) (congrArg (World.drewN _) (Nat.add_assoc _ _ _))⟩); have p797 : 0 ≤ (x17_2 : Int) := of_decide_eq_true (by first | (with_reducible assumption) | assumption); have q797 : x17_2 < (t781.length : Int) := of_decide_eq_true (by first | (with_reducible assumption) | assumption); obtain ⟨ad797, e797, hx797_0⟩ := Kd.at_int (Kd.R_reads' HO_10.out).2.2 x17_2 p797 q797; cases e797; replace p797 := eq_true p797; replace q797 := eq_true q797) | (go_at_call 30; (with_reducible refine (conclaveref01_Sum.calls t796 x16_2 (rd t781 x17_2) t798 _ A30.out).mono ?_); rintro e w' ⟨rfl, ⟨nd, rfl⟩⟩; (try first | exact ⟨rfl, _, World.drewN_drewN _ _ _⟩ | exact ⟨rfl, _, Eq.trans (World.drewN_drewN _ _ _) (congrArg (World.drewN _) (Nat.add_assoc _ _ _))⟩); have p799 : 0 ≤ (x17_2 : Int) := of_decide_eq_true (by first | (with_reducible assumption) | assumption); have q799 : x17_2 < (l1_0.length : Int) := of_decide_eq_true (by first | (with_reducible assumption) | assumption); obtain ⟨ad799, e799, hx799_0⟩ := Kd.at_int HR1_0.out x17_2 p799 q799; cases e799; replace hx799_0 := (HB.out.cell (World.block_lt_of_cell? w _ hx799_0)).trans hx799_0; replace p799 := eq_true p799; replace q799 := eq_true q799) | (go_at_call 14; (with_reducible refine (interp_Basis.calls k2 a0 _ _ l1_0 (rd l1_0 x17_2) t800 t801 _ ?side1 ?side2 A32.out).mono ?_); (case side1 => repeat (first | exact (Kd.C_below HR1_0.out (by repeat (first | (with_reducible first | exact HB.out | apply below_alloc | apply pw_below_drewN | apply below_drew1 | refine below_set ?_ GE780.out) | exact HB.out))) | (with_reducible refine Kd.C_alloc ?_ _) | (with_reducible refine Kd.C_drewN ?_ _) | (with_reducible refine Kd.C_drew ?_))); (case side2 => exact HC1_0.out); rintro e w34 ⟨v802, rfl, ho0, hb⟩; have n0_ := Aside0.mk (Kd.R_elder' (by (with_reducible repeat (first | apply Kd.R_alloc | apply Kd.R_drewN | apply Kd.R_drew)); exact HO_10.out) (Kd.R_base ho0) hb); have n1_ := Aside0.mk (Kd.R_lower (Kd.R_new' ho0 (Kd.R_lt (by (with_reducible repeat (first | apply Kd.R_alloc | apply Kd.R_drewN | apply Kd.R_drew)); exact HO_10.out))) (below_size (by repeat (first | (with_reducible first | exact HB.out | apply below_alloc | apply pw_below_drewN | apply below_drew1 | refine below_set ?_ GE780.out) | exact HB.out)))); have n2_ := Aside0.mk (blk_below (g := gb780) (o := .cells #[.slice (some ad799) l1_0.length c1_0, .slice A1_1 l1_1.length c1_1] 23 (0, 0)) (by (with_reducible repeat (first | refine blk_drewN ?_ _ | refine blk_drew ?_ | refine blk_alloc ?_ _)); exact BK780.out) hb); have n3_ := Aside0.mk (below_step (by repeat (first | (with_reducible first | exact HB.out | apply below_alloc | apply pw_below_drewN | apply below_drew1 | refine below_set ?_ GE780.out) | exact HB.out)) hb); clear HO_10; clear BK780; clear HB; have HO_10 := n0_; have HO803 := n1_; have BK780 := n2_; have HB := n3_; clear n0_ n1_ n2_ n3_; (try clear hb); (try clear hb2); (try clear hk); (try clear hi); (try clear ho0)))
                    try (have p797 : 0 ≤ (x17_2 : Int) := of_decide_eq_true (by first | (with_reducible assumption) | assumption); have q797 : x17_2 < (t781.length : Int) := of_decide_eq_true (by first | (with_reducible assumption) | assumption); obtain ⟨ad797, e797, hx797_0⟩ := Kd.at_int (Kd.R_reads' HO_10.out).2.2 x17_2 p797 q797; cases e797; replace p797 := eq_true p797; replace q797 := eq_true q797)
                    try (have p799 : 0 ≤ (x17_2 : Int) := of_decide_eq_true (by first | (with_reducible assumption) | assumption); have q799 : x17_2 < (l1_0.length : Int) := of_decide_eq_true (by first | (with_reducible assumption) | assumption); obtain ⟨ad799, e799, hx799_0⟩ := Kd.at_int HR1_0.out x17_2 p799 q799; cases e799; replace hx799_0 := (HB.out.cell (World.block_lt_of_cell? w _ hx799_0)).trans hx799_0; replace p799 := eq_true p799; replace q799 := eq_true q799)
                    repeat (go_quiet (first | (go_at_call 29; (with_reducible refine (conclaveref01_P.calls a0 t796 _ A28.out).mono ?_); rintro e w' ⟨rfl, ⟨nd, rfl⟩⟩; (try first | exact ⟨rfl, _, World.drewN_drewN _ _ _⟩ | exact ⟨rfl, _, Eq.trans (World.drewN_drewN _ _ _) (congrArg (World.drewN _) (Nat.add_assoc _ _ _))⟩)) | (go_at_call 30; (with_reducible refine (conclaveref01_Sum.calls t796 x16_2 (rd t781 x17_2) t798 _ A30.out).mono ?_); rintro e w' ⟨rfl, ⟨nd, rfl⟩⟩; (try first | exact ⟨rfl, _, World.drewN_drewN _ _ _⟩ | exact ⟨rfl, _, Eq.trans (World.drewN_drewN _ _ _) (congrArg (World.drewN _) (Nat.add_assoc _ _ _))⟩)) | (go_at_call 14; (with_reducible refine (interp_Basis.calls k2 a0 _ _ l1_0 (rd l1_0 x17_2) t800 t801 _ ?side1 ?side2 A32.out).mono ?_); (case side1 => repeat (first | exact (Kd.C_below HR1_0.out (by repeat (first | (with_reducible first | exact HB.out | apply below_alloc | apply pw_below_drewN | apply below_drew1 | refine below_set ?_ GE780.out) | exact HB.out))) | (with_reducible refine Kd.C_alloc ?_ _) | (with_reducible refine Kd.C_drewN ?_ _) | (with_reducible refine Kd.C_drew ?_))); (case side2 => exact HC1_0.out); rintro e w34 ⟨v802, rfl, ho0, hb⟩; have n0_ := Aside0.mk (Kd.R_elder' (by (with_reducible repeat (first | apply Kd.R_alloc | apply Kd.R_drewN | apply Kd.R_drew)); exact HO_10.out) (Kd.R_base ho0) hb); have n1_ := Aside0.mk (Kd.R_lower (Kd.R_new' ho0 (Kd.R_lt (by (with_reducible repeat (first | apply Kd.R_alloc | apply Kd.R_drewN | apply Kd.R_drew)); exact HO_10.out))) (below_size (by repeat (first | (with_reducible first | exact HB.out | apply below_alloc | apply pw_below_drewN | apply below_drew1 | refine below_set ?_ GE780.out) | exact HB.out)))); have n2_ := Aside0.mk (blk_below (g := gb780) (o := .cells #[.slice (some ad799) l1_0.length c1_0, .slice A1_1 l1_1.length c1_1] 23 (0, 0)) (by (with_reducible repeat (first | refine blk_drewN ?_ _ | refine blk_drew ?_ | refine blk_alloc ?_ _)); exact BK780.out) hb); have n3_ := Aside0.mk (below_step (by repeat (first | (with_reducible first | exact HB.out | apply below_alloc | apply pw_below_drewN | apply below_drew1 | refine below_set ?_ GE780.out) | exact HB.out)) hb); clear HO_10; clear BK780; clear HB; have HO_10 := n0_; have HO803 := n1_; have BK780 := n2_; have HB := n3_; clear n0_ n1_ n2_ n3_; (try clear hb); (try clear hb2); (try clear hk); (try clear hi); (try clear ho0))); go_upto_region 16 with (first | (go_at_call 29; (with_reducible refine (conclaveref01_P.calls a0 t796 _ A28.out).mono ?_); rintro e w' ⟨rfl, ⟨nd, rfl⟩⟩; (try first | exact ⟨rfl, _, World.drewN_drewN _ _ _⟩ | exact ⟨rfl, _, Eq.trans (World.drewN_drewN _ _ _) (congrArg (World.drewN _) (Nat.add_assoc _ _ _))⟩); have p797 : 0 ≤ (x17_2 : Int) := of_decide_eq_true (by first | (with_reducible assumption) | assumption); have q797 : x17_2 < (t781.length : Int) := of_decide_eq_true (by first | (with_reducible assumption) | assumption); obtain ⟨ad797, e797, hx797_0⟩ := Kd.at_int (Kd.R_reads' HO_10.out).2.2 x17_2 p797 q797; cases e797; replace p797 := eq_true p797; replace q797 := eq_true q797) | (go_at_call 30; (with_reducible refine (conclaveref01_Sum.calls t796 x16_2 (rd t781 x17_2) t798 _ A30.out).mono ?_); rintro e w' ⟨rfl, ⟨nd, rfl⟩⟩; (try first | exact ⟨rfl, _, World.drewN_drewN _ _ _⟩ | exact ⟨rfl, _, Eq.trans (World.drewN_drewN _ _ _) (congrArg (World.drewN _) (Nat.add_assoc _ _ _))⟩); have p799 : 0 ≤ (x17_2 : Int) := of_decide_eq_true (by first | (with_reducible assumption) | assumption); have q799 : x17_2 < (l1_0.length : Int) := of_decide_eq_true (by first | (with_reducible assumption) | assumption); obtain ⟨ad799, e799, hx799_0⟩ := Kd.at_int HR1_0.out x17_2 p799 q799; cases e799; replace hx799_0 := (HB.out.cell (World.block_lt_of_cell? w _ hx799_0)).trans hx799_0; replace p799 := eq_true p799; replace q799 := eq_true q799) | (go_at_call 14; (with_reducible refine (interp_Basis.calls k2 a0 _ _ l1_0 (rd l1_0 x17_2) t800 t801 _ ?side1 ?side2 A32.out).mono ?_); (case side1 => repeat (first | exact (Kd.C_below HR1_0.out (by repeat (first | (with_reducible first | exact HB.out | apply below_alloc | apply pw_below_drewN | apply below_drew1 | refine below_set ?_ GE780.out) | exact HB.out))) | (with_reducible refine Kd.C_alloc ?_ _) | (with_reducible refine Kd.C_drewN ?_ _) | (with_reducible refine Kd.C_drew ?_))); (case side2 => exact HC1_0.out); rintro e w34 ⟨v802, rfl, ho0, hb⟩; have n0_ := Aside0.mk (Kd.R_elder' (by (with_reducible repeat (first | apply Kd.R_alloc | apply Kd.R_drewN | apply Kd.R_drew)); exact HO_10.out) (Kd.R_base ho0) hb); have n1_ := Aside0.mk (Kd.R_lower (Kd.R_new' ho0 (Kd.R_lt (by (with_reducible repeat (first | apply Kd.R_alloc | apply Kd.R_drewN | apply Kd.R_drew)); exact HO_10.out))) (below_size (by repeat (first | (with_reducible first | exact HB.out | apply below_alloc | apply pw_below_drewN | apply below_drew1 | refine below_set ?_ GE780.out) | exact HB.out)))); have n2_ := Aside0.mk (blk_below (g := gb780) (o := .cells #[.slice (some ad799) l1_0.length c1_0, .slice A1_1 l1_1.length c1_1] 23 (0, 0)) (by (with_reducible repeat (first | refine blk_drewN ?_ _ | refine blk_drew ?_ | refine blk_alloc ?_ _)); exact BK780.out) hb); have n3_ := Aside0.mk (below_step (by repeat (first | (with_reducible first | exact HB.out | apply below_alloc | apply pw_below_drewN | apply below_drew1 | refine below_set ?_ GE780.out) | exact HB.out)) hb); clear HO_10; clear BK780; clear HB; have HO_10 := n0_; have HO803 := n1_; have BK780 := n2_; have HB := n3_; clear n0_ n1_ n2_ n3_; (try clear hb); (try clear hb2); (try clear hk); (try clear hi); (try clear ho0))))
                    (try simp only [Act.put, List.setIfInBounds_toArray, List.set_cons_zero, List.set_cons_succ])
                    go_cut [108] (fun v108 wc => ∃ (kq : Nat) (x108_32 : Bool), v108 = .bool x108_32 ∧ Aside0 (conclavelaw07_InterpSums.j2 kq a0 l1_0 t781 t782 t785 t786 t793 t794 t798 x17_2 t800 x108_32 = some r) ∧ Aside0 (kq ≤ k2) ∧ Aside0 (Kd.R (Kd.int .u64) 24 wc w.heap.size (fun k_ => some k_ ≠ (v802 : Value).ownBlock) (.slice (some ad797) t781.length co26) t781) ∧ Aside0 (Kd.R (Kd.int .u64) 24 wc w.heap.size (fun k_ => some k_ ≠ ((.slice (some ad797) t781.length co26) : Value).ownBlock) v802 t800) ∧ Aside0 (wc.heap[gb780]? = some (.cells #[(.slice (some ad799) l1_0.length c1_0), (.slice A1_1 l1_1.length c1_1)] 23 (0, 0))) ∧ Aside0 (Below w.heap.size w wc))
                    case first =>
                      have H := HC33.out
                      clear HC33
                      by_cases c35 : t801 = 0
                      · rw [if_pos c35] at H
                        have c35b0 : (t801 == 0) = true := beq_iff_eq.mpr c35
                        have c35b1 : (t801 != 0) = false := bne_eq_false_iff_eq.mpr c35
                        clear c35
                        (first | rw [c35b0] | (simp only [i64_w, i32_w]; rw [c35b0]) | skip)
                        have H' := Aside0.mk H
                        clear H
                        obtain ⟨Ao36, co36, eo36⟩ := Kd.R_slice HO803.out
                        subst eo36
                        go_wp2
                        repeat (go_quiet (fail); try go_wp2)
                        go_meet
                        case rel => exact ⟨_, (((t800.length : Int) != (l1_0.length : Int))), (by first | rfl | (simp; done) | (simp [*]; done)), H', ⟨by have := HJ5.out; have := HK2.out; first | omega | exact Nat.le_refl _⟩, ⟨by (with_reducible repeat (first | apply Kd.R_alloc | apply Kd.R_drewN | apply Kd.R_drew)); exact Kd.R_mono HO_10.out (fun _ hk => hk.2)⟩, ⟨by (with_reducible repeat (first | apply Kd.R_alloc | apply Kd.R_drewN | apply Kd.R_drew)); exact Kd.R_mono HO803.out (fun _ hk => hk.2)⟩, ⟨by (with_reducible repeat (first | refine blk_drewN ?_ _ | refine blk_drew ?_ | refine blk_alloc ?_ _)); exact BK780.out⟩, ⟨by repeat (first | (with_reducible first | exact HB.out | apply below_alloc | apply pw_below_drewN | apply below_drew1 | refine below_set ?_ GE780.out) | exact HB.out)⟩⟩
                      · rw [if_neg c35] at H
                        have c35b0 : (t801 == 0) = false := beq_eq_false_iff_ne.mpr c35
                        have c35b1 : (t801 != 0) = true := bne_iff_ne.mpr c35
                        (first | rw [c35b0] | (simp only [i64_w, i32_w]; rw [c35b0]) | skip)
                        have H' := Aside0.mk H
                        clear H
                        go_wp2
                        repeat (go_quiet (fail); try go_wp2)
                        go_meet
                        case rel => exact ⟨_, (true), (by first | rfl | (simp; done) | (simp [*]; done)), H', ⟨by have := HJ5.out; have := HK2.out; first | omega | exact Nat.le_refl _⟩, ⟨by (with_reducible repeat (first | apply Kd.R_alloc | apply Kd.R_drewN | apply Kd.R_drew)); exact Kd.R_mono HO_10.out (fun _ hk => hk.2)⟩, ⟨by (with_reducible repeat (first | apply Kd.R_alloc | apply Kd.R_drewN | apply Kd.R_drew)); exact Kd.R_mono HO803.out (fun _ hk => hk.2)⟩, ⟨by (with_reducible repeat (first | refine blk_drewN ?_ _ | refine blk_drew ?_ | refine blk_alloc ?_ _)); exact BK780.out⟩, ⟨by repeat (first | (with_reducible first | exact HB.out | apply below_alloc | apply pw_below_drewN | apply below_drew1 | refine below_set ?_ GE780.out) | exact HB.out)⟩⟩
                    case rest =>
                      clear HC33
                      try clear c1
                      try clear c2
                      try clear p2
                      try clear c3
                      try clear p7
                      try clear q7
                      try clear hx7
                      try clear c9
                      try clear c12
                      try clear c12b0
                      try clear c12b1
                      try clear c17
                      try clear c19
                      try clear c20
                      try clear c20b0
                      try clear c20b1
                      try clear c25
                      try clear c25b0
                      try clear c25b1
                      try clear c25b2
                      try clear c27
                      try clear c27b0
                      try clear c29
                      try clear c29b0
                      try clear c31
                      try clear c31b0
                      try clear c35
                      try clear c35b0
                      try clear c35b1
                      try clear hcz8_0
                      try clear hcz8_1
                      try clear hfz8_0
                      try clear hfz8_1
                      try clear hx797_0
                      try clear hx799_0
                      try clear p2
                      try clear p797
                      try clear p799
                      try clear q797
                      try clear q799
                      obtain ⟨kq, x108_32, rfl, HA, HJ32, HO_10, HO_18, BK780, HB⟩ := hcut
                      cases kq with
                      | zero => exact absurd HA.out (by simp [conclavelaw07_InterpSums.j2])
                      | succ kj32 =>
                        have H := HA.out
                        clear HA
                        simp only [conclavelaw07_InterpSums.j2] at H
                        by_cases c37 : x108_32 = true
                        · subst c37
                          have H1 : (some false) = some r := by rw [if_pos rfl] at H; exact H
                          clear H
                          have H := H1
                          clear H1
                          exact absurd (Option.some.inj H) (by rw [hrt]; decide)
                        · replace c37 := Bool.eq_false_iff.mpr c37
                          subst c37
                          have H1 : (conclavelaw07_InterpSums.l1 kj32 a0 l1_0 t781 t782 t785 t786 t793 t794 t798 x17_2 t800 0) = some r := by rw [if_neg (show ¬ (false = true) by decide)] at H; exact H
                          clear H
                          have H := H1
                          clear H1
                          have H' := Aside0.mk H
                          clear H
                          go_wp2
                          repeat (go_quiet (fail); try go_wp2)
                          go_loopg [20] kj32 (fun kq v20 w' => ∃ (x20_4 : Int), v20 = .int .i64 x20_4 ∧ Aside0 (conclavelaw07_InterpSums.l1 kq a0 l1_0 t781 t782 t785 t786 t793 t794 t798 x17_2 t800 x20_4 = some r) ∧ Aside0 (kq ≤ kj32) ∧ Aside0 (Kd.R (Kd.int .u64) 24 w' w.heap.size (fun k_ => some k_ ≠ (v802 : Value).ownBlock) (.slice (some ad797) t781.length co26) t781) ∧ Aside0 (Kd.R (Kd.int .u64) 24 w' w.heap.size (fun k_ => some k_ ≠ ((.slice (some ad797) t781.length co26) : Value).ownBlock) v802 t800) ∧ Aside0 (w'.heap[gb780]? = some (.cells #[(.slice (some ad799) l1_0.length c1_0), (.slice A1_1 l1_1.length c1_1)] 23 (0, 0))) ∧ Aside0 (Below w.heap.size w w'))
                          case atStart => exact ⟨(0), (by first | rfl | (simp; done) | (simp [*]; done)), H', ⟨Nat.le_refl _⟩, ⟨by (with_reducible repeat (first | apply Kd.R_alloc | apply Kd.R_drewN | apply Kd.R_drew)); exact HO_10.out⟩, ⟨by (with_reducible repeat (first | apply Kd.R_alloc | apply Kd.R_drewN | apply Kd.R_drew)); exact HO_18.out⟩, ⟨by (with_reducible repeat (first | refine blk_drewN ?_ _ | refine blk_drew ?_ | refine blk_alloc ?_ _)); exact BK780.out⟩, ⟨by repeat (first | (with_reducible first | exact HB.out | apply below_alloc | apply pw_below_drewN | apply below_drew1 | refine below_set ?_ GE780.out) | exact HB.out)⟩⟩
                          case round =>
                            clear H'
                            try clear c1
                            try clear c2
                            try clear p2
                            try clear c3
                            try clear p7
                            try clear q7
                            try clear hx7
                            try clear c9
                            try clear c12
                            try clear c12b0
                            try clear c12b1
                            try clear c17
                            try clear c19
                            try clear c20
                            try clear c20b0
                            try clear c20b1
                            try clear c25
                            try clear c25b0
                            try clear c25b1
                            try clear c25b2
                            try clear c27
                            try clear c27b0
                            try clear c29
                            try clear c29b0
                            try clear c31
                            try clear c31b0
                            try clear c35
                            try clear c35b0
                            try clear c35b1
                            try clear c37
                            try clear hcz8_0
                            try clear hcz8_1
                            try clear hfz8_0
                            try clear hfz8_1
                            try clear hx797_0
                            try clear hx799_0
                            try clear p2
                            try clear p7
                            try clear p797
                            try clear p799
                            try clear q7
                            try clear q797
                            try clear q799
                            obtain ⟨x20_4, rfl, HA, HK4, HO_10, HO_18, BK780, HB⟩ := hrel
                            cases gk with
                            | zero => exact absurd HA.out (by simp [conclavelaw07_InterpSums.l1])
                            | succ k4 =>
                              have H := HA.out
                              clear HA
                              simp only [conclavelaw07_InterpSums.l1] at H
                              by_cases c38 : x20_4 < (t800.length : Int)
                              · rw [if_pos c38] at H
                                have c38b0 : decide (x20_4 < (t800.length : Int)) = true := decide_eq_true c38
                                clear c38
                                by_cases c39 : x20_4 = x17_2
                                · rw [if_pos c39] at H
                                  have c39b0 : (x20_4 == x17_2) = true := beq_iff_eq.mpr c39
                                  have c39b1 : (x20_4 != x17_2) = false := bne_eq_false_iff_eq.mpr c39
                                  clear c39
                                  by_cases c40 : 0 ≤ x20_4
                                  · rw [if_pos c40] at H
                                    have c40b0 : decide (0 ≤ x20_4) = true := decide_eq_true c40
                                    clear c40
                                    by_cases c41 : (rd t800 x20_4) = 1
                                    · rw [if_pos c41] at H
                                      have c41b0 : ((rd t800 x20_4) == 1) = true := beq_iff_eq.mpr c41
                                      have c41b1 : ((rd t800 x20_4) != 1) = false := bne_eq_false_iff_eq.mpr c41
                                      clear c41
                                      have H' := Aside0.mk H
                                      clear H
                                      obtain ⟨Ao42, co42, eo42⟩ := Kd.R_slice HO_18.out
                                      subst eo42
                                      have p804 : 0 ≤ (x20_4 : Int) := of_decide_eq_true (by first | (with_reducible assumption) | assumption)
                                      have q804 : x20_4 < (t800.length : Int) := of_decide_eq_true (by first | (with_reducible assumption) | assumption)
                                      obtain ⟨ad804, e804, hx804_0⟩ := Kd.at_int (Kd.R_reads' HO_18.out).2.2 x20_4 p804 q804
                                      cases e804
                                      replace p804 := eq_true p804
                                      replace q804 := eq_true q804
                                      go_wp2
                                      repeat (go_quiet (fail); try go_wp2)
                                      go_roundg k4
                                      case measure => have := HJ5.out; have := HK2.out; have := HJ32.out; have := HK4.out; omega
                                      case rel => exact ⟨(wrap64 (x20_4 + 1)), (by first | rfl | (simp; done) | (simp [*]; done)), H', ⟨by have := HJ5.out; have := HK2.out; have := HJ32.out; have := HK4.out; omega⟩, ⟨by (with_reducible repeat (first | apply Kd.R_alloc | apply Kd.R_drewN | apply Kd.R_drew)); exact HO_10.out⟩, ⟨by (with_reducible repeat (first | apply Kd.R_alloc | apply Kd.R_drewN | apply Kd.R_drew)); exact HO_18.out⟩, ⟨by (with_reducible repeat (first | refine blk_drewN ?_ _ | refine blk_drew ?_ | refine blk_alloc ?_ _)); exact BK780.out⟩, ⟨by repeat (first | (with_reducible first | exact HB.out | apply below_alloc | apply pw_below_drewN | apply below_drew1 | refine below_set ?_ GE780.out) | exact HB.out)⟩⟩
                                    · rw [if_neg c41] at H
                                      have c41b0 : ((rd t800 x20_4) == 1) = false := beq_eq_false_iff_ne.mpr c41
                                      have c41b1 : ((rd t800 x20_4) != 1) = true := bne_iff_ne.mpr c41
                                      exact absurd (Option.some.inj H) (by rw [hrt]; decide)
                                  · rw [if_neg c40] at H
                                    exact absurd H (by simp)
                                · rw [if_neg c39] at H
                                  have c39b0 : (x20_4 == x17_2) = false := beq_eq_false_iff_ne.mpr c39
                                  have c39b1 : (x20_4 != x17_2) = true := bne_iff_ne.mpr c39
                                  by_cases c44 : 0 ≤ x20_4
                                  · rw [if_pos c44] at H
                                    have c44b0 : decide (0 ≤ x20_4) = true := decide_eq_true c44
                                    clear c44
                                    by_cases c45 : (rd t800 x20_4) = 0
                                    · rw [if_pos c45] at H
                                      have c45b0 : ((rd t800 x20_4) == 0) = true := beq_iff_eq.mpr c45
                                      have c45b1 : ((rd t800 x20_4) != 0) = false := bne_eq_false_iff_eq.mpr c45
                                      clear c45
                                      have H' := Aside0.mk H
                                      clear H
                                      obtain ⟨Ao46, co46, eo46⟩ := Kd.R_slice HO_18.out
                                      subst eo46
                                      have p805 : 0 ≤ (x20_4 : Int) := of_decide_eq_true (by first | (with_reducible assumption) | assumption)
                                      have q805 : x20_4 < (t800.length : Int) := of_decide_eq_true (by first | (with_reducible assumption) | assumption)
                                      obtain ⟨ad805, e805, hx805_0⟩ := Kd.at_int (Kd.R_reads' HO_18.out).2.2 x20_4 p805 q805
                                      cases e805
                                      replace p805 := eq_true p805
                                      replace q805 := eq_true q805
                                      go_wp2
                                      repeat (go_quiet (fail); try go_wp2)
                                      go_roundg k4
                                      case measure => have := HJ5.out; have := HK2.out; have := HJ32.out; have := HK4.out; omega
                                      case rel => exact ⟨(wrap64 (x20_4 + 1)), (by first | rfl | (simp; done) | (simp [*]; done)), H', ⟨by have := HJ5.out; have := HK2.out; have := HJ32.out; have := HK4.out; omega⟩, ⟨by (with_reducible repeat (first | apply Kd.R_alloc | apply Kd.R_drewN | apply Kd.R_drew)); exact HO_10.out⟩, ⟨by (with_reducible repeat (first | apply Kd.R_alloc | apply Kd.R_drewN | apply Kd.R_drew)); exact HO_18.out⟩, ⟨by (with_reducible repeat (first | refine blk_drewN ?_ _ | refine blk_drew ?_ | refine blk_alloc ?_ _)); exact BK780.out⟩, ⟨by repeat (first | (with_reducible first | exact HB.out | apply below_alloc | apply pw_below_drewN | apply below_drew1 | refine below_set ?_ GE780.out) | exact HB.out)⟩⟩
                                    · rw [if_neg c45] at H
                                      have c45b0 : ((rd t800 x20_4) == 0) = false := beq_eq_false_iff_ne.mpr c45
                                      have c45b1 : ((rd t800 x20_4) != 0) = true := bne_iff_ne.mpr c45
                                      exact absurd (Option.some.inj H) (by rw [hrt]; decide)
                                  · rw [if_neg c44] at H
                                    exact absurd H (by simp)
                              · rw [if_neg c38] at H
                                have c38b0 : decide (x20_4 < (t800.length : Int)) = false := decide_eq_false c38
                                clear c38
                                have H' := Aside0.mk H
                                clear H
                                obtain ⟨Ao48, co48, eo48⟩ := Kd.R_slice HO_18.out
                                subst eo48
                                go_wp2
                                repeat (go_quiet (fail); try go_wp2)
                                go_roundg k4
                                case measure => have := HJ5.out; have := HK2.out; have := HJ32.out; have := HK4.out; omega
                                case rel => exact ⟨(t798), (wrap64 (x17_2 + 1)), (by first | rfl | (simp; done) | (simp [*]; done)), (by first | rfl | (simp; done) | (simp [*]; done)), H', ⟨by have := HJ5.out; have := HK2.out; have := HJ32.out; have := HK4.out; omega⟩, ⟨by (with_reducible repeat (first | apply Kd.R_alloc | apply Kd.R_drewN | apply Kd.R_drew)); exact Kd.R_mono HO_10.out (fun _ hk => trivial)⟩, ⟨by (with_reducible repeat (first | refine blk_drewN ?_ _ | refine blk_drew ?_ | refine blk_alloc ?_ _)); exact BK780.out⟩, ⟨by repeat (first | (with_reducible first | exact HB.out | apply below_alloc | apply pw_below_drewN | apply below_drew1 | refine below_set ?_ GE780.out) | exact HB.out)⟩⟩
                  · rw [if_neg c31] at H
                    exact absurd H (by simp)
                · rw [if_neg c29] at H
                  exact absurd H (by simp)
              · rw [if_neg c27] at H
                have c27b0 : decide (x17_2 < (t781.length : Int)) = false := decide_eq_false c27
                clear c27
                replace H := Option.bind_eq_some_iff.mp H
                obtain ⟨t795, A490, H⟩ := H
                replace H : (if t795 = true then (if t782 = 0 then (if t786 = 0 then (if t794 = 0 then (if t793 = t785 then (if (t781.length : Int) = (l1_0.length : Int) then (if (l1_0.length : Int) = 0 then (some true) else (some (x16_2 == 1))) else (some false)) else (some false)) else (some false)) else (some false)) else (some false)) else (some false)) = some r := H
                have A49 := Aside0.mk A490
                clear A490
                by_cases c50 : t795 = true
                · subst c50
                  have H1 : (if t782 = 0 then (if t786 = 0 then (if t794 = 0 then (if t793 = t785 then (if (t781.length : Int) = (l1_0.length : Int) then (if (l1_0.length : Int) = 0 then (some true) else (some (x16_2 == 1))) else (some false)) else (some false)) else (some false)) else (some false)) else (some false)) = some r := by rw [if_pos rfl] at H; exact H
                  clear H
                  have H := H1
                  clear H1
                  by_cases c51 : t782 = 0
                  · rw [if_pos c51] at H
                    have c51b0 : (t782 == 0) = true := beq_iff_eq.mpr c51
                    have c51b1 : (t782 != 0) = false := bne_eq_false_iff_eq.mpr c51
                    clear c51
                    by_cases c52 : t786 = 0
                    · rw [if_pos c52] at H
                      have c52b0 : (t786 == 0) = true := beq_iff_eq.mpr c52
                      have c52b1 : (t786 != 0) = false := bne_eq_false_iff_eq.mpr c52
                      clear c52
                      by_cases c53 : t794 = 0
                      · rw [if_pos c53] at H
                        have c53b0 : (t794 == 0) = true := beq_iff_eq.mpr c53
                        have c53b1 : (t794 != 0) = false := bne_eq_false_iff_eq.mpr c53
                        clear c53
                        by_cases c54 : t793 = t785
                        · rw [if_pos c54] at H
                          have c54b0 : (t793 == t785) = true := beq_iff_eq.mpr c54
                          have c54b1 : (t793 != t785) = false := bne_eq_false_iff_eq.mpr c54
                          clear c54
                          by_cases c55 : (t781.length : Int) = (l1_0.length : Int)
                          · rw [if_pos c55] at H
                            have c55b0 : ((t781.length : Int) == (l1_0.length : Int)) = true := beq_iff_eq.mpr c55
                            have c55b1 : ((t781.length : Int) != (l1_0.length : Int)) = false := bne_eq_false_iff_eq.mpr c55
                            have c55b2 : (t781.length == l1_0.length) = true := by first | simpa using c55 | (simp at c55 ⊢; omega)
                            clear c55
                            by_cases c56 : (l1_0.length : Int) = 0
                            · rw [if_pos c56] at H
                              have c56b0 : ((l1_0.length : Int) == 0) = true := beq_iff_eq.mpr c56
                              have c56b1 : ((l1_0.length : Int) != 0) = false := bne_eq_false_iff_eq.mpr c56
                              clear c56
                              obtain rfl := Option.some.inj H
                              go_wp2_with (first | (go_at_call 19; (with_reducible refine (conclavelaw07_anchored.calls k2  true _ A49.out).mono ?_); rintro e w57 ⟨rfl, hb⟩; have n0_ := Aside0.mk (Kd.R_below (by (with_reducible repeat (first | apply Kd.R_alloc | apply Kd.R_drewN | apply Kd.R_drew)); exact HO_10.out) hb); have n1_ := Aside0.mk (blk_below (g := gb780) (o := .cells #[.slice A1_0 l1_0.length c1_0, .slice A1_1 l1_1.length c1_1] 23 (0, 0)) (by (with_reducible repeat (first | refine blk_drewN ?_ _ | refine blk_drew ?_ | refine blk_alloc ?_ _)); exact BK780.out) hb); have n2_ := Aside0.mk (below_step (by repeat (first | (with_reducible first | exact HB.out | apply below_alloc | apply pw_below_drewN | apply below_drew1 | refine below_set ?_ GE780.out) | exact HB.out)) hb); clear HO_10; clear BK780; clear HB; have HO_10 := n0_; have BK780 := n1_; have HB := n2_; clear n0_ n1_ n2_; (try clear hb); (try clear hb2); (try clear hk); (try clear hi)))
                              repeat (go_quiet (first | (go_at_call 19; (with_reducible refine (conclavelaw07_anchored.calls k2  true _ A49.out).mono ?_); rintro e w57 ⟨rfl, hb⟩; have n0_ := Aside0.mk (Kd.R_below (by (with_reducible repeat (first | apply Kd.R_alloc | apply Kd.R_drewN | apply Kd.R_drew)); exact HO_10.out) hb); have n1_ := Aside0.mk (blk_below (g := gb780) (o := .cells #[.slice A1_0 l1_0.length c1_0, .slice A1_1 l1_1.length c1_1] 23 (0, 0)) (by (with_reducible repeat (first | refine blk_drewN ?_ _ | refine blk_drew ?_ | refine blk_alloc ?_ _)); exact BK780.out) hb); have n2_ := Aside0.mk (below_step (by repeat (first | (with_reducible first | exact HB.out | apply below_alloc | apply pw_below_drewN | apply below_drew1 | refine below_set ?_ GE780.out) | exact HB.out)) hb); clear HO_10; clear BK780; clear HB; have HO_10 := n0_; have BK780 := n1_; have HB := n2_; clear n0_ n1_ n2_; (try clear hb); (try clear hb2); (try clear hk); (try clear hi))); try go_wp2_with (first | (go_at_call 19; (with_reducible refine (conclavelaw07_anchored.calls k2  true _ A49.out).mono ?_); rintro e w57 ⟨rfl, hb⟩; have n0_ := Aside0.mk (Kd.R_below (by (with_reducible repeat (first | apply Kd.R_alloc | apply Kd.R_drewN | apply Kd.R_drew)); exact HO_10.out) hb); have n1_ := Aside0.mk (blk_below (g := gb780) (o := .cells #[.slice A1_0 l1_0.length c1_0, .slice A1_1 l1_1.length c1_1] 23 (0, 0)) (by (with_reducible repeat (first | refine blk_drewN ?_ _ | refine blk_drew ?_ | refine blk_alloc ?_ _)); exact BK780.out) hb); have n2_ := Aside0.mk (below_step (by repeat (first | (with_reducible first | exact HB.out | apply below_alloc | apply pw_below_drewN | apply below_drew1 | refine below_set ?_ GE780.out) | exact HB.out)) hb); clear HO_10; clear BK780; clear HB; have HO_10 := n0_; have BK780 := n1_; have HB := n2_; clear n0_ n1_ n2_; (try clear hb); (try clear hb2); (try clear hk); (try clear hi))))
                              go_ret
                              exact ⟨by first | rfl | (simp [errW_none, errW_some] <;> rfl) | (simp [*, errW_none, errW_some] <;> rfl), by repeat (first | (with_reducible first | exact HB.out | apply below_alloc | apply pw_below_drewN | apply below_drew1 | refine below_set ?_ GE780.out) | exact HB.out)⟩
                            · rw [if_neg c56] at H
                              have c56b0 : ((l1_0.length : Int) == 0) = false := beq_eq_false_iff_ne.mpr c56
                              have c56b1 : ((l1_0.length : Int) != 0) = true := bne_iff_ne.mpr c56
                              have c56b2 : ¬ (l1_0 = []) := fun h_ => c56 (by rw [h_]; rfl)
                              obtain rfl := Option.some.inj H
                              go_wp2_with (first | (go_at_call 19; (with_reducible refine (conclavelaw07_anchored.calls k2  true _ A49.out).mono ?_); rintro e w58 ⟨rfl, hb⟩; have n0_ := Aside0.mk (Kd.R_below (by (with_reducible repeat (first | apply Kd.R_alloc | apply Kd.R_drewN | apply Kd.R_drew)); exact HO_10.out) hb); have n1_ := Aside0.mk (blk_below (g := gb780) (o := .cells #[.slice A1_0 l1_0.length c1_0, .slice A1_1 l1_1.length c1_1] 23 (0, 0)) (by (with_reducible repeat (first | refine blk_drewN ?_ _ | refine blk_drew ?_ | refine blk_alloc ?_ _)); exact BK780.out) hb); have n2_ := Aside0.mk (below_step (by repeat (first | (with_reducible first | exact HB.out | apply below_alloc | apply pw_below_drewN | apply below_drew1 | refine below_set ?_ GE780.out) | exact HB.out)) hb); clear HO_10; clear BK780; clear HB; have HO_10 := n0_; have BK780 := n1_; have HB := n2_; clear n0_ n1_ n2_; (try clear hb); (try clear hb2); (try clear hk); (try clear hi)))
                              repeat (go_quiet (first | (go_at_call 19; (with_reducible refine (conclavelaw07_anchored.calls k2  true _ A49.out).mono ?_); rintro e w58 ⟨rfl, hb⟩; have n0_ := Aside0.mk (Kd.R_below (by (with_reducible repeat (first | apply Kd.R_alloc | apply Kd.R_drewN | apply Kd.R_drew)); exact HO_10.out) hb); have n1_ := Aside0.mk (blk_below (g := gb780) (o := .cells #[.slice A1_0 l1_0.length c1_0, .slice A1_1 l1_1.length c1_1] 23 (0, 0)) (by (with_reducible repeat (first | refine blk_drewN ?_ _ | refine blk_drew ?_ | refine blk_alloc ?_ _)); exact BK780.out) hb); have n2_ := Aside0.mk (below_step (by repeat (first | (with_reducible first | exact HB.out | apply below_alloc | apply pw_below_drewN | apply below_drew1 | refine below_set ?_ GE780.out) | exact HB.out)) hb); clear HO_10; clear BK780; clear HB; have HO_10 := n0_; have BK780 := n1_; have HB := n2_; clear n0_ n1_ n2_; (try clear hb); (try clear hb2); (try clear hk); (try clear hi))); try go_wp2_with (first | (go_at_call 19; (with_reducible refine (conclavelaw07_anchored.calls k2  true _ A49.out).mono ?_); rintro e w58 ⟨rfl, hb⟩; have n0_ := Aside0.mk (Kd.R_below (by (with_reducible repeat (first | apply Kd.R_alloc | apply Kd.R_drewN | apply Kd.R_drew)); exact HO_10.out) hb); have n1_ := Aside0.mk (blk_below (g := gb780) (o := .cells #[.slice A1_0 l1_0.length c1_0, .slice A1_1 l1_1.length c1_1] 23 (0, 0)) (by (with_reducible repeat (first | refine blk_drewN ?_ _ | refine blk_drew ?_ | refine blk_alloc ?_ _)); exact BK780.out) hb); have n2_ := Aside0.mk (below_step (by repeat (first | (with_reducible first | exact HB.out | apply below_alloc | apply pw_below_drewN | apply below_drew1 | refine below_set ?_ GE780.out) | exact HB.out)) hb); clear HO_10; clear BK780; clear HB; have HO_10 := n0_; have BK780 := n1_; have HB := n2_; clear n0_ n1_ n2_; (try clear hb); (try clear hb2); (try clear hk); (try clear hi))))
                              go_ret
                              exact ⟨by first | rfl | (simp [errW_none, errW_some] <;> rfl) | (simp [*, errW_none, errW_some] <;> rfl), by repeat (first | (with_reducible first | exact HB.out | apply below_alloc | apply pw_below_drewN | apply below_drew1 | refine below_set ?_ GE780.out) | exact HB.out)⟩
                          · rw [if_neg c55] at H
                            have c55b0 : ((t781.length : Int) == (l1_0.length : Int)) = false := beq_eq_false_iff_ne.mpr c55
                            have c55b1 : ((t781.length : Int) != (l1_0.length : Int)) = true := bne_iff_ne.mpr c55
                            have c55b2 : (t781.length == l1_0.length) = false := by first | simpa using c55 | (simp at c55 ⊢; omega)
                            exact absurd (Option.some.inj H) (by rw [hrt]; decide)
                        · rw [if_neg c54] at H
                          have c54b0 : (t793 == t785) = false := beq_eq_false_iff_ne.mpr c54
                          have c54b1 : (t793 != t785) = true := bne_iff_ne.mpr c54
                          exact absurd (Option.some.inj H) (by rw [hrt]; decide)
                      · rw [if_neg c53] at H
                        have c53b0 : (t794 == 0) = false := beq_eq_false_iff_ne.mpr c53
                        have c53b1 : (t794 != 0) = true := bne_iff_ne.mpr c53
                        exact absurd (Option.some.inj H) (by rw [hrt]; decide)
                    · rw [if_neg c52] at H
                      have c52b0 : (t786 == 0) = false := beq_eq_false_iff_ne.mpr c52
                      have c52b1 : (t786 != 0) = true := bne_iff_ne.mpr c52
                      exact absurd (Option.some.inj H) (by rw [hrt]; decide)
                  · rw [if_neg c51] at H
                    have c51b0 : (t782 == 0) = false := beq_eq_false_iff_ne.mpr c51
                    have c51b1 : (t782 != 0) = true := bne_iff_ne.mpr c51
                    exact absurd (Option.some.inj H) (by rw [hrt]; decide)
                · replace c50 := Bool.eq_false_iff.mpr c50
                  subst c50
                  have H1 : (some false) = some r := by rw [if_neg (show ¬ (false = true) by decide)] at H; exact H
                  clear H
                  have H := H1
                  clear H1
                  exact absurd (Option.some.inj H) (by rw [hrt]; decide)
        · rw [if_neg c25] at H
          have c25b0 : ((t781.length : Int) == (l1_0.length : Int)) = false := beq_eq_false_iff_ne.mpr c25
          have c25b1 : ((t781.length : Int) != (l1_0.length : Int)) = true := bne_iff_ne.mpr c25
          have c25b2 : (t781.length == l1_0.length) = false := by first | simpa using c25 | (simp at c25 ⊢; omega)
          exact absurd (Option.some.inj H) (by rw [hrt]; decide)
end Go.Proofs.Ytdafolenaibccaa.P
end
section
namespace Go.Proofs.Ytdafolenaibccaa.P
open Go.RowKit Go.Proofs.YtdafolenaibccaaW.PrintWords Go.Proofs.YtdafolenaibccaaW.PrintLast Go.Proofs.YtdafolenaibccaaW.PrintMore
attribute [local go_sem] max2_int min2_int max_two min_two max_three min_three max_four min_four
set_option linter.unusedVariables false
set_option linter.unusedSimpArgs false
def poly_Degree.f (k : Nat) (l0 : List Int) : Option (Int) := (poly_trimN.f k l0).bind fun t655 => (if 0 ≤ t655 then (if t655 ≤ (l0.length : Int) then (some (wrap64 (((l0.take (t655 : Int).toNat).length : Int) - 1))) else (none)) else (none))
def interp_Fits.f (k : Nat) (a0 : Int) (l1 : List Int) (l2 : List Int) (a3 : Int) : Option (Bool × Int) := if a3 < (-1) then (some (false, 2)) else ((interp_Through.f k a0 l1 l2).bind fun bt657 => (if bt657.2 = 0 then ((poly_Degree.f k bt657.1).bind fun t661 => (some (decide (t661 ≤ a3), bt657.2))) else (some (false, bt657.2))))
def conclaveref07_Fits.f (k : Nat) (a0 : Int) (l1 : List Int) (l2 : List Int) (a3 : Int) : Option (Bool × Int) := if a3 < (-1) then (some (false, 2)) else ((conclaveref07_Through.f k a0 l1 l2).bind fun bt662 => (if bt662.2 = 0 then (some (decide ((wrap64 ((bt662.1.length : Int) - 1)) ≤ a3), bt662.2)) else (some (false, bt662.2))))
end Go.Proofs.Ytdafolenaibccaa.P
end
section
namespace Go.Proofs.Ytdafolenaibccaa.P
open Go.RowKit Go.Proofs.YtdafolenaibccaaW.PrintWords Go.Proofs.YtdafolenaibccaaW.PrintLast Go.Proofs.YtdafolenaibccaaW.PrintMore
attribute [local go_sem] max2_int min2_int max_two min_two max_three min_three max_four min_four
set_option linter.unusedVariables false
set_option linter.unusedSimpArgs false
def conclavelaw07_InterpThrough.f (k : Nat) (a0 : Int) (l1_0 : List Int) (l1_1 : List Int) (a2 : Int) : Option (Bool) := (interp_Through.f k a0 l1_0 l1_1).bind fun bt667 => ((conclaveref07_Through.f k a0 l1_0 l1_1).bind fun bt671 => ((interp_Fits.f k a0 l1_0 l1_1 a2).bind fun bt675 => ((conclaveref07_Fits.f k a0 l1_0 l1_1 a2).bind fun bt677 => ((conclaveref01_Same.f k bt667.1 bt671.1).bind fun t679 => (if t679 = true then (if bt667.2 = bt671.2 then (if (bt675.1 == bt677.1) = true then (if bt675.2 = bt677.2 then ((conclavelaw07_anchored.f k).bind fun t680 => (some t680)) else (some false)) else (some false)) else (some false)) else (some false))))))
end Go.Proofs.Ytdafolenaibccaa.P
end
section
namespace Go.Proofs.Ytdafolenaibccaa.P
open Go.RowKit Go.Proofs.YtdafolenaibccaaW.PrintWords Go.Proofs.YtdafolenaibccaaW.PrintLast Go.Proofs.YtdafolenaibccaaW.PrintMore
attribute [local go_sem] max2_int min2_int max_two min_two max_three min_three max_four min_four
set_option linter.unusedVariables false
set_option linter.unusedSimpArgs false
mutual
def conclaveref07_Basis.l0 : Nat → List Int → Int → Int → List Int → List Int → Int → Option (List Int × Int)
  | 0, _, _, _, _, _, _ => none
  | k + 1, x1, x2, x9, x10, x12, x13 => if x13 < (x1.length : Int) then (if 0 ≤ x13 then (if x13 < (x10.length : Int) then (conclaveref07_Basis.l1 k x1 x2 x9 x10 x12 x13 (rd x10 x13) 0) else (none)) else (none)) else (some (x12, 0))
def conclaveref07_Basis.l1 : Nat → List Int → Int → Int → List Int → List Int → Int → Int → Int → Option (List Int × Int)
  | 0, _, _, _, _, _, _, _, _ => none
  | k + 1, x1, x2, x9, x10, x12, x13, x14, x15 => if x15 < (x1.length : Int) then (if x15 = x13 then (conclaveref07_Basis.l1 k x1 x2 x9 x10 x12 x13 x14 (wrap64 (x15 + 1))) else (if 0 ≤ x15 then ((conclaveref01_Less.f x9 x2 (rd x1 x15)).bind fun t416 => ((conclaveref01_Times.f k x9 x14 t416).bind fun t417 => (conclaveref07_Basis.l1 k x1 x2 x9 x10 x12 x13 t417 (wrap64 (x15 + 1))))) else (none))) else (if x12.length < 17592186044416 then (conclaveref07_Basis.l0 k x1 x2 x9 x10 (x12 ++ [x14]) (wrap64 (x13 + 1))) else (none))
end
def conclaveref07_Basis.f (k : Nat) (a0 : Int) (l1 : List Int) (a2 : Int) : Option (List Int × Int) := (conclaveref07_Bad.f k a0 l1 (([a2] : List Int)) (l1.length : Int)).bind fun t405 => (if t405 = 0 then ((conclaveref01_P.f a0).bind fun t406 => ((conclaveref07_Weights.f k a0 l1).bind fun bt407 => (conclaveref07_Basis.l0 k l1 a2 t406 bt407.1 ([] : List Int) 0))) else (some (([] : List Int), t405)))
end Go.Proofs.Ytdafolenaibccaa.P
end
section
namespace Go.Proofs.Ytdafolenaibccaa.P
open Go.RowKit Go.Proofs.YtdafolenaibccaaW.PrintWords Go.Proofs.YtdafolenaibccaaW.PrintLast Go.Proofs.YtdafolenaibccaaW.PrintMore
attribute [local go_sem] max2_int min2_int max_two min_two max_three min_three max_four min_four
set_option linter.unusedVariables false
set_option linter.unusedSimpArgs false
def conclavelaw07_InterpValues.f (k : Nat) (a0 : Int) (l1_0 : List Int) (l1_1 : List Int) (a2 : Int) : Option (Bool) := (interp_Value.f k a0 l1_0 l1_1 a2).bind fun bt421 => ((conclaveref07_Value.f k a0 l1_0 l1_1 a2).bind fun bt423 => ((interp_Weights.f k a0 l1_0).bind fun bt425 => ((conclaveref07_Weights.f k a0 l1_0).bind fun bt429 => ((interp_Basis.f k a0 l1_0 a2).bind fun bt433 => ((conclaveref07_Basis.f k a0 l1_0 a2).bind fun bt437 => (if bt421.1 = bt423.1 then (if bt421.2 = bt423.2 then ((conclaveref01_Same.f k bt425.1 bt429.1).bind fun t441 => (if t441 = true then (if bt425.2 = bt429.2 then ((conclaveref01_Same.f k bt433.1 bt437.1).bind fun t442 => (if t442 = true then (some (bt433.2 == bt437.2)) else (some false))) else (some false)) else (some false))) else (some false)) else (some false)))))))
end Go.Proofs.Ytdafolenaibccaa.P
end
