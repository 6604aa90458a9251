import Derived.Test.YtjgojlnnphkefaaSPointsApart16
import Derived.Test.YtjgojlnnphkefaaSPointsApart17
section
namespace Go.Proofs.Ytjgojlnnphkefaa.P
open Go.RowKit Go.Proofs.YtjgojlnnphkefaaW.PrintWords Go.Proofs.YtjgojlnnphkefaaW.PrintLast Go.Proofs.YtjgojlnnphkefaaW.PrintMore
attribute [local go_sem] max2_int min2_int max_two min_two max_three min_three max_four min_four
set_option linter.unusedVariables false
set_option linter.unusedSimpArgs false
def points_Rows.f (k : Nat) (a0_0 : Int) (a0_1 : Int) (a0_2 : Int) (a0_3 : Int) (a0_4 : Int) (a0_5 : Int) (a0_6 : Int) (a0_7 : Int) : Option ((List (List Int)) × Int) := (points_Data.f k a0_0 a0_1 a0_2 a0_3 a0_4 a0_5 a0_6 a0_7).bind fun bt842 => (if bt842.2 = 0 then ((points_Pads.f k a0_0 a0_1 a0_2 a0_3 a0_4 a0_5 a0_6 a0_7).bind fun bt846 => (if bt846.2 = 0 then ((points_Workers.f k a0_0 a0_1 a0_2 a0_3 a0_4 a0_5 a0_6 a0_7).bind fun bt850 => (if bt850.2 = 0 then (if bt842.1.length + bt846.1.length < 17592186044416 then ((interp_Change.f k a0_0 (bt842.1 ++ bt846.1) bt850.1).bind fun bt857 => (some (bt857.1, bt857.2))) else (none)) else (some (([] : List (List Int)), bt850.2)))) else (some (([] : List (List Int)), bt846.2)))) else (some (([] : List (List Int)), bt842.2)))
def points_Rows.T10 : Bool × List (List Nat × List Nat) := (true, [([], []), ([0], [0]), ([], []), ([], []), ([2, 3], [2, 3]), ([], []), ([1, 4, 5, 4], [1, 4, 5]), ([6], [6]), ([6], [6]), ([7, 6, 0, 1, 2, 3, 4, 5, 6, 7, 8], [7]), ([8, 9, 0, 1, 2, 3, 4, 5, 6, 7, 8, 9], [8])])
def points_Rows.B10 : List Nat := [0, 1, 0, 0, 12, 0, 63, 127, 127, 511, 1023]
theorem points_Rows.tab10 : rtab .any (opsOf Try.f41 10) = points_Rows.T10 := by kernel_rfl
theorem points_Rows.bits10 : waitsOk points_Rows.T10.2 points_Rows.B10 = true := by kernel_rfl
set_option maxHeartbeats 8000000 in
set_option maxRecDepth 100000 in
theorem points_Rows.calls (k : Nat) (a0_0 : Int) (a0_1 : Int) (a0_2 : Int) (a0_3 : Int) (a0_4 : Int) (a0_5 : Int) (a0_6 : Int) (a0_7 : Int) (r1 : List (List Int)) (r2 : Int) (w : World) (h : points_Rows.f k a0_0 a0_1 a0_2 a0_3 a0_4 a0_5 a0_6 a0_7 = some (r1, r2)) :
    Calls Try.prog 41 #[.agg #[.int .u8 a0_0, .int .i64 a0_1, .int .i64 a0_2, .int .i64 a0_3, .int .i64 a0_4, .int .i64 a0_5, .int .i64 a0_6, .int .i64 a0_7]] w fun e w' => ∃ v0_ : Value, e = .returned (.tuple #[v0_, .int .i64 r2]) ∧ Kd.S (Kd.slice 65 (Kd.int .u64)) 64 w' w.heap.size (fun _ => True) v0_ r1 ∧ Below w.heap.size w w' := by
  have hu40 := Try.underlying40
  have HB := Aside0.mk (Below.refl w.heap.size w)
  have H : ((points_Data.f k a0_0 a0_1 a0_2 a0_3 a0_4 a0_5 a0_6 a0_7).bind fun bt842 => (if bt842.2 = 0 then ((points_Pads.f k a0_0 a0_1 a0_2 a0_3 a0_4 a0_5 a0_6 a0_7).bind fun bt846 => (if bt846.2 = 0 then ((points_Workers.f k a0_0 a0_1 a0_2 a0_3 a0_4 a0_5 a0_6 a0_7).bind fun bt850 => (if bt850.2 = 0 then (if bt842.1.length + bt846.1.length < 17592186044416 then ((interp_Change.f k a0_0 (bt842.1 ++ bt846.1) bt850.1).bind fun bt857 => (some (bt857.1, bt857.2))) else (none)) else (some (([] : List (List Int)), bt850.2)))) else (some (([] : List (List Int)), bt846.2)))) else (some (([] : List (List Int)), bt842.2)))) = some (r1, r2) := h
  clear h
  replace H := Option.bind_eq_some_iff.mp H
  obtain ⟨⟨t842, t845⟩, A20, H⟩ := H
  replace H : (if t845 = 0 then ((points_Pads.f k a0_0 a0_1 a0_2 a0_3 a0_4 a0_5 a0_6 a0_7).bind fun bt846 => (if bt846.2 = 0 then ((points_Workers.f k a0_0 a0_1 a0_2 a0_3 a0_4 a0_5 a0_6 a0_7).bind fun bt850 => (if bt850.2 = 0 then (if t842.length + bt846.1.length < 17592186044416 then ((interp_Change.f k a0_0 (t842 ++ bt846.1) bt850.1).bind fun bt857 => (some (bt857.1, bt857.2))) else (none)) else (some (([] : List (List Int)), bt850.2)))) else (some (([] : List (List Int)), bt846.2)))) else (some (([] : List (List Int)), t845))) = some (r1, r2) := H
  have A2 := Aside0.mk A20
  clear A20
  by_cases c3 : t845 = 0
  · rw [if_pos c3] at H
    have c3b0 : (t845 == 0) = true := beq_iff_eq.mpr c3
    have c3b1 : (t845 != 0) = false := bne_eq_false_iff_eq.mpr c3
    clear c3
    replace H := Option.bind_eq_some_iff.mp H
    obtain ⟨⟨t846, t849⟩, A40, H⟩ := H
    replace H : (if t849 = 0 then ((points_Workers.f k a0_0 a0_1 a0_2 a0_3 a0_4 a0_5 a0_6 a0_7).bind fun bt850 => (if bt850.2 = 0 then (if t842.length + t846.length < 17592186044416 then ((interp_Change.f k a0_0 (t842 ++ t846) bt850.1).bind fun bt857 => (some (bt857.1, bt857.2))) else (none)) else (some (([] : List (List Int)), bt850.2)))) else (some (([] : List (List Int)), t849))) = some (r1, r2) := H
    have A4 := Aside0.mk A40
    clear A40
    by_cases c5 : t849 = 0
    · rw [if_pos c5] at H
      have c5b0 : (t849 == 0) = true := beq_iff_eq.mpr c5
      have c5b1 : (t849 != 0) = false := bne_eq_false_iff_eq.mpr c5
      clear c5
      replace H := Option.bind_eq_some_iff.mp H
      obtain ⟨⟨t850, t853⟩, A60, H⟩ := H
      replace H : (if t853 = 0 then (if t842.length + t846.length < 17592186044416 then ((interp_Change.f k a0_0 (t842 ++ t846) t850).bind fun bt857 => (some (bt857.1, bt857.2))) else (none)) else (some (([] : List (List Int)), t853))) = some (r1, r2) := H
      have A6 := Aside0.mk A60
      clear A60
      by_cases c7 : t853 = 0
      · rw [if_pos c7] at H
        have c7b0 : (t853 == 0) = true := beq_iff_eq.mpr c7
        have c7b1 : (t853 != 0) = false := bne_eq_false_iff_eq.mpr c7
        clear c7
        by_cases c8 : t842.length + t846.length < 17592186044416
        · rw [if_pos c8] at H
          have LMc8 := Aside0.mk c8
          clear c8
          obtain ⟨y854, hy854⟩ : ∃ y_ : List Int, y_ = (t842 ++ t846) := ⟨_, rfl⟩
          replace H : ((interp_Change.f k a0_0 y854 t850).bind fun bt857 => (some (bt857.1, bt857.2))) = some (r1, r2) := by first | (rw [hy854]; with_reducible exact H) | (have H2_ := (Option.bind_some _ _).symm.trans H; rw [hy854]; with_reducible exact H2_) | (have H2_ := (Option.bind_some _ _).symm.trans H; with_reducible exact H2_) | with_reducible exact H | (rw [hy854]; exact H) | exact H
          have Ny854 := Aside0.mk hy854
          clear hy854
          replace H := Option.bind_eq_some_iff.mp H
          obtain ⟨⟨t857, t858⟩, A90, H⟩ := H
          replace H : (some (t857, t858)) = some (r1, r2) := H
          have A9 := Aside0.mk A90
          clear A90
          simp only [Option.some.injEq, Prod.mk.injEq] at H
          obtain ⟨rfl, rfl⟩ := H
          go_enter Try.func41, Try.ntmps41
          try go_wp2_with (first | ((with_reducible refine gate_dst (N := 1) rfl ?_); refine box_event ?hg (N := 1) ?hd (cs := #[.int .u8 a0_0, .int .i64 a0_1, .int .i64 a0_2, .int .i64 a0_3, .int .i64 a0_4, .int .i64 a0_5, .int .i64 a0_6, .int .i64 a0_7]) (t := 40) ?hr ?_; (case hd => rfl); (case hg => rfl); (case hr => first | (go_simp; done) | (go_simp; rfl)); intro gb841 hg w10 hbox hb; have n0_ := Aside0.mk (below_step (by repeat (first | (with_reducible first | exact HB.out | apply below_alloc | apply pw_below_drewN | apply below_drew1) | exact HB.out)) hb); have n1_ := Aside0.mk (hbox); have n2_ := Aside0.mk ((by rw [hg]; exact (below_size (by repeat (first | (with_reducible first | exact HB.out | apply below_alloc | apply pw_below_drewN | apply below_drew1) | exact HB.out))) : w.heap.size ≤ gb841)); have n3_ := Aside0.mk ((by rw [hg]; exact (below_size (by repeat (first | (with_reducible first | exact HB.out | apply below_alloc | apply pw_below_drewN | apply below_drew1) | exact HB.out))) : w.heap.size ≤ gb841)); clear HB; have HB := n0_; have BK841 := n1_; have GW841 := n2_; have GE841 := n3_; clear n0_ n1_ n2_ n3_; clear hb hbox hg; have hcz11_0 : w10.cell? ⟨gb841, 0, none⟩ = some (.int .u8 a0_0) := (blk_cell BK841.out 0).trans rfl; have hcz11_1 : w10.cell? ⟨gb841, 1, none⟩ = some (.int .i64 a0_1) := (blk_cell BK841.out 1).trans rfl; have hcz11_2 : w10.cell? ⟨gb841, 2, none⟩ = some (.int .i64 a0_2) := (blk_cell BK841.out 2).trans rfl; have hcz11_3 : w10.cell? ⟨gb841, 3, none⟩ = some (.int .i64 a0_3) := (blk_cell BK841.out 3).trans rfl; have hcz11_4 : w10.cell? ⟨gb841, 4, none⟩ = some (.int .i64 a0_4) := (blk_cell BK841.out 4).trans rfl; have hcz11_5 : w10.cell? ⟨gb841, 5, none⟩ = some (.int .i64 a0_5) := (blk_cell BK841.out 5).trans rfl; have hcz11_6 : w10.cell? ⟨gb841, 6, none⟩ = some (.int .i64 a0_6) := (blk_cell BK841.out 6).trans rfl; have hcz11_7 : w10.cell? ⟨gb841, 7, none⟩ = some (.int .i64 a0_7) := (blk_cell BK841.out 7).trans rfl; have hfz11_0 := blk_frozen BK841.out 0; have hfz11_1 := blk_frozen BK841.out 1; have hfz11_2 := blk_frozen BK841.out 2; have hfz11_3 := blk_frozen BK841.out 3; have hfz11_4 := blk_frozen BK841.out 4; have hfz11_5 := blk_frozen BK841.out 5; have hfz11_6 := blk_frozen BK841.out 6; have hfz11_7 := blk_frozen BK841.out 7) | ((with_reducible refine gate_callee (f := 45) rfl ?_); refine goesL_ (some 10) rfl rfl Try.func45 (by kernel_rfl) rfl #[.agg #[.int .u8 a0_0, .int .i64 a0_1, .int .i64 a0_2, .int .i64 a0_3, .int .i64 a0_4, .int .i64 a0_5, .int .i64 a0_6, .int .i64 a0_7]] rfl (by (try simp only [List.map_toArray, List.map_cons, List.map_nil]); first | done | rfl | (simp only [List.length_drop, List.length_take]; rfl)) ?_; (with_reducible refine (points_Data.calls k a0_0 a0_1 a0_2 a0_3 a0_4 a0_5 a0_6 a0_7 t842 t845 _ A2.out).mono ?_); rintro e w12 ⟨v843, rfl, ho0, hb⟩; refine ⟨_, rfl, ?_⟩; have n0_ := Aside0.mk (Kd.R_lower ho0 (below_size (by repeat (first | (with_reducible first | exact HB.out | apply below_alloc | apply pw_below_drewN | apply below_drew1 | refine below_set ?_ GE841.out) | exact HB.out)))); have n1_ := Aside0.mk (blk_below (g := gb841) (o := .cells #[.int .u8 a0_0, .int .i64 a0_1, .int .i64 a0_2, .int .i64 a0_3, .int .i64 a0_4, .int .i64 a0_5, .int .i64 a0_6, .int .i64 a0_7] 40 (0, 0)) (by (with_reducible repeat (first | refine blk_drewN ?_ _ | refine blk_drew ?_ | refine blk_alloc ?_ _)); exact BK841.out) hb); have n2_ := Aside0.mk (below_step (by repeat (first | (with_reducible first | exact HB.out | apply below_alloc | apply pw_below_drewN | apply below_drew1 | refine below_set ?_ GE841.out) | exact HB.out)) hb); clear BK841; clear HB; have HO844 := n0_; have BK841 := n1_; have HB := n2_; clear n0_ n1_ n2_; (try clear hb); (try clear hb2); (try clear hk); (try clear hi); (try clear ho0); have hcz13_0 : w12.cell? ⟨gb841, 0, none⟩ = some (.int .u8 a0_0) := (blk_cell BK841.out 0).trans rfl; have hcz13_1 : w12.cell? ⟨gb841, 1, none⟩ = some (.int .i64 a0_1) := (blk_cell BK841.out 1).trans rfl; have hcz13_2 : w12.cell? ⟨gb841, 2, none⟩ = some (.int .i64 a0_2) := (blk_cell BK841.out 2).trans rfl; have hcz13_3 : w12.cell? ⟨gb841, 3, none⟩ = some (.int .i64 a0_3) := (blk_cell BK841.out 3).trans rfl; have hcz13_4 : w12.cell? ⟨gb841, 4, none⟩ = some (.int .i64 a0_4) := (blk_cell BK841.out 4).trans rfl; have hcz13_5 : w12.cell? ⟨gb841, 5, none⟩ = some (.int .i64 a0_5) := (blk_cell BK841.out 5).trans rfl; have hcz13_6 : w12.cell? ⟨gb841, 6, none⟩ = some (.int .i64 a0_6) := (blk_cell BK841.out 6).trans rfl; have hcz13_7 : w12.cell? ⟨gb841, 7, none⟩ = some (.int .i64 a0_7) := (blk_cell BK841.out 7).trans rfl; have hfz13_0 := blk_frozen BK841.out 0; have hfz13_1 := blk_frozen BK841.out 1; have hfz13_2 := blk_frozen BK841.out 2; have hfz13_3 := blk_frozen BK841.out 3; have hfz13_4 := blk_frozen BK841.out 4; have hfz13_5 := blk_frozen BK841.out 5; have hfz13_6 := blk_frozen BK841.out 6; have hfz13_7 := blk_frozen BK841.out 7) | ((with_reducible refine gate_callee (f := 47) rfl ?_); refine goesL_ (some 18) rfl rfl Try.func47 (by kernel_rfl) rfl #[.agg #[.int .u8 a0_0, .int .i64 a0_1, .int .i64 a0_2, .int .i64 a0_3, .int .i64 a0_4, .int .i64 a0_5, .int .i64 a0_6, .int .i64 a0_7]] rfl (by (try simp only [List.map_toArray, List.map_cons, List.map_nil]); first | done | rfl | (simp only [List.length_drop, List.length_take]; rfl)) ?_; (with_reducible refine (points_Pads.calls k a0_0 a0_1 a0_2 a0_3 a0_4 a0_5 a0_6 a0_7 t846 t849 _ A4.out).mono ?_); rintro e w14 ⟨v847, rfl, ho0, hb⟩; refine ⟨_, rfl, ?_⟩; have n0_ := Aside0.mk (Kd.R_elder' (by (with_reducible repeat (first | apply Kd.R_alloc | apply Kd.R_drewN | apply Kd.R_drew)); exact HO844.out) (Kd.R_base ho0) hb); have n1_ := Aside0.mk (Kd.R_lower (Kd.R_new' ho0 (Kd.R_lt (by (with_reducible repeat (first | apply Kd.R_alloc | apply Kd.R_drewN | apply Kd.R_drew)); exact HO844.out))) (below_size (by repeat (first | (with_reducible first | exact HB.out | apply below_alloc | apply pw_below_drewN | apply below_drew1 | refine below_set ?_ GE841.out) | exact HB.out)))); have n2_ := Aside0.mk (blk_below (g := gb841) (o := .cells #[.int .u8 a0_0, .int .i64 a0_1, .int .i64 a0_2, .int .i64 a0_3, .int .i64 a0_4, .int .i64 a0_5, .int .i64 a0_6, .int .i64 a0_7] 40 (0, 0)) (by (with_reducible repeat (first | refine blk_drewN ?_ _ | refine blk_drew ?_ | refine blk_alloc ?_ _)); exact BK841.out) hb); have n3_ := Aside0.mk (below_step (by repeat (first | (with_reducible first | exact HB.out | apply below_alloc | apply pw_below_drewN | apply below_drew1 | refine below_set ?_ GE841.out) | exact HB.out)) hb); clear HO844; clear BK841; clear HB; have HO844 := n0_; have HO848 := n1_; have BK841 := n2_; have HB := n3_; clear n0_ n1_ n2_ n3_; (try clear hb); (try clear hb2); (try clear hk); (try clear hi); (try clear ho0); have hcz15_0 : w14.cell? ⟨gb841, 0, none⟩ = some (.int .u8 a0_0) := (blk_cell BK841.out 0).trans rfl; have hcz15_1 : w14.cell? ⟨gb841, 1, none⟩ = some (.int .i64 a0_1) := (blk_cell BK841.out 1).trans rfl; have hcz15_2 : w14.cell? ⟨gb841, 2, none⟩ = some (.int .i64 a0_2) := (blk_cell BK841.out 2).trans rfl; have hcz15_3 : w14.cell? ⟨gb841, 3, none⟩ = some (.int .i64 a0_3) := (blk_cell BK841.out 3).trans rfl; have hcz15_4 : w14.cell? ⟨gb841, 4, none⟩ = some (.int .i64 a0_4) := (blk_cell BK841.out 4).trans rfl; have hcz15_5 : w14.cell? ⟨gb841, 5, none⟩ = some (.int .i64 a0_5) := (blk_cell BK841.out 5).trans rfl; have hcz15_6 : w14.cell? ⟨gb841, 6, none⟩ = some (.int .i64 a0_6) := (blk_cell BK841.out 6).trans rfl; have hcz15_7 : w14.cell? ⟨gb841, 7, none⟩ = some (.int .i64 a0_7) := (blk_cell BK841.out 7).trans rfl; have hfz15_0 := blk_frozen BK841.out 0; have hfz15_1 := blk_frozen BK841.out 1; have hfz15_2 := blk_frozen BK841.out 2; have hfz15_3 := blk_frozen BK841.out 3; have hfz15_4 := blk_frozen BK841.out 4; have hfz15_5 := blk_frozen BK841.out 5; have hfz15_6 := blk_frozen BK841.out 6; have hfz15_7 := blk_frozen BK841.out 7) | ((with_reducible refine gate_callee (f := 48) rfl ?_); refine goesL_ (some 26) rfl rfl Try.func48 (by kernel_rfl) rfl #[.agg #[.int .u8 a0_0, .int .i64 a0_1, .int .i64 a0_2, .int .i64 a0_3, .int .i64 a0_4, .int .i64 a0_5, .int .i64 a0_6, .int .i64 a0_7]] rfl (by (try simp only [List.map_toArray, List.map_cons, List.map_nil]); first | done | rfl | (simp only [List.length_drop, List.length_take]; rfl)) ?_; (with_reducible refine (points_Workers.calls k a0_0 a0_1 a0_2 a0_3 a0_4 a0_5 a0_6 a0_7 t850 t853 _ A6.out).mono ?_); rintro e w16 ⟨v851, rfl, ho0, hb⟩; refine ⟨_, rfl, ?_⟩; have n0_ := Aside0.mk (Kd.R_elder' (by (with_reducible repeat (first | apply Kd.R_alloc | apply Kd.R_drewN | apply Kd.R_drew)); exact HO844.out) (Kd.R_base ho0) hb); have n1_ := Aside0.mk (Kd.R_elder' (by (with_reducible repeat (first | apply Kd.R_alloc | apply Kd.R_drewN | apply Kd.R_drew)); exact HO848.out) (Kd.R_base ho0) hb); have n2_ := Aside0.mk (Kd.R_lower (Kd.R_new' (Kd.R_new' ho0 (Kd.R_lt (by (with_reducible repeat (first | apply Kd.R_alloc | apply Kd.R_drewN | apply Kd.R_drew)); exact HO844.out))) (Kd.R_lt (by (with_reducible repeat (first | apply Kd.R_alloc | apply Kd.R_drewN | apply Kd.R_drew)); exact HO848.out))) (below_size (by repeat (first | (with_reducible first | exact HB.out | apply below_alloc | apply pw_below_drewN | apply below_drew1 | refine below_set ?_ GE841.out) | exact HB.out)))); have n3_ := Aside0.mk (blk_below (g := gb841) (o := .cells #[.int .u8 a0_0, .int .i64 a0_1, .int .i64 a0_2, .int .i64 a0_3, .int .i64 a0_4, .int .i64 a0_5, .int .i64 a0_6, .int .i64 a0_7] 40 (0, 0)) (by (with_reducible repeat (first | refine blk_drewN ?_ _ | refine blk_drew ?_ | refine blk_alloc ?_ _)); exact BK841.out) hb); have n4_ := Aside0.mk (below_step (by repeat (first | (with_reducible first | exact HB.out | apply below_alloc | apply pw_below_drewN | apply below_drew1 | refine below_set ?_ GE841.out) | exact HB.out)) hb); clear HO844; clear HO848; clear BK841; clear HB; have HO844 := n0_; have HO848 := n1_; have HO852 := n2_; have BK841 := n3_; have HB := n4_; clear n0_ n1_ n2_ n3_ n4_; (try clear hb); (try clear hb2); (try clear hk); (try clear hi); (try clear ho0)))
          have n0_ := Aside0.mk (Kd.R_drew HO844.out)
          have n1_ := Aside0.mk (Kd.R_drew HO848.out)
          have n2_ := Aside0.mk (Kd.R_drew HO852.out)
          have n3_ := Aside0.mk (blk_drew BK841.out)
          have n4_ := Aside0.mk (below_drew1 HB.out)
          clear HO844
          clear HO848
          clear HO852
          clear BK841
          clear HB
          have HO844 := n0_
          have HO848 := n1_
          have HO852 := n2_
          have BK841 := n3_
          have HB := n4_
          clear n0_ n1_ n2_ n3_ n4_
          obtain ⟨Ao19, co19, eo19⟩ := Kd.R_slice HO848.out
          (first | subst eo19 | (injection eo19 with f1_ f2_ f3_; have f4_ := f1_.symm; have f5_ := f3_.symm; clear f1_ f2_ f3_; subst f4_; subst f5_))
          refine start_ (n := 11) (S := fun w' => w'.cell? ⟨gb841, 0, none⟩ = some (.int .u8 a0_0) ∧ w'.cell? ⟨gb841, 1, none⟩ = some (.int .i64 a0_1) ∧ w'.cell? ⟨gb841, 2, none⟩ = some (.int .i64 a0_2) ∧ w'.cell? ⟨gb841, 3, none⟩ = some (.int .i64 a0_3) ∧ w'.cell? ⟨gb841, 4, none⟩ = some (.int .i64 a0_4) ∧ w'.cell? ⟨gb841, 5, none⟩ = some (.int .i64 a0_5) ∧ w'.cell? ⟨gb841, 6, none⟩ = some (.int .i64 a0_6) ∧ w'.cell? ⟨gb841, 7, none⟩ = some (.int .i64 a0_7)) (ds := []) #[false, false, false, false, false, false, false, false, false, false, false] (by kernel_rfl) rfl rfl ⟨(blk_cell BK841.out 0).trans rfl, (blk_cell BK841.out 1).trans rfl, (blk_cell BK841.out 2).trans rfl, (blk_cell BK841.out 3).trans rfl, (blk_cell BK841.out 4).trans rfl, (blk_cell BK841.out 5).trans rfl, (blk_cell BK841.out 6).trans rfl, (blk_cell BK841.out 7).trans rfl⟩ (fun hHeld => ?_); refine with_tabW points_Rows.tab10 points_Rows.bits10 (fun HT_ HW_ => ?_)
          generalize w16.drew = w17 at HO844 HO848 HO852 BK841 HB hHeld ⊢
          refine pure_ (i := 0) (N := some 32) (v := ?_) (a' := ?_) #[true, false, false, false, false, false, false, false, false, false, false] rfl rfl (any_of HT_.out (by kernel_rfl)) (fun _ _ _ h => h) (Or.inl ⟨by rfl, ?_⟩) ?_ ?_
          rotate_left
          · intro w'
            go_simp
            with_reducible rfl
          rotate_left
          · simp only [Act.put, List.setIfInBounds_toArray, List.set_cons_zero, List.set_cons_succ, i64_w, i32_w]
            rfl
          refine pure_ (i := 2) (N := some 34) (v := ?_) (a' := ?_) #[true, false, true, false, false, false, false, false, false, false, false] rfl rfl (any_of HT_.out (by kernel_rfl)) (fun _ _ _ h => h) (Or.inl ⟨by rfl, ?_⟩) ?_ ?_
          rotate_left
          · intro w'
            go_simp
            with_reducible rfl
          rotate_left
          · simp only [Act.put, List.setIfInBounds_toArray, List.set_cons_zero, List.set_cons_succ, i64_w, i32_w]
            rfl
          refine pure_ (i := 3) (N := some 35) (v := ?_) (a' := ?_) #[true, false, true, true, false, false, false, false, false, false, false] rfl rfl (any_of HT_.out (by kernel_rfl)) (fun _ _ _ h => h) (Or.inl ⟨by rfl, ?_⟩) ?_ ?_
          rotate_left
          · intro w'
            go_simp
            with_reducible rfl
          rotate_left
          · simp only [Act.put, List.setIfInBounds_toArray, List.set_cons_zero, List.set_cons_succ, i64_w, i32_w]
            rfl
          refine pure_ (i := 5) (N := some 37) (v := ?_) (a' := ?_) #[true, false, true, true, false, true, false, false, false, false, false] rfl rfl (any_of HT_.out (by kernel_rfl)) (fun _ _ _ h => h) (Or.inl ⟨by rfl, ?_⟩) ?_ ?_
          rotate_left
          · intro w'
            go_simp
            with_reducible rfl
          rotate_left
          · simp only [Act.put, List.setIfInBounds_toArray, List.set_cons_zero, List.set_cons_succ, i64_w, i32_w]
            rfl
          refine take_ (i := 1) (N := some 33) (v := ?_) (a' := ?_) #[true, true, true, true, false, true, false, false, false, false, false] rfl rfl (take_ofW HT_.out HW_.out (by kernel_rfl)) (fun _ _ _ h => h) (Or.inl ⟨by rfl, ?_⟩) hHeld ?_ ?_
          rotate_left
          · rintro w' ⟨s0, s1, s2, s3, s4, s5, s6, s7⟩
            go_simp
            with_reducible rfl
          rotate_left
          · simp only [Act.put, List.setIfInBounds_toArray, List.set_cons_zero, List.set_cons_succ, i64_w, i32_w]
            rfl
          refine one_ (i := 4) (N := some 36) #[true, true, true, true, true, true, false, false, false, false, false] rfl rfl (one_of HT_.out (by kernel_rfl)) (by decide) (fun K hK => ?_)
          refine Kd.R_append_rows_step (Kd.int .u64) (w0 := w) w.heap.size (by rfl) (.tmp 34) (.tmp 35) 64 65 (.int .u64 0) 8 rfl Try.underlying64 info65 rfl (by decide) (by omega) v843 t842 t846 _ _ _ (fun k_ => some k_ ≠ (.slice Ao19 t846.length co19 : Value).ownBlock ∧ some k_ ≠ (v851 : Value).ownBlock) (fun _ => False) rfl rfl ?aO ?aR (fun _ _ h => h) (fun _ h => h.elim) ?aF ?aB ?aS ?aL ?_
          (case aR => repeat (first | exact (Kd.R_reads' HO848.out).2.2 | (with_reducible refine Kd.C_alloc ?_ _) | (with_reducible refine Kd.C_drewN ?_ _) | (with_reducible refine Kd.C_drew ?_)))
          (case aB => exact (by repeat (first | (with_reducible first | exact HB.out | apply below_alloc | apply pw_below_drewN | apply below_drew1 | refine below_set ?_ GE841.out) | exact HB.out)))
          (case aF => exact (fun k_ hk => ⟨Kd.fresh' (Kd.R_lt (by (with_reducible repeat (first | apply Kd.R_alloc | apply Kd.R_drewN | apply Kd.R_drew)); exact HO848.out)) k_ hk, Kd.fresh' (Kd.R_lt (by (with_reducible repeat (first | apply Kd.R_alloc | apply Kd.R_drewN | apply Kd.R_drew)); exact HO852.out)) k_ hk⟩))
          (case aO => exact (by (with_reducible repeat (first | apply Kd.R_alloc | apply Kd.R_drewN | apply Kd.R_drew)); exact Kd.R_mono HO844.out (fun _ hk => ⟨hk.1.2, hk.2⟩)))
          (case aS => exact (below_size (by repeat (first | (with_reducible first | exact HB.out | apply below_alloc | apply pw_below_drewN | apply below_drew1 | refine below_set ?_ GE841.out) | exact HB.out))))
          (case aL => have := LMc8.out; omega)
          intro v855 w18 ho hb hg hat
          rw [← Ny854.out] at ho
          have n0_ := Aside0.mk (blk_grown (g := gb841) (o := .cells #[.int .u8 a0_0, .int .i64 a0_1, .int .i64 a0_2, .int .i64 a0_3, .int .i64 a0_4, .int .i64 a0_5, .int .i64 a0_6, .int .i64 a0_7] 40 (0, 0)) (by (with_reducible repeat (first | refine blk_drewN ?_ _ | refine blk_drew ?_ | refine blk_alloc ?_ _)); exact BK841.out) hg (Kd.R_ne HO844.out BK841.out (by decide)))
          have n1_ := Aside0.mk (Kd.R_after (ok := (fun k_ => some k_ ≠ (v851 : Value).ownBlock)) (by (with_reducible repeat (first | apply Kd.R_alloc | apply Kd.R_drewN | apply Kd.R_drew)); exact Kd.R_mono HO848.out (fun _ hk => ⟨hk.2, hk.1.2⟩)) hg hat)
          have n2_ := Aside0.mk (Kd.R_after (ok := (fun k_ => some k_ ≠ (.slice Ao19 t846.length co19 : Value).ownBlock)) (by (with_reducible repeat (first | apply Kd.R_alloc | apply Kd.R_drewN | apply Kd.R_drew)); exact Kd.R_mono HO852.out (fun _ hk => ⟨hk.2, hk.1.2⟩)) hg hat)
          have n3_ := Aside0.mk (hb)
          have n4_ := Aside0.mk (ho)
          clear BK841
          clear HO848
          clear HO852
          clear HB
          clear HO844
          have BK841 := n0_
          have HO848 := n1_
          have HO852 := n2_
          have HB := n3_
          have HO856 := n4_
          clear n0_ n1_ n2_ n3_ n4_
          clear ho hb hg hat
          obtain ⟨Ao20, co20, eo20⟩ := Kd.R_slice HO856.out
          (first | subst eo20 | (injection eo20 with f1_ f2_ f3_; have f4_ := f1_.symm; have f5_ := f3_.symm; clear f1_ f2_ f3_; subst f4_; subst f5_))
          obtain ⟨Ao21, co21, eo21⟩ := Kd.R_slice HO852.out
          (first | subst eo21 | (injection eo21 with f1_ f2_ f3_; have f4_ := f1_.symm; have f5_ := f3_.symm; clear f1_ f2_ f3_; subst f4_; subst f5_))
          refine hK.out _ _ ⟨(blk_cell BK841.out 0).trans rfl, (blk_cell BK841.out 1).trans rfl, (blk_cell BK841.out 2).trans rfl, (blk_cell BK841.out 3).trans rfl, (blk_cell BK841.out 4).trans rfl, (blk_cell BK841.out 5).trans rfl, (blk_cell BK841.out 6).trans rfl, (blk_cell BK841.out 7).trans rfl⟩ (fun hHeld => ?_)
          clear hK K
          refine norm_ (a' := ?_) ?_ ?_
          rotate_left
          · show Act.put _ (some 36) _ = _
            simp only [Act.put, List.setIfInBounds_toArray, List.set_cons_zero, List.set_cons_succ, i64_w, i32_w]
            rfl
          refine one_ (i := 6) (N := some 38) #[true, true, true, true, true, true, true, false, false, false, false] rfl rfl (one_of HT_.out (by kernel_rfl)) (by decide) (fun K hK => ?_)
          refine goes_ Try.func67 (by kernel_rfl) rfl #[.int .u8 a0_0, .slice Ao20 y854.length co20, .slice Ao21 t850.length co21] (by rfl) rfl rfl (by (try simp only [List.map_toArray, List.map_cons, List.map_nil]); first | done | rfl | (simp only [List.length_drop, List.length_take]; rfl)) ?_
          with_reducible refine (interp_Change.calls k a0_0 _ _ y854 _ _ t850 t857 t858 _ ?side1 ?side2 ?side3 ?side4 A9.out).mono ?_
          (case side1 => repeat (first | exact (Kd.R_reads' HO856.out).2.2 | (with_reducible refine Kd.C_alloc ?_ _) | (with_reducible refine Kd.C_drewN ?_ _) | (with_reducible refine Kd.C_drew ?_)))
          (case side2 => exact (Kd.R_reads' HO856.out).2.1)
          (case side3 => repeat (first | exact (Kd.R_reads' HO852.out).2.2 | (with_reducible refine Kd.C_alloc ?_ _) | (with_reducible refine Kd.C_drewN ?_ _) | (with_reducible refine Kd.C_drew ?_)))
          (case side4 => exact (Kd.R_reads' HO852.out).2.1)
          rintro e w22 ⟨v859, rfl, ho0, hb⟩
          refine ⟨_, rfl, ?_⟩
          have n0_ := Aside0.mk (Kd.R_below (by (with_reducible repeat (first | apply Kd.R_alloc | apply Kd.R_drewN | apply Kd.R_drew)); exact HO848.out) hb)
          have n1_ := Aside0.mk (Kd.R_below (by (with_reducible repeat (first | apply Kd.R_alloc | apply Kd.R_drewN | apply Kd.R_drew)); exact HO852.out) hb)
          have n2_ := Aside0.mk (Kd.R_below (by (with_reducible repeat (first | apply Kd.R_alloc | apply Kd.R_drewN | apply Kd.R_drew)); exact HO856.out) hb)
          have n3_ := Aside0.mk (Kd.S_lower (Kd.S_new' (Kd.S_new' (Kd.S_new' ho0 (Kd.R_lt (by (with_reducible repeat (first | apply Kd.R_alloc | apply Kd.R_drewN | apply Kd.R_drew)); exact HO848.out))) (Kd.R_lt (by (with_reducible repeat (first | apply Kd.R_alloc | apply Kd.R_drewN | apply Kd.R_drew)); exact HO852.out))) (Kd.R_lt (by (with_reducible repeat (first | apply Kd.R_alloc | apply Kd.R_drewN | apply Kd.R_drew)); exact HO856.out))) (below_size (by repeat (first | (with_reducible first | exact HB.out | apply below_alloc | apply pw_below_drewN | apply below_drew1 | refine below_set ?_ GE841.out) | exact HB.out))))
          have n4_ := Aside0.mk (blk_below (g := gb841) (o := .cells #[.int .u8 a0_0, .int .i64 a0_1, .int .i64 a0_2, .int .i64 a0_3, .int .i64 a0_4, .int .i64 a0_5, .int .i64 a0_6, .int .i64 a0_7] 40 (0, 0)) (by (with_reducible repeat (first | refine blk_drewN ?_ _ | refine blk_drew ?_ | refine blk_alloc ?_ _)); exact BK841.out) hb)
          have n5_ := Aside0.mk (below_step (by repeat (first | (with_reducible first | exact HB.out | apply below_alloc | apply pw_below_drewN | apply below_drew1 | refine below_set ?_ GE841.out) | exact HB.out)) hb)
          clear HO848
          clear HO852
          clear HO856
          clear BK841
          clear HB
          have HO848 := n0_
          have HO852 := n1_
          have HO856 := n2_
          have HO860 := n3_
          have BK841 := n4_
          have HB := n5_
          clear n0_ n1_ n2_ n3_ n4_ n5_
          (try clear hb)
          (try clear hb2)
          (try clear hk)
          (try clear hi)
          (try clear ho0)
          refine hK.out _ _ ⟨(blk_cell BK841.out 0).trans rfl, (blk_cell BK841.out 1).trans rfl, (blk_cell BK841.out 2).trans rfl, (blk_cell BK841.out 3).trans rfl, (blk_cell BK841.out 4).trans rfl, (blk_cell BK841.out 5).trans rfl, (blk_cell BK841.out 6).trans rfl, (blk_cell BK841.out 7).trans rfl⟩ (fun hHeld => ?_)
          clear hK K
          refine norm_ (a' := ?_) ?_ ?_
          rotate_left
          · show Act.put _ (some 38) _ = _
            simp only [Act.put, List.setIfInBounds_toArray, List.set_cons_zero, List.set_cons_succ, i64_w, i32_w]
            rfl
          refine pure_ (i := 7) (N := some 39) (v := ?_) (a' := ?_) #[true, true, true, true, true, true, true, true, false, false, false] rfl rfl (any_of HT_.out (by kernel_rfl)) (fun _ _ _ h => h) (Or.inl ⟨by rfl, ?_⟩) ?_ ?_
          rotate_left
          · intro w'
            go_simp
            with_reducible rfl
          rotate_left
          · simp only [Act.put, List.setIfInBounds_toArray, List.set_cons_zero, List.set_cons_succ, i64_w, i32_w]
            rfl
          refine pure_ (i := 8) (N := some 40) (v := ?_) (a' := ?_) #[true, true, true, true, true, true, true, true, true, false, false] rfl rfl (any_of HT_.out (by kernel_rfl)) (fun _ _ _ h => h) (Or.inl ⟨by rfl, ?_⟩) ?_ ?_
          rotate_left
          · intro w'
            go_simp
            with_reducible rfl
          rotate_left
          · simp only [Act.put, List.setIfInBounds_toArray, List.set_cons_zero, List.set_cons_succ, i64_w, i32_w]
            rfl
          refine pure_ (i := 9) (N := some 2) (v := ?_) (a' := ?_) #[true, true, true, true, true, true, true, true, true, true, false] rfl rfl (any_of HT_.out (by kernel_rfl)) (fun _ _ _ h => h) (Or.inl ⟨by rfl, ?_⟩) ?_ ?_
          rotate_left
          · intro w'
            go_simp
            with_reducible rfl
          rotate_left
          · simp only [Act.put, List.setIfInBounds_toArray, List.set_cons_zero, List.set_cons_succ, i64_w, i32_w]
            rfl
          refine pure_ (i := 10) (N := some 3) (v := ?_) (a' := ?_) #[true, true, true, true, true, true, true, true, true, true, true] rfl rfl (any_of HT_.out (by kernel_rfl)) (fun _ _ _ h => h) (Or.inl ⟨by rfl, ?_⟩) ?_ ?_
          rotate_left
          · intro w'
            go_simp
            with_reducible rfl
          rotate_left
          · simp only [Act.put, List.setIfInBounds_toArray, List.set_cons_zero, List.set_cons_succ, i64_w, i32_w]
            rfl
          refine done_ (done_of HT_.out (by kernel_rfl)) ?_
          try go_wp2
          go_ret2
          exact ⟨_, by first | rfl | (simp [errW_none, errW_some] <;> rfl) | (simp [*, errW_none, errW_some] <;> rfl), by (with_reducible repeat (first | apply Kd.S_alloc | apply Kd.S_drewN | apply Kd.S_drew)); exact Kd.S_mono HO860.out (fun _ hk => trivial), by repeat (first | (with_reducible first | exact HB.out | apply below_alloc | apply pw_below_drewN | apply below_drew1 | refine below_set ?_ GE841.out) | exact HB.out)⟩
        · rw [if_neg c8] at H
          exact absurd H (by simp)
      · rw [if_neg c7] at H
        have c7b0 : (t853 == 0) = false := beq_eq_false_iff_ne.mpr c7
        have c7b1 : (t853 != 0) = true := bne_iff_ne.mpr c7
        simp only [Option.some.injEq, Prod.mk.injEq] at H
        obtain ⟨rfl, rfl⟩ := H
        go_enter Try.func41, Try.ntmps41
        go_wp2_with (first | ((with_reducible refine gate_dst (N := 1) rfl ?_); refine box_event ?hg (N := 1) ?hd (cs := #[.int .u8 a0_0, .int .i64 a0_1, .int .i64 a0_2, .int .i64 a0_3, .int .i64 a0_4, .int .i64 a0_5, .int .i64 a0_6, .int .i64 a0_7]) (t := 40) ?hr ?_; (case hd => rfl); (case hg => rfl); (case hr => first | (go_simp; done) | (go_simp; rfl)); intro gb841 hg w23 hbox hb; have n0_ := Aside0.mk (below_step (by repeat (first | (with_reducible first | exact HB.out | apply below_alloc | apply pw_below_drewN | apply below_drew1) | exact HB.out)) hb); have n1_ := Aside0.mk (hbox); have n2_ := Aside0.mk ((by rw [hg]; exact (below_size (by repeat (first | (with_reducible first | exact HB.out | apply below_alloc | apply pw_below_drewN | apply below_drew1) | exact HB.out))) : w.heap.size ≤ gb841)); have n3_ := Aside0.mk ((by rw [hg]; exact (below_size (by repeat (first | (with_reducible first | exact HB.out | apply below_alloc | apply pw_below_drewN | apply below_drew1) | exact HB.out))) : w.heap.size ≤ gb841)); clear HB; have HB := n0_; have BK841 := n1_; have GW841 := n2_; have GE841 := n3_; clear n0_ n1_ n2_ n3_; clear hb hbox hg; have hcz24_0 : w23.cell? ⟨gb841, 0, none⟩ = some (.int .u8 a0_0) := (blk_cell BK841.out 0).trans rfl; have hcz24_1 : w23.cell? ⟨gb841, 1, none⟩ = some (.int .i64 a0_1) := (blk_cell BK841.out 1).trans rfl; have hcz24_2 : w23.cell? ⟨gb841, 2, none⟩ = some (.int .i64 a0_2) := (blk_cell BK841.out 2).trans rfl; have hcz24_3 : w23.cell? ⟨gb841, 3, none⟩ = some (.int .i64 a0_3) := (blk_cell BK841.out 3).trans rfl; have hcz24_4 : w23.cell? ⟨gb841, 4, none⟩ = some (.int .i64 a0_4) := (blk_cell BK841.out 4).trans rfl; have hcz24_5 : w23.cell? ⟨gb841, 5, none⟩ = some (.int .i64 a0_5) := (blk_cell BK841.out 5).trans rfl; have hcz24_6 : w23.cell? ⟨gb841, 6, none⟩ = some (.int .i64 a0_6) := (blk_cell BK841.out 6).trans rfl; have hcz24_7 : w23.cell? ⟨gb841, 7, none⟩ = some (.int .i64 a0_7) := (blk_cell BK841.out 7).trans rfl; have hfz24_0 := blk_frozen BK841.out 0; have hfz24_1 := blk_frozen BK841.out 1; have hfz24_2 := blk_frozen BK841.out 2; have hfz24_3 := blk_frozen BK841.out 3; have hfz24_4 := blk_frozen BK841.out 4; have hfz24_5 := blk_frozen BK841.out 5; have hfz24_6 := blk_frozen BK841.out 6; have hfz24_7 := blk_frozen BK841.out 7) | ((with_reducible refine gate_callee (f := 45) rfl ?_); refine goesL_ (some 10) rfl rfl Try.func45 (by kernel_rfl) rfl #[.agg #[.int .u8 a0_0, .int .i64 a0_1, .int .i64 a0_2, .int .i64 a0_3, .int .i64 a0_4, .int .i64 a0_5, .int .i64 a0_6, .int .i64 a0_7]] rfl (by (try simp only [List.map_toArray, List.map_cons, List.map_nil]); first | done | rfl | (simp only [List.length_drop, List.length_take]; rfl)) ?_; (with_reducible refine (points_Data.calls k a0_0 a0_1 a0_2 a0_3 a0_4 a0_5 a0_6 a0_7 t842 t845 _ A2.out).mono ?_); rintro e w25 ⟨v843, rfl, ho0, hb⟩; refine ⟨_, rfl, ?_⟩; have n0_ := Aside0.mk (Kd.R_lower ho0 (below_size (by repeat (first | (with_reducible first | exact HB.out | apply below_alloc | apply pw_below_drewN | apply below_drew1 | refine below_set ?_ GE841.out) | exact HB.out)))); have n1_ := Aside0.mk (blk_below (g := gb841) (o := .cells #[.int .u8 a0_0, .int .i64 a0_1, .int .i64 a0_2, .int .i64 a0_3, .int .i64 a0_4, .int .i64 a0_5, .int .i64 a0_6, .int .i64 a0_7] 40 (0, 0)) (by (with_reducible repeat (first | refine blk_drewN ?_ _ | refine blk_drew ?_ | refine blk_alloc ?_ _)); exact BK841.out) hb); have n2_ := Aside0.mk (below_step (by repeat (first | (with_reducible first | exact HB.out | apply below_alloc | apply pw_below_drewN | apply below_drew1 | refine below_set ?_ GE841.out) | exact HB.out)) hb); clear BK841; clear HB; have HO844 := n0_; have BK841 := n1_; have HB := n2_; clear n0_ n1_ n2_; (try clear hb); (try clear hb2); (try clear hk); (try clear hi); (try clear ho0); have hcz26_0 : w25.cell? ⟨gb841, 0, none⟩ = some (.int .u8 a0_0) := (blk_cell BK841.out 0).trans rfl; have hcz26_1 : w25.cell? ⟨gb841, 1, none⟩ = some (.int .i64 a0_1) := (blk_cell BK841.out 1).trans rfl; have hcz26_2 : w25.cell? ⟨gb841, 2, none⟩ = some (.int .i64 a0_2) := (blk_cell BK841.out 2).trans rfl; have hcz26_3 : w25.cell? ⟨gb841, 3, none⟩ = some (.int .i64 a0_3) := (blk_cell BK841.out 3).trans rfl; have hcz26_4 : w25.cell? ⟨gb841, 4, none⟩ = some (.int .i64 a0_4) := (blk_cell BK841.out 4).trans rfl; have hcz26_5 : w25.cell? ⟨gb841, 5, none⟩ = some (.int .i64 a0_5) := (blk_cell BK841.out 5).trans rfl; have hcz26_6 : w25.cell? ⟨gb841, 6, none⟩ = some (.int .i64 a0_6) := (blk_cell BK841.out 6).trans rfl; have hcz26_7 : w25.cell? ⟨gb841, 7, none⟩ = some (.int .i64 a0_7) := (blk_cell BK841.out 7).trans rfl; have hfz26_0 := blk_frozen BK841.out 0; have hfz26_1 := blk_frozen BK841.out 1; have hfz26_2 := blk_frozen BK841.out 2; have hfz26_3 := blk_frozen BK841.out 3; have hfz26_4 := blk_frozen BK841.out 4; have hfz26_5 := blk_frozen BK841.out 5; have hfz26_6 := blk_frozen BK841.out 6; have hfz26_7 := blk_frozen BK841.out 7) | ((with_reducible refine gate_callee (f := 47) rfl ?_); refine goesL_ (some 18) rfl rfl Try.func47 (by kernel_rfl) rfl #[.agg #[.int .u8 a0_0, .int .i64 a0_1, .int .i64 a0_2, .int .i64 a0_3, .int .i64 a0_4, .int .i64 a0_5, .int .i64 a0_6, .int .i64 a0_7]] rfl (by (try simp only [List.map_toArray, List.map_cons, List.map_nil]); first | done | rfl | (simp only [List.length_drop, List.length_take]; rfl)) ?_; (with_reducible refine (points_Pads.calls k a0_0 a0_1 a0_2 a0_3 a0_4 a0_5 a0_6 a0_7 t846 t849 _ A4.out).mono ?_); rintro e w27 ⟨v847, rfl, ho0, hb⟩; refine ⟨_, rfl, ?_⟩; have n0_ := Aside0.mk (Kd.R_elder' (by (with_reducible repeat (first | apply Kd.R_alloc | apply Kd.R_drewN | apply Kd.R_drew)); exact HO844.out) (Kd.R_base ho0) hb); have n1_ := Aside0.mk (Kd.R_lower (Kd.R_new' ho0 (Kd.R_lt (by (with_reducible repeat (first | apply Kd.R_alloc | apply Kd.R_drewN | apply Kd.R_drew)); exact HO844.out))) (below_size (by repeat (first | (with_reducible first | exact HB.out | apply below_alloc | apply pw_below_drewN | apply below_drew1 | refine below_set ?_ GE841.out) | exact HB.out)))); have n2_ := Aside0.mk (blk_below (g := gb841) (o := .cells #[.int .u8 a0_0, .int .i64 a0_1, .int .i64 a0_2, .int .i64 a0_3, .int .i64 a0_4, .int .i64 a0_5, .int .i64 a0_6, .int .i64 a0_7] 40 (0, 0)) (by (with_reducible repeat (first | refine blk_drewN ?_ _ | refine blk_drew ?_ | refine blk_alloc ?_ _)); exact BK841.out) hb); have n3_ := Aside0.mk (below_step (by repeat (first | (with_reducible first | exact HB.out | apply below_alloc | apply pw_below_drewN | apply below_drew1 | refine below_set ?_ GE841.out) | exact HB.out)) hb); clear HO844; clear BK841; clear HB; have HO844 := n0_; have HO848 := n1_; have BK841 := n2_; have HB := n3_; clear n0_ n1_ n2_ n3_; (try clear hb); (try clear hb2); (try clear hk); (try clear hi); (try clear ho0); have hcz28_0 : w27.cell? ⟨gb841, 0, none⟩ = some (.int .u8 a0_0) := (blk_cell BK841.out 0).trans rfl; have hcz28_1 : w27.cell? ⟨gb841, 1, none⟩ = some (.int .i64 a0_1) := (blk_cell BK841.out 1).trans rfl; have hcz28_2 : w27.cell? ⟨gb841, 2, none⟩ = some (.int .i64 a0_2) := (blk_cell BK841.out 2).trans rfl; have hcz28_3 : w27.cell? ⟨gb841, 3, none⟩ = some (.int .i64 a0_3) := (blk_cell BK841.out 3).trans rfl; have hcz28_4 : w27.cell? ⟨gb841, 4, none⟩ = some (.int .i64 a0_4) := (blk_cell BK841.out 4).trans rfl; have hcz28_5 : w27.cell? ⟨gb841, 5, none⟩ = some (.int .i64 a0_5) := (blk_cell BK841.out 5).trans rfl; have hcz28_6 : w27.cell? ⟨gb841, 6, none⟩ = some (.int .i64 a0_6) := (blk_cell BK841.out 6).trans rfl; have hcz28_7 : w27.cell? ⟨gb841, 7, none⟩ = some (.int .i64 a0_7) := (blk_cell BK841.out 7).trans rfl; have hfz28_0 := blk_frozen BK841.out 0; have hfz28_1 := blk_frozen BK841.out 1; have hfz28_2 := blk_frozen BK841.out 2; have hfz28_3 := blk_frozen BK841.out 3; have hfz28_4 := blk_frozen BK841.out 4; have hfz28_5 := blk_frozen BK841.out 5; have hfz28_6 := blk_frozen BK841.out 6; have hfz28_7 := blk_frozen BK841.out 7) | ((with_reducible refine gate_callee (f := 48) rfl ?_); refine goesL_ (some 26) rfl rfl Try.func48 (by kernel_rfl) rfl #[.agg #[.int .u8 a0_0, .int .i64 a0_1, .int .i64 a0_2, .int .i64 a0_3, .int .i64 a0_4, .int .i64 a0_5, .int .i64 a0_6, .int .i64 a0_7]] rfl (by (try simp only [List.map_toArray, List.map_cons, List.map_nil]); first | done | rfl | (simp only [List.length_drop, List.length_take]; rfl)) ?_; (with_reducible refine (points_Workers.calls k a0_0 a0_1 a0_2 a0_3 a0_4 a0_5 a0_6 a0_7 t850 t853 _ A6.out).mono ?_); rintro e w29 ⟨v851, rfl, ho0, hb⟩; refine ⟨_, rfl, ?_⟩; have n0_ := Aside0.mk (Kd.R_elder' (by (with_reducible repeat (first | apply Kd.R_alloc | apply Kd.R_drewN | apply Kd.R_drew)); exact HO844.out) (Kd.R_base ho0) hb); have n1_ := Aside0.mk (Kd.R_elder' (by (with_reducible repeat (first | apply Kd.R_alloc | apply Kd.R_drewN | apply Kd.R_drew)); exact HO848.out) (Kd.R_base ho0) hb); have n2_ := Aside0.mk (Kd.R_lower (Kd.R_new' (Kd.R_new' ho0 (Kd.R_lt (by (with_reducible repeat (first | apply Kd.R_alloc | apply Kd.R_drewN | apply Kd.R_drew)); exact HO844.out))) (Kd.R_lt (by (with_reducible repeat (first | apply Kd.R_alloc | apply Kd.R_drewN | apply Kd.R_drew)); exact HO848.out))) (below_size (by repeat (first | (with_reducible first | exact HB.out | apply below_alloc | apply pw_below_drewN | apply below_drew1 | refine below_set ?_ GE841.out) | exact HB.out)))); have n3_ := Aside0.mk (blk_below (g := gb841) (o := .cells #[.int .u8 a0_0, .int .i64 a0_1, .int .i64 a0_2, .int .i64 a0_3, .int .i64 a0_4, .int .i64 a0_5, .int .i64 a0_6, .int .i64 a0_7] 40 (0, 0)) (by (with_reducible repeat (first | refine blk_drewN ?_ _ | refine blk_drew ?_ | refine blk_alloc ?_ _)); exact BK841.out) hb); have n4_ := Aside0.mk (below_step (by repeat (first | (with_reducible first | exact HB.out | apply below_alloc | apply pw_below_drewN | apply below_drew1 | refine below_set ?_ GE841.out) | exact HB.out)) hb); clear HO844; clear HO848; clear BK841; clear HB; have HO844 := n0_; have HO848 := n1_; have HO852 := n2_; have BK841 := n3_; have HB := n4_; clear n0_ n1_ n2_ n3_ n4_; (try clear hb); (try clear hb2); (try clear hk); (try clear hi); (try clear ho0)))
        go_ret2
        exact ⟨_, by first | rfl | (simp [errW_none, errW_some] <;> rfl) | (simp [*, errW_none, errW_some] <;> rfl), by first | exact Kd.S_nil _ _ _ _ _ | exact Kd.N_nil _ _ _ _ _ | exact Kd.V_nil _ _ _ _ _ | exact Kd.Q_nil _ _ _ _ _ | exact Kd.R_nil _ _ _ _ _, by repeat (first | (with_reducible first | exact HB.out | apply below_alloc | apply pw_below_drewN | apply below_drew1 | refine below_set ?_ GE841.out) | exact HB.out)⟩
    · rw [if_neg c5] at H
      have c5b0 : (t849 == 0) = false := beq_eq_false_iff_ne.mpr c5
      have c5b1 : (t849 != 0) = true := bne_iff_ne.mpr c5
      simp only [Option.some.injEq, Prod.mk.injEq] at H
      obtain ⟨rfl, rfl⟩ := H
      go_enter Try.func41, Try.ntmps41
      go_wp2_with (first | ((with_reducible refine gate_dst (N := 1) rfl ?_); refine box_event ?hg (N := 1) ?hd (cs := #[.int .u8 a0_0, .int .i64 a0_1, .int .i64 a0_2, .int .i64 a0_3, .int .i64 a0_4, .int .i64 a0_5, .int .i64 a0_6, .int .i64 a0_7]) (t := 40) ?hr ?_; (case hd => rfl); (case hg => rfl); (case hr => first | (go_simp; done) | (go_simp; rfl)); intro gb841 hg w30 hbox hb; have n0_ := Aside0.mk (below_step (by repeat (first | (with_reducible first | exact HB.out | apply below_alloc | apply pw_below_drewN | apply below_drew1) | exact HB.out)) hb); have n1_ := Aside0.mk (hbox); have n2_ := Aside0.mk ((by rw [hg]; exact (below_size (by repeat (first | (with_reducible first | exact HB.out | apply below_alloc | apply pw_below_drewN | apply below_drew1) | exact HB.out))) : w.heap.size ≤ gb841)); have n3_ := Aside0.mk ((by rw [hg]; exact (below_size (by repeat (first | (with_reducible first | exact HB.out | apply below_alloc | apply pw_below_drewN | apply below_drew1) | exact HB.out))) : w.heap.size ≤ gb841)); clear HB; have HB := n0_; have BK841 := n1_; have GW841 := n2_; have GE841 := n3_; clear n0_ n1_ n2_ n3_; clear hb hbox hg; have hcz31_0 : w30.cell? ⟨gb841, 0, none⟩ = some (.int .u8 a0_0) := (blk_cell BK841.out 0).trans rfl; have hcz31_1 : w30.cell? ⟨gb841, 1, none⟩ = some (.int .i64 a0_1) := (blk_cell BK841.out 1).trans rfl; have hcz31_2 : w30.cell? ⟨gb841, 2, none⟩ = some (.int .i64 a0_2) := (blk_cell BK841.out 2).trans rfl; have hcz31_3 : w30.cell? ⟨gb841, 3, none⟩ = some (.int .i64 a0_3) := (blk_cell BK841.out 3).trans rfl; have hcz31_4 : w30.cell? ⟨gb841, 4, none⟩ = some (.int .i64 a0_4) := (blk_cell BK841.out 4).trans rfl; have hcz31_5 : w30.cell? ⟨gb841, 5, none⟩ = some (.int .i64 a0_5) := (blk_cell BK841.out 5).trans rfl; have hcz31_6 : w30.cell? ⟨gb841, 6, none⟩ = some (.int .i64 a0_6) := (blk_cell BK841.out 6).trans rfl; have hcz31_7 : w30.cell? ⟨gb841, 7, none⟩ = some (.int .i64 a0_7) := (blk_cell BK841.out 7).trans rfl; have hfz31_0 := blk_frozen BK841.out 0; have hfz31_1 := blk_frozen BK841.out 1; have hfz31_2 := blk_frozen BK841.out 2; have hfz31_3 := blk_frozen BK841.out 3; have hfz31_4 := blk_frozen BK841.out 4; have hfz31_5 := blk_frozen BK841.out 5; have hfz31_6 := blk_frozen BK841.out 6; have hfz31_7 := blk_frozen BK841.out 7) | ((with_reducible refine gate_callee (f := 45) rfl ?_); refine goesL_ (some 10) rfl rfl Try.func45 (by kernel_rfl) rfl #[.agg #[.int .u8 a0_0, .int .i64 a0_1, .int .i64 a0_2, .int .i64 a0_3, .int .i64 a0_4, .int .i64 a0_5, .int .i64 a0_6, .int .i64 a0_7]] rfl (by (try simp only [List.map_toArray, List.map_cons, List.map_nil]); first | done | rfl | (simp only [List.length_drop, List.length_take]; rfl)) ?_; (with_reducible refine (points_Data.calls k a0_0 a0_1 a0_2 a0_3 a0_4 a0_5 a0_6 a0_7 t842 t845 _ A2.out).mono ?_); rintro e w32 ⟨v843, rfl, ho0, hb⟩; refine ⟨_, rfl, ?_⟩; have n0_ := Aside0.mk (Kd.R_lower ho0 (below_size (by repeat (first | (with_reducible first | exact HB.out | apply below_alloc | apply pw_below_drewN | apply below_drew1 | refine below_set ?_ GE841.out) | exact HB.out)))); have n1_ := Aside0.mk (blk_below (g := gb841) (o := .cells #[.int .u8 a0_0, .int .i64 a0_1, .int .i64 a0_2, .int .i64 a0_3, .int .i64 a0_4, .int .i64 a0_5, .int .i64 a0_6, .int .i64 a0_7] 40 (0, 0)) (by (with_reducible repeat (first | refine blk_drewN ?_ _ | refine blk_drew ?_ | refine blk_alloc ?_ _)); exact BK841.out) hb); have n2_ := Aside0.mk (below_step (by repeat (first | (with_reducible first | exact HB.out | apply below_alloc | apply pw_below_drewN | apply below_drew1 | refine below_set ?_ GE841.out) | exact HB.out)) hb); clear BK841; clear HB; have HO844 := n0_; have BK841 := n1_; have HB := n2_; clear n0_ n1_ n2_; (try clear hb); (try clear hb2); (try clear hk); (try clear hi); (try clear ho0); have hcz33_0 : w32.cell? ⟨gb841, 0, none⟩ = some (.int .u8 a0_0) := (blk_cell BK841.out 0).trans rfl; have hcz33_1 : w32.cell? ⟨gb841, 1, none⟩ = some (.int .i64 a0_1) := (blk_cell BK841.out 1).trans rfl; have hcz33_2 : w32.cell? ⟨gb841, 2, none⟩ = some (.int .i64 a0_2) := (blk_cell BK841.out 2).trans rfl; have hcz33_3 : w32.cell? ⟨gb841, 3, none⟩ = some (.int .i64 a0_3) := (blk_cell BK841.out 3).trans rfl; have hcz33_4 : w32.cell? ⟨gb841, 4, none⟩ = some (.int .i64 a0_4) := (blk_cell BK841.out 4).trans rfl; have hcz33_5 : w32.cell? ⟨gb841, 5, none⟩ = some (.int .i64 a0_5) := (blk_cell BK841.out 5).trans rfl; have hcz33_6 : w32.cell? ⟨gb841, 6, none⟩ = some (.int .i64 a0_6) := (blk_cell BK841.out 6).trans rfl; have hcz33_7 : w32.cell? ⟨gb841, 7, none⟩ = some (.int .i64 a0_7) := (blk_cell BK841.out 7).trans rfl; have hfz33_0 := blk_frozen BK841.out 0; have hfz33_1 := blk_frozen BK841.out 1; have hfz33_2 := blk_frozen BK841.out 2; have hfz33_3 := blk_frozen BK841.out 3; have hfz33_4 := blk_frozen BK841.out 4; have hfz33_5 := blk_frozen BK841.out 5; have hfz33_6 := blk_frozen BK841.out 6; have hfz33_7 := blk_frozen BK841.out 7) | ((with_reducible refine gate_callee (f := 47) rfl ?_); refine goesL_ (some 18) rfl rfl Try.func47 (by kernel_rfl) rfl #[.agg #[.int .u8 a0_0, .int .i64 a0_1, .int .i64 a0_2, .int .i64 a0_3, .int .i64 a0_4, .int .i64 a0_5, .int .i64 a0_6, .int .i64 a0_7]] rfl (by (try simp only [List.map_toArray, List.map_cons, List.map_nil]); first | done | rfl | (simp only [List.length_drop, List.length_take]; rfl)) ?_; (with_reducible refine (points_Pads.calls k a0_0 a0_1 a0_2 a0_3 a0_4 a0_5 a0_6 a0_7 t846 t849 _ A4.out).mono ?_); rintro e w34 ⟨v847, rfl, ho0, hb⟩; refine ⟨_, rfl, ?_⟩; have n0_ := Aside0.mk (Kd.R_elder' (by (with_reducible repeat (first | apply Kd.R_alloc | apply Kd.R_drewN | apply Kd.R_drew)); exact HO844.out) (Kd.R_base ho0) hb); have n1_ := Aside0.mk (Kd.R_lower (Kd.R_new' ho0 (Kd.R_lt (by (with_reducible repeat (first | apply Kd.R_alloc | apply Kd.R_drewN | apply Kd.R_drew)); exact HO844.out))) (below_size (by repeat (first | (with_reducible first | exact HB.out | apply below_alloc | apply pw_below_drewN | apply below_drew1 | refine below_set ?_ GE841.out) | exact HB.out)))); have n2_ := Aside0.mk (blk_below (g := gb841) (o := .cells #[.int .u8 a0_0, .int .i64 a0_1, .int .i64 a0_2, .int .i64 a0_3, .int .i64 a0_4, .int .i64 a0_5, .int .i64 a0_6, .int .i64 a0_7] 40 (0, 0)) (by (with_reducible repeat (first | refine blk_drewN ?_ _ | refine blk_drew ?_ | refine blk_alloc ?_ _)); exact BK841.out) hb); have n3_ := Aside0.mk (below_step (by repeat (first | (with_reducible first | exact HB.out | apply below_alloc | apply pw_below_drewN | apply below_drew1 | refine below_set ?_ GE841.out) | exact HB.out)) hb); clear HO844; clear BK841; clear HB; have HO844 := n0_; have HO848 := n1_; have BK841 := n2_; have HB := n3_; clear n0_ n1_ n2_ n3_; (try clear hb); (try clear hb2); (try clear hk); (try clear hi); (try clear ho0)))
      go_ret2
      exact ⟨_, by first | rfl | (simp [errW_none, errW_some] <;> rfl) | (simp [*, errW_none, errW_some] <;> rfl), by first | exact Kd.S_nil _ _ _ _ _ | exact Kd.N_nil _ _ _ _ _ | exact Kd.V_nil _ _ _ _ _ | exact Kd.Q_nil _ _ _ _ _ | exact Kd.R_nil _ _ _ _ _, by repeat (first | (with_reducible first | exact HB.out | apply below_alloc | apply pw_below_drewN | apply below_drew1 | refine below_set ?_ GE841.out) | exact HB.out)⟩
  · rw [if_neg c3] at H
    have c3b0 : (t845 == 0) = false := beq_eq_false_iff_ne.mpr c3
    have c3b1 : (t845 != 0) = true := bne_iff_ne.mpr c3
    simp only [Option.some.injEq, Prod.mk.injEq] at H
    obtain ⟨rfl, rfl⟩ := H
    go_enter Try.func41, Try.ntmps41
    go_wp2_with (first | ((with_reducible refine gate_dst (N := 1) rfl ?_); refine box_event ?hg (N := 1) ?hd (cs := #[.int .u8 a0_0, .int .i64 a0_1, .int .i64 a0_2, .int .i64 a0_3, .int .i64 a0_4, .int .i64 a0_5, .int .i64 a0_6, .int .i64 a0_7]) (t := 40) ?hr ?_; (case hd => rfl); (case hg => rfl); (case hr => first | (go_simp; done) | (go_simp; rfl)); intro gb841 hg w35 hbox hb; have n0_ := Aside0.mk (below_step (by repeat (first | (with_reducible first | exact HB.out | apply below_alloc | apply pw_below_drewN | apply below_drew1) | exact HB.out)) hb); have n1_ := Aside0.mk (hbox); have n2_ := Aside0.mk ((by rw [hg]; exact (below_size (by repeat (first | (with_reducible first | exact HB.out | apply below_alloc | apply pw_below_drewN | apply below_drew1) | exact HB.out))) : w.heap.size ≤ gb841)); have n3_ := Aside0.mk ((by rw [hg]; exact (below_size (by repeat (first | (with_reducible first | exact HB.out | apply below_alloc | apply pw_below_drewN | apply below_drew1) | exact HB.out))) : w.heap.size ≤ gb841)); clear HB; have HB := n0_; have BK841 := n1_; have GW841 := n2_; have GE841 := n3_; clear n0_ n1_ n2_ n3_; clear hb hbox hg; have hcz36_0 : w35.cell? ⟨gb841, 0, none⟩ = some (.int .u8 a0_0) := (blk_cell BK841.out 0).trans rfl; have hcz36_1 : w35.cell? ⟨gb841, 1, none⟩ = some (.int .i64 a0_1) := (blk_cell BK841.out 1).trans rfl; have hcz36_2 : w35.cell? ⟨gb841, 2, none⟩ = some (.int .i64 a0_2) := (blk_cell BK841.out 2).trans rfl; have hcz36_3 : w35.cell? ⟨gb841, 3, none⟩ = some (.int .i64 a0_3) := (blk_cell BK841.out 3).trans rfl; have hcz36_4 : w35.cell? ⟨gb841, 4, none⟩ = some (.int .i64 a0_4) := (blk_cell BK841.out 4).trans rfl; have hcz36_5 : w35.cell? ⟨gb841, 5, none⟩ = some (.int .i64 a0_5) := (blk_cell BK841.out 5).trans rfl; have hcz36_6 : w35.cell? ⟨gb841, 6, none⟩ = some (.int .i64 a0_6) := (blk_cell BK841.out 6).trans rfl; have hcz36_7 : w35.cell? ⟨gb841, 7, none⟩ = some (.int .i64 a0_7) := (blk_cell BK841.out 7).trans rfl; have hfz36_0 := blk_frozen BK841.out 0; have hfz36_1 := blk_frozen BK841.out 1; have hfz36_2 := blk_frozen BK841.out 2; have hfz36_3 := blk_frozen BK841.out 3; have hfz36_4 := blk_frozen BK841.out 4; have hfz36_5 := blk_frozen BK841.out 5; have hfz36_6 := blk_frozen BK841.out 6; have hfz36_7 := blk_frozen BK841.out 7) | ((with_reducible refine gate_callee (f := 45) rfl ?_); refine goesL_ (some 10) rfl rfl Try.func45 (by kernel_rfl) rfl #[.agg #[.int .u8 a0_0, .int .i64 a0_1, .int .i64 a0_2, .int .i64 a0_3, .int .i64 a0_4, .int .i64 a0_5, .int .i64 a0_6, .int .i64 a0_7]] rfl (by (try simp only [List.map_toArray, List.map_cons, List.map_nil]); first | done | rfl | (simp only [List.length_drop, List.length_take]; rfl)) ?_; (with_reducible refine (points_Data.calls k a0_0 a0_1 a0_2 a0_3 a0_4 a0_5 a0_6 a0_7 t842 t845 _ A2.out).mono ?_); rintro e w37 ⟨v843, rfl, ho0, hb⟩; refine ⟨_, rfl, ?_⟩; have n0_ := Aside0.mk (Kd.R_lower ho0 (below_size (by repeat (first | (with_reducible first | exact HB.out | apply below_alloc | apply pw_below_drewN | apply below_drew1 | refine below_set ?_ GE841.out) | exact HB.out)))); have n1_ := Aside0.mk (blk_below (g := gb841) (o := .cells #[.int .u8 a0_0, .int .i64 a0_1, .int .i64 a0_2, .int .i64 a0_3, .int .i64 a0_4, .int .i64 a0_5, .int .i64 a0_6, .int .i64 a0_7] 40 (0, 0)) (by (with_reducible repeat (first | refine blk_drewN ?_ _ | refine blk_drew ?_ | refine blk_alloc ?_ _)); exact BK841.out) hb); have n2_ := Aside0.mk (below_step (by repeat (first | (with_reducible first | exact HB.out | apply below_alloc | apply pw_below_drewN | apply below_drew1 | refine below_set ?_ GE841.out) | exact HB.out)) hb); clear BK841; clear HB; have HO844 := n0_; have BK841 := n1_; have HB := n2_; clear n0_ n1_ n2_; (try clear hb); (try clear hb2); (try clear hk); (try clear hi); (try clear ho0)))
    go_ret2
    exact ⟨_, by first | rfl | (simp [errW_none, errW_some] <;> rfl) | (simp [*, errW_none, errW_some] <;> rfl), by first | exact Kd.S_nil _ _ _ _ _ | exact Kd.N_nil _ _ _ _ _ | exact Kd.V_nil _ _ _ _ _ | exact Kd.Q_nil _ _ _ _ _ | exact Kd.R_nil _ _ _ _ _, by repeat (first | (with_reducible first | exact HB.out | apply below_alloc | apply pw_below_drewN | apply below_drew1 | refine below_set ?_ GE841.out) | exact HB.out)⟩
end Go.Proofs.Ytjgojlnnphkefaa.P
end
section
namespace Go.Proofs.Ytjgojlnnphkefaa.P
open Go.RowKit Go.Proofs.YtjgojlnnphkefaaW.PrintWords Go.Proofs.YtjgojlnnphkefaaW.PrintLast Go.Proofs.YtjgojlnnphkefaaW.PrintMore
attribute [local go_sem] max2_int min2_int max_two min_two max_three min_three max_four min_four
set_option linter.unusedVariables false
set_option linter.unusedSimpArgs false
end Go.Proofs.Ytjgojlnnphkefaa.P
end
section
namespace Go.Proofs.Ytjgojlnnphkefaa.P
open Go.RowKit Go.Proofs.YtjgojlnnphkefaaW.PrintWords Go.Proofs.YtjgojlnnphkefaaW.PrintLast Go.Proofs.YtjgojlnnphkefaaW.PrintMore
attribute [local go_sem] max2_int min2_int max_two min_two max_three min_three max_four min_four
set_option linter.unusedVariables false
set_option linter.unusedSimpArgs false
end Go.Proofs.Ytjgojlnnphkefaa.P
end
section
namespace Go.Proofs.Ytjgojlnnphkefaa.P
open Go.RowKit Go.Proofs.YtjgojlnnphkefaaW.PrintWords Go.Proofs.YtjgojlnnphkefaaW.PrintLast Go.Proofs.YtjgojlnnphkefaaW.PrintMore
attribute [local go_sem] max2_int min2_int max_two min_two max_three min_three max_four min_four
set_option linter.unusedVariables false
set_option linter.unusedSimpArgs false
end Go.Proofs.Ytjgojlnnphkefaa.P
end
section
namespace Go.Proofs.Ytjgojlnnphkefaa.P
open Go.RowKit Go.Proofs.YtjgojlnnphkefaaW.PrintWords Go.Proofs.YtjgojlnnphkefaaW.PrintLast Go.Proofs.YtjgojlnnphkefaaW.PrintMore
attribute [local go_sem] max2_int min2_int max_two min_two max_three min_three max_four min_four
set_option linter.unusedVariables false
set_option linter.unusedSimpArgs false
end Go.Proofs.Ytjgojlnnphkefaa.P
end
section
namespace Go.Proofs.Ytjgojlnnphkefaa.P
open Go.RowKit Go.Proofs.YtjgojlnnphkefaaW.PrintWords Go.Proofs.YtjgojlnnphkefaaW.PrintLast Go.Proofs.YtjgojlnnphkefaaW.PrintMore
attribute [local go_sem] max2_int min2_int max_two min_two max_three min_three max_four min_four
set_option linter.unusedVariables false
set_option linter.unusedSimpArgs false
end Go.Proofs.Ytjgojlnnphkefaa.P
end
section
namespace Go.Proofs.Ytjgojlnnphkefaa.P
open Go.RowKit Go.Proofs.YtjgojlnnphkefaaW.PrintWords Go.Proofs.YtjgojlnnphkefaaW.PrintLast Go.Proofs.YtjgojlnnphkefaaW.PrintMore
attribute [local go_sem] max2_int min2_int max_two min_two max_three min_three max_four min_four
set_option linter.unusedVariables false
set_option linter.unusedSimpArgs false
def conclavelaw13_four.f  : Option (Int × Int × Int × Int × Int × Int × Int × Int) := some (1, 4, 2, 1, 0, 0, 1, 1)
set_option maxHeartbeats 8000000 in
set_option maxRecDepth 100000 in
theorem conclavelaw13_four.calls  (r1 : Int) (r2 : Int) (r3 : Int) (r4 : Int) (r5 : Int) (r6 : Int) (r7 : Int) (r8 : Int) (w : World) (h : conclavelaw13_four.f  = some (r1, r2, r3, r4, r5, r6, r7, r8)) :
    Calls Try.prog 71 #[] w fun e w' => e = .returned (.agg #[.int .u8 r1, .int .i64 r2, .int .i64 r3, .int .i64 r4, .int .i64 r5, .int .i64 r6, .int .i64 r7, .int .i64 r8]) ∧ Below w.heap.size w w' := by
  have hu40 := Try.underlying40
  have HB := Aside0.mk (Below.refl w.heap.size w)
  have H : (some (1, 4, 2, 1, 0, 0, 1, 1)) = some (r1, r2, r3, r4, r5, r6, r7, r8) := h
  clear h
  simp only [Option.some.injEq, Prod.mk.injEq] at H
  obtain ⟨rfl, rfl, rfl, rfl, rfl, rfl, rfl, rfl⟩ := H
  go_enter Try.func71, Try.ntmps71
  go_wp2_with (first | ((with_reducible refine gate_dst (N := 0) rfl ?_); refine box_event ?hg (N := 0) ?hd (cs := #[.int .u8 0, .int .i64 0, .int .i64 0, .int .i64 0, .int .i64 0, .int .i64 0, .int .i64 0, .int .i64 0]) (t := 40) ?hr ?_; (case hd => rfl); (case hg => rfl); (case hr => first | (go_simp; done) | (go_simp; rfl)); intro gb928 hg w1 hbox hb; have n0_ := Aside0.mk (below_step (by repeat (first | (with_reducible first | exact HB.out | apply below_alloc | apply pw_below_drewN | apply below_drew1) | exact HB.out)) hb); have n1_ := Aside0.mk (hbox); have n2_ := Aside0.mk ((by rw [hg]; exact (below_size (by repeat (first | (with_reducible first | exact HB.out | apply below_alloc | apply pw_below_drewN | apply below_drew1) | exact HB.out))) : w.heap.size ≤ gb928)); have n3_ := Aside0.mk ((by rw [hg]; exact (below_size (by repeat (first | (with_reducible first | exact HB.out | apply below_alloc | apply pw_below_drewN | apply below_drew1) | exact HB.out))) : w.heap.size ≤ gb928)); clear HB; have HB := n0_; have BK928 := n1_; have GW928 := n2_; have GE928 := n3_; clear n0_ n1_ n2_ n3_; clear hb hbox hg; have hcz2_0 : w1.cell? ⟨gb928, 0, none⟩ = some (.int .u8 0) := (blk_cell BK928.out 0).trans rfl; have hcz2_1 : w1.cell? ⟨gb928, 1, none⟩ = some (.int .i64 0) := (blk_cell BK928.out 1).trans rfl; have hcz2_2 : w1.cell? ⟨gb928, 2, none⟩ = some (.int .i64 0) := (blk_cell BK928.out 2).trans rfl; have hcz2_3 : w1.cell? ⟨gb928, 3, none⟩ = some (.int .i64 0) := (blk_cell BK928.out 3).trans rfl; have hcz2_4 : w1.cell? ⟨gb928, 4, none⟩ = some (.int .i64 0) := (blk_cell BK928.out 4).trans rfl; have hcz2_5 : w1.cell? ⟨gb928, 5, none⟩ = some (.int .i64 0) := (blk_cell BK928.out 5).trans rfl; have hcz2_6 : w1.cell? ⟨gb928, 6, none⟩ = some (.int .i64 0) := (blk_cell BK928.out 6).trans rfl; have hcz2_7 : w1.cell? ⟨gb928, 7, none⟩ = some (.int .i64 0) := (blk_cell BK928.out 7).trans rfl; have hfz2_0 := blk_frozen BK928.out 0; have hfz2_1 := blk_frozen BK928.out 1; have hfz2_2 := blk_frozen BK928.out 2; have hfz2_3 := blk_frozen BK928.out 3; have hfz2_4 := blk_frozen BK928.out 4; have hfz2_5 := blk_frozen BK928.out 5; have hfz2_6 := blk_frozen BK928.out 6; have hfz2_7 := blk_frozen BK928.out 7))
  refine bodyPost_ret (results_cell_row rfl _ _ gb928 40 #[.int .u8 1, .int .i64 4, .int .i64 2, .int .i64 1, .int .i64 0, .int .i64 0, .int .i64 1, .int .i64 1] (0, 0) _ rfl (by (with_reducible repeat (first | refine blk_drewN ?_ _ | refine blk_drew ?_ | refine blk_alloc ?_ _)); refine blk_put (cs := #[.int .u8 1, .int .i64 4, .int .i64 2, .int .i64 1, .int .i64 0, .int .i64 0, .int .i64 1, .int .i64 0]) ?_ 7 _ rfl; (with_reducible repeat (first | refine blk_drewN ?_ _ | refine blk_drew ?_ | refine blk_alloc ?_ _)); refine blk_put (cs := #[.int .u8 1, .int .i64 4, .int .i64 2, .int .i64 1, .int .i64 0, .int .i64 0, .int .i64 0, .int .i64 0]) ?_ 6 _ rfl; (with_reducible repeat (first | refine blk_drewN ?_ _ | refine blk_drew ?_ | refine blk_alloc ?_ _)); refine blk_put (cs := #[.int .u8 1, .int .i64 4, .int .i64 2, .int .i64 1, .int .i64 0, .int .i64 0, .int .i64 0, .int .i64 0]) ?_ 5 _ rfl; (with_reducible repeat (first | refine blk_drewN ?_ _ | refine blk_drew ?_ | refine blk_alloc ?_ _)); refine blk_put (cs := #[.int .u8 1, .int .i64 4, .int .i64 2, .int .i64 1, .int .i64 0, .int .i64 0, .int .i64 0, .int .i64 0]) ?_ 4 _ rfl; (with_reducible repeat (first | refine blk_drewN ?_ _ | refine blk_drew ?_ | refine blk_alloc ?_ _)); refine blk_put (cs := #[.int .u8 1, .int .i64 4, .int .i64 2, .int .i64 0, .int .i64 0, .int .i64 0, .int .i64 0, .int .i64 0]) ?_ 3 _ rfl; (with_reducible repeat (first | refine blk_drewN ?_ _ | refine blk_drew ?_ | refine blk_alloc ?_ _)); refine blk_put (cs := #[.int .u8 1, .int .i64 4, .int .i64 0, .int .i64 0, .int .i64 0, .int .i64 0, .int .i64 0, .int .i64 0]) ?_ 2 _ rfl; (with_reducible repeat (first | refine blk_drewN ?_ _ | refine blk_drew ?_ | refine blk_alloc ?_ _)); refine blk_put (cs := #[.int .u8 1, .int .i64 0, .int .i64 0, .int .i64 0, .int .i64 0, .int .i64 0, .int .i64 0, .int .i64 0]) ?_ 1 _ rfl; (with_reducible repeat (first | refine blk_drewN ?_ _ | refine blk_drew ?_ | refine blk_alloc ?_ _)); refine blk_put (cs := #[.int .u8 0, .int .i64 0, .int .i64 0, .int .i64 0, .int .i64 0, .int .i64 0, .int .i64 0, .int .i64 0]) ?_ 0 _ rfl; (with_reducible repeat (first | refine blk_drewN ?_ _ | refine blk_drew ?_ | refine blk_alloc ?_ _)); exact BK928.out) Try.underlying40 rfl (by kernel_rfl)) rfl ?_
  exact ⟨by first | rfl | (simp [errW_none, errW_some] <;> rfl) | (simp [*, errW_none, errW_some] <;> rfl), by repeat (first | (with_reducible first | exact HB.out | apply below_alloc | apply pw_below_drewN | apply below_drew1 | refine below_set ?_ GE928.out) | exact HB.out)⟩
end Go.Proofs.Ytjgojlnnphkefaa.P
end
section
namespace Go.Proofs.Ytjgojlnnphkefaa.P
open Go.RowKit Go.Proofs.YtjgojlnnphkefaaW.PrintWords Go.Proofs.YtjgojlnnphkefaaW.PrintLast Go.Proofs.YtjgojlnnphkefaaW.PrintMore
attribute [local go_sem] max2_int min2_int max_two min_two max_three min_three max_four min_four
set_option linter.unusedVariables false
set_option linter.unusedSimpArgs false
def conclavelaw13_anchored.f (k : Nat)  : Option (Bool) := (conclavelaw13_four.f).bind fun bt929 => ((points_Workers.f k bt929.1 bt929.2.1 bt929.2.2.1 bt929.2.2.2.1 bt929.2.2.2.2.1 bt929.2.2.2.2.2.1 bt929.2.2.2.2.2.2.1 bt929.2.2.2.2.2.2.2).bind fun bt937 => ((conclavelaw13_four.f).bind fun bt941 => ((points_Rows.f k bt941.1 bt941.2.1 bt941.2.2.1 bt941.2.2.2.1 bt941.2.2.2.2.1 bt941.2.2.2.2.2.1 bt941.2.2.2.2.2.2.1 bt941.2.2.2.2.2.2.2).bind fun bt949 => (if bt937.2 = 0 then (if bt949.2 = 0 then ((conclaveref01_Same.f k bt937.1 (([3, 4, 5, 6] : List Int))).bind fun t956 => (if t956 = true then (if (bt949.1.length : Int) = 4 then (if 0 < (bt949.1.length : Int) then ((conclaveref01_Same.f k (rd_L5 bt949.1 0) (([1, 2013265918, 3] : List Int))).bind fun t961 => (some t961)) else (none)) else (some false)) else (some false))) else (some false)) else (some false)))))
set_option maxHeartbeats 8000000 in
set_option maxRecDepth 100000 in
theorem conclavelaw13_anchored.calls (k : Nat)  (r : Bool) (w : World) (h : conclavelaw13_anchored.f k  = some r) :
    Calls Try.prog 43 #[] w fun e w' => e = .returned (.bool r) ∧ Below w.heap.size w w' := by
  have HB := Aside0.mk (Below.refl w.heap.size w)
  have H : ((conclavelaw13_four.f).bind fun bt929 => ((points_Workers.f k bt929.1 bt929.2.1 bt929.2.2.1 bt929.2.2.2.1 bt929.2.2.2.2.1 bt929.2.2.2.2.2.1 bt929.2.2.2.2.2.2.1 bt929.2.2.2.2.2.2.2).bind fun bt937 => ((conclavelaw13_four.f).bind fun bt941 => ((points_Rows.f k bt941.1 bt941.2.1 bt941.2.2.1 bt941.2.2.2.1 bt941.2.2.2.2.1 bt941.2.2.2.2.2.1 bt941.2.2.2.2.2.2.1 bt941.2.2.2.2.2.2.2).bind fun bt949 => (if bt937.2 = 0 then (if bt949.2 = 0 then ((conclaveref01_Same.f k bt937.1 (([3, 4, 5, 6] : List Int))).bind fun t956 => (if t956 = true then (if (bt949.1.length : Int) = 4 then (if 0 < (bt949.1.length : Int) then ((conclaveref01_Same.f k (rd_L5 bt949.1 0) (([1, 2013265918, 3] : List Int))).bind fun t961 => (some t961)) else (none)) else (some false)) else (some false))) else (some false)) else (some false)))))) = some r := h
  clear h
  replace H := Option.bind_eq_some_iff.mp H
  obtain ⟨⟨t929, t930, t931, t932, t933, t934, t935, t936⟩, A10, H⟩ := H
  replace H : ((points_Workers.f k t929 t930 t931 t932 t933 t934 t935 t936).bind fun bt937 => ((conclavelaw13_four.f).bind fun bt941 => ((points_Rows.f k bt941.1 bt941.2.1 bt941.2.2.1 bt941.2.2.2.1 bt941.2.2.2.2.1 bt941.2.2.2.2.2.1 bt941.2.2.2.2.2.2.1 bt941.2.2.2.2.2.2.2).bind fun bt949 => (if bt937.2 = 0 then (if bt949.2 = 0 then ((conclaveref01_Same.f k bt937.1 (([3, 4, 5, 6] : List Int))).bind fun t956 => (if t956 = true then (if (bt949.1.length : Int) = 4 then (if 0 < (bt949.1.length : Int) then ((conclaveref01_Same.f k (rd_L5 bt949.1 0) (([1, 2013265918, 3] : List Int))).bind fun t961 => (some t961)) else (none)) else (some false)) else (some false))) else (some false)) else (some false))))) = some r := H
  have A1 := Aside0.mk A10
  clear A10
  replace H := Option.bind_eq_some_iff.mp H
  obtain ⟨⟨t937, t940⟩, A20, H⟩ := H
  replace H : ((conclavelaw13_four.f).bind fun bt941 => ((points_Rows.f k bt941.1 bt941.2.1 bt941.2.2.1 bt941.2.2.2.1 bt941.2.2.2.2.1 bt941.2.2.2.2.2.1 bt941.2.2.2.2.2.2.1 bt941.2.2.2.2.2.2.2).bind fun bt949 => (if t940 = 0 then (if bt949.2 = 0 then ((conclaveref01_Same.f k t937 (([3, 4, 5, 6] : List Int))).bind fun t956 => (if t956 = true then (if (bt949.1.length : Int) = 4 then (if 0 < (bt949.1.length : Int) then ((conclaveref01_Same.f k (rd_L5 bt949.1 0) (([1, 2013265918, 3] : List Int))).bind fun t961 => (some t961)) else (none)) else (some false)) else (some false))) else (some false)) else (some false)))) = some r := H
  have A2 := Aside0.mk A20
  clear A20
  replace H := Option.bind_eq_some_iff.mp H
  obtain ⟨⟨t941, t942, t943, t944, t945, t946, t947, t948⟩, A30, H⟩ := H
  replace H : ((points_Rows.f k t941 t942 t943 t944 t945 t946 t947 t948).bind fun bt949 => (if t940 = 0 then (if bt949.2 = 0 then ((conclaveref01_Same.f k t937 (([3, 4, 5, 6] : List Int))).bind fun t956 => (if t956 = true then (if (bt949.1.length : Int) = 4 then (if 0 < (bt949.1.length : Int) then ((conclaveref01_Same.f k (rd_L5 bt949.1 0) (([1, 2013265918, 3] : List Int))).bind fun t961 => (some t961)) else (none)) else (some false)) else (some false))) else (some false)) else (some false))) = some r := H
  have A3 := Aside0.mk A30
  clear A30
  replace H := Option.bind_eq_some_iff.mp H
  obtain ⟨⟨t949, t952⟩, A40, H⟩ := H
  replace H : (if t940 = 0 then (if t952 = 0 then ((conclaveref01_Same.f k t937 (([3, 4, 5, 6] : List Int))).bind fun t956 => (if t956 = true then (if (t949.length : Int) = 4 then (if 0 < (t949.length : Int) then ((conclaveref01_Same.f k (rd_L5 t949 0) (([1, 2013265918, 3] : List Int))).bind fun t961 => (some t961)) else (none)) else (some false)) else (some false))) else (some false)) else (some false)) = some r := H
  have A4 := Aside0.mk A40
  clear A40
  by_cases c5 : t940 = 0
  · rw [if_pos c5] at H
    have c5b0 : (t940 == 0) = true := beq_iff_eq.mpr c5
    have c5b1 : (t940 != 0) = false := bne_eq_false_iff_eq.mpr c5
    clear c5
    by_cases c6 : t952 = 0
    · rw [if_pos c6] at H
      have c6b0 : (t952 == 0) = true := beq_iff_eq.mpr c6
      have c6b1 : (t952 != 0) = false := bne_eq_false_iff_eq.mpr c6
      clear c6
      obtain ⟨y953, hy953⟩ : ∃ y_ : List Int, y_ = (([3, 4, 5, 6] : List Int)) := ⟨_, rfl⟩
      replace H : ((conclaveref01_Same.f k t937 y953).bind fun t956 => (if t956 = true then (if (t949.length : Int) = 4 then (if 0 < (t949.length : Int) then ((conclaveref01_Same.f k (rd_L5 t949 0) (([1, 2013265918, 3] : List Int))).bind fun t961 => (some t961)) else (none)) else (some false)) else (some false))) = some r := by first | (rw [hy953]; with_reducible exact H) | (have H2_ := (Option.bind_some _ _).symm.trans H; rw [hy953]; with_reducible exact H2_) | (have H2_ := (Option.bind_some _ _).symm.trans H; with_reducible exact H2_) | with_reducible exact H | (rw [hy953]; exact H) | exact H
      have Ny953 := Aside0.mk hy953
      clear hy953
      replace H := Option.bind_eq_some_iff.mp H
      obtain ⟨t956, A70, H⟩ := H
      replace H : (if t956 = true then (if (t949.length : Int) = 4 then (if 0 < (t949.length : Int) then ((conclaveref01_Same.f k (rd_L5 t949 0) (([1, 2013265918, 3] : List Int))).bind fun t961 => (some t961)) else (none)) else (some false)) else (some false)) = some r := H
      have A7 := Aside0.mk A70
      clear A70
      by_cases c8 : t956 = true
      · subst c8
        have H1 : (if (t949.length : Int) = 4 then (if 0 < (t949.length : Int) then ((conclaveref01_Same.f k (rd_L5 t949 0) (([1, 2013265918, 3] : List Int))).bind fun t961 => (some t961)) else (none)) else (some false)) = some r := by rw [if_pos rfl] at H; exact H
        clear H
        have H := H1
        clear H1
        by_cases c9 : (t949.length : Int) = 4
        · rw [if_pos c9] at H
          have c9b0 : ((t949.length : Int) == 4) = true := beq_iff_eq.mpr c9
          have c9b1 : ((t949.length : Int) != 4) = false := bne_eq_false_iff_eq.mpr c9
          clear c9
          by_cases c10 : 0 < (t949.length : Int)
          · rw [if_pos c10] at H
            have c10b0 : decide (0 < (t949.length : Int)) = true := decide_eq_true c10
            have c10b1 : decide (0 < t949.length) = true := decide_eq_true (by omega)
            clear c10
            obtain ⟨y958, hy958⟩ : ∃ y_ : List Int, y_ = (([1, 2013265918, 3] : List Int)) := ⟨_, rfl⟩
            replace H : ((conclaveref01_Same.f k (rd_L5 t949 0) y958).bind fun t961 => (some t961)) = some r := by first | (rw [hy958]; with_reducible exact H) | (have H2_ := (Option.bind_some _ _).symm.trans H; rw [hy958]; with_reducible exact H2_) | (have H2_ := (Option.bind_some _ _).symm.trans H; with_reducible exact H2_) | with_reducible exact H | (rw [hy958]; exact H) | exact H
            have Ny958 := Aside0.mk hy958
            clear hy958
            replace H := Option.bind_eq_some_iff.mp H
            obtain ⟨t961, A110, H⟩ := H
            replace H : (some t961) = some r := H
            have A11 := Aside0.mk A110
            clear A110
            obtain rfl := Option.some.inj H
            go_enter Try.func43, Try.ntmps43
            go_wp2_with (first | ((with_reducible refine gate_callee (f := 71) rfl ?_); refine goesL_ (some 6) rfl rfl Try.func71 (by kernel_rfl) rfl #[] rfl (by (try simp only [List.map_toArray, List.map_cons, List.map_nil]); first | done | rfl | (simp only [List.length_drop, List.length_take]; rfl)) ?_; (with_reducible refine (conclavelaw13_four.calls  t929 t930 t931 t932 t933 t934 t935 t936 _ A1.out).mono ?_); rintro e w12 ⟨rfl, hb⟩; refine ⟨_, rfl, ?_⟩; have n0_ := Aside0.mk (below_step (by repeat (first | (with_reducible first | exact HB.out | apply below_alloc | apply pw_below_drewN | apply below_drew1) | exact HB.out)) hb); clear HB; have HB := n0_; clear n0_; (try clear hb); (try clear hb2); (try clear hk); (try clear hi)) | ((with_reducible refine gate_callee (f := 48) rfl ?_); refine goesL_ (some 7) rfl rfl Try.func48 (by kernel_rfl) rfl #[.agg #[.int .u8 t929, .int .i64 t930, .int .i64 t931, .int .i64 t932, .int .i64 t933, .int .i64 t934, .int .i64 t935, .int .i64 t936]] rfl (by (try simp only [List.map_toArray, List.map_cons, List.map_nil]); first | done | rfl | (simp only [List.length_drop, List.length_take]; rfl)) ?_; (with_reducible refine (points_Workers.calls k t929 t930 t931 t932 t933 t934 t935 t936 t937 t940 _ A2.out).mono ?_); rintro e w13 ⟨v938, rfl, ho0, hb⟩; refine ⟨_, rfl, ?_⟩; have n0_ := Aside0.mk (Kd.R_lower ho0 (below_size (by repeat (first | (with_reducible first | exact HB.out | apply below_alloc | apply pw_below_drewN | apply below_drew1) | exact HB.out)))); have n1_ := Aside0.mk (below_step (by repeat (first | (with_reducible first | exact HB.out | apply below_alloc | apply pw_below_drewN | apply below_drew1) | exact HB.out)) hb); clear HB; have HO939 := n0_; have HB := n1_; clear n0_ n1_; (try clear hb); (try clear hb2); (try clear hk); (try clear hi); (try clear ho0)) | ((with_reducible refine gate_callee (f := 71) rfl ?_); refine goesL_ (some 11) rfl rfl Try.func71 (by kernel_rfl) rfl #[] rfl (by (try simp only [List.map_toArray, List.map_cons, List.map_nil]); first | done | rfl | (simp only [List.length_drop, List.length_take]; rfl)) ?_; (with_reducible refine (conclavelaw13_four.calls  t941 t942 t943 t944 t945 t946 t947 t948 _ A3.out).mono ?_); rintro e w14 ⟨rfl, hb⟩; refine ⟨_, rfl, ?_⟩; have n0_ := Aside0.mk (Kd.R_below (by (with_reducible repeat (first | apply Kd.R_alloc | apply Kd.R_drewN | apply Kd.R_drew)); exact HO939.out) hb); have n1_ := Aside0.mk (below_step (by repeat (first | (with_reducible first | exact HB.out | apply below_alloc | apply pw_below_drewN | apply below_drew1) | exact HB.out)) hb); clear HO939; clear HB; have HO939 := n0_; have HB := n1_; clear n0_ n1_; (try clear hb); (try clear hb2); (try clear hk); (try clear hi)) | ((with_reducible refine gate_callee (f := 41) rfl ?_); refine goesL_ (some 12) rfl rfl Try.func41 (by kernel_rfl) rfl #[.agg #[.int .u8 t941, .int .i64 t942, .int .i64 t943, .int .i64 t944, .int .i64 t945, .int .i64 t946, .int .i64 t947, .int .i64 t948]] rfl (by (try simp only [List.map_toArray, List.map_cons, List.map_nil]); first | done | rfl | (simp only [List.length_drop, List.length_take]; rfl)) ?_; (with_reducible refine (points_Rows.calls k t941 t942 t943 t944 t945 t946 t947 t948 t949 t952 _ A4.out).mono ?_); rintro e w15 ⟨v950, rfl, ho0, hb⟩; refine ⟨_, rfl, ?_⟩; have n0_ := Aside0.mk (Kd.R_below (by (with_reducible repeat (first | apply Kd.R_alloc | apply Kd.R_drewN | apply Kd.R_drew)); exact HO939.out) hb); have n1_ := Aside0.mk (Kd.S_lower (Kd.S_new' ho0 (Kd.R_lt (by (with_reducible repeat (first | apply Kd.R_alloc | apply Kd.R_drewN | apply Kd.R_drew)); exact HO939.out))) (below_size (by repeat (first | (with_reducible first | exact HB.out | apply below_alloc | apply pw_below_drewN | apply below_drew1) | exact HB.out)))); have n2_ := Aside0.mk (below_step (by repeat (first | (with_reducible first | exact HB.out | apply below_alloc | apply pw_below_drewN | apply below_drew1) | exact HB.out)) hb); clear HO939; clear HB; have HO939 := n0_; have HO951 := n1_; have HB := n2_; clear n0_ n1_ n2_; (try clear hb); (try clear hb2); (try clear hk); (try clear hi); (try clear ho0)) | ((with_reducible refine gate_dst (N := 23) rfl ?_); (try (refine gate_guard (by rfl) ?_; dsimp only)); refine Kd.R_lit (Kd.int .u64) _ 65 ?hg (N := 23) ?hd (xs := ([3, 4, 5, 6] : List Int)) (inner := [.int .u64 3, .int .u64 4, .int .u64 5, .int .u64 6]) (ok := fun _ => True) (okp := fun _ => True) ?hr ?hp (fun _ hk => hk) trivial (Below.refl _ _) (Nat.le_refl _) (by simp) ?_; (case hd => rfl); (case hg => rfl); (case hr => first | (go_simp; done) | (go_simp; rfl)); (case hp => exact (Reps.one (show Kd.M (Kd.int .u64) _ _ _ 3 [.int .u64 3] from rfl) (Reps.one (show Kd.M (Kd.int .u64) _ _ _ 4 [.int .u64 4] from rfl) (Reps.one (show Kd.M (Kd.int .u64) _ _ _ 5 [.int .u64 5] from rfl) (Reps.one (show Kd.M (Kd.int .u64) _ _ _ 6 [.int .u64 6] from rfl) (Reps.none _ _)))))); intro v954 w16 ho17 hb hg_ hnew_; clear hg_ hnew_; (first | rw [← Ny953.out] at ho17 | (simp only [Int.reduceToNat] at ho17; rw [← Ny953.out] at ho17)); have n0_ := Aside0.mk (Kd.R_elder' (by (with_reducible repeat (first | apply Kd.R_alloc | apply Kd.R_drewN | apply Kd.R_drew)); exact HO939.out) (Kd.R_base ho17) hb); have n1_ := Aside0.mk (Kd.S_elder' (by (with_reducible repeat (first | apply Kd.S_alloc | apply Kd.S_drewN | apply Kd.S_drew)); exact HO951.out) (Kd.R_base ho17) hb); have n2_ := Aside0.mk (Kd.R_lower (Kd.R_new' ho17 (Kd.R_lt (by (with_reducible repeat (first | apply Kd.R_alloc | apply Kd.R_drewN | apply Kd.R_drew)); exact HO939.out))) (below_size (by repeat (first | (with_reducible first | exact HB.out | apply below_alloc | apply pw_below_drewN | apply below_drew1) | exact HB.out)))); have n3_ := Aside0.mk (below_step (by repeat (first | (with_reducible first | exact HB.out | apply below_alloc | apply pw_below_drewN | apply below_drew1) | exact HB.out)) hb); clear HO939; clear HO951; clear HB; have HO939 := n0_; have HO951 := n1_; have HO955 := n2_; have HB := n3_; clear n0_ n1_ n2_ n3_; clear hb ho17; obtain ⟨Ao18, co18, eo18⟩ := Kd.R_slice HO939.out; subst eo18; obtain ⟨Ao19, co19, eo19⟩ := Kd.R_slice HO955.out; subst eo19) | (go_at_call 33; (with_reducible refine (conclaveref01_Same.calls k _ _ t937 _ _ y953 true _ ?side1 ?side2 ?side3 ?side4 A7.out).mono ?_); (case side1 => repeat (first | exact (Kd.R_reads' HO939.out).2.2 | (with_reducible refine Kd.C_alloc ?_ _) | (with_reducible refine Kd.C_drewN ?_ _) | (with_reducible refine Kd.C_drew ?_))); (case side2 => exact (Kd.R_reads' HO939.out).2.1); (case side3 => repeat (first | exact (Kd.R_reads' HO955.out).2.2 | (with_reducible refine Kd.C_alloc ?_ _) | (with_reducible refine Kd.C_drewN ?_ _) | (with_reducible refine Kd.C_drew ?_))); (case side4 => exact (Kd.R_reads' HO955.out).2.1); rintro e w' ⟨rfl, ⟨nd, rfl⟩⟩; obtain ⟨Ao20, co20, eo20⟩ := Kd.S_slice HO951.out; subst eo20; have p957 : 0 ≤ (0 : Int) := (by omega); have q957 : 0 < (t949.length : Int) := of_decide_eq_true (by first | (with_reducible assumption) | assumption); obtain ⟨ad957, A957_0, c957_0, e957, hx957_0, hl957_0, hi957_0⟩ := at_L5 (Kd.S_reads' HO951.out).2.2 0 p957 q957; cases e957; obtain ⟨ce957, hce957, hMe957, hcc957⟩ := Kd.S_get HO951.out [] 0 p957 (by first | exact q957 | exact of_decide_eq_true (by first | (with_reducible assumption) | assumption) | (have e_ := (Kd.S_reads' HO951.out).1; omega)); obtain ⟨ve957_0, rfl, ge957_0⟩ := hMe957; have hv957_0 := hcc957 0 _ rfl; rw [Nat.add_zero, show ((Kd.slice 65 (Kd.int .u64))).sz = 1 from rfl, Nat.mul_one] at hv957_0; replace hv957_0 := Option.some.inj (hv957_0.symm.trans hx957_0); rw [hv957_0] at ge957_0; have HL957_0 := Aside0.mk (show Kd.R (Kd.int .u64) 65 _ _ _ _ (rd_L5 t949 0) from ge957_0); clear hv957_0 ge957_0; clear hcc957 hce957; have qi957 : (0 < t949.length) = True := eq_true (by omega); (try rw [show ((0 : Int)).toNat = 0 from rfl] at hx957_0); (try rw [Addr.add_zero'] at hx957_0); have HR957_0 := Aside0.mk hi957_0; have HC957_0 := Aside0.mk hl957_0; clear hi957_0 hl957_0; replace p957 := eq_true p957; replace q957 := eq_true q957) | ((with_reducible refine gate_dst (N := 35) rfl ?_); (try (refine gate_guard (by rfl) ?_; dsimp only)); refine Kd.R_lit (Kd.int .u64) _ 65 ?hg (N := 35) ?hd (xs := ([1, 2013265918, 3] : List Int)) (inner := [.int .u64 1, .int .u64 2013265918, .int .u64 3]) (ok := fun _ => True) (okp := fun _ => True) ?hr ?hp (fun _ hk => hk) trivial (Below.refl _ _) (Nat.le_refl _) (by simp) ?_; (case hd => rfl); (case hg => rfl); (case hr => first | (go_simp; done) | (go_simp; rfl)); (case hp => exact (Reps.one (show Kd.M (Kd.int .u64) _ _ _ 1 [.int .u64 1] from rfl) (Reps.one (show Kd.M (Kd.int .u64) _ _ _ 2013265918 [.int .u64 2013265918] from rfl) (Reps.one (show Kd.M (Kd.int .u64) _ _ _ 3 [.int .u64 3] from rfl) (Reps.none _ _))))); intro v959 w21 ho22 hb hg_ hnew_; clear hg_ hnew_; (first | rw [← Ny958.out] at ho22 | (simp only [Int.reduceToNat] at ho22; rw [← Ny958.out] at ho22)); have n0_ := Aside0.mk (Kd.R_elder' (by (with_reducible repeat (first | apply Kd.R_alloc | apply Kd.R_drewN | apply Kd.R_drew)); exact HO939.out) (Kd.R_base ho22) hb); have n1_ := Aside0.mk (Kd.S_elder' (by (with_reducible repeat (first | apply Kd.S_alloc | apply Kd.S_drewN | apply Kd.S_drew)); exact HO951.out) (Kd.R_base ho22) hb); have n2_ := Aside0.mk (Kd.R_elder' (by (with_reducible repeat (first | apply Kd.R_alloc | apply Kd.R_drewN | apply Kd.R_drew)); exact HO955.out) (Kd.R_base ho22) hb); have n3_ := Aside0.mk (Kd.R_elder' (by (with_reducible repeat (first | apply Kd.R_alloc | apply Kd.R_drewN | apply Kd.R_drew)); exact HL957_0.out) (Kd.R_base ho22) hb); have n4_ := Aside0.mk (Kd.R_lower (Kd.R_new' (Kd.R_new' (Kd.R_new' ho22 (Kd.R_lt (by (with_reducible repeat (first | apply Kd.R_alloc | apply Kd.R_drewN | apply Kd.R_drew)); exact HO939.out))) (Kd.R_lt (by (with_reducible repeat (first | apply Kd.R_alloc | apply Kd.R_drewN | apply Kd.R_drew)); exact HO955.out))) (Kd.R_lt (by (with_reducible repeat (first | apply Kd.R_alloc | apply Kd.R_drewN | apply Kd.R_drew)); exact HL957_0.out))) (below_size (by repeat (first | (with_reducible first | exact HB.out | apply below_alloc | apply pw_below_drewN | apply below_drew1) | exact HB.out)))); have n5_ := Aside0.mk (Kd.C_below (by repeat (first | (with_reducible exact HR957_0.out) | (with_reducible refine Kd.C_alloc ?_ _) | (with_reducible refine Kd.C_drewN ?_ _) | (with_reducible refine Kd.C_drew ?_) | exact HR957_0.out)) hb); have n6_ := Aside0.mk (below_step (by repeat (first | (with_reducible first | exact HB.out | apply below_alloc | apply pw_below_drewN | apply below_drew1) | exact HB.out)) hb); clear HO939; clear HO951; clear HO955; clear HL957_0; clear HR957_0; clear HB; have HO939 := n0_; have HO951 := n1_; have HO955 := n2_; have HL957_0 := n3_; have HO960 := n4_; have HR957_0 := n5_; have HB := n6_; clear n0_ n1_ n2_ n3_ n4_ n5_ n6_; clear hb ho22; obtain ⟨Ao23, co23, eo23⟩ := Kd.R_slice HO960.out; subst eo23) | (go_at_call 33; (with_reducible refine (conclaveref01_Same.calls k _ _ (rd_L5 t949 0) _ _ y958 t961 _ ?side1 ?side2 ?side3 ?side4 A11.out).mono ?_); (case side1 => repeat (first | exact (by repeat (first | (with_reducible exact HR957_0.out) | (with_reducible refine Kd.C_alloc ?_ _) | (with_reducible refine Kd.C_drewN ?_ _) | (with_reducible refine Kd.C_drew ?_) | exact HR957_0.out)) | (with_reducible refine Kd.C_alloc ?_ _) | (with_reducible refine Kd.C_drewN ?_ _) | (with_reducible refine Kd.C_drew ?_))); (case side2 => exact HC957_0.out); (case side3 => repeat (first | exact (Kd.R_reads' HO960.out).2.2 | (with_reducible refine Kd.C_alloc ?_ _) | (with_reducible refine Kd.C_drewN ?_ _) | (with_reducible refine Kd.C_drew ?_))); (case side4 => exact (Kd.R_reads' HO960.out).2.1); rintro e w' ⟨rfl, ⟨nd, rfl⟩⟩))
            go_ret
            exact ⟨by first | rfl | (simp [errW_none, errW_some] <;> rfl) | (simp [*, errW_none, errW_some] <;> rfl), by repeat (first | (with_reducible first | exact HB.out | apply below_alloc | apply pw_below_drewN | apply below_drew1) | exact HB.out)⟩
          · rw [if_neg c10] at H
            exact absurd H (by simp)
        · rw [if_neg c9] at H
          have c9b0 : ((t949.length : Int) == 4) = false := beq_eq_false_iff_ne.mpr c9
          have c9b1 : ((t949.length : Int) != 4) = true := bne_iff_ne.mpr c9
          obtain rfl := Option.some.inj H
          go_enter Try.func43, Try.ntmps43
          go_wp2_with (first | ((with_reducible refine gate_callee (f := 71) rfl ?_); refine goesL_ (some 6) rfl rfl Try.func71 (by kernel_rfl) rfl #[] rfl (by (try simp only [List.map_toArray, List.map_cons, List.map_nil]); first | done | rfl | (simp only [List.length_drop, List.length_take]; rfl)) ?_; (with_reducible refine (conclavelaw13_four.calls  t929 t930 t931 t932 t933 t934 t935 t936 _ A1.out).mono ?_); rintro e w24 ⟨rfl, hb⟩; refine ⟨_, rfl, ?_⟩; have n0_ := Aside0.mk (below_step (by repeat (first | (with_reducible first | exact HB.out | apply below_alloc | apply pw_below_drewN | apply below_drew1) | exact HB.out)) hb); clear HB; have HB := n0_; clear n0_; (try clear hb); (try clear hb2); (try clear hk); (try clear hi)) | ((with_reducible refine gate_callee (f := 48) rfl ?_); refine goesL_ (some 7) rfl rfl Try.func48 (by kernel_rfl) rfl #[.agg #[.int .u8 t929, .int .i64 t930, .int .i64 t931, .int .i64 t932, .int .i64 t933, .int .i64 t934, .int .i64 t935, .int .i64 t936]] rfl (by (try simp only [List.map_toArray, List.map_cons, List.map_nil]); first | done | rfl | (simp only [List.length_drop, List.length_take]; rfl)) ?_; (with_reducible refine (points_Workers.calls k t929 t930 t931 t932 t933 t934 t935 t936 t937 t940 _ A2.out).mono ?_); rintro e w25 ⟨v938, rfl, ho0, hb⟩; refine ⟨_, rfl, ?_⟩; have n0_ := Aside0.mk (Kd.R_lower ho0 (below_size (by repeat (first | (with_reducible first | exact HB.out | apply below_alloc | apply pw_below_drewN | apply below_drew1) | exact HB.out)))); have n1_ := Aside0.mk (below_step (by repeat (first | (with_reducible first | exact HB.out | apply below_alloc | apply pw_below_drewN | apply below_drew1) | exact HB.out)) hb); clear HB; have HO939 := n0_; have HB := n1_; clear n0_ n1_; (try clear hb); (try clear hb2); (try clear hk); (try clear hi); (try clear ho0)) | ((with_reducible refine gate_callee (f := 71) rfl ?_); refine goesL_ (some 11) rfl rfl Try.func71 (by kernel_rfl) rfl #[] rfl (by (try simp only [List.map_toArray, List.map_cons, List.map_nil]); first | done | rfl | (simp only [List.length_drop, List.length_take]; rfl)) ?_; (with_reducible refine (conclavelaw13_four.calls  t941 t942 t943 t944 t945 t946 t947 t948 _ A3.out).mono ?_); rintro e w26 ⟨rfl, hb⟩; refine ⟨_, rfl, ?_⟩; have n0_ := Aside0.mk (Kd.R_below (by (with_reducible repeat (first | apply Kd.R_alloc | apply Kd.R_drewN | apply Kd.R_drew)); exact HO939.out) hb); have n1_ := Aside0.mk (below_step (by repeat (first | (with_reducible first | exact HB.out | apply below_alloc | apply pw_below_drewN | apply below_drew1) | exact HB.out)) hb); clear HO939; clear HB; have HO939 := n0_; have HB := n1_; clear n0_ n1_; (try clear hb); (try clear hb2); (try clear hk); (try clear hi)) | ((with_reducible refine gate_callee (f := 41) rfl ?_); refine goesL_ (some 12) rfl rfl Try.func41 (by kernel_rfl) rfl #[.agg #[.int .u8 t941, .int .i64 t942, .int .i64 t943, .int .i64 t944, .int .i64 t945, .int .i64 t946, .int .i64 t947, .int .i64 t948]] rfl (by (try simp only [List.map_toArray, List.map_cons, List.map_nil]); first | done | rfl | (simp only [List.length_drop, List.length_take]; rfl)) ?_; (with_reducible refine (points_Rows.calls k t941 t942 t943 t944 t945 t946 t947 t948 t949 t952 _ A4.out).mono ?_); rintro e w27 ⟨v950, rfl, ho0, hb⟩; refine ⟨_, rfl, ?_⟩; have n0_ := Aside0.mk (Kd.R_below (by (with_reducible repeat (first | apply Kd.R_alloc | apply Kd.R_drewN | apply Kd.R_drew)); exact HO939.out) hb); have n1_ := Aside0.mk (Kd.S_lower (Kd.S_new' ho0 (Kd.R_lt (by (with_reducible repeat (first | apply Kd.R_alloc | apply Kd.R_drewN | apply Kd.R_drew)); exact HO939.out))) (below_size (by repeat (first | (with_reducible first | exact HB.out | apply below_alloc | apply pw_below_drewN | apply below_drew1) | exact HB.out)))); have n2_ := Aside0.mk (below_step (by repeat (first | (with_reducible first | exact HB.out | apply below_alloc | apply pw_below_drewN | apply below_drew1) | exact HB.out)) hb); clear HO939; clear HB; have HO939 := n0_; have HO951 := n1_; have HB := n2_; clear n0_ n1_ n2_; (try clear hb); (try clear hb2); (try clear hk); (try clear hi); (try clear ho0)) | ((with_reducible refine gate_dst (N := 23) rfl ?_); (try (refine gate_guard (by rfl) ?_; dsimp only)); refine Kd.R_lit (Kd.int .u64) _ 65 ?hg (N := 23) ?hd (xs := ([3, 4, 5, 6] : List Int)) (inner := [.int .u64 3, .int .u64 4, .int .u64 5, .int .u64 6]) (ok := fun _ => True) (okp := fun _ => True) ?hr ?hp (fun _ hk => hk) trivial (Below.refl _ _) (Nat.le_refl _) (by simp) ?_; (case hd => rfl); (case hg => rfl); (case hr => first | (go_simp; done) | (go_simp; rfl)); (case hp => exact (Reps.one (show Kd.M (Kd.int .u64) _ _ _ 3 [.int .u64 3] from rfl) (Reps.one (show Kd.M (Kd.int .u64) _ _ _ 4 [.int .u64 4] from rfl) (Reps.one (show Kd.M (Kd.int .u64) _ _ _ 5 [.int .u64 5] from rfl) (Reps.one (show Kd.M (Kd.int .u64) _ _ _ 6 [.int .u64 6] from rfl) (Reps.none _ _)))))); intro v954 w28 ho29 hb hg_ hnew_; clear hg_ hnew_; (first | rw [← Ny953.out] at ho29 | (simp only [Int.reduceToNat] at ho29; rw [← Ny953.out] at ho29)); have n0_ := Aside0.mk (Kd.R_elder' (by (with_reducible repeat (first | apply Kd.R_alloc | apply Kd.R_drewN | apply Kd.R_drew)); exact HO939.out) (Kd.R_base ho29) hb); have n1_ := Aside0.mk (Kd.S_elder' (by (with_reducible repeat (first | apply Kd.S_alloc | apply Kd.S_drewN | apply Kd.S_drew)); exact HO951.out) (Kd.R_base ho29) hb); have n2_ := Aside0.mk (Kd.R_lower (Kd.R_new' ho29 (Kd.R_lt (by (with_reducible repeat (first | apply Kd.R_alloc | apply Kd.R_drewN | apply Kd.R_drew)); exact HO939.out))) (below_size (by repeat (first | (with_reducible first | exact HB.out | apply below_alloc | apply pw_below_drewN | apply below_drew1) | exact HB.out)))); have n3_ := Aside0.mk (below_step (by repeat (first | (with_reducible first | exact HB.out | apply below_alloc | apply pw_below_drewN | apply below_drew1) | exact HB.out)) hb); clear HO939; clear HO951; clear HB; have HO939 := n0_; have HO951 := n1_; have HO955 := n2_; have HB := n3_; clear n0_ n1_ n2_ n3_; clear hb ho29; obtain ⟨Ao30, co30, eo30⟩ := Kd.R_slice HO939.out; subst eo30; obtain ⟨Ao31, co31, eo31⟩ := Kd.R_slice HO955.out; subst eo31) | (go_at_call 33; (with_reducible refine (conclaveref01_Same.calls k _ _ t937 _ _ y953 true _ ?side1 ?side2 ?side3 ?side4 A7.out).mono ?_); (case side1 => repeat (first | exact (Kd.R_reads' HO939.out).2.2 | (with_reducible refine Kd.C_alloc ?_ _) | (with_reducible refine Kd.C_drewN ?_ _) | (with_reducible refine Kd.C_drew ?_))); (case side2 => exact (Kd.R_reads' HO939.out).2.1); (case side3 => repeat (first | exact (Kd.R_reads' HO955.out).2.2 | (with_reducible refine Kd.C_alloc ?_ _) | (with_reducible refine Kd.C_drewN ?_ _) | (with_reducible refine Kd.C_drew ?_))); (case side4 => exact (Kd.R_reads' HO955.out).2.1); rintro e w' ⟨rfl, ⟨nd, rfl⟩⟩; obtain ⟨Ao32, co32, eo32⟩ := Kd.S_slice HO951.out; subst eo32))
          go_ret
          exact ⟨by first | rfl | (simp [errW_none, errW_some] <;> rfl) | (simp [*, errW_none, errW_some] <;> rfl), by repeat (first | (with_reducible first | exact HB.out | apply below_alloc | apply pw_below_drewN | apply below_drew1) | exact HB.out)⟩
      · replace c8 := Bool.eq_false_iff.mpr c8
        subst c8
        have H1 : (some false) = some r := by rw [if_neg (show ¬ (false = true) by decide)] at H; exact H
        clear H
        have H := H1
        clear H1
        obtain rfl := Option.some.inj H
        go_enter Try.func43, Try.ntmps43
        go_wp2_with (first | ((with_reducible refine gate_callee (f := 71) rfl ?_); refine goesL_ (some 6) rfl rfl Try.func71 (by kernel_rfl) rfl #[] rfl (by (try simp only [List.map_toArray, List.map_cons, List.map_nil]); first | done | rfl | (simp only [List.length_drop, List.length_take]; rfl)) ?_; (with_reducible refine (conclavelaw13_four.calls  t929 t930 t931 t932 t933 t934 t935 t936 _ A1.out).mono ?_); rintro e w33 ⟨rfl, hb⟩; refine ⟨_, rfl, ?_⟩; have n0_ := Aside0.mk (below_step (by repeat (first | (with_reducible first | exact HB.out | apply below_alloc | apply pw_below_drewN | apply below_drew1) | exact HB.out)) hb); clear HB; have HB := n0_; clear n0_; (try clear hb); (try clear hb2); (try clear hk); (try clear hi)) | ((with_reducible refine gate_callee (f := 48) rfl ?_); refine goesL_ (some 7) rfl rfl Try.func48 (by kernel_rfl) rfl #[.agg #[.int .u8 t929, .int .i64 t930, .int .i64 t931, .int .i64 t932, .int .i64 t933, .int .i64 t934, .int .i64 t935, .int .i64 t936]] rfl (by (try simp only [List.map_toArray, List.map_cons, List.map_nil]); first | done | rfl | (simp only [List.length_drop, List.length_take]; rfl)) ?_; (with_reducible refine (points_Workers.calls k t929 t930 t931 t932 t933 t934 t935 t936 t937 t940 _ A2.out).mono ?_); rintro e w34 ⟨v938, rfl, ho0, hb⟩; refine ⟨_, rfl, ?_⟩; have n0_ := Aside0.mk (Kd.R_lower ho0 (below_size (by repeat (first | (with_reducible first | exact HB.out | apply below_alloc | apply pw_below_drewN | apply below_drew1) | exact HB.out)))); have n1_ := Aside0.mk (below_step (by repeat (first | (with_reducible first | exact HB.out | apply below_alloc | apply pw_below_drewN | apply below_drew1) | exact HB.out)) hb); clear HB; have HO939 := n0_; have HB := n1_; clear n0_ n1_; (try clear hb); (try clear hb2); (try clear hk); (try clear hi); (try clear ho0)) | ((with_reducible refine gate_callee (f := 71) rfl ?_); refine goesL_ (some 11) rfl rfl Try.func71 (by kernel_rfl) rfl #[] rfl (by (try simp only [List.map_toArray, List.map_cons, List.map_nil]); first | done | rfl | (simp only [List.length_drop, List.length_take]; rfl)) ?_; (with_reducible refine (conclavelaw13_four.calls  t941 t942 t943 t944 t945 t946 t947 t948 _ A3.out).mono ?_); rintro e w35 ⟨rfl, hb⟩; refine ⟨_, rfl, ?_⟩; have n0_ := Aside0.mk (Kd.R_below (by (with_reducible repeat (first | apply Kd.R_alloc | apply Kd.R_drewN | apply Kd.R_drew)); exact HO939.out) hb); have n1_ := Aside0.mk (below_step (by repeat (first | (with_reducible first | exact HB.out | apply below_alloc | apply pw_below_drewN | apply below_drew1) | exact HB.out)) hb); clear HO939; clear HB; have HO939 := n0_; have HB := n1_; clear n0_ n1_; (try clear hb); (try clear hb2); (try clear hk); (try clear hi)) | ((with_reducible refine gate_callee (f := 41) rfl ?_); refine goesL_ (some 12) rfl rfl Try.func41 (by kernel_rfl) rfl #[.agg #[.int .u8 t941, .int .i64 t942, .int .i64 t943, .int .i64 t944, .int .i64 t945, .int .i64 t946, .int .i64 t947, .int .i64 t948]] rfl (by (try simp only [List.map_toArray, List.map_cons, List.map_nil]); first | done | rfl | (simp only [List.length_drop, List.length_take]; rfl)) ?_; (with_reducible refine (points_Rows.calls k t941 t942 t943 t944 t945 t946 t947 t948 t949 t952 _ A4.out).mono ?_); rintro e w36 ⟨v950, rfl, ho0, hb⟩; refine ⟨_, rfl, ?_⟩; have n0_ := Aside0.mk (Kd.R_below (by (with_reducible repeat (first | apply Kd.R_alloc | apply Kd.R_drewN | apply Kd.R_drew)); exact HO939.out) hb); have n1_ := Aside0.mk (Kd.S_lower (Kd.S_new' ho0 (Kd.R_lt (by (with_reducible repeat (first | apply Kd.R_alloc | apply Kd.R_drewN | apply Kd.R_drew)); exact HO939.out))) (below_size (by repeat (first | (with_reducible first | exact HB.out | apply below_alloc | apply pw_below_drewN | apply below_drew1) | exact HB.out)))); have n2_ := Aside0.mk (below_step (by repeat (first | (with_reducible first | exact HB.out | apply below_alloc | apply pw_below_drewN | apply below_drew1) | exact HB.out)) hb); clear HO939; clear HB; have HO939 := n0_; have HO951 := n1_; have HB := n2_; clear n0_ n1_ n2_; (try clear hb); (try clear hb2); (try clear hk); (try clear hi); (try clear ho0)) | ((with_reducible refine gate_dst (N := 23) rfl ?_); (try (refine gate_guard (by rfl) ?_; dsimp only)); refine Kd.R_lit (Kd.int .u64) _ 65 ?hg (N := 23) ?hd (xs := ([3, 4, 5, 6] : List Int)) (inner := [.int .u64 3, .int .u64 4, .int .u64 5, .int .u64 6]) (ok := fun _ => True) (okp := fun _ => True) ?hr ?hp (fun _ hk => hk) trivial (Below.refl _ _) (Nat.le_refl _) (by simp) ?_; (case hd => rfl); (case hg => rfl); (case hr => first | (go_simp; done) | (go_simp; rfl)); (case hp => exact (Reps.one (show Kd.M (Kd.int .u64) _ _ _ 3 [.int .u64 3] from rfl) (Reps.one (show Kd.M (Kd.int .u64) _ _ _ 4 [.int .u64 4] from rfl) (Reps.one (show Kd.M (Kd.int .u64) _ _ _ 5 [.int .u64 5] from rfl) (Reps.one (show Kd.M (Kd.int .u64) _ _ _ 6 [.int .u64 6] from rfl) (Reps.none _ _)))))); intro v954 w37 ho38 hb hg_ hnew_; clear hg_ hnew_; (first | rw [← Ny953.out] at ho38 | (simp only [Int.reduceToNat] at ho38; rw [← Ny953.out] at ho38)); have n0_ := Aside0.mk (Kd.R_elder' (by (with_reducible repeat (first | apply Kd.R_alloc | apply Kd.R_drewN | apply Kd.R_drew)); exact HO939.out) (Kd.R_base ho38) hb); have n1_ := Aside0.mk (Kd.S_elder' (by (with_reducible repeat (first | apply Kd.S_alloc | apply Kd.S_drewN | apply Kd.S_drew)); exact HO951.out) (Kd.R_base ho38) hb); have n2_ := Aside0.mk (Kd.R_lower (Kd.R_new' ho38 (Kd.R_lt (by (with_reducible repeat (first | apply Kd.R_alloc | apply Kd.R_drewN | apply Kd.R_drew)); exact HO939.out))) (below_size (by repeat (first | (with_reducible first | exact HB.out | apply below_alloc | apply pw_below_drewN | apply below_drew1) | exact HB.out)))); have n3_ := Aside0.mk (below_step (by repeat (first | (with_reducible first | exact HB.out | apply below_alloc | apply pw_below_drewN | apply below_drew1) | exact HB.out)) hb); clear HO939; clear HO951; clear HB; have HO939 := n0_; have HO951 := n1_; have HO955 := n2_; have HB := n3_; clear n0_ n1_ n2_ n3_; clear hb ho38; obtain ⟨Ao39, co39, eo39⟩ := Kd.R_slice HO939.out; subst eo39; obtain ⟨Ao40, co40, eo40⟩ := Kd.R_slice HO955.out; subst eo40) | (go_at_call 33; (with_reducible refine (conclaveref01_Same.calls k _ _ t937 _ _ y953 false _ ?side1 ?side2 ?side3 ?side4 A7.out).mono ?_); (case side1 => repeat (first | exact (Kd.R_reads' HO939.out).2.2 | (with_reducible refine Kd.C_alloc ?_ _) | (with_reducible refine Kd.C_drewN ?_ _) | (with_reducible refine Kd.C_drew ?_))); (case side2 => exact (Kd.R_reads' HO939.out).2.1); (case side3 => repeat (first | exact (Kd.R_reads' HO955.out).2.2 | (with_reducible refine Kd.C_alloc ?_ _) | (with_reducible refine Kd.C_drewN ?_ _) | (with_reducible refine Kd.C_drew ?_))); (case side4 => exact (Kd.R_reads' HO955.out).2.1); rintro e w' ⟨rfl, ⟨nd, rfl⟩⟩))
        go_ret
        exact ⟨by first | rfl | (simp [errW_none, errW_some] <;> rfl) | (simp [*, errW_none, errW_some] <;> rfl), by repeat (first | (with_reducible first | exact HB.out | apply below_alloc | apply pw_below_drewN | apply below_drew1) | exact HB.out)⟩
    · rw [if_neg c6] at H
      have c6b0 : (t952 == 0) = false := beq_eq_false_iff_ne.mpr c6
      have c6b1 : (t952 != 0) = true := bne_iff_ne.mpr c6
      obtain rfl := Option.some.inj H
      go_enter Try.func43, Try.ntmps43
      go_wp2_with (first | ((with_reducible refine gate_callee (f := 71) rfl ?_); refine goesL_ (some 6) rfl rfl Try.func71 (by kernel_rfl) rfl #[] rfl (by (try simp only [List.map_toArray, List.map_cons, List.map_nil]); first | done | rfl | (simp only [List.length_drop, List.length_take]; rfl)) ?_; (with_reducible refine (conclavelaw13_four.calls  t929 t930 t931 t932 t933 t934 t935 t936 _ A1.out).mono ?_); rintro e w41 ⟨rfl, hb⟩; refine ⟨_, rfl, ?_⟩; have n0_ := Aside0.mk (below_step (by repeat (first | (with_reducible first | exact HB.out | apply below_alloc | apply pw_below_drewN | apply below_drew1) | exact HB.out)) hb); clear HB; have HB := n0_; clear n0_; (try clear hb); (try clear hb2); (try clear hk); (try clear hi)) | ((with_reducible refine gate_callee (f := 48) rfl ?_); refine goesL_ (some 7) rfl rfl Try.func48 (by kernel_rfl) rfl #[.agg #[.int .u8 t929, .int .i64 t930, .int .i64 t931, .int .i64 t932, .int .i64 t933, .int .i64 t934, .int .i64 t935, .int .i64 t936]] rfl (by (try simp only [List.map_toArray, List.map_cons, List.map_nil]); first | done | rfl | (simp only [List.length_drop, List.length_take]; rfl)) ?_; (with_reducible refine (points_Workers.calls k t929 t930 t931 t932 t933 t934 t935 t936 t937 t940 _ A2.out).mono ?_); rintro e w42 ⟨v938, rfl, ho0, hb⟩; refine ⟨_, rfl, ?_⟩; have n0_ := Aside0.mk (Kd.R_lower ho0 (below_size (by repeat (first | (with_reducible first | exact HB.out | apply below_alloc | apply pw_below_drewN | apply below_drew1) | exact HB.out)))); have n1_ := Aside0.mk (below_step (by repeat (first | (with_reducible first | exact HB.out | apply below_alloc | apply pw_below_drewN | apply below_drew1) | exact HB.out)) hb); clear HB; have HO939 := n0_; have HB := n1_; clear n0_ n1_; (try clear hb); (try clear hb2); (try clear hk); (try clear hi); (try clear ho0)) | ((with_reducible refine gate_callee (f := 71) rfl ?_); refine goesL_ (some 11) rfl rfl Try.func71 (by kernel_rfl) rfl #[] rfl (by (try simp only [List.map_toArray, List.map_cons, List.map_nil]); first | done | rfl | (simp only [List.length_drop, List.length_take]; rfl)) ?_; (with_reducible refine (conclavelaw13_four.calls  t941 t942 t943 t944 t945 t946 t947 t948 _ A3.out).mono ?_); rintro e w43 ⟨rfl, hb⟩; refine ⟨_, rfl, ?_⟩; have n0_ := Aside0.mk (Kd.R_below (by (with_reducible repeat (first | apply Kd.R_alloc | apply Kd.R_drewN | apply Kd.R_drew)); exact HO939.out) hb); have n1_ := Aside0.mk (below_step (by repeat (first | (with_reducible first | exact HB.out | apply below_alloc | apply pw_below_drewN | apply below_drew1) | exact HB.out)) hb); clear HO939; clear HB; have HO939 := n0_; have HB := n1_; clear n0_ n1_; (try clear hb); (try clear hb2); (try clear hk); (try clear hi)) | ((with_reducible refine gate_callee (f := 41) rfl ?_); refine goesL_ (some 12) rfl rfl Try.func41 (by kernel_rfl) rfl #[.agg #[.int .u8 t941, .int .i64 t942, .int .i64 t943, .int .i64 t944, .int .i64 t945, .int .i64 t946, .int .i64 t947, .int .i64 t948]] rfl (by (try simp only [List.map_toArray, List.map_cons, List.map_nil]); first | done | rfl | (simp only [List.length_drop, List.length_take]; rfl)) ?_; (with_reducible refine (points_Rows.calls k t941 t942 t943 t944 t945 t946 t947 t948 t949 t952 _ A4.out).mono ?_); rintro e w44 ⟨v950, rfl, ho0, hb⟩; refine ⟨_, rfl, ?_⟩; have n0_ := Aside0.mk (Kd.R_below (by (with_reducible repeat (first | apply Kd.R_alloc | apply Kd.R_drewN | apply Kd.R_drew)); exact HO939.out) hb); have n1_ := Aside0.mk (Kd.S_lower (Kd.S_new' ho0 (Kd.R_lt (by (with_reducible repeat (first | apply Kd.R_alloc | apply Kd.R_drewN | apply Kd.R_drew)); exact HO939.out))) (below_size (by repeat (first | (with_reducible first | exact HB.out | apply below_alloc | apply pw_below_drewN | apply below_drew1) | exact HB.out)))); have n2_ := Aside0.mk (below_step (by repeat (first | (with_reducible first | exact HB.out | apply below_alloc | apply pw_below_drewN | apply below_drew1) | exact HB.out)) hb); clear HO939; clear HB; have HO939 := n0_; have HO951 := n1_; have HB := n2_; clear n0_ n1_ n2_; (try clear hb); (try clear hb2); (try clear hk); (try clear hi); (try clear ho0)))
      go_ret
      exact ⟨by first | rfl | (simp [errW_none, errW_some] <;> rfl) | (simp [*, errW_none, errW_some] <;> rfl), by repeat (first | (with_reducible first | exact HB.out | apply below_alloc | apply pw_below_drewN | apply below_drew1) | exact HB.out)⟩
  · rw [if_neg c5] at H
    have c5b0 : (t940 == 0) = false := beq_eq_false_iff_ne.mpr c5
    have c5b1 : (t940 != 0) = true := bne_iff_ne.mpr c5
    obtain rfl := Option.some.inj H
    go_enter Try.func43, Try.ntmps43
    go_wp2_with (first | ((with_reducible refine gate_callee (f := 71) rfl ?_); refine goesL_ (some 6) rfl rfl Try.func71 (by kernel_rfl) rfl #[] rfl (by (try simp only [List.map_toArray, List.map_cons, List.map_nil]); first | done | rfl | (simp only [List.length_drop, List.length_take]; rfl)) ?_; (with_reducible refine (conclavelaw13_four.calls  t929 t930 t931 t932 t933 t934 t935 t936 _ A1.out).mono ?_); rintro e w45 ⟨rfl, hb⟩; refine ⟨_, rfl, ?_⟩; have n0_ := Aside0.mk (below_step (by repeat (first | (with_reducible first | exact HB.out | apply below_alloc | apply pw_below_drewN | apply below_drew1) | exact HB.out)) hb); clear HB; have HB := n0_; clear n0_; (try clear hb); (try clear hb2); (try clear hk); (try clear hi)) | ((with_reducible refine gate_callee (f := 48) rfl ?_); refine goesL_ (some 7) rfl rfl Try.func48 (by kernel_rfl) rfl #[.agg #[.int .u8 t929, .int .i64 t930, .int .i64 t931, .int .i64 t932, .int .i64 t933, .int .i64 t934, .int .i64 t935, .int .i64 t936]] rfl (by (try simp only [List.map_toArray, List.map_cons, List.map_nil]); first | done | rfl | (simp only [List.length_drop, List.length_take]; rfl)) ?_; (with_reducible refine (points_Workers.calls k t929 t930 t931 t932 t933 t934 t935 t936 t937 t940 _ A2.out).mono ?_); rintro e w46 ⟨v938, rfl, ho0, hb⟩; refine ⟨_, rfl, ?_⟩; have n0_ := Aside0.mk (Kd.R_lower ho0 (below_size (by repeat (first | (with_reducible first | exact HB.out | apply below_alloc | apply pw_below_drewN | apply below_drew1) | exact HB.out)))); have n1_ := Aside0.mk (below_step (by repeat (first | (with_reducible first | exact HB.out | apply below_alloc | apply pw_below_drewN | apply below_drew1) | exact HB.out)) hb); clear HB; have HO939 := n0_; have HB := n1_; clear n0_ n1_; (try clear hb); (try clear hb2); (try clear hk); (try clear hi); (try clear ho0)) | ((with_reducible refine gate_callee (f := 71) rfl ?_); refine goesL_ (some 11) rfl rfl Try.func71 (by kernel_rfl) rfl #[] rfl (by (try simp only [List.map_toArray, List.map_cons, List.map_nil]); first | done | rfl | (simp only [List.length_drop, List.length_take]; rfl)) ?_; (with_reducible refine (conclavelaw13_four.calls  t941 t942 t943 t944 t945 t946 t947 t948 _ A3.out).mono ?_); rintro e w47 ⟨rfl, hb⟩; refine ⟨_, rfl, ?_⟩; have n0_ := Aside0.mk (Kd.R_below (by (with_reducible repeat (first | apply Kd.R_alloc | apply Kd.R_drewN | apply Kd.R_drew)); exact HO939.out) hb); have n1_ := Aside0.mk (below_step (by repeat (first | (with_reducible first | exact HB.out | apply below_alloc | apply pw_below_drewN | apply below_drew1) | exact HB.out)) hb); clear HO939; clear HB; have HO939 := n0_; have HB := n1_; clear n0_ n1_; (try clear hb); (try clear hb2); (try clear hk); (try clear hi)) | ((with_reducible refine gate_callee (f := 41) rfl ?_); refine goesL_ (some 12) rfl rfl Try.func41 (by kernel_rfl) rfl #[.agg #[.int .u8 t941, .int .i64 t942, .int .i64 t943, .int .i64 t944, .int .i64 t945, .int .i64 t946, .int .i64 t947, .int .i64 t948]] rfl (by (try simp only [List.map_toArray, List.map_cons, List.map_nil]); first | done | rfl | (simp only [List.length_drop, List.length_take]; rfl)) ?_; (with_reducible refine (points_Rows.calls k t941 t942 t943 t944 t945 t946 t947 t948 t949 t952 _ A4.out).mono ?_); rintro e w48 ⟨v950, rfl, ho0, hb⟩; refine ⟨_, rfl, ?_⟩; have n0_ := Aside0.mk (Kd.R_below (by (with_reducible repeat (first | apply Kd.R_alloc | apply Kd.R_drewN | apply Kd.R_drew)); exact HO939.out) hb); have n1_ := Aside0.mk (Kd.S_lower (Kd.S_new' ho0 (Kd.R_lt (by (with_reducible repeat (first | apply Kd.R_alloc | apply Kd.R_drewN | apply Kd.R_drew)); exact HO939.out))) (below_size (by repeat (first | (with_reducible first | exact HB.out | apply below_alloc | apply pw_below_drewN | apply below_drew1) | exact HB.out)))); have n2_ := Aside0.mk (below_step (by repeat (first | (with_reducible first | exact HB.out | apply below_alloc | apply pw_below_drewN | apply below_drew1) | exact HB.out)) hb); clear HO939; clear HB; have HO939 := n0_; have HO951 := n1_; have HB := n2_; clear n0_ n1_ n2_; (try clear hb); (try clear hb2); (try clear hk); (try clear hi); (try clear ho0)))
    go_ret
    exact ⟨by first | rfl | (simp [errW_none, errW_some] <;> rfl) | (simp [*, errW_none, errW_some] <;> rfl), by repeat (first | (with_reducible first | exact HB.out | apply below_alloc | apply pw_below_drewN | apply below_drew1) | exact HB.out)⟩
end Go.Proofs.Ytjgojlnnphkefaa.P
end
section
namespace Go.Proofs.Ytjgojlnnphkefaa.P
open Go.RowKit Go.Proofs.YtjgojlnnphkefaaW.PrintWords Go.Proofs.YtjgojlnnphkefaaW.PrintLast Go.Proofs.YtjgojlnnphkefaaW.PrintMore
attribute [local go_sem] max2_int min2_int max_two min_two max_three min_three max_four min_four
set_option linter.unusedVariables false
set_option linter.unusedSimpArgs false
def points_Worker.j0 : Nat → Int → Bool → Int → Int → Int → Int → Int → Int → Int → Int → Option (Int × Bool × Int)
  | 0, _, _, _, _, _, _, _, _, _, _ => none
  | k + 1, x1, x18, x1037000, x1037001, x1037002, x1037003, x1037004, x1037005, x1037006, x1037007 => if x18 = true then (some (0, false, 2)) else (if x1 < (IntKind.u64.wrap (wrap64 (x1037002 + x1037003))) then (some (0, false, 0)) else (if (IntKind.u64.wrap (x1 - (IntKind.u64.wrap (wrap64 (x1037002 + x1037003))))) ≥ (IntKind.u64.wrap (x1037001)) then (some (0, false, 0)) else (some (wrap64 (IntKind.u64.wrap (x1 - (IntKind.u64.wrap (wrap64 (x1037002 + x1037003))))), true, 0))))
def points_Worker.f (k : Nat) (a0_0 : Int) (a0_1 : Int) (a0_2 : Int) (a0_3 : Int) (a0_4 : Int) (a0_5 : Int) (a0_6 : Int) (a0_7 : Int) (a1 : Int) : Option (Int × Bool × Int) := (plan_May.f a0_0 a0_1 a0_2 a0_3 a0_4 a0_5 a0_6 a0_7).bind fun t1037 => (if t1037 = true then ((field_In.f k a0_0 (([a1] : List Int))).bind fun t1041 => (points_Worker.j0 k a1 (!t1041) a0_0 a0_1 a0_2 a0_3 a0_4 a0_5 a0_6 a0_7)) else (points_Worker.j0 k a1 true a0_0 a0_1 a0_2 a0_3 a0_4 a0_5 a0_6 a0_7))
set_option maxHeartbeats 8000000 in
set_option maxRecDepth 100000 in
theorem points_Worker.calls (k : Nat) (a0_0 : Int) (a0_1 : Int) (a0_2 : Int) (a0_3 : Int) (a0_4 : Int) (a0_5 : Int) (a0_6 : Int) (a0_7 : Int) (a1 : Int) (r1 : Int) (r2 : Bool) (r3 : Int) (w : World) (h : points_Worker.f k a0_0 a0_1 a0_2 a0_3 a0_4 a0_5 a0_6 a0_7 a1 = some (r1, r2, r3)) :
    Calls Try.prog 49 #[.agg #[.int .u8 a0_0, .int .i64 a0_1, .int .i64 a0_2, .int .i64 a0_3, .int .i64 a0_4, .int .i64 a0_5, .int .i64 a0_6, .int .i64 a0_7], .int .u64 a1] w fun e w' => e = .returned (.tuple #[.int .i64 r1, .bool r2, .int .i64 r3]) ∧ Below w.heap.size w w' := by
  have hu40 := Try.underlying40
  have HB := Aside0.mk (Below.refl w.heap.size w)
  have H : ((plan_May.f a0_0 a0_1 a0_2 a0_3 a0_4 a0_5 a0_6 a0_7).bind fun t1037 => (if t1037 = true then ((field_In.f k a0_0 (([a1] : List Int))).bind fun t1041 => (points_Worker.j0 k a1 (!t1041) a0_0 a0_1 a0_2 a0_3 a0_4 a0_5 a0_6 a0_7)) else (points_Worker.j0 k a1 true a0_0 a0_1 a0_2 a0_3 a0_4 a0_5 a0_6 a0_7))) = some (r1, r2, r3) := h
  clear h
  have HC3 := Aside0.mk H
  clear H
  go_enter Try.func49, Try.ntmps49
  go_upto_region 1 with (first | ((with_reducible refine gate_dst (N := 2) rfl ?_); (try (refine gate_guard (by rfl) ?_; dsimp only)); refine box_event ?hg (N := 2) ?hd (cs := #[.int .u8 a0_0, .int .i64 a0_1, .int .i64 a0_2, .int .i64 a0_3, .int .i64 a0_4, .int .i64 a0_5, .int .i64 a0_6, .int .i64 a0_7]) (t := 40) ?hr ?_; (case hd => rfl); (case hg => rfl); (case hr => first | (go_simp; done) | (go_simp; rfl)); intro gb1036 hg w4 hbox hb; have n0_ := Aside0.mk (below_step (by repeat (first | (with_reducible first | exact HB.out | apply below_alloc | apply pw_below_drewN | apply below_drew1) | exact HB.out)) hb); have n1_ := Aside0.mk (hbox); have n2_ := Aside0.mk ((by rw [hg]; exact (below_size (by repeat (first | (with_reducible first | exact HB.out | apply below_alloc | apply pw_below_drewN | apply below_drew1) | exact HB.out))) : w.heap.size ≤ gb1036)); have n3_ := Aside0.mk ((by rw [hg]; exact (below_size (by repeat (first | (with_reducible first | exact HB.out | apply below_alloc | apply pw_below_drewN | apply below_drew1) | exact HB.out))) : w.heap.size ≤ gb1036)); clear HB; have HB := n0_; have BK1036 := n1_; have GW1036 := n2_; have GE1036 := n3_; clear n0_ n1_ n2_ n3_; clear hb hbox hg))
  (try simp only [Act.put, List.setIfInBounds_toArray, List.set_cons_zero, List.set_cons_succ])
  go_cut [18] (fun v18 wc => ∃ (kq : Nat) (x18_2 : Bool), v18 = .bool x18_2 ∧ Aside0 (points_Worker.j0 kq a1 x18_2 a0_0 a0_1 a0_2 a0_3 a0_4 a0_5 a0_6 a0_7 = some (r1, r2, r3)) ∧ Aside0 (kq ≤ k) ∧ Aside0 (wc.heap[gb1036]? = some (.cells #[.int .u8 a0_0, .int .i64 a0_1, .int .i64 a0_2, .int .i64 a0_3, .int .i64 a0_4, .int .i64 a0_5, .int .i64 a0_6, .int .i64 a0_7] 40 (0, 0))) ∧ Aside0 (Below w.heap.size w wc))
  case first =>
    have H := HC3.out
    clear HC3
    replace H := Option.bind_eq_some_iff.mp H
    obtain ⟨t1037, A50, H⟩ := H
    replace H : (if t1037 = true then ((field_In.f k a0_0 (([a1] : List Int))).bind fun t1041 => (points_Worker.j0 k a1 (!t1041) a0_0 a0_1 a0_2 a0_3 a0_4 a0_5 a0_6 a0_7)) else (points_Worker.j0 k a1 true a0_0 a0_1 a0_2 a0_3 a0_4 a0_5 a0_6 a0_7)) = some (r1, r2, r3) := H
    have A5 := Aside0.mk A50
    clear A50
    by_cases c6 : t1037 = true
    · subst c6
      have H1 : ((field_In.f k a0_0 (([a1] : List Int))).bind fun t1041 => (points_Worker.j0 k a1 (!t1041) a0_0 a0_1 a0_2 a0_3 a0_4 a0_5 a0_6 a0_7)) = some (r1, r2, r3) := by rw [if_pos rfl] at H; exact H
      clear H
      have H := H1
      clear H1
      obtain ⟨y1038, hy1038⟩ : ∃ y_ : List Int, y_ = (([a1] : List Int)) := ⟨_, rfl⟩
      replace H : ((field_In.f k a0_0 y1038).bind fun t1041 => (points_Worker.j0 k a1 (!t1041) a0_0 a0_1 a0_2 a0_3 a0_4 a0_5 a0_6 a0_7)) = some (r1, r2, r3) := by first | (rw [hy1038]; with_reducible exact H) | (have H2_ := (Option.bind_some _ _).symm.trans H; rw [hy1038]; with_reducible exact H2_) | (have H2_ := (Option.bind_some _ _).symm.trans H; with_reducible exact H2_) | with_reducible exact H | (rw [hy1038]; exact H) | exact H
      have Ny1038 := Aside0.mk hy1038
      clear hy1038
      replace H := Option.bind_eq_some_iff.mp H
      obtain ⟨t1041, A70, H⟩ := H
      replace H : (points_Worker.j0 k a1 (!t1041) a0_0 a0_1 a0_2 a0_3 a0_4 a0_5 a0_6 a0_7) = some (r1, r2, r3) := H
      have A7 := Aside0.mk A70
      clear A70
      have H' := Aside0.mk H
      clear H
      have hcz8_0 : w4.cell? ⟨gb1036, 0, none⟩ = some (.int .u8 a0_0) := (blk_cell BK1036.out 0).trans rfl
      have hcz8_1 : w4.cell? ⟨gb1036, 1, none⟩ = some (.int .i64 a0_1) := (blk_cell BK1036.out 1).trans rfl
      have hcz8_2 : w4.cell? ⟨gb1036, 2, none⟩ = some (.int .i64 a0_2) := (blk_cell BK1036.out 2).trans rfl
      have hcz8_3 : w4.cell? ⟨gb1036, 3, none⟩ = some (.int .i64 a0_3) := (blk_cell BK1036.out 3).trans rfl
      have hcz8_4 : w4.cell? ⟨gb1036, 4, none⟩ = some (.int .i64 a0_4) := (blk_cell BK1036.out 4).trans rfl
      have hcz8_5 : w4.cell? ⟨gb1036, 5, none⟩ = some (.int .i64 a0_5) := (blk_cell BK1036.out 5).trans rfl
      have hcz8_6 : w4.cell? ⟨gb1036, 6, none⟩ = some (.int .i64 a0_6) := (blk_cell BK1036.out 6).trans rfl
      have hcz8_7 : w4.cell? ⟨gb1036, 7, none⟩ = some (.int .i64 a0_7) := (blk_cell BK1036.out 7).trans rfl
      have hfz8_0 := blk_frozen BK1036.out 0
      have hfz8_1 := blk_frozen BK1036.out 1
      have hfz8_2 := blk_frozen BK1036.out 2
      have hfz8_3 := blk_frozen BK1036.out 3
      have hfz8_4 := blk_frozen BK1036.out 4
      have hfz8_5 := blk_frozen BK1036.out 5
      have hfz8_6 := blk_frozen BK1036.out 6
      have hfz8_7 := blk_frozen BK1036.out 7
      go_wp2_with (first | ((with_reducible refine gate_callee (f := 56) rfl ?_); refine goesL_ (some 9) rfl rfl Try.func56 (by kernel_rfl) rfl #[.agg #[.int .u8 a0_0, .int .i64 a0_1, .int .i64 a0_2, .int .i64 a0_3, .int .i64 a0_4, .int .i64 a0_5, .int .i64 a0_6, .int .i64 a0_7]] rfl (by (try simp only [List.map_toArray, List.map_cons, List.map_nil]); first | done | rfl | (simp only [List.length_drop, List.length_take]; rfl)) ?_; (with_reducible refine (plan_May.calls a0_0 a0_1 a0_2 a0_3 a0_4 a0_5 a0_6 a0_7 true _ A5.out).mono ?_); rintro e w9 ⟨rfl, hb⟩; refine ⟨_, rfl, ?_⟩; have n0_ := Aside0.mk (blk_below (g := gb1036) (o := .cells #[.int .u8 a0_0, .int .i64 a0_1, .int .i64 a0_2, .int .i64 a0_3, .int .i64 a0_4, .int .i64 a0_5, .int .i64 a0_6, .int .i64 a0_7] 40 (0, 0)) (by (with_reducible repeat (first | refine blk_drewN ?_ _ | refine blk_drew ?_ | refine blk_alloc ?_ _)); exact BK1036.out) hb); have n1_ := Aside0.mk (below_step (by repeat (first | (with_reducible first | exact HB.out | apply below_alloc | apply pw_below_drewN | apply below_drew1 | refine below_set ?_ GE1036.out) | exact HB.out)) hb); clear BK1036; clear HB; have BK1036 := n0_; have HB := n1_; clear n0_ n1_; (try clear hb); (try clear hb2); (try clear hk); (try clear hi); have hcz10_0 : w9.cell? ⟨gb1036, 0, none⟩ = some (.int .u8 a0_0) := (blk_cell BK1036.out 0).trans rfl; have hcz10_1 : w9.cell? ⟨gb1036, 1, none⟩ = some (.int .i64 a0_1) := (blk_cell BK1036.out 1).trans rfl; have hcz10_2 : w9.cell? ⟨gb1036, 2, none⟩ = some (.int .i64 a0_2) := (blk_cell BK1036.out 2).trans rfl; have hcz10_3 : w9.cell? ⟨gb1036, 3, none⟩ = some (.int .i64 a0_3) := (blk_cell BK1036.out 3).trans rfl; have hcz10_4 : w9.cell? ⟨gb1036, 4, none⟩ = some (.int .i64 a0_4) := (blk_cell BK1036.out 4).trans rfl; have hcz10_5 : w9.cell? ⟨gb1036, 5, none⟩ = some (.int .i64 a0_5) := (blk_cell BK1036.out 5).trans rfl; have hcz10_6 : w9.cell? ⟨gb1036, 6, none⟩ = some (.int .i64 a0_6) := (blk_cell BK1036.out 6).trans rfl; have hcz10_7 : w9.cell? ⟨gb1036, 7, none⟩ = some (.int .i64 a0_7) := (blk_cell BK1036.out 7).trans rfl; have hfz10_0 := blk_frozen BK1036.out 0; have hfz10_1 := blk_frozen BK1036.out 1; have hfz10_2 := blk_frozen BK1036.out 2; have hfz10_3 := blk_frozen BK1036.out 3; have hfz10_4 := blk_frozen BK1036.out 4; have hfz10_5 := blk_frozen BK1036.out 5; have hfz10_6 := blk_frozen BK1036.out 6; have hfz10_7 := blk_frozen BK1036.out 7) | ((with_reducible refine gate_dst (N := 15) rfl ?_); (try (refine gate_guard (by rfl) ?_; dsimp only)); refine Kd.R_lit (Kd.int .u64) _ 65 ?hg (N := 15) ?hd (xs := ([a1] : List Int)) (inner := [.int .u64 a1]) (ok := fun _ => True) (okp := fun _ => True) ?hr ?hp (fun _ hk => hk) trivial (Below.refl _ _) (Nat.le_refl _) (by simp) ?_; (case hd => rfl); (case hg => rfl); (case hr => first | (go_simp; done) | (go_simp; rfl)); (case hp => exact (Reps.one (show Kd.M (Kd.int .u64) _ _ _ a1 [.int .u64 a1] from rfl) (Reps.none _ _))); intro v1039 w11 ho12 hb hg_ hnew_; clear hg_ hnew_; (first | rw [← Ny1038.out] at ho12 | (simp only [Int.reduceToNat] at ho12; rw [← Ny1038.out] at ho12)); have n0_ := Aside0.mk (Kd.R_lower ho12 (below_size (by repeat (first | (with_reducible first | exact HB.out | apply below_alloc | apply pw_below_drewN | apply below_drew1 | refine below_set ?_ GE1036.out) | exact HB.out)))); have n1_ := Aside0.mk (blk_below (g := gb1036) (o := .cells #[.int .u8 a0_0, .int .i64 a0_1, .int .i64 a0_2, .int .i64 a0_3, .int .i64 a0_4, .int .i64 a0_5, .int .i64 a0_6, .int .i64 a0_7] 40 (0, 0)) (by (with_reducible repeat (first | refine blk_drewN ?_ _ | refine blk_drew ?_ | refine blk_alloc ?_ _)); exact BK1036.out) hb); have n2_ := Aside0.mk (below_step (by repeat (first | (with_reducible first | exact HB.out | apply below_alloc | apply pw_below_drewN | apply below_drew1 | refine below_set ?_ GE1036.out) | exact HB.out)) hb); clear BK1036; clear HB; have HO1040 := n0_; have BK1036 := n1_; have HB := n2_; clear n0_ n1_ n2_; clear hb ho12; obtain ⟨Ao13, co13, eo13⟩ := Kd.R_slice HO1040.out; subst eo13) | (go_at_call 57; (with_reducible refine (field_In.calls k a0_0 _ _ y1038 t1041 _ ?side1 ?side2 A7.out).mono ?_); (case side1 => repeat (first | exact (Kd.R_reads' HO1040.out).2.2 | (with_reducible refine Kd.C_alloc ?_ _) | (with_reducible refine Kd.C_drewN ?_ _) | (with_reducible refine Kd.C_drew ?_))); (case side2 => exact (Kd.R_reads' HO1040.out).2.1); rintro e w14 ⟨rfl, hb⟩; have n0_ := Aside0.mk (Kd.R_below (by (with_reducible repeat (first | apply Kd.R_alloc | apply Kd.R_drewN | apply Kd.R_drew)); exact HO1040.out) hb); have n1_ := Aside0.mk (blk_below (g := gb1036) (o := .cells #[.int .u8 a0_0, .int .i64 a0_1, .int .i64 a0_2, .int .i64 a0_3, .int .i64 a0_4, .int .i64 a0_5, .int .i64 a0_6, .int .i64 a0_7] 40 (0, 0)) (by (with_reducible repeat (first | refine blk_drewN ?_ _ | refine blk_drew ?_ | refine blk_alloc ?_ _)); exact BK1036.out) hb); have n2_ := Aside0.mk (below_step (by repeat (first | (with_reducible first | exact HB.out | apply below_alloc | apply pw_below_drewN | apply below_drew1 | refine below_set ?_ GE1036.out) | exact HB.out)) hb); clear HO1040; clear BK1036; clear HB; have HO1040 := n0_; have BK1036 := n1_; have HB := n2_; clear n0_ n1_ n2_; (try clear hb); (try clear hb2); (try clear hk); (try clear hi)))
      go_meet
      case rel => exact ⟨_, (!t1041), (by first | rfl | (simp; done) | (simp [*]; done)), H', ⟨by first | omega | exact Nat.le_refl _⟩, ⟨by (with_reducible repeat (first | refine blk_drewN ?_ _ | refine blk_drew ?_ | refine blk_alloc ?_ _)); exact BK1036.out⟩, ⟨by repeat (first | (with_reducible first | exact HB.out | apply below_alloc | apply pw_below_drewN | apply below_drew1 | refine below_set ?_ GE1036.out) | exact HB.out)⟩⟩
    · replace c6 := Bool.eq_false_iff.mpr c6
      subst c6
      have H1 : (points_Worker.j0 k a1 true a0_0 a0_1 a0_2 a0_3 a0_4 a0_5 a0_6 a0_7) = some (r1, r2, r3) := by rw [if_neg (show ¬ (false = true) by decide)] at H; exact H
      clear H
      have H := H1
      clear H1
      have H' := Aside0.mk H
      clear H
      have hcz15_0 : w4.cell? ⟨gb1036, 0, none⟩ = some (.int .u8 a0_0) := (blk_cell BK1036.out 0).trans rfl
      have hcz15_1 : w4.cell? ⟨gb1036, 1, none⟩ = some (.int .i64 a0_1) := (blk_cell BK1036.out 1).trans rfl
      have hcz15_2 : w4.cell? ⟨gb1036, 2, none⟩ = some (.int .i64 a0_2) := (blk_cell BK1036.out 2).trans rfl
      have hcz15_3 : w4.cell? ⟨gb1036, 3, none⟩ = some (.int .i64 a0_3) := (blk_cell BK1036.out 3).trans rfl
      have hcz15_4 : w4.cell? ⟨gb1036, 4, none⟩ = some (.int .i64 a0_4) := (blk_cell BK1036.out 4).trans rfl
      have hcz15_5 : w4.cell? ⟨gb1036, 5, none⟩ = some (.int .i64 a0_5) := (blk_cell BK1036.out 5).trans rfl
      have hcz15_6 : w4.cell? ⟨gb1036, 6, none⟩ = some (.int .i64 a0_6) := (blk_cell BK1036.out 6).trans rfl
      have hcz15_7 : w4.cell? ⟨gb1036, 7, none⟩ = some (.int .i64 a0_7) := (blk_cell BK1036.out 7).trans rfl
      have hfz15_0 := blk_frozen BK1036.out 0
      have hfz15_1 := blk_frozen BK1036.out 1
      have hfz15_2 := blk_frozen BK1036.out 2
      have hfz15_3 := blk_frozen BK1036.out 3
      have hfz15_4 := blk_frozen BK1036.out 4
      have hfz15_5 := blk_frozen BK1036.out 5
      have hfz15_6 := blk_frozen BK1036.out 6
      have hfz15_7 := blk_frozen BK1036.out 7
      go_wp2_with (first | ((with_reducible refine gate_callee (f := 56) rfl ?_); refine goesL_ (some 9) rfl rfl Try.func56 (by kernel_rfl) rfl #[.agg #[.int .u8 a0_0, .int .i64 a0_1, .int .i64 a0_2, .int .i64 a0_3, .int .i64 a0_4, .int .i64 a0_5, .int .i64 a0_6, .int .i64 a0_7]] rfl (by (try simp only [List.map_toArray, List.map_cons, List.map_nil]); first | done | rfl | (simp only [List.length_drop, List.length_take]; rfl)) ?_; (with_reducible refine (plan_May.calls a0_0 a0_1 a0_2 a0_3 a0_4 a0_5 a0_6 a0_7 false _ A5.out).mono ?_); rintro e w16 ⟨rfl, hb⟩; refine ⟨_, rfl, ?_⟩; have n0_ := Aside0.mk (blk_below (g := gb1036) (o := .cells #[.int .u8 a0_0, .int .i64 a0_1, .int .i64 a0_2, .int .i64 a0_3, .int .i64 a0_4, .int .i64 a0_5, .int .i64 a0_6, .int .i64 a0_7] 40 (0, 0)) (by (with_reducible repeat (first | refine blk_drewN ?_ _ | refine blk_drew ?_ | refine blk_alloc ?_ _)); exact BK1036.out) hb); have n1_ := Aside0.mk (below_step (by repeat (first | (with_reducible first | exact HB.out | apply below_alloc | apply pw_below_drewN | apply below_drew1 | refine below_set ?_ GE1036.out) | exact HB.out)) hb); clear BK1036; clear HB; have BK1036 := n0_; have HB := n1_; clear n0_ n1_; (try clear hb); (try clear hb2); (try clear hk); (try clear hi)))
      go_meet
      case rel => exact ⟨_, (true), (by first | rfl | (simp; done) | (simp [*]; done)), H', ⟨by first | omega | exact Nat.le_refl _⟩, ⟨by (with_reducible repeat (first | refine blk_drewN ?_ _ | refine blk_drew ?_ | refine blk_alloc ?_ _)); exact BK1036.out⟩, ⟨by repeat (first | (with_reducible first | exact HB.out | apply below_alloc | apply pw_below_drewN | apply below_drew1 | refine below_set ?_ GE1036.out) | exact HB.out)⟩⟩
  case rest =>
    clear HC3
    try clear p2
    try clear c4
    try clear c5
    try clear c6
    try clear hcz10_0
    try clear hcz10_1
    try clear hcz10_2
    try clear hcz10_3
    try clear hcz10_4
    try clear hcz10_5
    try clear hcz10_6
    try clear hcz10_7
    try clear hcz15_0
    try clear hcz15_1
    try clear hcz15_2
    try clear hcz15_3
    try clear hcz15_4
    try clear hcz15_5
    try clear hcz15_6
    try clear hcz15_7
    try clear hcz8_0
    try clear hcz8_1
    try clear hcz8_2
    try clear hcz8_3
    try clear hcz8_4
    try clear hcz8_5
    try clear hcz8_6
    try clear hcz8_7
    try clear hfz10_0
    try clear hfz10_1
    try clear hfz10_2
    try clear hfz10_3
    try clear hfz10_4
    try clear hfz10_5
    try clear hfz10_6
    try clear hfz10_7
    try clear hfz15_0
    try clear hfz15_1
    try clear hfz15_2
    try clear hfz15_3
    try clear hfz15_4
    try clear hfz15_5
    try clear hfz15_6
    try clear hfz15_7
    try clear hfz8_0
    try clear hfz8_1
    try clear hfz8_2
    try clear hfz8_3
    try clear hfz8_4
    try clear hfz8_5
    try clear hfz8_6
    try clear hfz8_7
    obtain ⟨kq, x18_2, rfl, HA, HJ2, BK1036, HB⟩ := hcut
    cases kq with
    | zero => exact absurd HA.out (by simp [points_Worker.j0])
    | succ kj2 =>
      have H := HA.out
      clear HA
      simp only [points_Worker.j0] at H
      by_cases c17 : x18_2 = true
      · subst c17
        have H1 : (some (0, false, 2)) = some (r1, r2, r3) := by rw [if_pos rfl] at H; exact H
        clear H
        have H := H1
        clear H1
        simp only [Option.some.injEq, Prod.mk.injEq] at H
        obtain ⟨rfl, rfl, rfl⟩ := H
        go_wp2
        go_ret3
        exact ⟨by first | rfl | (simp [errW_none, errW_some] <;> rfl) | (simp [*, errW_none, errW_some] <;> rfl), by repeat (first | (with_reducible first | exact HB.out | apply below_alloc | apply pw_below_drewN | apply below_drew1 | refine below_set ?_ GE1036.out) | exact HB.out)⟩
      · replace c17 := Bool.eq_false_iff.mpr c17
        subst c17
        have H1 : (if a1 < (IntKind.u64.wrap (wrap64 (a0_2 + a0_3))) then (some (0, false, 0)) else (if (IntKind.u64.wrap (a1 - (IntKind.u64.wrap (wrap64 (a0_2 + a0_3))))) ≥ (IntKind.u64.wrap (a0_1)) then (some (0, false, 0)) else (some (wrap64 (IntKind.u64.wrap (a1 - (IntKind.u64.wrap (wrap64 (a0_2 + a0_3))))), true, 0)))) = some (r1, r2, r3) := by rw [if_neg (show ¬ (false = true) by decide)] at H; exact H
        clear H
        have H := H1
        clear H1
        by_cases c18 : a1 < (IntKind.u64.wrap (wrap64 (a0_2 + a0_3)))
        · rw [if_pos c18] at H
          have c18b0 : decide (a1 < (IntKind.u64.wrap (wrap64 (a0_2 + a0_3)))) = true := decide_eq_true c18
          clear c18
          simp only [Option.some.injEq, Prod.mk.injEq] at H
          obtain ⟨rfl, rfl, rfl⟩ := H
          have hcz19_0 : wc.cell? ⟨gb1036, 0, none⟩ = some (.int .u8 a0_0) := (blk_cell BK1036.out 0).trans rfl
          have hcz19_1 : wc.cell? ⟨gb1036, 1, none⟩ = some (.int .i64 a0_1) := (blk_cell BK1036.out 1).trans rfl
          have hcz19_2 : wc.cell? ⟨gb1036, 2, none⟩ = some (.int .i64 a0_2) := (blk_cell BK1036.out 2).trans rfl
          have hcz19_3 : wc.cell? ⟨gb1036, 3, none⟩ = some (.int .i64 a0_3) := (blk_cell BK1036.out 3).trans rfl
          have hcz19_4 : wc.cell? ⟨gb1036, 4, none⟩ = some (.int .i64 a0_4) := (blk_cell BK1036.out 4).trans rfl
          have hcz19_5 : wc.cell? ⟨gb1036, 5, none⟩ = some (.int .i64 a0_5) := (blk_cell BK1036.out 5).trans rfl
          have hcz19_6 : wc.cell? ⟨gb1036, 6, none⟩ = some (.int .i64 a0_6) := (blk_cell BK1036.out 6).trans rfl
          have hcz19_7 : wc.cell? ⟨gb1036, 7, none⟩ = some (.int .i64 a0_7) := (blk_cell BK1036.out 7).trans rfl
          have hfz19_0 := blk_frozen BK1036.out 0
          have hfz19_1 := blk_frozen BK1036.out 1
          have hfz19_2 := blk_frozen BK1036.out 2
          have hfz19_3 := blk_frozen BK1036.out 3
          have hfz19_4 := blk_frozen BK1036.out 4
          have hfz19_5 := blk_frozen BK1036.out 5
          have hfz19_6 := blk_frozen BK1036.out 6
          have hfz19_7 := blk_frozen BK1036.out 7
          go_wp2
          go_ret3
          exact ⟨by first | rfl | (simp [errW_none, errW_some] <;> rfl) | (simp [*, errW_none, errW_some] <;> rfl), by repeat (first | (with_reducible first | exact HB.out | apply below_alloc | apply pw_below_drewN | apply below_drew1 | refine below_set ?_ GE1036.out) | exact HB.out)⟩
        · rw [if_neg c18] at H
          have c18b0 : decide (a1 < (IntKind.u64.wrap (wrap64 (a0_2 + a0_3)))) = false := decide_eq_false c18
          clear c18
          by_cases c20 : (IntKind.u64.wrap (a1 - (IntKind.u64.wrap (wrap64 (a0_2 + a0_3))))) ≥ (IntKind.u64.wrap (a0_1))
          · rw [if_pos c20] at H
            have c20b0 : decide ((IntKind.u64.wrap (a0_1)) ≤ (IntKind.u64.wrap (a1 - (IntKind.u64.wrap (wrap64 (a0_2 + a0_3)))))) = true := decide_eq_true c20
            clear c20
            simp only [Option.some.injEq, Prod.mk.injEq] at H
            obtain ⟨rfl, rfl, rfl⟩ := H
            have hcz21_0 : wc.cell? ⟨gb1036, 0, none⟩ = some (.int .u8 a0_0) := (blk_cell BK1036.out 0).trans rfl
            have hcz21_1 : wc.cell? ⟨gb1036, 1, none⟩ = some (.int .i64 a0_1) := (blk_cell BK1036.out 1).trans rfl
            have hcz21_2 : wc.cell? ⟨gb1036, 2, none⟩ = some (.int .i64 a0_2) := (blk_cell BK1036.out 2).trans rfl
            have hcz21_3 : wc.cell? ⟨gb1036, 3, none⟩ = some (.int .i64 a0_3) := (blk_cell BK1036.out 3).trans rfl
            have hcz21_4 : wc.cell? ⟨gb1036, 4, none⟩ = some (.int .i64 a0_4) := (blk_cell BK1036.out 4).trans rfl
            have hcz21_5 : wc.cell? ⟨gb1036, 5, none⟩ = some (.int .i64 a0_5) := (blk_cell BK1036.out 5).trans rfl
            have hcz21_6 : wc.cell? ⟨gb1036, 6, none⟩ = some (.int .i64 a0_6) := (blk_cell BK1036.out 6).trans rfl
            have hcz21_7 : wc.cell? ⟨gb1036, 7, none⟩ = some (.int .i64 a0_7) := (blk_cell BK1036.out 7).trans rfl
            have hfz21_0 := blk_frozen BK1036.out 0
            have hfz21_1 := blk_frozen BK1036.out 1
            have hfz21_2 := blk_frozen BK1036.out 2
            have hfz21_3 := blk_frozen BK1036.out 3
            have hfz21_4 := blk_frozen BK1036.out 4
            have hfz21_5 := blk_frozen BK1036.out 5
            have hfz21_6 := blk_frozen BK1036.out 6
            have hfz21_7 := blk_frozen BK1036.out 7
            go_wp2
            go_ret3
            exact ⟨by first | rfl | (simp [errW_none, errW_some] <;> rfl) | (simp [*, errW_none, errW_some] <;> rfl), by repeat (first | (with_reducible first | exact HB.out | apply below_alloc | apply pw_below_drewN | apply below_drew1 | refine below_set ?_ GE1036.out) | exact HB.out)⟩
          · rw [if_neg c20] at H
            have c20b0 : decide ((IntKind.u64.wrap (a0_1)) ≤ (IntKind.u64.wrap (a1 - (IntKind.u64.wrap (wrap64 (a0_2 + a0_3)))))) = false := decide_eq_false c20
            clear c20
            simp only [Option.some.injEq, Prod.mk.injEq] at H
            obtain ⟨rfl, rfl, rfl⟩ := H
            have hcz22_0 : wc.cell? ⟨gb1036, 0, none⟩ = some (.int .u8 a0_0) := (blk_cell BK1036.out 0).trans rfl
            have hcz22_1 : wc.cell? ⟨gb1036, 1, none⟩ = some (.int .i64 a0_1) := (blk_cell BK1036.out 1).trans rfl
            have hcz22_2 : wc.cell? ⟨gb1036, 2, none⟩ = some (.int .i64 a0_2) := (blk_cell BK1036.out 2).trans rfl
            have hcz22_3 : wc.cell? ⟨gb1036, 3, none⟩ = some (.int .i64 a0_3) := (blk_cell BK1036.out 3).trans rfl
            have hcz22_4 : wc.cell? ⟨gb1036, 4, none⟩ = some (.int .i64 a0_4) := (blk_cell BK1036.out 4).trans rfl
            have hcz22_5 : wc.cell? ⟨gb1036, 5, none⟩ = some (.int .i64 a0_5) := (blk_cell BK1036.out 5).trans rfl
            have hcz22_6 : wc.cell? ⟨gb1036, 6, none⟩ = some (.int .i64 a0_6) := (blk_cell BK1036.out 6).trans rfl
            have hcz22_7 : wc.cell? ⟨gb1036, 7, none⟩ = some (.int .i64 a0_7) := (blk_cell BK1036.out 7).trans rfl
            have hfz22_0 := blk_frozen BK1036.out 0
            have hfz22_1 := blk_frozen BK1036.out 1
            have hfz22_2 := blk_frozen BK1036.out 2
            have hfz22_3 := blk_frozen BK1036.out 3
            have hfz22_4 := blk_frozen BK1036.out 4
            have hfz22_5 := blk_frozen BK1036.out 5
            have hfz22_6 := blk_frozen BK1036.out 6
            have hfz22_7 := blk_frozen BK1036.out 7
            go_wp2
            go_ret3
            exact ⟨by first | rfl | (simp [errW_none, errW_some] <;> rfl) | (simp [*, errW_none, errW_some] <;> rfl), by repeat (first | (with_reducible first | exact HB.out | apply below_alloc | apply pw_below_drewN | apply below_drew1 | refine below_set ?_ GE1036.out) | exact HB.out)⟩
end Go.Proofs.Ytjgojlnnphkefaa.P
end
