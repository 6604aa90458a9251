import Derived.Test.YtjgojlnnphkefaaSDegreeAfter15
namespace Go.Proofs.Ytjgojlnnphkefaa.P
open Go.RowKit Go.Proofs.YtjgojlnnphkefaaW.PrintWords Go.Proofs.YtjgojlnnphkefaaW.PrintLast Go.Proofs.YtjgojlnnphkefaaW.PrintMore
attribute [local go_sem] max2_int min2_int max_two min_two max_three min_three max_four min_four
set_option linter.unusedVariables false
set_option linter.unusedSimpArgs false
mutual
def conclaveref09_After.j0 : Nat → Bool → Int → List (S93) → List Int → Int → List (S93) → List Int → Option (Int × (List (S93)) × List Int × Int)
  | 0, _, _, _, _, _, _, _ => none
  | k + 1, x26, x628000, x628001, x628002, x629000, x629001, x629002 => if x26 = true then (some (0, ([] : List (S93)), ([] : List Int), 2)) else (if (wrap64 ((x628001.length : Int) + (x629001.length : Int))) > 256 then (some (0, ([] : List (S93)), ([] : List Int), 4)) else ((some (([] : List Int) : List Int)).bind fun y632 => (if y632.length + x629002.length < 17592186044416 then ((some (([] : List (S93)) : List (S93))).bind fun y638 => (if y638.length + x629001.length < 4398046511104 then (conclaveref09_After.l0 k (y632 ++ x629002) 0 x628000 x628001 x628002 x629000 (y638 ++ x629001)) else (none))) else (none))))
def conclaveref09_After.l0 : Nat → List Int → Int → Int → List (S93) → List Int → Int → List (S93) → Option (Int × (List (S93)) × List Int × Int)
  | 0, _, _, _, _, _, _, _ => none
  | k + 1, x6, x8, x628000, x628001, x628002, x645000, x645001 => if x8 < (x628001.length : Int) then (if 0 ≤ x8 then (if ((rd_T93 x628001 x8).f0) = 4 then (if x6.length < 17592186044416 then (if x645001.length < 4398046511104 then (conclaveref09_After.l0 k (x6 ++ [wrap64 (x645000 + (x645001.length : Int))]) (wrap64 (x8 + 1)) x628000 x628001 x628002 x645000 (x645001 ++ [(⟨(rd_T93 x628001 x8).f0, (rd_T93 x628001 x8).f1, (rd_T93 x628001 x8).f2, (rd_T93 x628001 x8).f3⟩ : S93)])) else (none)) else (none)) else (if 0 ≤ ((rd_T93 x628001 x8).f1) then (if ((rd_T93 x628001 x8).f1) < (x6.length : Int) then (if 0 ≤ ((rd_T93 x628001 x8).f2) then (if ((rd_T93 x628001 x8).f2) < (x6.length : Int) then (if x6.length < 17592186044416 then (if x645001.length < 4398046511104 then (conclaveref09_After.l0 k (x6 ++ [wrap64 (x645000 + (x645001.length : Int))]) (wrap64 (x8 + 1)) x628000 x628001 x628002 x645000 (x645001 ++ [(⟨(rd_T93 x628001 x8).f0, rd x6 ((rd_T93 x628001 x8).f1), rd x6 ((rd_T93 x628001 x8).f2), (rd_T93 x628001 x8).f3⟩ : S93)])) else (none)) else (none)) else (none)) else (none)) else (none)) else (none))) else (none)) else (conclaveref09_After.l1 k x6 0 x628000 x628001 x628002 x645000 x645001 ([] : List Int))
def conclaveref09_After.l1 : Nat → List Int → Int → Int → List (S93) → List Int → Int → List (S93) → List Int → Option (Int × (List (S93)) × List Int × Int)
  | 0, _, _, _, _, _, _, _, _ => none
  | k + 1, x6, x10, x628000, x628001, x628002, x645000, x645001, x645002 => if x10 < (x628002.length : Int) then (if 0 ≤ x10 then (if 0 ≤ (rd x628002 x10) then (if (rd x628002 x10) < (x6.length : Int) then (if x645002.length < 17592186044416 then (conclaveref09_After.l1 k x6 (wrap64 (x10 + 1)) x628000 x628001 x628002 x645000 x645001 (x645002 ++ [rd x6 (rd x628002 x10)])) else (none)) else (none)) else (none)) else (none)) else (some (x645000, x645001, x645002, 0))
end
def conclaveref09_After.f (k : Nat) (a0_0 : Int) (l0_1 : List (S93)) (l0_2 : List Int) (a1_0 : Int) (l1_1 : List (S93)) (l1_2 : List Int) : Option (Int × (List (S93)) × List Int × Int) := (conclaveref09_May.f k a0_0 l0_1 l0_2).bind fun t630 => (if t630 = true then ((conclaveref09_May.f k a1_0 l1_1 l1_2).bind fun t631 => (if t631 = true then (conclaveref09_After.j0 k ((l1_2.length : Int) != a0_0) a0_0 l0_1 l0_2 a1_0 l1_1 l1_2) else (conclaveref09_After.j0 k true a0_0 l0_1 l0_2 a1_0 l1_1 l1_2))) else (conclaveref09_After.j0 k true a0_0 l0_1 l0_2 a1_0 l1_1 l1_2))
def conclaveref09_After.T6 : Bool × List (List Nat × List Nat) := (true, [([], []), ([0], [0]), ([], []), ([], []), ([3], [3]), ([2, 4], [2, 4]), ([1, 5], [1, 5]), ([], []), ([7, 6, 5, 0, 1, 2, 3, 4, 5, 6, 7], [6, 7])])
def conclaveref09_After.B6 : List Nat := [0, 1, 0, 0, 8, 28, 63, 0, 255]
theorem conclaveref09_After.tab6 : rtab .any (opsOf Try.f39 6) = conclaveref09_After.T6 := by kernel_rfl
theorem conclaveref09_After.bits6 : waitsOk conclaveref09_After.T6.2 conclaveref09_After.B6 = true := by kernel_rfl
def conclaveref09_After.T18 : Bool × List (List Nat × List Nat) := (true, [([], []), ([0], [0]), ([], []), ([], []), ([3], [3]), ([], []), ([4, 5], [4, 5]), ([6], [6]), ([2, 7], [2, 7]), ([8], [8]), ([9], [9]), ([1, 10], [1, 10]), ([0, 1, 2, 3, 4, 5, 6, 7, 8, 9, 10, 11], []), ([12, 11, 11, 0, 1, 2, 3, 4, 5, 6, 7, 8, 9, 10, 11], [11, 12])])
def conclaveref09_After.B18 : List Nat := [0, 1, 0, 0, 8, 0, 56, 120, 252, 508, 1020, 2047, 4095, 8191]
theorem conclaveref09_After.tab18 : rtab .any (opsOf Try.f39 18) = conclaveref09_After.T18 := by kernel_rfl
theorem conclaveref09_After.bits18 : waitsOk conclaveref09_After.T18.2 conclaveref09_After.B18 = true := by kernel_rfl
set_option maxHeartbeats 8000000 in
set_option maxRecDepth 100000 in
theorem conclaveref09_After.calls (k : Nat) (a0_0 : Int) (A0_1 : Option Addr) (c0_1 : Nat) (l0_1 : List (S93)) (A0_2 : Option Addr) (c0_2 : Nat) (l0_2 : List Int) (a1_0 : Int) (A1_1 : Option Addr) (c1_1 : Nat) (l1_1 : List (S93)) (A1_2 : Option Addr) (c1_2 : Nat) (l1_2 : List Int) (r1 : Int) (r2 : List (S93)) (r3 : List Int) (r4 : Int) (w : World) (hr0_1 : Kd.C k93 w A0_1 l0_1.length l0_1) (hc0_1 : l0_1.length ≤ c0_1) (hr0_2 : Kd.C (Kd.int .i64) w A0_2 l0_2.length l0_2) (hc0_2 : l0_2.length ≤ c0_2) (hr1_1 : Kd.C k93 w A1_1 l1_1.length l1_1) (hc1_1 : l1_1.length ≤ c1_1) (hr1_2 : Kd.C (Kd.int .i64) w A1_2 l1_2.length l1_2) (hc1_2 : l1_2.length ≤ c1_2) (h : conclaveref09_After.f k a0_0 l0_1 l0_2 a1_0 l1_1 l1_2 = some (r1, r2, r3, r4)) :
    Calls Try.prog 39 #[.agg #[.int .i64 a0_0, .slice A0_1 l0_1.length c0_1, .slice A0_2 l0_2.length c0_2], .agg #[.int .i64 a1_0, .slice A1_1 l1_1.length c1_1, .slice A1_2 l1_2.length c1_2]] w fun e w' => ∃ v1_ v2_ : Value, e = .returned (.tuple #[.agg #[.int .i64 r1, v1_, v2_], .int .i64 r4]) ∧ Kd.R k93 93 w' w.heap.size (fun _ => True) v1_ r2 ∧ Kd.R (Kd.int .i64) 3 w' w.heap.size (fun _ => True) v2_ r3 ∧ Below w.heap.size w w' := by
  have hu25 := Try.underlying25
  have hu93 := Try.underlying93
  have HR0_1 := Aside0.mk hr0_1
  have HC0_1 := Aside0.mk hc0_1
  clear hr0_1 hc0_1
  have HR0_2 := Aside0.mk hr0_2
  have HC0_2 := Aside0.mk hc0_2
  clear hr0_2 hc0_2
  have HR1_1 := Aside0.mk hr1_1
  have HC1_1 := Aside0.mk hc1_1
  clear hr1_1 hc1_1
  have HR1_2 := Aside0.mk hr1_2
  have HC1_2 := Aside0.mk hc1_2
  clear hr1_2 hc1_2
  have HB := Aside0.mk (Below.refl w.heap.size w)
  have H : ((conclaveref09_May.f k a0_0 l0_1 l0_2).bind fun t630 => (if t630 = true then ((conclaveref09_May.f k a1_0 l1_1 l1_2).bind fun t631 => (if t631 = true then (conclaveref09_After.j0 k ((l1_2.length : Int) != a0_0) a0_0 l0_1 l0_2 a1_0 l1_1 l1_2) else (conclaveref09_After.j0 k true a0_0 l0_1 l0_2 a1_0 l1_1 l1_2))) else (conclaveref09_After.j0 k true a0_0 l0_1 l0_2 a1_0 l1_1 l1_2))) = some (r1, r2, r3, r4) := h
  clear h
  have HC3 := Aside0.mk H
  clear H
  go_enter Try.func39, Try.ntmps39
  go_upto_region 1 with (first | ((with_reducible refine gate_dst (N := 2) rfl ?_); (try (refine gate_guard (by rfl) ?_; dsimp only)); refine box_event ?hg (N := 2) ?hd (cs := #[.int .i64 a0_0, .slice A0_1 l0_1.length c0_1, .slice A0_2 l0_2.length c0_2]) (t := 25) ?hr ?_; (case hd => rfl); (case hg => rfl); (case hr => first | (go_simp; done) | (go_simp; rfl)); intro gb627 hg w4 hbox hb; have n0_ := Aside0.mk (below_step (by repeat (first | (with_reducible first | exact HB.out | apply below_alloc | apply pw_below_drewN | apply below_drew1) | exact HB.out)) hb); have n1_ := Aside0.mk (hbox); have n2_ := Aside0.mk ((by rw [hg]; exact (below_size (by repeat (first | (with_reducible first | exact HB.out | apply below_alloc | apply pw_below_drewN | apply below_drew1) | exact HB.out))) : w.heap.size ≤ gb627)); have n3_ := Aside0.mk ((by rw [hg]; exact (below_size (by repeat (first | (with_reducible first | exact HB.out | apply below_alloc | apply pw_below_drewN | apply below_drew1) | exact HB.out))) : w.heap.size ≤ gb627)); clear HB; have HB := n0_; have BK627 := n1_; have GW627 := n2_; have GE627 := n3_; clear n0_ n1_ n2_ n3_; clear hb hbox hg) | ((with_reducible refine gate_dst (N := 3) rfl ?_); (try (refine gate_guard (by rfl) ?_; dsimp only)); refine box_event ?hg (N := 3) ?hd (cs := #[.int .i64 a1_0, .slice A1_1 l1_1.length c1_1, .slice A1_2 l1_2.length c1_2]) (t := 25) ?hr ?_; (case hd => rfl); (case hg => rfl); (case hr => first | (go_simp; done) | (go_simp; rfl)); intro gb628 hg w5 hbox hb; have n0_ := Aside0.mk (blk_below (g := gb627) (o := .cells #[.int .i64 a0_0, .slice A0_1 l0_1.length c0_1, .slice A0_2 l0_2.length c0_2] 25 (0, 0)) (by (with_reducible repeat (first | refine blk_drewN ?_ _ | refine blk_drew ?_ | refine blk_alloc ?_ _)); exact BK627.out) hb); have n1_ := Aside0.mk (below_step (by repeat (first | (with_reducible first | exact HB.out | apply below_alloc | apply pw_below_drewN | apply below_drew1 | refine below_set ?_ GE627.out) | exact HB.out)) hb); have n2_ := Aside0.mk (hbox); have n3_ := Aside0.mk ((by rw [hg]; exact (below_size (by repeat (first | (with_reducible first | exact HB.out | apply below_alloc | apply pw_below_drewN | apply below_drew1 | refine below_set ?_ GE627.out) | exact HB.out))) : w.heap.size ≤ gb628)); have n4_ := Aside0.mk ((by rw [hg]; exact (below_size (by repeat (first | (with_reducible first | exact HB.out | apply below_alloc | apply pw_below_drewN | apply below_drew1 | refine below_set ?_ GE627.out) | exact HB.out))) : w.heap.size ≤ gb628)); have n5_ := Aside0.mk ((by rw [hg]; exact Nat.ne_of_lt (blk_lt (g := gb627) (o := .cells #[.int .i64 a0_0, .slice A0_1 l0_1.length c0_1, .slice A0_2 l0_2.length c0_2] 25 (0, 0)) (by (with_reducible repeat (first | refine blk_drewN ?_ _ | refine blk_drew ?_ | refine blk_alloc ?_ _)); exact BK627.out)) : gb627 ≠ gb628)); have n6_ := Aside0.mk ((by rw [hg]; exact Nat.ne_of_gt (blk_lt (g := gb627) (o := .cells #[.int .i64 a0_0, .slice A0_1 l0_1.length c0_1, .slice A0_2 l0_2.length c0_2] 25 (0, 0)) (by (with_reducible repeat (first | refine blk_drewN ?_ _ | refine blk_drew ?_ | refine blk_alloc ?_ _)); exact BK627.out)) : gb628 ≠ gb627)); clear BK627; clear HB; have BK627 := n0_; have HB := n1_; have BK628 := n2_; have GW628 := n3_; have GE628 := n4_; have NB627_628 := n5_; have NB628_627 := n6_; clear n0_ n1_ n2_ n3_ n4_ n5_ n6_; clear hb hbox hg) | ((with_reducible refine gate_dst (N := 4) rfl ?_); (try (refine gate_guard (by rfl) ?_; dsimp only)); refine box_event ?hg (N := 4) ?hd (cs := #[.int .i64 0, .slice none 0 0, .slice none 0 0]) (t := 25) ?hr ?_; (case hd => rfl); (case hg => rfl); (case hr => first | (go_simp; done) | (go_simp; rfl)); intro gb629 hg w6 hbox hb; have n0_ := Aside0.mk (blk_below (g := gb627) (o := .cells #[.int .i64 a0_0, .slice A0_1 l0_1.length c0_1, .slice A0_2 l0_2.length c0_2] 25 (0, 0)) (by (with_reducible repeat (first | refine blk_drewN ?_ _ | refine blk_drew ?_ | refine blk_alloc ?_ _)); exact BK627.out) hb); have n1_ := Aside0.mk (blk_below (g := gb628) (o := .cells #[.int .i64 a1_0, .slice A1_1 l1_1.length c1_1, .slice A1_2 l1_2.length c1_2] 25 (0, 0)) (by (with_reducible repeat (first | refine blk_drewN ?_ _ | refine blk_drew ?_ | refine blk_alloc ?_ _)); exact BK628.out) hb); have n2_ := Aside0.mk (below_step (by repeat (first | (with_reducible first | exact HB.out | apply below_alloc | apply pw_below_drewN | apply below_drew1 | refine below_set ?_ GE627.out | refine below_set ?_ GE628.out) | exact HB.out)) hb); have n3_ := Aside0.mk (hbox); have n4_ := Aside0.mk ((by rw [hg]; exact (below_size (by repeat (first | (with_reducible first | exact HB.out | apply below_alloc | apply pw_below_drewN | apply below_drew1 | refine below_set ?_ GE627.out | refine below_set ?_ GE628.out) | exact HB.out))) : w.heap.size ≤ gb629)); have n5_ := Aside0.mk ((by rw [hg]; exact (below_size (by repeat (first | (with_reducible first | exact HB.out | apply below_alloc | apply pw_below_drewN | apply below_drew1 | refine below_set ?_ GE627.out | refine below_set ?_ GE628.out) | exact HB.out))) : w.heap.size ≤ gb629)); have n6_ := Aside0.mk ((by rw [hg]; exact Nat.ne_of_lt (blk_lt (g := gb627) (o := .cells #[.int .i64 a0_0, .slice A0_1 l0_1.length c0_1, .slice A0_2 l0_2.length c0_2] 25 (0, 0)) (by (with_reducible repeat (first | refine blk_drewN ?_ _ | refine blk_drew ?_ | refine blk_alloc ?_ _)); exact BK627.out)) : gb627 ≠ gb629)); have n7_ := Aside0.mk ((by rw [hg]; exact Nat.ne_of_gt (blk_lt (g := gb627) (o := .cells #[.int .i64 a0_0, .slice A0_1 l0_1.length c0_1, .slice A0_2 l0_2.length c0_2] 25 (0, 0)) (by (with_reducible repeat (first | refine blk_drewN ?_ _ | refine blk_drew ?_ | refine blk_alloc ?_ _)); exact BK627.out)) : gb629 ≠ gb627)); have n8_ := Aside0.mk ((by rw [hg]; exact Nat.ne_of_lt (blk_lt (g := gb628) (o := .cells #[.int .i64 a1_0, .slice A1_1 l1_1.length c1_1, .slice A1_2 l1_2.length c1_2] 25 (0, 0)) (by (with_reducible repeat (first | refine blk_drewN ?_ _ | refine blk_drew ?_ | refine blk_alloc ?_ _)); exact BK628.out)) : gb628 ≠ gb629)); have n9_ := Aside0.mk ((by rw [hg]; exact Nat.ne_of_gt (blk_lt (g := gb628) (o := .cells #[.int .i64 a1_0, .slice A1_1 l1_1.length c1_1, .slice A1_2 l1_2.length c1_2] 25 (0, 0)) (by (with_reducible repeat (first | refine blk_drewN ?_ _ | refine blk_drew ?_ | refine blk_alloc ?_ _)); exact BK628.out)) : gb629 ≠ gb628)); clear BK627; clear BK628; clear HB; have BK627 := n0_; have BK628 := n1_; have HB := n2_; have BK629 := n3_; have GW629 := n4_; have GE629 := n5_; have NB627_629 := n6_; have NB629_627 := n7_; have NB628_629 := n8_; have NB629_628 := n9_; clear n0_ n1_ n2_ n3_ n4_ n5_ n6_ n7_ n8_ n9_; clear hb hbox hg))
  (try simp only [Act.put, List.setIfInBounds_toArray, List.set_cons_zero, List.set_cons_succ])
  go_cut [26] (fun v26 wc => ∃ (kq : Nat) (x26_2 : Bool), v26 = .bool x26_2 ∧ Aside0 (conclaveref09_After.j0 kq x26_2 a0_0 l0_1 l0_2 a1_0 l1_1 l1_2 = some (r1, r2, r3, r4)) ∧ Aside0 (kq ≤ k) ∧ Aside0 (wc.heap[gb627]? = some (.cells #[.int .i64 a0_0, (.slice A0_1 l0_1.length c0_1), (.slice A0_2 l0_2.length c0_2)] 25 (0, 0))) ∧ Aside0 (wc.heap[gb628]? = some (.cells #[.int .i64 a1_0, (.slice A1_1 l1_1.length c1_1), (.slice A1_2 l1_2.length c1_2)] 25 (0, 0))) ∧ Aside0 (wc.heap[gb629]? = some (.cells #[.int .i64 0, (.slice none 0 0), (.slice none 0 0)] 25 (0, 0))) ∧ Aside0 (Below w.heap.size w wc))
  case first =>
    have H := HC3.out
    clear HC3
    replace H := Option.bind_eq_some_iff.mp H
    obtain ⟨t630, A70, H⟩ := H
    replace H : (if t630 = true then ((conclaveref09_May.f k a1_0 l1_1 l1_2).bind fun t631 => (if t631 = true then (conclaveref09_After.j0 k ((l1_2.length : Int) != a0_0) a0_0 l0_1 l0_2 a1_0 l1_1 l1_2) else (conclaveref09_After.j0 k true a0_0 l0_1 l0_2 a1_0 l1_1 l1_2))) else (conclaveref09_After.j0 k true a0_0 l0_1 l0_2 a1_0 l1_1 l1_2)) = some (r1, r2, r3, r4) := H
    have A7 := Aside0.mk A70
    clear A70
    by_cases c8 : t630 = true
    · subst c8
      have H1 : ((conclaveref09_May.f k a1_0 l1_1 l1_2).bind fun t631 => (if t631 = true then (conclaveref09_After.j0 k ((l1_2.length : Int) != a0_0) a0_0 l0_1 l0_2 a1_0 l1_1 l1_2) else (conclaveref09_After.j0 k true a0_0 l0_1 l0_2 a1_0 l1_1 l1_2))) = some (r1, r2, r3, r4) := by rw [if_pos rfl] at H; exact H
      clear H
      have H := H1
      clear H1
      replace H := Option.bind_eq_some_iff.mp H
      obtain ⟨t631, A90, H⟩ := H
      replace H : (if t631 = true then (conclaveref09_After.j0 k ((l1_2.length : Int) != a0_0) a0_0 l0_1 l0_2 a1_0 l1_1 l1_2) else (conclaveref09_After.j0 k true a0_0 l0_1 l0_2 a1_0 l1_1 l1_2)) = some (r1, r2, r3, r4) := H
      have A9 := Aside0.mk A90
      clear A90
      by_cases c10 : t631 = true
      · subst c10
        have H1 : (conclaveref09_After.j0 k ((l1_2.length : Int) != a0_0) a0_0 l0_1 l0_2 a1_0 l1_1 l1_2) = some (r1, r2, r3, r4) := by rw [if_pos rfl] at H; exact H
        clear H
        have H := H1
        clear H1
        have H' := Aside0.mk H
        clear H
        have hnb11 := NB627_628.out
        have hnc11 := NB628_627.out
        have hnb12 := NB627_629.out
        have hnc12 := NB629_627.out
        have hcz13_0 : w6.cell? ⟨gb627, 0, none⟩ = some (.int .i64 a0_0) := (blk_cell BK627.out 0).trans rfl
        have hcz13_1 : w6.cell? ⟨gb627, 1, none⟩ = some (.slice A0_1 l0_1.length c0_1) := (blk_cell BK627.out 1).trans rfl
        have hcz13_2 : w6.cell? ⟨gb627, 2, none⟩ = some (.slice A0_2 l0_2.length c0_2) := (blk_cell BK627.out 2).trans rfl
        have hfz13_0 := blk_frozen BK627.out 0
        have hfz13_1 := blk_frozen BK627.out 1
        have hfz13_2 := blk_frozen BK627.out 2
        go_wp2_with (first | ((with_reducible refine gate_callee (f := 40) rfl ?_); refine goesL_ (some 12) rfl rfl Try.func40 (by kernel_rfl) rfl #[.agg #[.int .i64 a0_0, .slice A0_1 l0_1.length c0_1, .slice A0_2 l0_2.length c0_2]] rfl (by (try simp only [List.map_toArray, List.map_cons, List.map_nil]); first | done | rfl | (simp only [List.length_drop, List.length_take]; rfl)) ?_; (with_reducible refine (conclaveref09_May.calls k a0_0 _ _ l0_1 _ _ l0_2 true _ ?side1 ?side2 ?side3 ?side4 A7.out).mono ?_); (case side1 => repeat (first | exact (Kd.C_below HR0_1.out HB.out) | (with_reducible refine Kd.C_alloc ?_ _) | (with_reducible refine Kd.C_drewN ?_ _) | (with_reducible refine Kd.C_drew ?_))); (case side2 => exact HC0_1.out); (case side3 => repeat (first | exact (Kd.C_below HR0_2.out HB.out) | (with_reducible refine Kd.C_alloc ?_ _) | (with_reducible refine Kd.C_drewN ?_ _) | (with_reducible refine Kd.C_drew ?_))); (case side4 => exact HC0_2.out); rintro e w14 ⟨rfl, hb⟩; refine ⟨_, rfl, ?_⟩; have n0_ := Aside0.mk (blk_below (g := gb627) (o := .cells #[.int .i64 a0_0, .slice A0_1 l0_1.length c0_1, .slice A0_2 l0_2.length c0_2] 25 (0, 0)) (by (with_reducible repeat (first | refine blk_drewN ?_ _ | refine blk_drew ?_ | refine blk_alloc ?_ _)); exact BK627.out) hb); have n1_ := Aside0.mk (blk_below (g := gb628) (o := .cells #[.int .i64 a1_0, .slice A1_1 l1_1.length c1_1, .slice A1_2 l1_2.length c1_2] 25 (0, 0)) (by (with_reducible repeat (first | refine blk_drewN ?_ _ | refine blk_drew ?_ | refine blk_alloc ?_ _)); exact BK628.out) hb); have n2_ := Aside0.mk (blk_below (g := gb629) (o := .cells #[.int .i64 0, .slice none 0 0, .slice none 0 0] 25 (0, 0)) (by (with_reducible repeat (first | refine blk_drewN ?_ _ | refine blk_drew ?_ | refine blk_alloc ?_ _)); exact BK629.out) hb); have n3_ := Aside0.mk (below_step (by repeat (first | (with_reducible first | exact HB.out | apply below_alloc | apply pw_below_drewN | apply below_drew1 | refine below_set ?_ GE627.out | refine below_set ?_ GE628.out | refine below_set ?_ GE629.out) | exact HB.out)) hb); clear BK627; clear BK628; clear BK629; clear HB; have BK627 := n0_; have BK628 := n1_; have BK629 := n2_; have HB := n3_; clear n0_ n1_ n2_ n3_; (try clear hb); (try clear hb2); (try clear hk); (try clear hi); have hnb15 := NB628_629.out; have hnc15 := NB629_628.out; have hcz16_0 : w14.cell? ⟨gb628, 0, none⟩ = some (.int .i64 a1_0) := (blk_cell BK628.out 0).trans rfl; have hcz16_1 : w14.cell? ⟨gb628, 1, none⟩ = some (.slice A1_1 l1_1.length c1_1) := (blk_cell BK628.out 1).trans rfl; have hcz16_2 : w14.cell? ⟨gb628, 2, none⟩ = some (.slice A1_2 l1_2.length c1_2) := (blk_cell BK628.out 2).trans rfl; have hfz16_0 := blk_frozen BK628.out 0; have hfz16_1 := blk_frozen BK628.out 1; have hfz16_2 := blk_frozen BK628.out 2) | (go_at_call 40; (with_reducible refine (conclaveref09_May.calls k a1_0 _ _ l1_1 _ _ l1_2 true _ ?side1 ?side2 ?side3 ?side4 A9.out).mono ?_); (case side1 => repeat (first | exact (Kd.C_below HR1_1.out HB.out) | (with_reducible refine Kd.C_alloc ?_ _) | (with_reducible refine Kd.C_drewN ?_ _) | (with_reducible refine Kd.C_drew ?_))); (case side2 => exact HC1_1.out); (case side3 => repeat (first | exact (Kd.C_below HR1_2.out HB.out) | (with_reducible refine Kd.C_alloc ?_ _) | (with_reducible refine Kd.C_drewN ?_ _) | (with_reducible refine Kd.C_drew ?_))); (case side4 => exact HC1_2.out); rintro e w17 ⟨rfl, hb⟩; have n0_ := Aside0.mk (blk_below (g := gb627) (o := .cells #[.int .i64 a0_0, .slice A0_1 l0_1.length c0_1, .slice A0_2 l0_2.length c0_2] 25 (0, 0)) (by (with_reducible repeat (first | refine blk_drewN ?_ _ | refine blk_drew ?_ | refine blk_alloc ?_ _)); exact BK627.out) hb); have n1_ := Aside0.mk (blk_below (g := gb628) (o := .cells #[.int .i64 a1_0, .slice A1_1 l1_1.length c1_1, .slice A1_2 l1_2.length c1_2] 25 (0, 0)) (by (with_reducible repeat (first | refine blk_drewN ?_ _ | refine blk_drew ?_ | refine blk_alloc ?_ _)); exact BK628.out) hb); have n2_ := Aside0.mk (blk_below (g := gb629) (o := .cells #[.int .i64 0, .slice none 0 0, .slice none 0 0] 25 (0, 0)) (by (with_reducible repeat (first | refine blk_drewN ?_ _ | refine blk_drew ?_ | refine blk_alloc ?_ _)); exact BK629.out) hb); have n3_ := Aside0.mk (below_step (by repeat (first | (with_reducible first | exact HB.out | apply below_alloc | apply pw_below_drewN | apply below_drew1 | refine below_set ?_ GE627.out | refine below_set ?_ GE628.out | refine below_set ?_ GE629.out) | exact HB.out)) hb); clear BK627; clear BK628; clear BK629; clear HB; have BK627 := n0_; have BK628 := n1_; have BK629 := n2_; have HB := n3_; clear n0_ n1_ n2_ n3_; (try clear hb); (try clear hb2); (try clear hk); (try clear hi); have hcz18_0 : w17.cell? ⟨gb628, 0, none⟩ = some (.int .i64 a1_0) := (blk_cell BK628.out 0).trans rfl; have hcz18_1 : w17.cell? ⟨gb628, 1, none⟩ = some (.slice A1_1 l1_1.length c1_1) := (blk_cell BK628.out 1).trans rfl; have hcz18_2 : w17.cell? ⟨gb628, 2, none⟩ = some (.slice A1_2 l1_2.length c1_2) := (blk_cell BK628.out 2).trans rfl; have hfz18_0 := blk_frozen BK628.out 0; have hfz18_1 := blk_frozen BK628.out 1; have hfz18_2 := blk_frozen BK628.out 2; have hcz19_0 : w17.cell? ⟨gb627, 0, none⟩ = some (.int .i64 a0_0) := (blk_cell BK627.out 0).trans rfl; have hcz19_1 : w17.cell? ⟨gb627, 1, none⟩ = some (.slice A0_1 l0_1.length c0_1) := (blk_cell BK627.out 1).trans rfl; have hcz19_2 : w17.cell? ⟨gb627, 2, none⟩ = some (.slice A0_2 l0_2.length c0_2) := (blk_cell BK627.out 2).trans rfl; have hfz19_0 := blk_frozen BK627.out 0; have hfz19_1 := blk_frozen BK627.out 1; have hfz19_2 := blk_frozen BK627.out 2))
        go_meet
        case rel => exact ⟨_, (((l1_2.length : Int) != a0_0)), (by first | rfl | (simp; done) | (simp [*]; done)), H', ⟨by first | omega | exact Nat.le_refl _⟩, ⟨by (with_reducible repeat (first | refine blk_drewN ?_ _ | refine blk_drew ?_ | refine blk_alloc ?_ _)); exact BK627.out⟩, ⟨by (with_reducible repeat (first | refine blk_drewN ?_ _ | refine blk_drew ?_ | refine blk_alloc ?_ _)); exact BK628.out⟩, ⟨by (with_reducible repeat (first | refine blk_drewN ?_ _ | refine blk_drew ?_ | refine blk_alloc ?_ _)); exact BK629.out⟩, ⟨by repeat (first | (with_reducible first | exact HB.out | apply below_alloc | apply pw_below_drewN | apply below_drew1 | refine below_set ?_ GE627.out | refine below_set ?_ GE628.out | refine below_set ?_ GE629.out) | exact HB.out)⟩⟩
      · replace c10 := Bool.eq_false_iff.mpr c10
        subst c10
        have H1 : (conclaveref09_After.j0 k true a0_0 l0_1 l0_2 a1_0 l1_1 l1_2) = some (r1, r2, r3, r4) := by rw [if_neg (show ¬ (false = true) by decide)] at H; exact H
        clear H
        have H := H1
        clear H1
        have H' := Aside0.mk H
        clear H
        have hnb20 := NB627_628.out
        have hnc20 := NB628_627.out
        have hnb21 := NB627_629.out
        have hnc21 := NB629_627.out
        have hcz22_0 : w6.cell? ⟨gb627, 0, none⟩ = some (.int .i64 a0_0) := (blk_cell BK627.out 0).trans rfl
        have hcz22_1 : w6.cell? ⟨gb627, 1, none⟩ = some (.slice A0_1 l0_1.length c0_1) := (blk_cell BK627.out 1).trans rfl
        have hcz22_2 : w6.cell? ⟨gb627, 2, none⟩ = some (.slice A0_2 l0_2.length c0_2) := (blk_cell BK627.out 2).trans rfl
        have hfz22_0 := blk_frozen BK627.out 0
        have hfz22_1 := blk_frozen BK627.out 1
        have hfz22_2 := blk_frozen BK627.out 2
        go_wp2_with (first | ((with_reducible refine gate_callee (f := 40) rfl ?_); refine goesL_ (some 12) rfl rfl Try.func40 (by kernel_rfl) rfl #[.agg #[.int .i64 a0_0, .slice A0_1 l0_1.length c0_1, .slice A0_2 l0_2.length c0_2]] rfl (by (try simp only [List.map_toArray, List.map_cons, List.map_nil]); first | done | rfl | (simp only [List.length_drop, List.length_take]; rfl)) ?_; (with_reducible refine (conclaveref09_May.calls k a0_0 _ _ l0_1 _ _ l0_2 true _ ?side1 ?side2 ?side3 ?side4 A7.out).mono ?_); (case side1 => repeat (first | exact (Kd.C_below HR0_1.out HB.out) | (with_reducible refine Kd.C_alloc ?_ _) | (with_reducible refine Kd.C_drewN ?_ _) | (with_reducible refine Kd.C_drew ?_))); (case side2 => exact HC0_1.out); (case side3 => repeat (first | exact (Kd.C_below HR0_2.out HB.out) | (with_reducible refine Kd.C_alloc ?_ _) | (with_reducible refine Kd.C_drewN ?_ _) | (with_reducible refine Kd.C_drew ?_))); (case side4 => exact HC0_2.out); rintro e w23 ⟨rfl, hb⟩; refine ⟨_, rfl, ?_⟩; have n0_ := Aside0.mk (blk_below (g := gb627) (o := .cells #[.int .i64 a0_0, .slice A0_1 l0_1.length c0_1, .slice A0_2 l0_2.length c0_2] 25 (0, 0)) (by (with_reducible repeat (first | refine blk_drewN ?_ _ | refine blk_drew ?_ | refine blk_alloc ?_ _)); exact BK627.out) hb); have n1_ := Aside0.mk (blk_below (g := gb628) (o := .cells #[.int .i64 a1_0, .slice A1_1 l1_1.length c1_1, .slice A1_2 l1_2.length c1_2] 25 (0, 0)) (by (with_reducible repeat (first | refine blk_drewN ?_ _ | refine blk_drew ?_ | refine blk_alloc ?_ _)); exact BK628.out) hb); have n2_ := Aside0.mk (blk_below (g := gb629) (o := .cells #[.int .i64 0, .slice none 0 0, .slice none 0 0] 25 (0, 0)) (by (with_reducible repeat (first | refine blk_drewN ?_ _ | refine blk_drew ?_ | refine blk_alloc ?_ _)); exact BK629.out) hb); have n3_ := Aside0.mk (below_step (by repeat (first | (with_reducible first | exact HB.out | apply below_alloc | apply pw_below_drewN | apply below_drew1 | refine below_set ?_ GE627.out | refine below_set ?_ GE628.out | refine below_set ?_ GE629.out) | exact HB.out)) hb); clear BK627; clear BK628; clear BK629; clear HB; have BK627 := n0_; have BK628 := n1_; have BK629 := n2_; have HB := n3_; clear n0_ n1_ n2_ n3_; (try clear hb); (try clear hb2); (try clear hk); (try clear hi); have hnb24 := NB628_629.out; have hnc24 := NB629_628.out; have hcz25_0 : w23.cell? ⟨gb628, 0, none⟩ = some (.int .i64 a1_0) := (blk_cell BK628.out 0).trans rfl; have hcz25_1 : w23.cell? ⟨gb628, 1, none⟩ = some (.slice A1_1 l1_1.length c1_1) := (blk_cell BK628.out 1).trans rfl; have hcz25_2 : w23.cell? ⟨gb628, 2, none⟩ = some (.slice A1_2 l1_2.length c1_2) := (blk_cell BK628.out 2).trans rfl; have hfz25_0 := blk_frozen BK628.out 0; have hfz25_1 := blk_frozen BK628.out 1; have hfz25_2 := blk_frozen BK628.out 2) | (go_at_call 40; (with_reducible refine (conclaveref09_May.calls k a1_0 _ _ l1_1 _ _ l1_2 false _ ?side1 ?side2 ?side3 ?side4 A9.out).mono ?_); (case side1 => repeat (first | exact (Kd.C_below HR1_1.out HB.out) | (with_reducible refine Kd.C_alloc ?_ _) | (with_reducible refine Kd.C_drewN ?_ _) | (with_reducible refine Kd.C_drew ?_))); (case side2 => exact HC1_1.out); (case side3 => repeat (first | exact (Kd.C_below HR1_2.out HB.out) | (with_reducible refine Kd.C_alloc ?_ _) | (with_reducible refine Kd.C_drewN ?_ _) | (with_reducible refine Kd.C_drew ?_))); (case side4 => exact HC1_2.out); rintro e w26 ⟨rfl, hb⟩; have n0_ := Aside0.mk (blk_below (g := gb627) (o := .cells #[.int .i64 a0_0, .slice A0_1 l0_1.length c0_1, .slice A0_2 l0_2.length c0_2] 25 (0, 0)) (by (with_reducible repeat (first | refine blk_drewN ?_ _ | refine blk_drew ?_ | refine blk_alloc ?_ _)); exact BK627.out) hb); have n1_ := Aside0.mk (blk_below (g := gb628) (o := .cells #[.int .i64 a1_0, .slice A1_1 l1_1.length c1_1, .slice A1_2 l1_2.length c1_2] 25 (0, 0)) (by (with_reducible repeat (first | refine blk_drewN ?_ _ | refine blk_drew ?_ | refine blk_alloc ?_ _)); exact BK628.out) hb); have n2_ := Aside0.mk (blk_below (g := gb629) (o := .cells #[.int .i64 0, .slice none 0 0, .slice none 0 0] 25 (0, 0)) (by (with_reducible repeat (first | refine blk_drewN ?_ _ | refine blk_drew ?_ | refine blk_alloc ?_ _)); exact BK629.out) hb); have n3_ := Aside0.mk (below_step (by repeat (first | (with_reducible first | exact HB.out | apply below_alloc | apply pw_below_drewN | apply below_drew1 | refine below_set ?_ GE627.out | refine below_set ?_ GE628.out | refine below_set ?_ GE629.out) | exact HB.out)) hb); clear BK627; clear BK628; clear BK629; clear HB; have BK627 := n0_; have BK628 := n1_; have BK629 := n2_; have HB := n3_; clear n0_ n1_ n2_ n3_; (try clear hb); (try clear hb2); (try clear hk); (try clear hi)))
        go_meet
        case rel => exact ⟨_, (true), (by first | rfl | (simp; done) | (simp [*]; done)), H', ⟨by first | omega | exact Nat.le_refl _⟩, ⟨by (with_reducible repeat (first | refine blk_drewN ?_ _ | refine blk_drew ?_ | refine blk_alloc ?_ _)); exact BK627.out⟩, ⟨by (with_reducible repeat (first | refine blk_drewN ?_ _ | refine blk_drew ?_ | refine blk_alloc ?_ _)); exact BK628.out⟩, ⟨by (with_reducible repeat (first | refine blk_drewN ?_ _ | refine blk_drew ?_ | refine blk_alloc ?_ _)); exact BK629.out⟩, ⟨by repeat (first | (with_reducible first | exact HB.out | apply below_alloc | apply pw_below_drewN | apply below_drew1 | refine below_set ?_ GE627.out | refine below_set ?_ GE628.out | refine below_set ?_ GE629.out) | exact HB.out)⟩⟩
    · replace c8 := Bool.eq_false_iff.mpr c8
      subst c8
      have H1 : (conclaveref09_After.j0 k true a0_0 l0_1 l0_2 a1_0 l1_1 l1_2) = some (r1, r2, r3, r4) := by rw [if_neg (show ¬ (false = true) by decide)] at H; exact H
      clear H
      have H := H1
      clear H1
      have H' := Aside0.mk H
      clear H
      have hnb27 := NB627_628.out
      have hnc27 := NB628_627.out
      have hnb28 := NB627_629.out
      have hnc28 := NB629_627.out
      have hcz29_0 : w6.cell? ⟨gb627, 0, none⟩ = some (.int .i64 a0_0) := (blk_cell BK627.out 0).trans rfl
      have hcz29_1 : w6.cell? ⟨gb627, 1, none⟩ = some (.slice A0_1 l0_1.length c0_1) := (blk_cell BK627.out 1).trans rfl
      have hcz29_2 : w6.cell? ⟨gb627, 2, none⟩ = some (.slice A0_2 l0_2.length c0_2) := (blk_cell BK627.out 2).trans rfl
      have hfz29_0 := blk_frozen BK627.out 0
      have hfz29_1 := blk_frozen BK627.out 1
      have hfz29_2 := blk_frozen BK627.out 2
      go_wp2_with (first | ((with_reducible refine gate_callee (f := 40) rfl ?_); refine goesL_ (some 12) rfl rfl Try.func40 (by kernel_rfl) rfl #[.agg #[.int .i64 a0_0, .slice A0_1 l0_1.length c0_1, .slice A0_2 l0_2.length c0_2]] rfl (by (try simp only [List.map_toArray, List.map_cons, List.map_nil]); first | done | rfl | (simp only [List.length_drop, List.length_take]; rfl)) ?_; (with_reducible refine (conclaveref09_May.calls k a0_0 _ _ l0_1 _ _ l0_2 false _ ?side1 ?side2 ?side3 ?side4 A7.out).mono ?_); (case side1 => repeat (first | exact (Kd.C_below HR0_1.out HB.out) | (with_reducible refine Kd.C_alloc ?_ _) | (with_reducible refine Kd.C_drewN ?_ _) | (with_reducible refine Kd.C_drew ?_))); (case side2 => exact HC0_1.out); (case side3 => repeat (first | exact (Kd.C_below HR0_2.out HB.out) | (with_reducible refine Kd.C_alloc ?_ _) | (with_reducible refine Kd.C_drewN ?_ _) | (with_reducible refine Kd.C_drew ?_))); (case side4 => exact HC0_2.out); rintro e w30 ⟨rfl, hb⟩; refine ⟨_, rfl, ?_⟩; have n0_ := Aside0.mk (blk_below (g := gb627) (o := .cells #[.int .i64 a0_0, .slice A0_1 l0_1.length c0_1, .slice A0_2 l0_2.length c0_2] 25 (0, 0)) (by (with_reducible repeat (first | refine blk_drewN ?_ _ | refine blk_drew ?_ | refine blk_alloc ?_ _)); exact BK627.out) hb); have n1_ := Aside0.mk (blk_below (g := gb628) (o := .cells #[.int .i64 a1_0, .slice A1_1 l1_1.length c1_1, .slice A1_2 l1_2.length c1_2] 25 (0, 0)) (by (with_reducible repeat (first | refine blk_drewN ?_ _ | refine blk_drew ?_ | refine blk_alloc ?_ _)); exact BK628.out) hb); have n2_ := Aside0.mk (blk_below (g := gb629) (o := .cells #[.int .i64 0, .slice none 0 0, .slice none 0 0] 25 (0, 0)) (by (with_reducible repeat (first | refine blk_drewN ?_ _ | refine blk_drew ?_ | refine blk_alloc ?_ _)); exact BK629.out) hb); have n3_ := Aside0.mk (below_step (by repeat (first | (with_reducible first | exact HB.out | apply below_alloc | apply pw_below_drewN | apply below_drew1 | refine below_set ?_ GE627.out | refine below_set ?_ GE628.out | refine below_set ?_ GE629.out) | exact HB.out)) hb); clear BK627; clear BK628; clear BK629; clear HB; have BK627 := n0_; have BK628 := n1_; have BK629 := n2_; have HB := n3_; clear n0_ n1_ n2_ n3_; (try clear hb); (try clear hb2); (try clear hk); (try clear hi)))
      go_meet
      case rel => exact ⟨_, (true), (by first | rfl | (simp; done) | (simp [*]; done)), H', ⟨by first | omega | exact Nat.le_refl _⟩, ⟨by (with_reducible repeat (first | refine blk_drewN ?_ _ | refine blk_drew ?_ | refine blk_alloc ?_ _)); exact BK627.out⟩, ⟨by (with_reducible repeat (first | refine blk_drewN ?_ _ | refine blk_drew ?_ | refine blk_alloc ?_ _)); exact BK628.out⟩, ⟨by (with_reducible repeat (first | refine blk_drewN ?_ _ | refine blk_drew ?_ | refine blk_alloc ?_ _)); exact BK629.out⟩, ⟨by repeat (first | (with_reducible first | exact HB.out | apply below_alloc | apply pw_below_drewN | apply below_drew1 | refine below_set ?_ GE627.out | refine below_set ?_ GE628.out | refine below_set ?_ GE629.out) | exact HB.out)⟩⟩
  case rest =>
    clear HC3
    try clear c1
    try clear c2
    try clear p2
    try clear c3
    try clear c4
    try clear c8
    try clear c10
    try clear c11
    try clear c12
    try clear c15
    try clear c20
    try clear c21
    try clear c24
    try clear c27
    try clear c28
    try clear hcz13_0
    try clear hcz13_1
    try clear hcz13_2
    try clear hcz16_0
    try clear hcz16_1
    try clear hcz16_2
    try clear hcz18_0
    try clear hcz18_1
    try clear hcz18_2
    try clear hcz19_0
    try clear hcz19_1
    try clear hcz19_2
    try clear hcz22_0
    try clear hcz22_1
    try clear hcz22_2
    try clear hcz25_0
    try clear hcz25_1
    try clear hcz25_2
    try clear hcz29_0
    try clear hcz29_1
    try clear hcz29_2
    try clear hfz13_0
    try clear hfz13_1
    try clear hfz13_2
    try clear hfz16_0
    try clear hfz16_1
    try clear hfz16_2
    try clear hfz18_0
    try clear hfz18_1
    try clear hfz18_2
    try clear hfz19_0
    try clear hfz19_1
    try clear hfz19_2
    try clear hfz22_0
    try clear hfz22_1
    try clear hfz22_2
    try clear hfz25_0
    try clear hfz25_1
    try clear hfz25_2
    try clear hfz29_0
    try clear hfz29_1
    try clear hfz29_2
    obtain ⟨kq, x26_2, rfl, HA, HJ2, BK627, BK628, BK629, HB⟩ := hcut
    cases kq with
    | zero => exact absurd HA.out (by simp [conclaveref09_After.j0])
    | succ kj2 =>
      have H := HA.out
      clear HA
      simp only [conclaveref09_After.j0] at H
      by_cases c31 : x26_2 = true
      · subst c31
        have H1 : (some (0, ([] : List (S93)), ([] : List Int), 2)) = some (r1, r2, r3, r4) := by rw [if_pos rfl] at H; exact H
        clear H
        have H := H1
        clear H1
        simp only [Option.some.injEq, Prod.mk.injEq] at H
        obtain ⟨rfl, rfl, rfl, rfl⟩ := H
        have hnb32 := NB629_627.out
        have hnc32 := NB627_629.out
        have hnb33 := NB629_628.out
        have hnc33 := NB628_629.out
        have hcz34_0 : wc.cell? ⟨gb629, 0, none⟩ = some (.int .i64 0) := (blk_cell BK629.out 0).trans rfl
        have hcz34_1 : wc.cell? ⟨gb629, 1, none⟩ = some (.slice none 0 0) := (blk_cell BK629.out 1).trans rfl
        have hcz34_2 : wc.cell? ⟨gb629, 2, none⟩ = some (.slice none 0 0) := (blk_cell BK629.out 2).trans rfl
        have hfz34_0 := blk_frozen BK629.out 0
        have hfz34_1 := blk_frozen BK629.out 1
        have hfz34_2 := blk_frozen BK629.out 2
        go_wp2
        refine bodyPost_ret (results_ct rfl _ _ gb629 25 #[.int .i64 0, .slice none 0 0, .slice none 0 0] (0, 0) _ rfl (by (with_reducible repeat (first | refine blk_drewN ?_ _ | refine blk_drew ?_ | refine blk_alloc ?_ _)); refine blk_put (cs := #[.int .i64 0, .slice none 0 0, .slice none 0 0]) ?_ 2 _ rfl; (with_reducible repeat (first | refine blk_drewN ?_ _ | refine blk_drew ?_ | refine blk_alloc ?_ _)); refine blk_put (cs := #[.int .i64 0, .slice none 0 0, .slice none 0 0]) ?_ 1 _ rfl; (with_reducible repeat (first | refine blk_drewN ?_ _ | refine blk_drew ?_ | refine blk_alloc ?_ _)); refine blk_put (cs := #[.int .i64 0, .slice none 0 0, .slice none 0 0]) ?_ 0 _ rfl; (with_reducible repeat (first | refine blk_drewN ?_ _ | refine blk_drew ?_ | refine blk_alloc ?_ _)); exact BK629.out) Try.underlying25 rfl (by kernel_rfl)) rfl ?_
        exact ⟨_, _, by first | rfl | (simp [errW_none, errW_some] <;> rfl) | (simp [*, errW_none, errW_some] <;> rfl), by first | exact Kd.R_nil _ _ _ _ _ | exact Kd.N_nil _ _ _ _ _ | exact Kd.V_nil _ _ _ _ _ | exact Kd.Q_nil _ _ _ _ _ | exact Kd.S_nil _ _ _ _ _, by first | exact Kd.R_nil _ _ _ _ _ | exact Kd.N_nil _ _ _ _ _ | exact Kd.V_nil _ _ _ _ _ | exact Kd.Q_nil _ _ _ _ _ | exact Kd.S_nil _ _ _ _ _, by repeat (first | (with_reducible first | exact HB.out | apply below_alloc | apply pw_below_drewN | apply below_drew1 | refine below_set ?_ GE627.out | refine below_set ?_ GE628.out | refine below_set ?_ GE629.out) | exact HB.out)⟩
      · replace c31 := Bool.eq_false_iff.mpr c31
        subst c31
        have H1 : (if (wrap64 ((l0_1.length : Int) + (l1_1.length : Int))) > 256 then (some (0, ([] : List (S93)), ([] : List Int), 4)) else ((some (([] : List Int) : List Int)).bind fun y632 => (if y632.length + l1_2.length < 17592186044416 then ((some (([] : List (S93)) : List (S93))).bind fun y638 => (if y638.length + l1_1.length < 4398046511104 then (conclaveref09_After.l0 kj2 (y632 ++ l1_2) 0 a0_0 l0_1 l0_2 a1_0 (y638 ++ l1_1)) else (none))) else (none)))) = some (r1, r2, r3, r4) := by rw [if_neg (show ¬ (false = true) by decide)] at H; exact H
        clear H
        have H := H1
        clear H1
        by_cases c35 : (wrap64 ((l0_1.length : Int) + (l1_1.length : Int))) > 256
        · rw [if_pos c35] at H
          have c35b0 : decide (256 < (wrap64 ((l0_1.length : Int) + (l1_1.length : Int)))) = true := decide_eq_true c35
          clear c35
          simp only [Option.some.injEq, Prod.mk.injEq] at H
          obtain ⟨rfl, rfl, rfl, rfl⟩ := H
          have hnb36 := NB627_628.out
          have hnc36 := NB628_627.out
          have hnb37 := NB627_629.out
          have hnc37 := NB629_627.out
          have hcz38_0 : wc.cell? ⟨gb627, 0, none⟩ = some (.int .i64 a0_0) := (blk_cell BK627.out 0).trans rfl
          have hcz38_1 : wc.cell? ⟨gb627, 1, none⟩ = some (.slice A0_1 l0_1.length c0_1) := (blk_cell BK627.out 1).trans rfl
          have hcz38_2 : wc.cell? ⟨gb627, 2, none⟩ = some (.slice A0_2 l0_2.length c0_2) := (blk_cell BK627.out 2).trans rfl
          have hfz38_0 := blk_frozen BK627.out 0
          have hfz38_1 := blk_frozen BK627.out 1
          have hfz38_2 := blk_frozen BK627.out 2
          have hnb39 := NB628_629.out
          have hnc39 := NB629_628.out
          have hcz40_0 : wc.cell? ⟨gb628, 0, none⟩ = some (.int .i64 a1_0) := (blk_cell BK628.out 0).trans rfl
          have hcz40_1 : wc.cell? ⟨gb628, 1, none⟩ = some (.slice A1_1 l1_1.length c1_1) := (blk_cell BK628.out 1).trans rfl
          have hcz40_2 : wc.cell? ⟨gb628, 2, none⟩ = some (.slice A1_2 l1_2.length c1_2) := (blk_cell BK628.out 2).trans rfl
          have hfz40_0 := blk_frozen BK628.out 0
          have hfz40_1 := blk_frozen BK628.out 1
          have hfz40_2 := blk_frozen BK628.out 2
          have hcz41_0 : wc.cell? ⟨gb629, 0, none⟩ = some (.int .i64 0) := (blk_cell BK629.out 0).trans rfl
          have hcz41_1 : wc.cell? ⟨gb629, 1, none⟩ = some (.slice none 0 0) := (blk_cell BK629.out 1).trans rfl
          have hcz41_2 : wc.cell? ⟨gb629, 2, none⟩ = some (.slice none 0 0) := (blk_cell BK629.out 2).trans rfl
          have hfz41_0 := blk_frozen BK629.out 0
          have hfz41_1 := blk_frozen BK629.out 1
          have hfz41_2 := blk_frozen BK629.out 2
          go_wp2
          refine bodyPost_ret (results_ct rfl _ _ gb629 25 #[.int .i64 0, .slice none 0 0, .slice none 0 0] (0, 0) _ rfl (by (with_reducible repeat (first | refine blk_drewN ?_ _ | refine blk_drew ?_ | refine blk_alloc ?_ _)); refine blk_put (cs := #[.int .i64 0, .slice none 0 0, .slice none 0 0]) ?_ 2 _ rfl; (with_reducible repeat (first | refine blk_drewN ?_ _ | refine blk_drew ?_ | refine blk_alloc ?_ _)); refine blk_put (cs := #[.int .i64 0, .slice none 0 0, .slice none 0 0]) ?_ 1 _ rfl; (with_reducible repeat (first | refine blk_drewN ?_ _ | refine blk_drew ?_ | refine blk_alloc ?_ _)); refine blk_put (cs := #[.int .i64 0, .slice none 0 0, .slice none 0 0]) ?_ 0 _ rfl; (with_reducible repeat (first | refine blk_drewN ?_ _ | refine blk_drew ?_ | refine blk_alloc ?_ _)); exact BK629.out) Try.underlying25 rfl (by kernel_rfl)) rfl ?_
          exact ⟨_, _, by first | rfl | (simp [errW_none, errW_some] <;> rfl) | (simp [*, errW_none, errW_some] <;> rfl), by first | exact Kd.R_nil _ _ _ _ _ | exact Kd.N_nil _ _ _ _ _ | exact Kd.V_nil _ _ _ _ _ | exact Kd.Q_nil _ _ _ _ _ | exact Kd.S_nil _ _ _ _ _, by first | exact Kd.R_nil _ _ _ _ _ | exact Kd.N_nil _ _ _ _ _ | exact Kd.V_nil _ _ _ _ _ | exact Kd.Q_nil _ _ _ _ _ | exact Kd.S_nil _ _ _ _ _, by repeat (first | (with_reducible first | exact HB.out | apply below_alloc | apply pw_below_drewN | apply below_drew1 | refine below_set ?_ GE627.out | refine below_set ?_ GE628.out | refine below_set ?_ GE629.out) | exact HB.out)⟩
        · rw [if_neg c35] at H
          have c35b0 : decide (256 < (wrap64 ((l0_1.length : Int) + (l1_1.length : Int)))) = false := decide_eq_false c35
          clear c35
          obtain ⟨y632, hy632⟩ : ∃ y_ : List Int, y_ = (([] : List Int)) := ⟨_, rfl⟩
          replace H : (if y632.length + l1_2.length < 17592186044416 then ((some (([] : List (S93)) : List (S93))).bind fun y638 => (if y638.length + l1_1.length < 4398046511104 then (conclaveref09_After.l0 kj2 (y632 ++ l1_2) 0 a0_0 l0_1 l0_2 a1_0 (y638 ++ l1_1)) else (none))) else (none)) = some (r1, r2, r3, r4) := by first | (rw [hy632]; with_reducible exact H) | (have H2_ := (Option.bind_some _ _).symm.trans H; rw [hy632]; with_reducible exact H2_) | (have H2_ := (Option.bind_some _ _).symm.trans H; with_reducible exact H2_) | with_reducible exact H | (rw [hy632]; exact H) | exact H
          have Ny632 := Aside0.mk hy632
          clear hy632
          by_cases c42 : y632.length + l1_2.length < 17592186044416
          · rw [if_pos c42] at H
            have LMc42 := Aside0.mk c42
            clear c42
            obtain ⟨y635, hy635⟩ : ∃ y_ : List Int, y_ = (y632 ++ l1_2) := ⟨_, rfl⟩
            replace H : ((some (([] : List (S93)) : List (S93))).bind fun y638 => (if y638.length + l1_1.length < 4398046511104 then (conclaveref09_After.l0 kj2 y635 0 a0_0 l0_1 l0_2 a1_0 (y638 ++ l1_1)) else (none))) = some (r1, r2, r3, r4) := by first | (rw [hy635]; with_reducible exact H) | (have H2_ := (Option.bind_some _ _).symm.trans H; rw [hy635]; with_reducible exact H2_) | (have H2_ := (Option.bind_some _ _).symm.trans H; with_reducible exact H2_) | with_reducible exact H | (rw [hy635]; exact H) | exact H
            have Ny635 := Aside0.mk hy635
            clear hy635
            obtain ⟨y638, hy638⟩ : ∃ y_ : List (S93), y_ = (([] : List (S93))) := ⟨_, rfl⟩
            replace H : (if y638.length + l1_1.length < 4398046511104 then (conclaveref09_After.l0 kj2 y635 0 a0_0 l0_1 l0_2 a1_0 (y638 ++ l1_1)) else (none)) = some (r1, r2, r3, r4) := by first | (rw [hy638]; with_reducible exact H) | (have H2_ := (Option.bind_some _ _).symm.trans H; rw [hy638]; with_reducible exact H2_) | (have H2_ := (Option.bind_some _ _).symm.trans H; with_reducible exact H2_) | with_reducible exact H | (rw [hy638]; exact H) | exact H
            have Ny638 := Aside0.mk hy638
            clear hy638
            by_cases c43 : y638.length + l1_1.length < 4398046511104
            · rw [if_pos c43] at H
              have LMc43 := Aside0.mk c43
              clear c43
              obtain ⟨y641, hy641⟩ : ∃ y_ : List (S93), y_ = (y638 ++ l1_1) := ⟨_, rfl⟩
              replace H : (conclaveref09_After.l0 kj2 y635 0 a0_0 l0_1 l0_2 a1_0 y641) = some (r1, r2, r3, r4) := by first | (rw [hy641]; with_reducible exact H) | (have H2_ := (Option.bind_some _ _).symm.trans H; rw [hy641]; with_reducible exact H2_) | (have H2_ := (Option.bind_some _ _).symm.trans H; with_reducible exact H2_) | with_reducible exact H | (rw [hy641]; exact H) | exact H
              have Ny641 := Aside0.mk hy641
              clear hy641
              have H' := Aside0.mk H
              clear H
              have hnb44 := NB627_628.out
              have hnc44 := NB628_627.out
              have hnb45 := NB627_629.out
              have hnc45 := NB629_627.out
              have hcz46_0 : wc.cell? ⟨gb627, 0, none⟩ = some (.int .i64 a0_0) := (blk_cell BK627.out 0).trans rfl
              have hcz46_1 : wc.cell? ⟨gb627, 1, none⟩ = some (.slice A0_1 l0_1.length c0_1) := (blk_cell BK627.out 1).trans rfl
              have hcz46_2 : wc.cell? ⟨gb627, 2, none⟩ = some (.slice A0_2 l0_2.length c0_2) := (blk_cell BK627.out 2).trans rfl
              have hfz46_0 := blk_frozen BK627.out 0
              have hfz46_1 := blk_frozen BK627.out 1
              have hfz46_2 := blk_frozen BK627.out 2
              have hnb47 := NB628_629.out
              have hnc47 := NB629_628.out
              have hcz48_0 : wc.cell? ⟨gb628, 0, none⟩ = some (.int .i64 a1_0) := (blk_cell BK628.out 0).trans rfl
              have hcz48_1 : wc.cell? ⟨gb628, 1, none⟩ = some (.slice A1_1 l1_1.length c1_1) := (blk_cell BK628.out 1).trans rfl
              have hcz48_2 : wc.cell? ⟨gb628, 2, none⟩ = some (.slice A1_2 l1_2.length c1_2) := (blk_cell BK628.out 2).trans rfl
              have hfz48_0 := blk_frozen BK628.out 0
              have hfz48_1 := blk_frozen BK628.out 1
              have hfz48_2 := blk_frozen BK628.out 2
              try go_wp2_with (first | ((with_reducible refine gate_dst (N := 37) rfl ?_); (try (refine gate_guard (by rfl) ?_; dsimp only)); refine Kd.R_lit (Kd.int .i64) _ 3 ?hg (N := 37) ?hd (xs := ([] : List Int)) (inner := []) (ok := fun _ => True) (okp := fun _ => True) ?hr ?hp (fun _ hk => hk) trivial (Below.refl _ _) (Nat.le_refl _) (by simp) ?_; (case hd => rfl); (case hg => rfl); (case hr => first | (go_simp; done) | (go_simp; rfl)); (case hp => exact (Reps.none _ _)); intro v633 w49 ho50 hb hg_ hnew_; clear hg_ hnew_; (first | rw [← Ny632.out] at ho50 | (simp only [Int.reduceToNat] at ho50; rw [← Ny632.out] at ho50)); have n0_ := Aside0.mk (Kd.R_lower ho50 (below_size (by repeat (first | (with_reducible first | exact HB.out | apply below_alloc | apply pw_below_drewN | apply below_drew1 | refine below_set ?_ GE627.out | refine below_set ?_ GE628.out | refine below_set ?_ GE629.out) | exact HB.out)))); have n1_ := Aside0.mk (blk_below (g := gb627) (o := .cells #[.int .i64 a0_0, .slice A0_1 l0_1.length c0_1, .slice A0_2 l0_2.length c0_2] 25 (0, 0)) (by (with_reducible repeat (first | refine blk_drewN ?_ _ | refine blk_drew ?_ | refine blk_alloc ?_ _)); exact BK627.out) hb); have n2_ := Aside0.mk (blk_below (g := gb628) (o := .cells #[.int .i64 a1_0, .slice A1_1 l1_1.length c1_1, .slice A1_2 l1_2.length c1_2] 25 (0, 0)) (by (with_reducible repeat (first | refine blk_drewN ?_ _ | refine blk_drew ?_ | refine blk_alloc ?_ _)); exact BK628.out) hb); have n3_ := Aside0.mk (blk_below (g := gb629) (o := .cells #[.int .i64 0, .slice none 0 0, .slice none 0 0] 25 (0, 0)) (by (with_reducible repeat (first | refine blk_drewN ?_ _ | refine blk_drew ?_ | refine blk_alloc ?_ _)); exact BK629.out) hb); have n4_ := Aside0.mk (below_step (by repeat (first | (with_reducible first | exact HB.out | apply below_alloc | apply pw_below_drewN | apply below_drew1 | refine below_set ?_ GE627.out | refine below_set ?_ GE628.out | refine below_set ?_ GE629.out) | exact HB.out)) hb); clear BK627; clear BK628; clear BK629; clear HB; have HO634 := n0_; have BK627 := n1_; have BK628 := n2_; have BK629 := n3_; have HB := n4_; clear n0_ n1_ n2_ n3_ n4_; clear hb ho50; have hcz51_0 : w49.cell? ⟨gb628, 0, none⟩ = some (.int .i64 a1_0) := (blk_cell BK628.out 0).trans rfl; have hcz51_1 : w49.cell? ⟨gb628, 1, none⟩ = some (.slice A1_1 l1_1.length c1_1) := (blk_cell BK628.out 1).trans rfl; have hcz51_2 : w49.cell? ⟨gb628, 2, none⟩ = some (.slice A1_2 l1_2.length c1_2) := (blk_cell BK628.out 2).trans rfl; have hfz51_0 := blk_frozen BK628.out 0; have hfz51_1 := blk_frozen BK628.out 1; have hfz51_2 := blk_frozen BK628.out 2) | ((with_reducible refine gate_builtin (b := .append) (xs := #[.tmp 37, .tmp 39]) rfl ?_); (try (refine gate_guard (by rfl) ?_; dsimp only)); at_builtin; refine Kd.R_append_rows (Kd.int .i64) (w0 := w) w.heap.size rfl (.tmp 37) (.tmp 39) 23 3 (.int .i64 0) 8 rfl Try.underlying23 info3 rfl (by decide) (by omega) v633 y632 l1_2 _ _ _ (fun _ => True) (fun _ => False) rfl rfl ?aO ?aR (fun _ _ h => h) (fun _ h => h.elim) ?aF ?aB ?aS ?aL ?_; (case aR => repeat (first | exact (Kd.C_below HR1_2.out HB.out) | (with_reducible refine Kd.C_alloc ?_ _) | (with_reducible refine Kd.C_drewN ?_ _) | (with_reducible refine Kd.C_drew ?_))); (case aB => exact (by repeat (first | (with_reducible first | exact HB.out | apply below_alloc | apply pw_below_drewN | apply below_drew1 | refine below_set ?_ GE627.out | refine below_set ?_ GE628.out | refine below_set ?_ GE629.out) | exact HB.out))); (case aF => exact (fun _ _ => trivial)); (case aO => exact (by (with_reducible repeat (first | apply Kd.R_alloc | apply Kd.R_drewN | apply Kd.R_drew)); exact HO634.out)); (case aS => exact (below_size (by repeat (first | (with_reducible first | exact HB.out | apply below_alloc | apply pw_below_drewN | apply below_drew1 | refine below_set ?_ GE627.out | refine below_set ?_ GE628.out | refine below_set ?_ GE629.out) | exact HB.out)))); (case aL => have := LMc42.out; omega); intro v636 w52 ho hb hg hat; rw [← Ny635.out] at ho; have n0_ := Aside0.mk (blk_grown (g := gb627) (o := .cells #[.int .i64 a0_0, .slice A0_1 l0_1.length c0_1, .slice A0_2 l0_2.length c0_2] 25 (0, 0)) (by (with_reducible repeat (first | refine blk_drewN ?_ _ | refine blk_drew ?_ | refine blk_alloc ?_ _)); exact BK627.out) hg (Kd.R_ne HO634.out BK627.out (by decide))); have n1_ := Aside0.mk (blk_grown (g := gb628) (o := .cells #[.int .i64 a1_0, .slice A1_1 l1_1.length c1_1, .slice A1_2 l1_2.length c1_2] 25 (0, 0)) (by (with_reducible repeat (first | refine blk_drewN ?_ _ | refine blk_drew ?_ | refine blk_alloc ?_ _)); exact BK628.out) hg (Kd.R_ne HO634.out BK628.out (by decide))); have n2_ := Aside0.mk (blk_grown (g := gb629) (o := .cells #[.int .i64 0, .slice none 0 0, .slice none 0 0] 25 (0, 0)) (by (with_reducible repeat (first | refine blk_drewN ?_ _ | refine blk_drew ?_ | refine blk_alloc ?_ _)); exact BK629.out) hg (Kd.R_ne HO634.out BK629.out (by decide))); have n3_ := Aside0.mk (hb); have n4_ := Aside0.mk (ho); clear BK627; clear BK628; clear BK629; clear HB; clear HO634; have BK627 := n0_; have BK628 := n1_; have BK629 := n2_; have HB := n3_; have HO637 := n4_; clear n0_ n1_ n2_ n3_ n4_; clear ho hb hg hat))
              have n0_ := Aside0.mk (Kd.R_drew HO637.out)
              have n1_ := Aside0.mk (blk_drew BK627.out)
              have n2_ := Aside0.mk (blk_drew BK628.out)
              have n3_ := Aside0.mk (blk_drew BK629.out)
              have n4_ := Aside0.mk (below_drew1 HB.out)
              clear HO637
              clear BK627
              clear BK628
              clear BK629
              clear HB
              have HO637 := n0_
              have BK627 := n1_
              have BK628 := n2_
              have BK629 := n3_
              have HB := n4_
              clear n0_ n1_ n2_ n3_ n4_
              refine start_ (n := 9) (S := fun w' => w'.cell? ⟨gb628, 0, none⟩ = some (.int .i64 a1_0) ∧ w'.cell? ⟨gb628, 1, none⟩ = some (.slice A1_1 l1_1.length c1_1) ∧ w'.cell? ⟨gb628, 2, none⟩ = some (.slice A1_2 l1_2.length c1_2)) (ds := []) #[false, false, false, false, false, false, false, false, false] (by kernel_rfl) rfl rfl ⟨(blk_cell BK628.out 0).trans rfl, (blk_cell BK628.out 1).trans rfl, (blk_cell BK628.out 2).trans rfl⟩ (fun hHeld => ?_); refine with_tabW conclaveref09_After.tab6 conclaveref09_After.bits6 (fun HT_ HW_ => ?_)
              generalize w52.drew = w53 at HO637 BK627 BK628 BK629 HB hHeld ⊢
              refine pure_ (i := 0) (N := some 41) (v := ?_) (a' := ?_) #[true, false, false, false, false, false, false, false, false] rfl rfl (any_of HT_.out (by kernel_rfl)) (fun _ _ _ h => h) (Or.inl ⟨by rfl, ?_⟩) ?_ ?_
              rotate_left
              · intro w'
                go_simp
                with_reducible rfl
              rotate_left
              · simp only [Act.put, List.setIfInBounds_toArray, List.set_cons_zero, List.set_cons_succ, i64_w, i32_w]
                rfl
              refine pure_ (i := 3) (N := some 44) (v := ?_) (a' := ?_) #[true, false, false, true, false, false, false, false, false] rfl rfl (any_of HT_.out (by kernel_rfl)) (fun _ _ _ h => h) (Or.inl ⟨by rfl, ?_⟩) ?_ ?_
              rotate_left
              · intro w'
                go_simp
                with_reducible rfl
              rotate_left
              · simp only [Act.put, List.setIfInBounds_toArray, List.set_cons_zero, List.set_cons_succ, i64_w, i32_w]
                rfl
              refine take_ (i := 1) (N := some 42) (v := ?_) (a' := ?_) #[true, true, false, true, false, false, false, false, false] rfl rfl (take_ofW HT_.out HW_.out (by kernel_rfl)) (fun _ _ _ h => h) (Or.inl ⟨by rfl, ?_⟩) hHeld ?_ ?_
              rotate_left
              · rintro w' ⟨s0, s1, s2⟩
                go_simp
                with_reducible rfl
              rotate_left
              · simp only [Act.put, List.setIfInBounds_toArray, List.set_cons_zero, List.set_cons_succ, i64_w, i32_w]
                rfl
              refine take_ (i := 4) (N := some 45) (v := ?_) (a' := ?_) #[true, true, false, true, true, false, false, false, false] rfl rfl (take_ofW HT_.out HW_.out (by kernel_rfl)) (fun _ _ _ h => h) (Or.inl ⟨by rfl, ?_⟩) hHeld ?_ ?_
              rotate_left
              · rintro w' ⟨s0, s1, s2⟩
                go_simp
                with_reducible rfl
              rotate_left
              · simp only [Act.put, List.setIfInBounds_toArray, List.set_cons_zero, List.set_cons_succ, i64_w, i32_w]
                rfl
              refine join_ (σ := Value × Value × Nat) 1 #[true, true, true, true, true, true, true, true, false] (fun s_ => [(43, s_.1), (46, s_.2.1), (7, .pointer (some ⟨s_.2.2, 0, none⟩)), (47, .agg #[.int .i64 a1_0, s_.2.1, .slice none 0 0])]) (fun s_ w' => (w'.cell? ⟨gb628, 0, none⟩ = some (.int .i64 a1_0) ∧ w'.cell? ⟨gb628, 1, none⟩ = some (.slice A1_1 l1_1.length c1_1) ∧ w'.cell? ⟨gb628, 2, none⟩ = some (.slice A1_2 l1_2.length c1_2)) ∧ (Kd.R (Kd.int .i64) 3 w' w.heap.size (fun _ => True) v636 y635) ∧ (Kd.R k93 93 w' w.heap.size (fun _ => True) s_.2.1 y641) ∧ (w'.heap[gb627]? = some (.cells #[.int .i64 a0_0, .slice A0_1 l0_1.length c0_1, .slice A0_2 l0_2.length c0_2] 25 (0, 0))) ∧ (w'.heap[gb628]? = some (.cells #[.int .i64 a1_0, .slice A1_1 l1_1.length c1_1, .slice A1_2 l1_2.length c1_2] 25 (0, 0))) ∧ (w'.heap[gb629]? = some (.cells #[.int .i64 0, .slice none 0 0, .slice none 0 0] 25 (0, 0))) ∧ (w'.heap[s_.2.2]? = some (.cells #[.int .i64 0, .slice none 0 0, .slice none 0 0] 25 (0, 0))) ∧ (w.heap.size ≤ s_.2.2) ∧ (w.heap.size ≤ s_.2.2) ∧ (gb627 ≠ s_.2.2) ∧ (s_.2.2 ≠ gb627) ∧ (gb628 ≠ s_.2.2) ∧ (s_.2.2 ≠ gb628) ∧ (gb629 ≠ s_.2.2) ∧ (s_.2.2 ≠ gb629) ∧ (Below w.heap.size w w')) ?_ ?_
              rotate_left
              · intro hCont
                refine two_ (i := 2) (j := 7) (Ni := some 43) (Nj := some 7) #[true, true, true, true, true, false, false, false, false] #[true, true, false, true, true, false, false, true, false] rfl rfl rfl rfl (two_of HT_.out (by kernel_rfl)) (by decide) (by decide) (fun K hK => ?_) (fun K hK => ?_)
                · skip
                  refine Kd.R_lit_step k93 _ 93 ?hg (N := 43) ?hd (xs := ([] : List (S93))) (inner := []) (ok := fun _ => True) (okp := fun _ => True) ?hr ?hp (fun _ hk => hk) trivial (Below.refl _ _) (Nat.le_refl _) (by simp) ?_; (case hd => rfl); (case hg => rfl); (case hr => first | (go_simp; done) | (go_simp; rfl)); (case hp => exact (Reps.none _ _))
                  intro v639 w54 ho55 hb hg_ hnew_
                  clear hg_ hnew_
                  (first | rw [← Ny638.out] at ho55 | (simp only [Int.reduceToNat] at ho55; rw [← Ny638.out] at ho55))
                  have n0_ := Aside0.mk (Kd.R_below (by (with_reducible repeat (first | apply Kd.R_alloc | apply Kd.R_drewN | apply Kd.R_drew)); exact HO637.out) hb)
                  have n1_ := Aside0.mk (Kd.R_lower ho55 (below_size (by repeat (first | (with_reducible first | exact HB.out | apply below_alloc | apply pw_below_drewN | apply below_drew1 | refine below_set ?_ GE627.out | refine below_set ?_ GE628.out | refine below_set ?_ GE629.out) | exact HB.out))))
                  have n2_ := Aside0.mk (blk_below (g := gb627) (o := .cells #[.int .i64 a0_0, .slice A0_1 l0_1.length c0_1, .slice A0_2 l0_2.length c0_2] 25 (0, 0)) (by (with_reducible repeat (first | refine blk_drewN ?_ _ | refine blk_drew ?_ | refine blk_alloc ?_ _)); exact BK627.out) hb)
                  have n3_ := Aside0.mk (blk_below (g := gb628) (o := .cells #[.int .i64 a1_0, .slice A1_1 l1_1.length c1_1, .slice A1_2 l1_2.length c1_2] 25 (0, 0)) (by (with_reducible repeat (first | refine blk_drewN ?_ _ | refine blk_drew ?_ | refine blk_alloc ?_ _)); exact BK628.out) hb)
                  have n4_ := Aside0.mk (blk_below (g := gb629) (o := .cells #[.int .i64 0, .slice none 0 0, .slice none 0 0] 25 (0, 0)) (by (with_reducible repeat (first | refine blk_drewN ?_ _ | refine blk_drew ?_ | refine blk_alloc ?_ _)); exact BK629.out) hb)
                  have n5_ := Aside0.mk (below_step (by repeat (first | (with_reducible first | exact HB.out | apply below_alloc | apply pw_below_drewN | apply below_drew1 | refine below_set ?_ GE627.out | refine below_set ?_ GE628.out | refine below_set ?_ GE629.out) | exact HB.out)) hb)
                  clear HO637
                  clear BK627
                  clear BK628
                  clear BK629
                  clear HB
                  have HO637 := n0_
                  have HO640 := n1_
                  have BK627 := n2_
                  have BK628 := n3_
                  have BK629 := n4_
                  have HB := n5_
                  clear n0_ n1_ n2_ n3_ n4_ n5_
                  clear hb ho55
                  refine hK.out _ _ ⟨(blk_cell BK628.out 0).trans rfl, (blk_cell BK628.out 1).trans rfl, (blk_cell BK628.out 2).trans rfl⟩ (fun hHeld => ?_)
                  clear hK K
                  refine norm_ (a' := ?_) ?_ ?_
                  rotate_left
                  · show Act.put _ (some 43) _ = _
                    simp only [Act.put, List.setIfInBounds_toArray, List.set_cons_zero, List.set_cons_succ, i64_w, i32_w]
                    rfl
                  refine two_ (i := 5) (j := 7) (Ni := some 46) (Nj := some 7) #[true, true, true, true, true, true, false, false, false] #[true, true, true, true, true, false, false, true, false] rfl rfl rfl rfl (two_of HT_.out (by kernel_rfl)) (by decide) (by decide) (fun K hK => ?_) (fun K hK => ?_)
                  · skip
                    refine Kd.R_append_rows_step k93 (w0 := w) w.heap.size (by rfl) (.tmp 43) (.tmp 45) 22 93 (.agg #[(.int .u8 0), (.int .i64 0), (.int .i64 0), (.int .u64 0)]) 32 rfl Try.underlying22 info93 rfl (by decide) (by omega) v639 y638 l1_1 _ _ _ (fun _ => True) (fun _ => False) rfl rfl ?aO ?aR (fun _ _ h => h) (fun _ h => h.elim) ?aF ?aB ?aS ?aL ?_
                    (case aR => repeat (first | exact (Kd.C_below HR1_1.out HB.out) | (with_reducible refine Kd.C_alloc ?_ _) | (with_reducible refine Kd.C_drewN ?_ _) | (with_reducible refine Kd.C_drew ?_)))
                    (case aB => exact (by repeat (first | (with_reducible first | exact HB.out | apply below_alloc | apply pw_below_drewN | apply below_drew1 | refine below_set ?_ GE627.out | refine below_set ?_ GE628.out | refine below_set ?_ GE629.out) | exact HB.out)))
                    (case aF => exact (fun _ _ => trivial))
                    (case aO => exact (by (with_reducible repeat (first | apply Kd.R_alloc | apply Kd.R_drewN | apply Kd.R_drew)); exact HO640.out))
                    (case aS => exact (below_size (by repeat (first | (with_reducible first | exact HB.out | apply below_alloc | apply pw_below_drewN | apply below_drew1 | refine below_set ?_ GE627.out | refine below_set ?_ GE628.out | refine below_set ?_ GE629.out) | exact HB.out))))
                    (case aL => have := LMc43.out; omega)
                    intro v642 w56 ho hb hg hat
                    rw [← Ny641.out] at ho
                    have n0_ := Aside0.mk (blk_grown (g := gb627) (o := .cells #[.int .i64 a0_0, .slice A0_1 l0_1.length c0_1, .slice A0_2 l0_2.length c0_2] 25 (0, 0)) (by (with_reducible repeat (first | refine blk_drewN ?_ _ | refine blk_drew ?_ | refine blk_alloc ?_ _)); exact BK627.out) hg (Kd.R_ne HO640.out BK627.out (by decide)))
                    have n1_ := Aside0.mk (blk_grown (g := gb628) (o := .cells #[.int .i64 a1_0, .slice A1_1 l1_1.length c1_1, .slice A1_2 l1_2.length c1_2] 25 (0, 0)) (by (with_reducible repeat (first | refine blk_drewN ?_ _ | refine blk_drew ?_ | refine blk_alloc ?_ _)); exact BK628.out) hg (Kd.R_ne HO640.out BK628.out (by decide)))
                    have n2_ := Aside0.mk (blk_grown (g := gb629) (o := .cells #[.int .i64 0, .slice none 0 0, .slice none 0 0] 25 (0, 0)) (by (with_reducible repeat (first | refine blk_drewN ?_ _ | refine blk_drew ?_ | refine blk_alloc ?_ _)); exact BK629.out) hg (Kd.R_ne HO640.out BK629.out (by decide)))
                    have n3_ := Aside0.mk (Kd.R_over' (by (with_reducible repeat (first | apply Kd.R_alloc | apply Kd.R_drewN | apply Kd.R_drew)); exact HO637.out) (Kd.R_typed (by (with_reducible repeat (first | apply Kd.R_alloc | apply Kd.R_drewN | apply Kd.R_drew)); exact HO640.out)) (by decide) hg)
                    have n4_ := Aside0.mk (hb)
                    have n5_ := Aside0.mk (ho)
                    clear BK627
                    clear BK628
                    clear BK629
                    clear HO637
                    clear HB
                    clear HO640
                    have BK627 := n0_
                    have BK628 := n1_
                    have BK629 := n2_
                    have HO637 := n3_
                    have HB := n4_
                    have HO643 := n5_
                    clear n0_ n1_ n2_ n3_ n4_ n5_
                    clear ho hb hg hat
                    obtain ⟨Ao57, co57, eo57⟩ := Kd.R_slice HO643.out
                    (first | subst eo57 | (injection eo57 with f1_ f2_ f3_; have f4_ := f1_.symm; have f5_ := f3_.symm; clear f1_ f2_ f3_; subst f4_; subst f5_))
                    refine hK.out _ _ ⟨(blk_cell BK628.out 0).trans rfl, (blk_cell BK628.out 1).trans rfl, (blk_cell BK628.out 2).trans rfl⟩ (fun hHeld => ?_)
                    clear hK K
                    refine norm_ (a' := ?_) ?_ ?_
                    rotate_left
                    · show Act.put _ (some 46) _ = _
                      simp only [Act.put, List.setIfInBounds_toArray, List.set_cons_zero, List.set_cons_succ, i64_w, i32_w]
                      rfl
                    refine pure_ (i := 6) (N := some 47) (v := ?_) (a' := ?_) #[true, true, true, true, true, true, true, false, false] rfl rfl (any_of HT_.out (by kernel_rfl)) (fun _ _ _ h => h) (Or.inl ⟨by rfl, ?_⟩) ?_ ?_
                    rotate_left
                    · intro w'
                      go_simp
                      with_reducible rfl
                    rotate_left
                    · simp only [Act.put, List.setIfInBounds_toArray, List.set_cons_zero, List.set_cons_succ, i64_w, i32_w]
                      rfl
                    refine one_ (i := 7) (N := some 7) #[true, true, true, true, true, true, true, true, false] rfl rfl (one_of HT_.out (by kernel_rfl)) (by decide) (fun K hK => ?_)
                    refine box_step ?hg (N := 7) ?hd (cs := #[.int .i64 0, .slice none 0 0, .slice none 0 0]) (t := 25) ?hr ?_; (case hd => rfl); (case hg => rfl); (case hr => first | (go_simp; done) | (go_simp; rfl))
                    intro gb644 hg w58 hbox hb
                    have n0_ := Aside0.mk (Kd.R_below (by (with_reducible repeat (first | apply Kd.R_alloc | apply Kd.R_drewN | apply Kd.R_drew)); exact HO637.out) hb)
                    have n1_ := Aside0.mk (Kd.R_below (by (with_reducible repeat (first | apply Kd.R_alloc | apply Kd.R_drewN | apply Kd.R_drew)); exact HO643.out) hb)
                    have n2_ := Aside0.mk (blk_below (g := gb627) (o := .cells #[.int .i64 a0_0, .slice A0_1 l0_1.length c0_1, .slice A0_2 l0_2.length c0_2] 25 (0, 0)) (by (with_reducible repeat (first | refine blk_drewN ?_ _ | refine blk_drew ?_ | refine blk_alloc ?_ _)); exact BK627.out) hb)
                    have n3_ := Aside0.mk (blk_below (g := gb628) (o := .cells #[.int .i64 a1_0, .slice A1_1 l1_1.length c1_1, .slice A1_2 l1_2.length c1_2] 25 (0, 0)) (by (with_reducible repeat (first | refine blk_drewN ?_ _ | refine blk_drew ?_ | refine blk_alloc ?_ _)); exact BK628.out) hb)
                    have n4_ := Aside0.mk (blk_below (g := gb629) (o := .cells #[.int .i64 0, .slice none 0 0, .slice none 0 0] 25 (0, 0)) (by (with_reducible repeat (first | refine blk_drewN ?_ _ | refine blk_drew ?_ | refine blk_alloc ?_ _)); exact BK629.out) hb)
                    have n5_ := Aside0.mk (below_step (by repeat (first | (with_reducible first | exact HB.out | apply below_alloc | apply pw_below_drewN | apply below_drew1 | refine below_set ?_ GE627.out | refine below_set ?_ GE628.out | refine below_set ?_ GE629.out) | exact HB.out)) hb)
                    have n6_ := Aside0.mk (hbox)
                    have n7_ := Aside0.mk ((by rw [hg]; exact (below_size (by repeat (first | (with_reducible first | exact HB.out | apply below_alloc | apply pw_below_drewN | apply below_drew1 | refine below_set ?_ GE627.out | refine below_set ?_ GE628.out | refine below_set ?_ GE629.out) | exact HB.out))) : w.heap.size ≤ gb644))
                    have n8_ := Aside0.mk ((by rw [hg]; exact (below_size (by repeat (first | (with_reducible first | exact HB.out | apply below_alloc | apply pw_below_drewN | apply below_drew1 | refine below_set ?_ GE627.out | refine below_set ?_ GE628.out | refine below_set ?_ GE629.out) | exact HB.out))) : w.heap.size ≤ gb644))
                    have n9_ := Aside0.mk ((by rw [hg]; exact Nat.ne_of_lt (blk_lt (g := gb627) (o := .cells #[.int .i64 a0_0, .slice A0_1 l0_1.length c0_1, .slice A0_2 l0_2.length c0_2] 25 (0, 0)) (by (with_reducible repeat (first | refine blk_drewN ?_ _ | refine blk_drew ?_ | refine blk_alloc ?_ _)); exact BK627.out)) : gb627 ≠ gb644))
                    have n10_ := Aside0.mk ((by rw [hg]; exact Nat.ne_of_gt (blk_lt (g := gb627) (o := .cells #[.int .i64 a0_0, .slice A0_1 l0_1.length c0_1, .slice A0_2 l0_2.length c0_2] 25 (0, 0)) (by (with_reducible repeat (first | refine blk_drewN ?_ _ | refine blk_drew ?_ | refine blk_alloc ?_ _)); exact BK627.out)) : gb644 ≠ gb627))
                    have n11_ := Aside0.mk ((by rw [hg]; exact Nat.ne_of_lt (blk_lt (g := gb628) (o := .cells #[.int .i64 a1_0, .slice A1_1 l1_1.length c1_1, .slice A1_2 l1_2.length c1_2] 25 (0, 0)) (by (with_reducible repeat (first | refine blk_drewN ?_ _ | refine blk_drew ?_ | refine blk_alloc ?_ _)); exact BK628.out)) : gb628 ≠ gb644))
                    have n12_ := Aside0.mk ((by rw [hg]; exact Nat.ne_of_gt (blk_lt (g := gb628) (o := .cells #[.int .i64 a1_0, .slice A1_1 l1_1.length c1_1, .slice A1_2 l1_2.length c1_2] 25 (0, 0)) (by (with_reducible repeat (first | refine blk_drewN ?_ _ | refine blk_drew ?_ | refine blk_alloc ?_ _)); exact BK628.out)) : gb644 ≠ gb628))
                    have n13_ := Aside0.mk ((by rw [hg]; exact Nat.ne_of_lt (blk_lt (g := gb629) (o := .cells #[.int .i64 0, .slice none 0 0, .slice none 0 0] 25 (0, 0)) (by (with_reducible repeat (first | refine blk_drewN ?_ _ | refine blk_drew ?_ | refine blk_alloc ?_ _)); exact BK629.out)) : gb629 ≠ gb644))
                    have n14_ := Aside0.mk ((by rw [hg]; exact Nat.ne_of_gt (blk_lt (g := gb629) (o := .cells #[.int .i64 0, .slice none 0 0, .slice none 0 0] 25 (0, 0)) (by (with_reducible repeat (first | refine blk_drewN ?_ _ | refine blk_drew ?_ | refine blk_alloc ?_ _)); exact BK629.out)) : gb644 ≠ gb629))
                    clear HO637
                    clear HO643
                    clear BK627
                    clear BK628
                    clear BK629
                    clear HB
                    have HO637 := n0_
                    have HO643 := n1_
                    have BK627 := n2_
                    have BK628 := n3_
                    have BK629 := n4_
                    have HB := n5_
                    have BK644 := n6_
                    have GW644 := n7_
                    have GE644 := n8_
                    have NB627_644 := n9_
                    have NB644_627 := n10_
                    have NB628_644 := n11_
                    have NB644_628 := n12_
                    have NB629_644 := n13_
                    have NB644_629 := n14_
                    clear n0_ n1_ n2_ n3_ n4_ n5_ n6_ n7_ n8_ n9_ n10_ n11_ n12_ n13_ n14_
                    clear hb hbox hg
                    refine hK.out _ _ ⟨(blk_cell BK628.out 0).trans rfl, (blk_cell BK628.out 1).trans rfl, (blk_cell BK628.out 2).trans rfl⟩ (fun hHeld => ?_)
                    clear hK K
                    refine norm_ (a' := ?_) ?_ ?_
                    rotate_left
                    · show Act.put _ (some 7) _ = _
                      simp only [Act.put, List.setIfInBounds_toArray, List.set_cons_zero, List.set_cons_succ, i64_w, i32_w]
                      rfl
                    exact norm_ (by simp only [putAll, Act.put, List.setIfInBounds_toArray, List.set_cons_zero, List.set_cons_succ]) (hCont (v639, .slice Ao57 y641.length co57, gb644) _ ⟨hHeld, (by (with_reducible repeat (first | apply Kd.R_alloc | apply Kd.R_drewN | apply Kd.R_drew)); exact HO637.out), (by (with_reducible repeat (first | apply Kd.R_alloc | apply Kd.R_drewN | apply Kd.R_drew)); exact HO643.out), (by (with_reducible repeat (first | refine blk_drewN ?_ _ | refine blk_drew ?_ | refine blk_alloc ?_ _)); exact BK627.out), (by (with_reducible repeat (first | refine blk_drewN ?_ _ | refine blk_drew ?_ | refine blk_alloc ?_ _)); exact BK628.out), (by (with_reducible repeat (first | refine blk_drewN ?_ _ | refine blk_drew ?_ | refine blk_alloc ?_ _)); exact BK629.out), (by (with_reducible repeat (first | refine blk_drewN ?_ _ | refine blk_drew ?_ | refine blk_alloc ?_ _)); exact BK644.out), GW644.out, GE644.out, NB627_644.out, NB644_627.out, NB628_644.out, NB644_628.out, NB629_644.out, NB644_629.out, (by repeat (first | (with_reducible first | exact HB.out | apply below_alloc | apply pw_below_drewN | apply below_drew1 | refine below_set ?_ GE627.out | refine below_set ?_ GE628.out | refine below_set ?_ GE629.out | refine below_set ?_ GE644.out) | exact HB.out))⟩)
                  · skip
                    refine box_step ?hg (N := 7) ?hd (cs := #[.int .i64 0, .slice none 0 0, .slice none 0 0]) (t := 25) ?hr ?_; (case hd => rfl); (case hg => rfl); (case hr => first | (go_simp; done) | (go_simp; rfl))
                    intro gb644 hg w56 hbox hb
                    have n0_ := Aside0.mk (Kd.R_below (by (with_reducible repeat (first | apply Kd.R_alloc | apply Kd.R_drewN | apply Kd.R_drew)); exact HO637.out) hb)
                    have n1_ := Aside0.mk (Kd.R_below (by (with_reducible repeat (first | apply Kd.R_alloc | apply Kd.R_drewN | apply Kd.R_drew)); exact HO640.out) hb)
                    have n2_ := Aside0.mk (blk_below (g := gb627) (o := .cells #[.int .i64 a0_0, .slice A0_1 l0_1.length c0_1, .slice A0_2 l0_2.length c0_2] 25 (0, 0)) (by (with_reducible repeat (first | refine blk_drewN ?_ _ | refine blk_drew ?_ | refine blk_alloc ?_ _)); exact BK627.out) hb)
                    have n3_ := Aside0.mk (blk_below (g := gb628) (o := .cells #[.int .i64 a1_0, .slice A1_1 l1_1.length c1_1, .slice A1_2 l1_2.length c1_2] 25 (0, 0)) (by (with_reducible repeat (first | refine blk_drewN ?_ _ | refine blk_drew ?_ | refine blk_alloc ?_ _)); exact BK628.out) hb)
                    have n4_ := Aside0.mk (blk_below (g := gb629) (o := .cells #[.int .i64 0, .slice none 0 0, .slice none 0 0] 25 (0, 0)) (by (with_reducible repeat (first | refine blk_drewN ?_ _ | refine blk_drew ?_ | refine blk_alloc ?_ _)); exact BK629.out) hb)
                    have n5_ := Aside0.mk (below_step (by repeat (first | (with_reducible first | exact HB.out | apply below_alloc | apply pw_below_drewN | apply below_drew1 | refine below_set ?_ GE627.out | refine below_set ?_ GE628.out | refine below_set ?_ GE629.out) | exact HB.out)) hb)
                    have n6_ := Aside0.mk (hbox)
                    have n7_ := Aside0.mk ((by rw [hg]; exact (below_size (by repeat (first | (with_reducible first | exact HB.out | apply below_alloc | apply pw_below_drewN | apply below_drew1 | refine below_set ?_ GE627.out | refine below_set ?_ GE628.out | refine below_set ?_ GE629.out) | exact HB.out))) : w.heap.size ≤ gb644))
                    have n8_ := Aside0.mk ((by rw [hg]; exact (below_size (by repeat (first | (with_reducible first | exact HB.out | apply below_alloc | apply pw_below_drewN | apply below_drew1 | refine below_set ?_ GE627.out | refine below_set ?_ GE628.out | refine below_set ?_ GE629.out) | exact HB.out))) : w.heap.size ≤ gb644))
                    have n9_ := Aside0.mk ((by rw [hg]; exact Nat.ne_of_lt (blk_lt (g := gb627) (o := .cells #[.int .i64 a0_0, .slice A0_1 l0_1.length c0_1, .slice A0_2 l0_2.length c0_2] 25 (0, 0)) (by (with_reducible repeat (first | refine blk_drewN ?_ _ | refine blk_drew ?_ | refine blk_alloc ?_ _)); exact BK627.out)) : gb627 ≠ gb644))
                    have n10_ := Aside0.mk ((by rw [hg]; exact Nat.ne_of_gt (blk_lt (g := gb627) (o := .cells #[.int .i64 a0_0, .slice A0_1 l0_1.length c0_1, .slice A0_2 l0_2.length c0_2] 25 (0, 0)) (by (with_reducible repeat (first | refine blk_drewN ?_ _ | refine blk_drew ?_ | refine blk_alloc ?_ _)); exact BK627.out)) : gb644 ≠ gb627))
                    have n11_ := Aside0.mk ((by rw [hg]; exact Nat.ne_of_lt (blk_lt (g := gb628) (o := .cells #[.int .i64 a1_0, .slice A1_1 l1_1.length c1_1, .slice A1_2 l1_2.length c1_2] 25 (0, 0)) (by (with_reducible repeat (first | refine blk_drewN ?_ _ | refine blk_drew ?_ | refine blk_alloc ?_ _)); exact BK628.out)) : gb628 ≠ gb644))
                    have n12_ := Aside0.mk ((by rw [hg]; exact Nat.ne_of_gt (blk_lt (g := gb628) (o := .cells #[.int .i64 a1_0, .slice A1_1 l1_1.length c1_1, .slice A1_2 l1_2.length c1_2] 25 (0, 0)) (by (with_reducible repeat (first | refine blk_drewN ?_ _ | refine blk_drew ?_ | refine blk_alloc ?_ _)); exact BK628.out)) : gb644 ≠ gb628))
                    have n13_ := Aside0.mk ((by rw [hg]; exact Nat.ne_of_lt (blk_lt (g := gb629) (o := .cells #[.int .i64 0, .slice none 0 0, .slice none 0 0] 25 (0, 0)) (by (with_reducible repeat (first | refine blk_drewN ?_ _ | refine blk_drew ?_ | refine blk_alloc ?_ _)); exact BK629.out)) : gb629 ≠ gb644))
                    have n14_ := Aside0.mk ((by rw [hg]; exact Nat.ne_of_gt (blk_lt (g := gb629) (o := .cells #[.int .i64 0, .slice none 0 0, .slice none 0 0] 25 (0, 0)) (by (with_reducible repeat (first | refine blk_drewN ?_ _ | refine blk_drew ?_ | refine blk_alloc ?_ _)); exact BK629.out)) : gb644 ≠ gb629))
                    clear HO637
                    clear HO640
                    clear BK627
                    clear BK628
                    clear BK629
                    clear HB
                    have HO637 := n0_
                    have HO640 := n1_
                    have BK627 := n2_
                    have BK628 := n3_
                    have BK629 := n4_
                    have HB := n5_
                    have BK644 := n6_
                    have GW644 := n7_
                    have GE644 := n8_
                    have NB627_644 := n9_
                    have NB644_627 := n10_
                    have NB628_644 := n11_
                    have NB644_628 := n12_
                    have NB629_644 := n13_
                    have NB644_629 := n14_
                    clear n0_ n1_ n2_ n3_ n4_ n5_ n6_ n7_ n8_ n9_ n10_ n11_ n12_ n13_ n14_
                    clear hb hbox hg
                    refine hK.out _ _ ⟨(blk_cell BK628.out 0).trans rfl, (blk_cell BK628.out 1).trans rfl, (blk_cell BK628.out 2).trans rfl⟩ (fun hHeld => ?_)
                    clear hK K
                    refine norm_ (a' := ?_) ?_ ?_
                    rotate_left
                    · show Act.put _ (some 7) _ = _
                      simp only [Act.put, List.setIfInBounds_toArray, List.set_cons_zero, List.set_cons_succ, i64_w, i32_w]
                      rfl
                    refine one_ (i := 5) (N := some 46) #[true, true, true, true, true, true, false, true, false] rfl rfl (one_of HT_.out (by kernel_rfl)) (by decide) (fun K hK => ?_)
                    refine Kd.R_append_rows_step k93 (w0 := w) w.heap.size (by rfl) (.tmp 43) (.tmp 45) 22 93 (.agg #[(.int .u8 0), (.int .i64 0), (.int .i64 0), (.int .u64 0)]) 32 rfl Try.underlying22 info93 rfl (by decide) (by omega) v639 y638 l1_1 _ _ _ (fun _ => True) (fun _ => False) rfl rfl ?aO ?aR (fun _ _ h => h) (fun _ h => h.elim) ?aF ?aB ?aS ?aL ?_
                    (case aR => repeat (first | exact (Kd.C_below HR1_1.out HB.out) | (with_reducible refine Kd.C_alloc ?_ _) | (with_reducible refine Kd.C_drewN ?_ _) | (with_reducible refine Kd.C_drew ?_)))
                    (case aB => exact (by repeat (first | (with_reducible first | exact HB.out | apply below_alloc | apply pw_below_drewN | apply below_drew1 | refine below_set ?_ GE627.out | refine below_set ?_ GE628.out | refine below_set ?_ GE629.out | refine below_set ?_ GE644.out) | exact HB.out)))
                    (case aF => exact (fun _ _ => trivial))
                    (case aO => exact (by (with_reducible repeat (first | apply Kd.R_alloc | apply Kd.R_drewN | apply Kd.R_drew)); exact HO640.out))
                    (case aS => exact (below_size (by repeat (first | (with_reducible first | exact HB.out | apply below_alloc | apply pw_below_drewN | apply below_drew1 | refine below_set ?_ GE627.out | refine below_set ?_ GE628.out | refine below_set ?_ GE629.out | refine below_set ?_ GE644.out) | exact HB.out))))
                    (case aL => have := LMc43.out; omega)
                    intro v642 w57 ho hb hg hat
                    rw [← Ny641.out] at ho
                    have n0_ := Aside0.mk (blk_grown (g := gb627) (o := .cells #[.int .i64 a0_0, .slice A0_1 l0_1.length c0_1, .slice A0_2 l0_2.length c0_2] 25 (0, 0)) (by (with_reducible repeat (first | refine blk_drewN ?_ _ | refine blk_drew ?_ | refine blk_alloc ?_ _)); exact BK627.out) hg (Kd.R_ne HO640.out BK627.out (by decide)))
                    have n1_ := Aside0.mk (blk_grown (g := gb628) (o := .cells #[.int .i64 a1_0, .slice A1_1 l1_1.length c1_1, .slice A1_2 l1_2.length c1_2] 25 (0, 0)) (by (with_reducible repeat (first | refine blk_drewN ?_ _ | refine blk_drew ?_ | refine blk_alloc ?_ _)); exact BK628.out) hg (Kd.R_ne HO640.out BK628.out (by decide)))
                    have n2_ := Aside0.mk (blk_grown (g := gb629) (o := .cells #[.int .i64 0, .slice none 0 0, .slice none 0 0] 25 (0, 0)) (by (with_reducible repeat (first | refine blk_drewN ?_ _ | refine blk_drew ?_ | refine blk_alloc ?_ _)); exact BK629.out) hg (Kd.R_ne HO640.out BK629.out (by decide)))
                    have n3_ := Aside0.mk (Kd.R_over' (by (with_reducible repeat (first | apply Kd.R_alloc | apply Kd.R_drewN | apply Kd.R_drew)); exact HO637.out) (Kd.R_typed (by (with_reducible repeat (first | apply Kd.R_alloc | apply Kd.R_drewN | apply Kd.R_drew)); exact HO640.out)) (by decide) hg)
                    have n4_ := Aside0.mk (blk_grown (g := gb644) (o := .cells #[.int .i64 0, .slice none 0 0, .slice none 0 0] 25 (0, 0)) (by (with_reducible repeat (first | refine blk_drewN ?_ _ | refine blk_drew ?_ | refine blk_alloc ?_ _)); exact BK644.out) hg (Kd.R_ne HO640.out BK644.out (by decide)))
                    have n5_ := Aside0.mk (hb)
                    have n6_ := Aside0.mk (ho)
                    clear BK627
                    clear BK628
                    clear BK629
                    clear HO637
                    clear BK644
                    clear HB
                    clear HO640
                    have BK627 := n0_
                    have BK628 := n1_
                    have BK629 := n2_
                    have HO637 := n3_
                    have BK644 := n4_
                    have HB := n5_
                    have HO643 := n6_
                    clear n0_ n1_ n2_ n3_ n4_ n5_ n6_
                    clear ho hb hg hat
                    obtain ⟨Ao58, co58, eo58⟩ := Kd.R_slice HO643.out
                    (first | subst eo58 | (injection eo58 with f1_ f2_ f3_; have f4_ := f1_.symm; have f5_ := f3_.symm; clear f1_ f2_ f3_; subst f4_; subst f5_))
                    refine hK.out _ _ ⟨(blk_cell BK628.out 0).trans rfl, (blk_cell BK628.out 1).trans rfl, (blk_cell BK628.out 2).trans rfl⟩ (fun hHeld => ?_)
                    clear hK K
                    refine norm_ (a' := ?_) ?_ ?_
                    rotate_left
                    · show Act.put _ (some 46) _ = _
                      simp only [Act.put, List.setIfInBounds_toArray, List.set_cons_zero, List.set_cons_succ, i64_w, i32_w]
                      rfl
                    refine pure_ (i := 6) (N := some 47) (v := ?_) (a' := ?_) #[true, true, true, true, true, true, true, true, false] rfl rfl (any_of HT_.out (by kernel_rfl)) (fun _ _ _ h => h) (Or.inl ⟨by rfl, ?_⟩) ?_ ?_
                    rotate_left
                    · intro w'
                      go_simp
                      with_reducible rfl
                    rotate_left
                    · simp only [Act.put, List.setIfInBounds_toArray, List.set_cons_zero, List.set_cons_succ, i64_w, i32_w]
                      rfl
                    exact norm_ (by simp only [putAll, Act.put, List.setIfInBounds_toArray, List.set_cons_zero, List.set_cons_succ]) (hCont (v639, .slice Ao58 y641.length co58, gb644) _ ⟨hHeld, (by (with_reducible repeat (first | apply Kd.R_alloc | apply Kd.R_drewN | apply Kd.R_drew)); exact HO637.out), (by (with_reducible repeat (first | apply Kd.R_alloc | apply Kd.R_drewN | apply Kd.R_drew)); exact HO643.out), (by (with_reducible repeat (first | refine blk_drewN ?_ _ | refine blk_drew ?_ | refine blk_alloc ?_ _)); exact BK627.out), (by (with_reducible repeat (first | refine blk_drewN ?_ _ | refine blk_drew ?_ | refine blk_alloc ?_ _)); exact BK628.out), (by (with_reducible repeat (first | refine blk_drewN ?_ _ | refine blk_drew ?_ | refine blk_alloc ?_ _)); exact BK629.out), (by (with_reducible repeat (first | refine blk_drewN ?_ _ | refine blk_drew ?_ | refine blk_alloc ?_ _)); exact BK644.out), GW644.out, GE644.out, NB627_644.out, NB644_627.out, NB628_644.out, NB644_628.out, NB629_644.out, NB644_629.out, (by repeat (first | (with_reducible first | exact HB.out | apply below_alloc | apply pw_below_drewN | apply below_drew1 | refine below_set ?_ GE627.out | refine below_set ?_ GE628.out | refine below_set ?_ GE629.out | refine below_set ?_ GE644.out) | exact HB.out))⟩)
                · skip
                  refine box_step ?hg (N := 7) ?hd (cs := #[.int .i64 0, .slice none 0 0, .slice none 0 0]) (t := 25) ?hr ?_; (case hd => rfl); (case hg => rfl); (case hr => first | (go_simp; done) | (go_simp; rfl))
                  intro gb644 hg w54 hbox hb
                  have n0_ := Aside0.mk (Kd.R_below (by (with_reducible repeat (first | apply Kd.R_alloc | apply Kd.R_drewN | apply Kd.R_drew)); exact HO637.out) hb)
                  have n1_ := Aside0.mk (blk_below (g := gb627) (o := .cells #[.int .i64 a0_0, .slice A0_1 l0_1.length c0_1, .slice A0_2 l0_2.length c0_2] 25 (0, 0)) (by (with_reducible repeat (first | refine blk_drewN ?_ _ | refine blk_drew ?_ | refine blk_alloc ?_ _)); exact BK627.out) hb)
                  have n2_ := Aside0.mk (blk_below (g := gb628) (o := .cells #[.int .i64 a1_0, .slice A1_1 l1_1.length c1_1, .slice A1_2 l1_2.length c1_2] 25 (0, 0)) (by (with_reducible repeat (first | refine blk_drewN ?_ _ | refine blk_drew ?_ | refine blk_alloc ?_ _)); exact BK628.out) hb)
                  have n3_ := Aside0.mk (blk_below (g := gb629) (o := .cells #[.int .i64 0, .slice none 0 0, .slice none 0 0] 25 (0, 0)) (by (with_reducible repeat (first | refine blk_drewN ?_ _ | refine blk_drew ?_ | refine blk_alloc ?_ _)); exact BK629.out) hb)
                  have n4_ := Aside0.mk (below_step (by repeat (first | (with_reducible first | exact HB.out | apply below_alloc | apply pw_below_drewN | apply below_drew1 | refine below_set ?_ GE627.out | refine below_set ?_ GE628.out | refine below_set ?_ GE629.out) | exact HB.out)) hb)
                  have n5_ := Aside0.mk (hbox)
                  have n6_ := Aside0.mk ((by rw [hg]; exact (below_size (by repeat (first | (with_reducible first | exact HB.out | apply below_alloc | apply pw_below_drewN | apply below_drew1 | refine below_set ?_ GE627.out | refine below_set ?_ GE628.out | refine below_set ?_ GE629.out) | exact HB.out))) : w.heap.size ≤ gb644))
                  have n7_ := Aside0.mk ((by rw [hg]; exact (below_size (by repeat (first | (with_reducible first | exact HB.out | apply below_alloc | apply pw_below_drewN | apply below_drew1 | refine below_set ?_ GE627.out | refine below_set ?_ GE628.out | refine below_set ?_ GE629.out) | exact HB.out))) : w.heap.size ≤ gb644))
                  have n8_ := Aside0.mk ((by rw [hg]; exact Nat.ne_of_lt (blk_lt (g := gb627) (o := .cells #[.int .i64 a0_0, .slice A0_1 l0_1.length c0_1, .slice A0_2 l0_2.length c0_2] 25 (0, 0)) (by (with_reducible repeat (first | refine blk_drewN ?_ _ | refine blk_drew ?_ | refine blk_alloc ?_ _)); exact BK627.out)) : gb627 ≠ gb644))
                  have n9_ := Aside0.mk ((by rw [hg]; exact Nat.ne_of_gt (blk_lt (g := gb627) (o := .cells #[.int .i64 a0_0, .slice A0_1 l0_1.length c0_1, .slice A0_2 l0_2.length c0_2] 25 (0, 0)) (by (with_reducible repeat (first | refine blk_drewN ?_ _ | refine blk_drew ?_ | refine blk_alloc ?_ _)); exact BK627.out)) : gb644 ≠ gb627))
                  have n10_ := Aside0.mk ((by rw [hg]; exact Nat.ne_of_lt (blk_lt (g := gb628) (o := .cells #[.int .i64 a1_0, .slice A1_1 l1_1.length c1_1, .slice A1_2 l1_2.length c1_2] 25 (0, 0)) (by (with_reducible repeat (first | refine blk_drewN ?_ _ | refine blk_drew ?_ | refine blk_alloc ?_ _)); exact BK628.out)) : gb628 ≠ gb644))
                  have n11_ := Aside0.mk ((by rw [hg]; exact Nat.ne_of_gt (blk_lt (g := gb628) (o := .cells #[.int .i64 a1_0, .slice A1_1 l1_1.length c1_1, .slice A1_2 l1_2.length c1_2] 25 (0, 0)) (by (with_reducible repeat (first | refine blk_drewN ?_ _ | refine blk_drew ?_ | refine blk_alloc ?_ _)); exact BK628.out)) : gb644 ≠ gb628))
                  have n12_ := Aside0.mk ((by rw [hg]; exact Nat.ne_of_lt (blk_lt (g := gb629) (o := .cells #[.int .i64 0, .slice none 0 0, .slice none 0 0] 25 (0, 0)) (by (with_reducible repeat (first | refine blk_drewN ?_ _ | refine blk_drew ?_ | refine blk_alloc ?_ _)); exact BK629.out)) : gb629 ≠ gb644))
                  have n13_ := Aside0.mk ((by rw [hg]; exact Nat.ne_of_gt (blk_lt (g := gb629) (o := .cells #[.int .i64 0, .slice none 0 0, .slice none 0 0] 25 (0, 0)) (by (with_reducible repeat (first | refine blk_drewN ?_ _ | refine blk_drew ?_ | refine blk_alloc ?_ _)); exact BK629.out)) : gb644 ≠ gb629))
                  clear HO637
                  clear BK627
                  clear BK628
                  clear BK629
                  clear HB
                  have HO637 := n0_
                  have BK627 := n1_
                  have BK628 := n2_
                  have BK629 := n3_
                  have HB := n4_
                  have BK644 := n5_
                  have GW644 := n6_
                  have GE644 := n7_
                  have NB627_644 := n8_
                  have NB644_627 := n9_
                  have NB628_644 := n10_
                  have NB644_628 := n11_
                  have NB629_644 := n12_
                  have NB644_629 := n13_
                  clear n0_ n1_ n2_ n3_ n4_ n5_ n6_ n7_ n8_ n9_ n10_ n11_ n12_ n13_
                  clear hb hbox hg
                  refine hK.out _ _ ⟨(blk_cell BK628.out 0).trans rfl, (blk_cell BK628.out 1).trans rfl, (blk_cell BK628.out 2).trans rfl⟩ (fun hHeld => ?_)
                  clear hK K
                  refine norm_ (a' := ?_) ?_ ?_
                  rotate_left
                  · show Act.put _ (some 7) _ = _
                    simp only [Act.put, List.setIfInBounds_toArray, List.set_cons_zero, List.set_cons_succ, i64_w, i32_w]
                    rfl
                  refine one_ (i := 2) (N := some 43) #[true, true, true, true, true, false, false, true, false] rfl rfl (one_of HT_.out (by kernel_rfl)) (by decide) (fun K hK => ?_)
                  refine Kd.R_lit_step k93 _ 93 ?hg (N := 43) ?hd (xs := ([] : List (S93))) (inner := []) (ok := fun _ => True) (okp := fun _ => True) ?hr ?hp (fun _ hk => hk) trivial (Below.refl _ _) (Nat.le_refl _) (by simp) ?_; (case hd => rfl); (case hg => rfl); (case hr => first | (go_simp; done) | (go_simp; rfl)); (case hp => exact (Reps.none _ _))
                  intro v639 w55 ho56 hb hg_ hnew_
                  clear hg_ hnew_
                  (first | rw [← Ny638.out] at ho56 | (simp only [Int.reduceToNat] at ho56; rw [← Ny638.out] at ho56))
                  have n0_ := Aside0.mk (Kd.R_below (by (with_reducible repeat (first | apply Kd.R_alloc | apply Kd.R_drewN | apply Kd.R_drew)); exact HO637.out) hb)
                  have n1_ := Aside0.mk (Kd.R_lower ho56 (below_size (by repeat (first | (with_reducible first | exact HB.out | apply below_alloc | apply pw_below_drewN | apply below_drew1 | refine below_set ?_ GE627.out | refine below_set ?_ GE628.out | refine below_set ?_ GE629.out | refine below_set ?_ GE644.out) | exact HB.out))))
                  have n2_ := Aside0.mk (blk_below (g := gb627) (o := .cells #[.int .i64 a0_0, .slice A0_1 l0_1.length c0_1, .slice A0_2 l0_2.length c0_2] 25 (0, 0)) (by (with_reducible repeat (first | refine blk_drewN ?_ _ | refine blk_drew ?_ | refine blk_alloc ?_ _)); exact BK627.out) hb)
                  have n3_ := Aside0.mk (blk_below (g := gb628) (o := .cells #[.int .i64 a1_0, .slice A1_1 l1_1.length c1_1, .slice A1_2 l1_2.length c1_2] 25 (0, 0)) (by (with_reducible repeat (first | refine blk_drewN ?_ _ | refine blk_drew ?_ | refine blk_alloc ?_ _)); exact BK628.out) hb)
                  have n4_ := Aside0.mk (blk_below (g := gb629) (o := .cells #[.int .i64 0, .slice none 0 0, .slice none 0 0] 25 (0, 0)) (by (with_reducible repeat (first | refine blk_drewN ?_ _ | refine blk_drew ?_ | refine blk_alloc ?_ _)); exact BK629.out) hb)
                  have n5_ := Aside0.mk (blk_below (g := gb644) (o := .cells #[.int .i64 0, .slice none 0 0, .slice none 0 0] 25 (0, 0)) (by (with_reducible repeat (first | refine blk_drewN ?_ _ | refine blk_drew ?_ | refine blk_alloc ?_ _)); exact BK644.out) hb)
                  have n6_ := Aside0.mk (below_step (by repeat (first | (with_reducible first | exact HB.out | apply below_alloc | apply pw_below_drewN | apply below_drew1 | refine below_set ?_ GE627.out | refine below_set ?_ GE628.out | refine below_set ?_ GE629.out | refine below_set ?_ GE644.out) | exact HB.out)) hb)
                  clear HO637
                  clear BK627
                  clear BK628
                  clear BK629
                  clear BK644
                  clear HB
                  have HO637 := n0_
                  have HO640 := n1_
                  have BK627 := n2_
                  have BK628 := n3_
                  have BK629 := n4_
                  have BK644 := n5_
                  have HB := n6_
                  clear n0_ n1_ n2_ n3_ n4_ n5_ n6_
                  clear hb ho56
                  refine hK.out _ _ ⟨(blk_cell BK628.out 0).trans rfl, (blk_cell BK628.out 1).trans rfl, (blk_cell BK628.out 2).trans rfl⟩ (fun hHeld => ?_)
                  clear hK K
                  refine norm_ (a' := ?_) ?_ ?_
                  rotate_left
                  · show Act.put _ (some 43) _ = _
                    simp only [Act.put, List.setIfInBounds_toArray, List.set_cons_zero, List.set_cons_succ, i64_w, i32_w]
                    rfl
                  refine one_ (i := 5) (N := some 46) #[true, true, true, true, true, true, false, true, false] rfl rfl (one_of HT_.out (by kernel_rfl)) (by decide) (fun K hK => ?_)
                  refine Kd.R_append_rows_step k93 (w0 := w) w.heap.size (by rfl) (.tmp 43) (.tmp 45) 22 93 (.agg #[(.int .u8 0), (.int .i64 0), (.int .i64 0), (.int .u64 0)]) 32 rfl Try.underlying22 info93 rfl (by decide) (by omega) v639 y638 l1_1 _ _ _ (fun _ => True) (fun _ => False) rfl rfl ?aO ?aR (fun _ _ h => h) (fun _ h => h.elim) ?aF ?aB ?aS ?aL ?_
                  (case aR => repeat (first | exact (Kd.C_below HR1_1.out HB.out) | (with_reducible refine Kd.C_alloc ?_ _) | (with_reducible refine Kd.C_drewN ?_ _) | (with_reducible refine Kd.C_drew ?_)))
                  (case aB => exact (by repeat (first | (with_reducible first | exact HB.out | apply below_alloc | apply pw_below_drewN | apply below_drew1 | refine below_set ?_ GE627.out | refine below_set ?_ GE628.out | refine below_set ?_ GE629.out | refine below_set ?_ GE644.out) | exact HB.out)))
                  (case aF => exact (fun _ _ => trivial))
                  (case aO => exact (by (with_reducible repeat (first | apply Kd.R_alloc | apply Kd.R_drewN | apply Kd.R_drew)); exact HO640.out))
                  (case aS => exact (below_size (by repeat (first | (with_reducible first | exact HB.out | apply below_alloc | apply pw_below_drewN | apply below_drew1 | refine below_set ?_ GE627.out | refine below_set ?_ GE628.out | refine below_set ?_ GE629.out | refine below_set ?_ GE644.out) | exact HB.out))))
                  (case aL => have := LMc43.out; omega)
                  intro v642 w57 ho hb hg hat
                  rw [← Ny641.out] at ho
                  have n0_ := Aside0.mk (blk_grown (g := gb627) (o := .cells #[.int .i64 a0_0, .slice A0_1 l0_1.length c0_1, .slice A0_2 l0_2.length c0_2] 25 (0, 0)) (by (with_reducible repeat (first | refine blk_drewN ?_ _ | refine blk_drew ?_ | refine blk_alloc ?_ _)); exact BK627.out) hg (Kd.R_ne HO640.out BK627.out (by decide)))
                  have n1_ := Aside0.mk (blk_grown (g := gb628) (o := .cells #[.int .i64 a1_0, .slice A1_1 l1_1.length c1_1, .slice A1_2 l1_2.length c1_2] 25 (0, 0)) (by (with_reducible repeat (first | refine blk_drewN ?_ _ | refine blk_drew ?_ | refine blk_alloc ?_ _)); exact BK628.out) hg (Kd.R_ne HO640.out BK628.out (by decide)))
                  have n2_ := Aside0.mk (blk_grown (g := gb629) (o := .cells #[.int .i64 0, .slice none 0 0, .slice none 0 0] 25 (0, 0)) (by (with_reducible repeat (first | refine blk_drewN ?_ _ | refine blk_drew ?_ | refine blk_alloc ?_ _)); exact BK629.out) hg (Kd.R_ne HO640.out BK629.out (by decide)))
                  have n3_ := Aside0.mk (Kd.R_over' (by (with_reducible repeat (first | apply Kd.R_alloc | apply Kd.R_drewN | apply Kd.R_drew)); exact HO637.out) (Kd.R_typed (by (with_reducible repeat (first | apply Kd.R_alloc | apply Kd.R_drewN | apply Kd.R_drew)); exact HO640.out)) (by decide) hg)
                  have n4_ := Aside0.mk (blk_grown (g := gb644) (o := .cells #[.int .i64 0, .slice none 0 0, .slice none 0 0] 25 (0, 0)) (by (with_reducible repeat (first | refine blk_drewN ?_ _ | refine blk_drew ?_ | refine blk_alloc ?_ _)); exact BK644.out) hg (Kd.R_ne HO640.out BK644.out (by decide)))
                  have n5_ := Aside0.mk (hb)
                  have n6_ := Aside0.mk (ho)
                  clear BK627
                  clear BK628
                  clear BK629
                  clear HO637
                  clear BK644
                  clear HB
                  clear HO640
                  have BK627 := n0_
                  have BK628 := n1_
                  have BK629 := n2_
                  have HO637 := n3_
                  have BK644 := n4_
                  have HB := n5_
                  have HO643 := n6_
                  clear n0_ n1_ n2_ n3_ n4_ n5_ n6_
                  clear ho hb hg hat
                  obtain ⟨Ao58, co58, eo58⟩ := Kd.R_slice HO643.out
                  (first | subst eo58 | (injection eo58 with f1_ f2_ f3_; have f4_ := f1_.symm; have f5_ := f3_.symm; clear f1_ f2_ f3_; subst f4_; subst f5_))
                  refine hK.out _ _ ⟨(blk_cell BK628.out 0).trans rfl, (blk_cell BK628.out 1).trans rfl, (blk_cell BK628.out 2).trans rfl⟩ (fun hHeld => ?_)
                  clear hK K
                  refine norm_ (a' := ?_) ?_ ?_
                  rotate_left
                  · show Act.put _ (some 46) _ = _
                    simp only [Act.put, List.setIfInBounds_toArray, List.set_cons_zero, List.set_cons_succ, i64_w, i32_w]
                    rfl
                  refine pure_ (i := 6) (N := some 47) (v := ?_) (a' := ?_) #[true, true, true, true, true, true, true, true, false] rfl rfl (any_of HT_.out (by kernel_rfl)) (fun _ _ _ h => h) (Or.inl ⟨by rfl, ?_⟩) ?_ ?_
                  rotate_left
                  · intro w'
                    go_simp
                    with_reducible rfl
                  rotate_left
                  · simp only [Act.put, List.setIfInBounds_toArray, List.set_cons_zero, List.set_cons_succ, i64_w, i32_w]
                    rfl
                  exact norm_ (by simp only [putAll, Act.put, List.setIfInBounds_toArray, List.set_cons_zero, List.set_cons_succ]) (hCont (v639, .slice Ao58 y641.length co58, gb644) _ ⟨hHeld, (by (with_reducible repeat (first | apply Kd.R_alloc | apply Kd.R_drewN | apply Kd.R_drew)); exact HO637.out), (by (with_reducible repeat (first | apply Kd.R_alloc | apply Kd.R_drewN | apply Kd.R_drew)); exact HO643.out), (by (with_reducible repeat (first | refine blk_drewN ?_ _ | refine blk_drew ?_ | refine blk_alloc ?_ _)); exact BK627.out), (by (with_reducible repeat (first | refine blk_drewN ?_ _ | refine blk_drew ?_ | refine blk_alloc ?_ _)); exact BK628.out), (by (with_reducible repeat (first | refine blk_drewN ?_ _ | refine blk_drew ?_ | refine blk_alloc ?_ _)); exact BK629.out), (by (with_reducible repeat (first | refine blk_drewN ?_ _ | refine blk_drew ?_ | refine blk_alloc ?_ _)); exact BK644.out), GW644.out, GE644.out, NB627_644.out, NB644_627.out, NB628_644.out, NB644_628.out, NB629_644.out, NB644_629.out, (by repeat (first | (with_reducible first | exact HB.out | apply below_alloc | apply pw_below_drewN | apply below_drew1 | refine below_set ?_ GE627.out | refine below_set ?_ GE628.out | refine below_set ?_ GE629.out | refine below_set ?_ GE644.out) | exact HB.out))⟩)
              rintro ⟨v639, v642, gb644⟩ w59 ⟨hS_, h0_, h1_, h2_, h3_, h4_, h5_, h6_, h7_, h8_, h9_, h10_, h11_, h12_, h13_, h14_⟩
              have n0_ : Aside0 (Kd.R (Kd.int .i64) 3 w59 w.heap.size (fun _ => True) v636 y635) := ⟨h0_⟩
              have n1_ : Aside0 (Kd.R k93 93 w59 w.heap.size (fun _ => True) v642 y641) := ⟨h1_⟩
              have n2_ : Aside0 (w59.heap[gb627]? = some (.cells #[.int .i64 a0_0, .slice A0_1 l0_1.length c0_1, .slice A0_2 l0_2.length c0_2] 25 (0, 0))) := ⟨h2_⟩
              have n3_ : Aside0 (w59.heap[gb628]? = some (.cells #[.int .i64 a1_0, .slice A1_1 l1_1.length c1_1, .slice A1_2 l1_2.length c1_2] 25 (0, 0))) := ⟨h3_⟩
              have n4_ : Aside0 (w59.heap[gb629]? = some (.cells #[.int .i64 0, .slice none 0 0, .slice none 0 0] 25 (0, 0))) := ⟨h4_⟩
              have n5_ : Aside0 (w59.heap[gb644]? = some (.cells #[.int .i64 0, .slice none 0 0, .slice none 0 0] 25 (0, 0))) := ⟨h5_⟩
              have n6_ : Aside0 (w.heap.size ≤ gb644) := ⟨h6_⟩
              have n7_ : Aside0 (w.heap.size ≤ gb644) := ⟨h7_⟩
              have n8_ : Aside0 (gb627 ≠ gb644) := ⟨h8_⟩
              have n9_ : Aside0 (gb644 ≠ gb627) := ⟨h9_⟩
              have n10_ : Aside0 (gb628 ≠ gb644) := ⟨h10_⟩
              have n11_ : Aside0 (gb644 ≠ gb628) := ⟨h11_⟩
              have n12_ : Aside0 (gb629 ≠ gb644) := ⟨h12_⟩
              have n13_ : Aside0 (gb644 ≠ gb629) := ⟨h13_⟩
              have n14_ : Aside0 (Below w.heap.size w w59) := ⟨h14_⟩
              clear HO637
              clear BK627
              clear BK628
              clear BK629
              clear HB
              clear h0_ h1_ h2_ h3_ h4_ h5_ h6_ h7_ h8_ h9_ h10_ h11_ h12_ h13_ h14_
              have HO637 := n0_
              have HO643 := n1_
              have BK627 := n2_
              have BK628 := n3_
              have BK629 := n4_
              have BK644 := n5_
              have GW644 := n6_
              have GE644 := n7_
              have NB627_644 := n8_
              have NB644_627 := n9_
              have NB628_644 := n10_
              have NB644_628 := n11_
              have NB629_644 := n12_
              have NB644_629 := n13_
              have HB := n14_
              clear n0_ n1_ n2_ n3_ n4_ n5_ n6_ n7_ n8_ n9_ n10_ n11_ n12_ n13_ n14_
              have hHeld : w59.cell? ⟨gb628, 0, none⟩ = some (.int .i64 a1_0) ∧ w59.cell? ⟨gb628, 1, none⟩ = some (.slice A1_1 l1_1.length c1_1) ∧ w59.cell? ⟨gb628, 2, none⟩ = some (.slice A1_2 l1_2.length c1_2) := hS_
              obtain ⟨Ao60, co60, eo60⟩ := Kd.R_slice HO643.out
              (first | subst eo60 | (injection eo60 with f1_ f2_ f3_; have f4_ := f1_.symm; have f5_ := f3_.symm; clear f1_ f2_ f3_; subst f4_; subst f5_))
              refine norm_ (a' := ?_) ?_ ?_
              rotate_left
              · simp only [putAll, Act.put, List.setIfInBounds_toArray, List.set_cons_zero, List.set_cons_succ]
                rfl
              refine one_ (i := 8) (N := none) #[true, true, true, true, true, true, true, true, true] rfl rfl (one_of HT_.out (by kernel_rfl)) (by decide) (fun K hK => ?_)
              have hs61 : w59.cell? ⟨gb644, 0, none⟩ = some (.int .i64 0) := (blk_cell BK644.out 0).trans rfl
              have hfs61 := blk_frozen BK644.out 0
              have hns61_0 := NB627_644.out
              have hns61_1 := NB628_644.out
              have hns61_2 := NB629_644.out
              have hms61_0 := NB644_627.out
              have hms61_1 := NB644_628.out
              have hms61_2 := NB644_629.out
              have hs62 : w59.cell? ⟨gb644, 1, none⟩ = some (.slice none 0 0) := (blk_cell BK644.out 1).trans rfl
              have hfs62 := blk_frozen BK644.out 1
              have hns62_0 := NB627_644.out
              have hns62_1 := NB628_644.out
              have hns62_2 := NB629_644.out
              have hms62_0 := NB644_627.out
              have hms62_1 := NB644_628.out
              have hms62_2 := NB644_629.out
              have hs63 : w59.cell? ⟨gb644, 2, none⟩ = some (.slice none 0 0) := (blk_cell BK644.out 2).trans rfl
              have hfs63 := blk_frozen BK644.out 2
              have hns63_0 := NB627_644.out
              have hns63_1 := NB628_644.out
              have hns63_2 := NB629_644.out
              have hms63_0 := NB644_627.out
              have hms63_1 := NB644_628.out
              have hms63_2 := NB644_629.out
              refine skip_ (w1 := ?_) (by rfl) rfl ?_ ?_
              rotate_left
              · go_simp
                rfl
              refine hK.out _ _ ⟨((cell_far (p := ⟨gb644, _, none⟩) NB628_644.out _).trans (((cell_far (p := ⟨gb644, _, none⟩) NB628_644.out _).trans (((cell_far (p := ⟨gb644, _, none⟩) NB628_644.out _).trans (hHeld.1)))))), ((cell_far (p := ⟨gb644, _, none⟩) NB628_644.out _).trans (((cell_far (p := ⟨gb644, _, none⟩) NB628_644.out _).trans (((cell_far (p := ⟨gb644, _, none⟩) NB628_644.out _).trans (hHeld.2.1)))))), ((cell_far (p := ⟨gb644, _, none⟩) NB628_644.out _).trans (((cell_far (p := ⟨gb644, _, none⟩) NB628_644.out _).trans (((cell_far (p := ⟨gb644, _, none⟩) NB628_644.out _).trans (hHeld.2.2))))))⟩ (fun hHeld => ?_)
              clear hK K
              refine done_ (done_of HT_.out (by kernel_rfl)) ?_
              try go_wp2
              go_loopg [6, 8] kj2 (fun kq v6 v8 w' => ∃ (x6_2 : List Int) (x8_2 : Int) (x645001_2 : List (S93)) (u645001 : Value), v8 = .int .i64 x8_2 ∧ Aside0 (conclaveref09_After.l0 kq x6_2 x8_2 a0_0 l0_1 l0_2 a1_0 x645001_2 = some (r1, r2, r3, r4)) ∧ Aside0 (kq ≤ kj2) ∧ Aside0 (Kd.R (Kd.int .i64) 3 w' w.heap.size (fun _ => True) v6 x6_2) ∧ Aside0 (Kd.R k93 93 w' w.heap.size (fun _ => True) u645001 x645001_2) ∧ Aside0 (w'.heap[gb627]? = some (.cells #[.int .i64 a0_0, (.slice A0_1 l0_1.length c0_1), (.slice A0_2 l0_2.length c0_2)] 25 (0, 0))) ∧ Aside0 (w'.heap[gb628]? = some (.cells #[.int .i64 a1_0, (.slice A1_1 l1_1.length c1_1), (.slice A1_2 l1_2.length c1_2)] 25 (0, 0))) ∧ Aside0 (w'.heap[gb629]? = some (.cells #[.int .i64 0, (.slice none 0 0), (.slice none 0 0)] 25 (0, 0))) ∧ Aside0 (w'.heap[gb644]? = some (.cells #[.int .i64 a1_0, u645001, (.slice none 0 0)] 25 (0, 0))) ∧ Aside0 (Below w.heap.size w w'))
              case atStart => exact ⟨(y635), (0), (y641), (.slice Ao60 y641.length co60), (by first | rfl | (simp; done) | (simp [*]; done)), H', ⟨Nat.le_refl _⟩, ⟨by (with_reducible repeat (first | apply Kd.R_alloc | apply Kd.R_drewN | apply Kd.R_drew)); exact Kd.R_mono (Kd.R_far (p := ⟨gb644, 2, none⟩) (Kd.R_far (p := ⟨gb644, 1, none⟩) (Kd.R_far (p := ⟨gb644, 0, none⟩) (Kd.R_types HO637.out BK644.out (by decide)) (fun _ hk => hk.2) (.int .i64 a1_0)) (fun _ hk => hk.2) (.slice Ao60 y641.length co60)) (fun _ hk => hk.2) (.slice none 0 0)) (fun _ hk => trivial)⟩, ⟨by (with_reducible repeat (first | apply Kd.R_alloc | apply Kd.R_drewN | apply Kd.R_drew)); exact Kd.R_mono (Kd.R_far (p := ⟨gb644, 2, none⟩) (Kd.R_far (p := ⟨gb644, 1, none⟩) (Kd.R_far (p := ⟨gb644, 0, none⟩) (Kd.R_types HO643.out BK644.out (by decide)) (fun _ hk => hk.2) (.int .i64 a1_0)) (fun _ hk => hk.2) (.slice Ao60 y641.length co60)) (fun _ hk => hk.2) (.slice none 0 0)) (fun _ hk => trivial)⟩, ⟨by (with_reducible repeat (first | refine blk_drewN ?_ _ | refine blk_drew ?_ | refine blk_alloc ?_ _)); refine blk_far ?_ NB627_644.out _; (with_reducible repeat (first | refine blk_drewN ?_ _ | refine blk_drew ?_ | refine blk_alloc ?_ _)); refine blk_far ?_ NB627_644.out _; (with_reducible repeat (first | refine blk_drewN ?_ _ | refine blk_drew ?_ | refine blk_alloc ?_ _)); refine blk_far ?_ NB627_644.out _; (with_reducible repeat (first | refine blk_drewN ?_ _ | refine blk_drew ?_ | refine blk_alloc ?_ _)); exact BK627.out⟩, ⟨by (with_reducible repeat (first | refine blk_drewN ?_ _ | refine blk_drew ?_ | refine blk_alloc ?_ _)); refine blk_far ?_ NB628_644.out _; (with_reducible repeat (first | refine blk_drewN ?_ _ | refine blk_drew ?_ | refine blk_alloc ?_ _)); refine blk_far ?_ NB628_644.out _; (with_reducible repeat (first | refine blk_drewN ?_ _ | refine blk_drew ?_ | refine blk_alloc ?_ _)); refine blk_far ?_ NB628_644.out _; (with_reducible repeat (first | refine blk_drewN ?_ _ | refine blk_drew ?_ | refine blk_alloc ?_ _)); exact BK628.out⟩, ⟨by (with_reducible repeat (first | refine blk_drewN ?_ _ | refine blk_drew ?_ | refine blk_alloc ?_ _)); refine blk_far ?_ NB629_644.out _; (with_reducible repeat (first | refine blk_drewN ?_ _ | refine blk_drew ?_ | refine blk_alloc ?_ _)); refine blk_far ?_ NB629_644.out _; (with_reducible repeat (first | refine blk_drewN ?_ _ | refine blk_drew ?_ | refine blk_alloc ?_ _)); refine blk_far ?_ NB629_644.out _; (with_reducible repeat (first | refine blk_drewN ?_ _ | refine blk_drew ?_ | refine blk_alloc ?_ _)); exact BK629.out⟩, ⟨by (with_reducible repeat (first | refine blk_drewN ?_ _ | refine blk_drew ?_ | refine blk_alloc ?_ _)); refine blk_put (cs := #[.int .i64 a1_0, .slice Ao60 y641.length co60, .slice none 0 0]) ?_ 2 _ rfl; (with_reducible repeat (first | refine blk_drewN ?_ _ | refine blk_drew ?_ | refine blk_alloc ?_ _)); refine blk_put (cs := #[.int .i64 a1_0, .slice none 0 0, .slice none 0 0]) ?_ 1 _ rfl; (with_reducible repeat (first | refine blk_drewN ?_ _ | refine blk_drew ?_ | refine blk_alloc ?_ _)); refine blk_put (cs := #[.int .i64 0, .slice none 0 0, .slice none 0 0]) ?_ 0 _ rfl; (with_reducible repeat (first | refine blk_drewN ?_ _ | refine blk_drew ?_ | refine blk_alloc ?_ _)); exact BK644.out⟩, ⟨by repeat (first | (with_reducible first | exact HB.out | apply below_alloc | apply pw_below_drewN | apply below_drew1 | refine below_set ?_ GE627.out | refine below_set ?_ GE628.out | refine below_set ?_ GE629.out | refine below_set ?_ GE644.out) | exact HB.out)⟩⟩
              case round =>
                clear H'
                try clear c1
                try clear p2
                try clear c3
                try clear c4
                try clear p6
                try clear c31
                try clear c32
                try clear c33
                try clear c35
                try clear c35b0
                try clear c36
                try clear c37
                try clear c39
                try clear c42
                try clear c43
                try clear c44
                try clear c45
                try clear c47
                try clear hcz34_0
                try clear hcz34_1
                try clear hcz34_2
                try clear hcz38_0
                try clear hcz38_1
                try clear hcz38_2
                try clear hcz40_0
                try clear hcz40_1
                try clear hcz40_2
                try clear hcz41_0
                try clear hcz41_1
                try clear hcz41_2
                try clear hcz46_0
                try clear hcz46_1
                try clear hcz46_2
                try clear hcz48_0
                try clear hcz48_1
                try clear hcz48_2
                try clear hcz51_0
                try clear hcz51_1
                try clear hcz51_2
                try clear hfz34_0
                try clear hfz34_1
                try clear hfz34_2
                try clear hfz38_0
                try clear hfz38_1
                try clear hfz38_2
                try clear hfz40_0
                try clear hfz40_1
                try clear hfz40_2
                try clear hfz41_0
                try clear hfz41_1
                try clear hfz41_2
                try clear hfz46_0
                try clear hfz46_1
                try clear hfz46_2
                try clear hfz48_0
                try clear hfz48_1
                try clear hfz48_2
                try clear hfz51_0
                try clear hfz51_1
                try clear hfz51_2
                obtain ⟨x6_2, x8_2, x645001_2, u645001, rfl, HA, HK2, HO_6, HO_645001, BK627, BK628, BK629, BK644, HB⟩ := hrel
                cases gk with
                | zero => exact absurd HA.out (by simp [conclaveref09_After.l0])
                | succ k2 =>
                  have H := HA.out
                  clear HA
                  simp only [conclaveref09_After.l0] at H
                  by_cases c64 : x8_2 < (l0_1.length : Int)
                  · rw [if_pos c64] at H
                    have c64b0 : decide (x8_2 < (l0_1.length : Int)) = true := decide_eq_true c64
                    clear c64
                    by_cases c65 : 0 ≤ x8_2
                    · rw [if_pos c65] at H
                      have c65b0 : decide (0 ≤ x8_2) = true := decide_eq_true c65
                      clear c65
                      by_cases c66 : ((rd_T93 l0_1 x8_2).f0) = 4
                      · rw [if_pos c66] at H
                        have c66b0 : (((rd_T93 l0_1 x8_2).f0) == 4) = true := beq_iff_eq.mpr c66
                        have c66b1 : (((rd_T93 l0_1 x8_2).f0) != 4) = false := bne_eq_false_iff_eq.mpr c66
                        clear c66
                        by_cases c67 : x6_2.length < 17592186044416
                        · rw [if_pos c67] at H
                          have LMc67 := Aside0.mk c67
                          clear c67
                          obtain ⟨y647, hy647⟩ : ∃ y_ : List Int, y_ = (x6_2 ++ [wrap64 (a1_0 + (x645001_2.length : Int))]) := ⟨_, rfl⟩
                          replace H : (if x645001_2.length < 4398046511104 then (conclaveref09_After.l0 k2 y647 (wrap64 (x8_2 + 1)) a0_0 l0_1 l0_2 a1_0 (x645001_2 ++ [(⟨(rd_T93 l0_1 x8_2).f0, (rd_T93 l0_1 x8_2).f1, (rd_T93 l0_1 x8_2).f2, (rd_T93 l0_1 x8_2).f3⟩ : S93)])) else (none)) = some (r1, r2, r3, r4) := by first | (rw [hy647]; with_reducible exact H) | (have H2_ := (Option.bind_some _ _).symm.trans H; rw [hy647]; with_reducible exact H2_) | (have H2_ := (Option.bind_some _ _).symm.trans H; with_reducible exact H2_) | with_reducible exact H | (rw [hy647]; exact H) | exact H
                          have Ny647 := Aside0.mk hy647
                          clear hy647
                          by_cases c68 : x645001_2.length < 4398046511104
                          · rw [if_pos c68] at H
                            have LMc68 := Aside0.mk c68
                            clear c68
                            obtain ⟨y650, hy650⟩ : ∃ y_ : List (S93), y_ = (x645001_2 ++ [(⟨(rd_T93 l0_1 x8_2).f0, (rd_T93 l0_1 x8_2).f1, (rd_T93 l0_1 x8_2).f2, (rd_T93 l0_1 x8_2).f3⟩ : S93)]) := ⟨_, rfl⟩
                            replace H : (conclaveref09_After.l0 k2 y647 (wrap64 (x8_2 + 1)) a0_0 l0_1 l0_2 a1_0 y650) = some (r1, r2, r3, r4) := by first | (rw [hy650]; with_reducible exact H) | (have H2_ := (Option.bind_some _ _).symm.trans H; rw [hy650]; with_reducible exact H2_) | (have H2_ := (Option.bind_some _ _).symm.trans H; with_reducible exact H2_) | with_reducible exact H | (rw [hy650]; exact H) | exact H
                            have Ny650 := Aside0.mk hy650
                            clear hy650
                            have H' := Aside0.mk H
                            clear H
                            have hnb69 := NB627_628.out
                            have hnc69 := NB628_627.out
                            have hnb70 := NB627_629.out
                            have hnc70 := NB629_627.out
                            have hnb71 := NB627_644.out
                            have hnc71 := NB644_627.out
                            have hcz72_0 : wr.cell? ⟨gb627, 0, none⟩ = some (.int .i64 a0_0) := (blk_cell BK627.out 0).trans rfl
                            have hcz72_1 : wr.cell? ⟨gb627, 1, none⟩ = some (.slice A0_1 l0_1.length c0_1) := (blk_cell BK627.out 1).trans rfl
                            have hcz72_2 : wr.cell? ⟨gb627, 2, none⟩ = some (.slice A0_2 l0_2.length c0_2) := (blk_cell BK627.out 2).trans rfl
                            have hfz72_0 := blk_frozen BK627.out 0
                            have hfz72_1 := blk_frozen BK627.out 1
                            have hfz72_2 := blk_frozen BK627.out 2
                            have p645 : 0 ≤ (x8_2 : Int) := of_decide_eq_true (by first | (with_reducible assumption) | assumption)
                            have q645 : x8_2 < (l0_1.length : Int) := of_decide_eq_true (by first | (with_reducible assumption) | assumption)
                            obtain ⟨ad645, e645, hx645_0, hx645_1, hx645_2, hx645_3⟩ := at_T93 HR0_1.out x8_2 p645 q645
                            cases e645
                            replace hx645_0 := (HB.out.cell (World.block_lt_of_cell? w _ hx645_0)).trans hx645_0
                            replace hx645_1 := (HB.out.cell (World.block_lt_of_cell? w _ hx645_1)).trans hx645_1
                            replace hx645_2 := (HB.out.cell (World.block_lt_of_cell? w _ hx645_2)).trans hx645_2
                            replace hx645_3 := (HB.out.cell (World.block_lt_of_cell? w _ hx645_3)).trans hx645_3
                            replace p645 := eq_true p645
                            replace q645 := eq_true q645
                            go_wp2_with (first | ((with_reducible refine gate_dst (N := 9) rfl ?_); (try (refine gate_guard (by rfl) ?_; dsimp only)); refine box_event ?hg (N := 9) ?hd (cs := #[.int .u8 0, .int .i64 0, .int .i64 0, .int .u64 0]) (t := 93) ?hr ?_; (case hd => rfl); (case hg => rfl); (case hr => first | (go_simp; done) | (go_simp; rfl)); intro gb646 hg w73 hbox hb; have n0_ := Aside0.mk (Kd.R_below (by (with_reducible repeat (first | apply Kd.R_alloc | apply Kd.R_drewN | apply Kd.R_drew)); exact HO_6.out) hb); have n1_ := Aside0.mk (Kd.R_below (Kd.R_elderB (by (with_reducible repeat (first | apply Kd.R_alloc | apply Kd.R_drewN | apply Kd.R_drew)); exact HO_645001.out) gb646 (Nat.le_of_eq hg.symm)) hb); have n2_ := Aside0.mk (blk_below (g := gb627) (o := .cells #[.int .i64 a0_0, .slice (some ad645) l0_1.length c0_1, .slice A0_2 l0_2.length c0_2] 25 (0, 0)) (by (with_reducible repeat (first | refine blk_drewN ?_ _ | refine blk_drew ?_ | refine blk_alloc ?_ _)); exact BK627.out) hb); have n3_ := Aside0.mk (blk_below (g := gb628) (o := .cells #[.int .i64 a1_0, .slice A1_1 l1_1.length c1_1, .slice A1_2 l1_2.length c1_2] 25 (0, 0)) (by (with_reducible repeat (first | refine blk_drewN ?_ _ | refine blk_drew ?_ | refine blk_alloc ?_ _)); exact BK628.out) hb); have n4_ := Aside0.mk (blk_below (g := gb629) (o := .cells #[.int .i64 0, .slice none 0 0, .slice none 0 0] 25 (0, 0)) (by (with_reducible repeat (first | refine blk_drewN ?_ _ | refine blk_drew ?_ | refine blk_alloc ?_ _)); exact BK629.out) hb); have n5_ := Aside0.mk (blk_below (g := gb644) (o := .cells #[.int .i64 a1_0, u645001, .slice none 0 0] 25 (0, 0)) (by (with_reducible repeat (first | refine blk_drewN ?_ _ | refine blk_drew ?_ | refine blk_alloc ?_ _)); exact BK644.out) hb); have n6_ := Aside0.mk (below_step (by repeat (first | (with_reducible first | exact HB.out | apply below_alloc | apply pw_below_drewN | apply below_drew1 | refine below_set ?_ GE627.out | refine below_set ?_ GE628.out | refine below_set ?_ GE629.out | refine below_set ?_ GE644.out) | exact HB.out)) hb); have n7_ := Aside0.mk (hbox); have n8_ := Aside0.mk ((by rw [hg]; exact (below_size (by repeat (first | (with_reducible first | exact HB.out | apply below_alloc | apply pw_below_drewN | apply below_drew1 | refine below_set ?_ GE627.out | refine below_set ?_ GE628.out | refine below_set ?_ GE629.out | refine below_set ?_ GE644.out) | exact HB.out))) : w.heap.size ≤ gb646)); have n9_ := Aside0.mk ((by rw [hg]; exact (below_size (by repeat (first | (with_reducible first | exact HB.out | apply below_alloc | apply pw_below_drewN | apply below_drew1 | refine below_set ?_ GE627.out | refine below_set ?_ GE628.out | refine below_set ?_ GE629.out | refine below_set ?_ GE644.out) | exact HB.out))) : w.heap.size ≤ gb646)); have n10_ := Aside0.mk ((by rw [hg]; exact Nat.ne_of_lt (blk_lt (g := gb627) (o := .cells #[.int .i64 a0_0, .slice (some ad645) l0_1.length c0_1, .slice A0_2 l0_2.length c0_2] 25 (0, 0)) (by (with_reducible repeat (first | refine blk_drewN ?_ _ | refine blk_drew ?_ | refine blk_alloc ?_ _)); exact BK627.out)) : gb627 ≠ gb646)); have n11_ := Aside0.mk ((by rw [hg]; exact Nat.ne_of_gt (blk_lt (g := gb627) (o := .cells #[.int .i64 a0_0, .slice (some ad645) l0_1.length c0_1, .slice A0_2 l0_2.length c0_2] 25 (0, 0)) (by (with_reducible repeat (first | refine blk_drewN ?_ _ | refine blk_drew ?_ | refine blk_alloc ?_ _)); exact BK627.out)) : gb646 ≠ gb627)); have n12_ := Aside0.mk ((by rw [hg]; exact Nat.ne_of_lt (blk_lt (g := gb628) (o := .cells #[.int .i64 a1_0, .slice A1_1 l1_1.length c1_1, .slice A1_2 l1_2.length c1_2] 25 (0, 0)) (by (with_reducible repeat (first | refine blk_drewN ?_ _ | refine blk_drew ?_ | refine blk_alloc ?_ _)); exact BK628.out)) : gb628 ≠ gb646)); have n13_ := Aside0.mk ((by rw [hg]; exact Nat.ne_of_gt (blk_lt (g := gb628) (o := .cells #[.int .i64 a1_0, .slice A1_1 l1_1.length c1_1, .slice A1_2 l1_2.length c1_2] 25 (0, 0)) (by (with_reducible repeat (first | refine blk_drewN ?_ _ | refine blk_drew ?_ | refine blk_alloc ?_ _)); exact BK628.out)) : gb646 ≠ gb628)); have n14_ := Aside0.mk ((by rw [hg]; exact Nat.ne_of_lt (blk_lt (g := gb629) (o := .cells #[.int .i64 0, .slice none 0 0, .slice none 0 0] 25 (0, 0)) (by (with_reducible repeat (first | refine blk_drewN ?_ _ | refine blk_drew ?_ | refine blk_alloc ?_ _)); exact BK629.out)) : gb629 ≠ gb646)); have n15_ := Aside0.mk ((by rw [hg]; exact Nat.ne_of_gt (blk_lt (g := gb629) (o := .cells #[.int .i64 0, .slice none 0 0, .slice none 0 0] 25 (0, 0)) (by (with_reducible repeat (first | refine blk_drewN ?_ _ | refine blk_drew ?_ | refine blk_alloc ?_ _)); exact BK629.out)) : gb646 ≠ gb629)); have n16_ := Aside0.mk ((by rw [hg]; exact Nat.ne_of_lt (blk_lt (g := gb644) (o := .cells #[.int .i64 a1_0, u645001, .slice none 0 0] 25 (0, 0)) (by (with_reducible repeat (first | refine blk_drewN ?_ _ | refine blk_drew ?_ | refine blk_alloc ?_ _)); exact BK644.out)) : gb644 ≠ gb646)); have n17_ := Aside0.mk ((by rw [hg]; exact Nat.ne_of_gt (blk_lt (g := gb644) (o := .cells #[.int .i64 a1_0, u645001, .slice none 0 0] 25 (0, 0)) (by (with_reducible repeat (first | refine blk_drewN ?_ _ | refine blk_drew ?_ | refine blk_alloc ?_ _)); exact BK644.out)) : gb646 ≠ gb644)); clear HO_6; clear HO_645001; clear BK627; clear BK628; clear BK629; clear BK644; clear HB; have HO_6 := n0_; have HO_645001 := n1_; have BK627 := n2_; have BK628 := n3_; have BK629 := n4_; have BK644 := n5_; have HB := n6_; have BK646 := n7_; have GW646 := n8_; have GE646 := n9_; have NB627_646 := n10_; have NB646_627 := n11_; have NB628_646 := n12_; have NB646_628 := n13_; have NB629_646 := n14_; have NB646_629 := n15_; have NB644_646 := n16_; have NB646_644 := n17_; clear n0_ n1_ n2_ n3_ n4_ n5_ n6_ n7_ n8_ n9_ n10_ n11_ n12_ n13_ n14_ n15_ n16_ n17_; clear hb hbox hg; have hnb74 := NB646_627.out; have hnc74 := NB627_646.out; have hnb75 := NB646_628.out; have hnc75 := NB628_646.out; have hnb76 := NB646_629.out; have hnc76 := NB629_646.out; have hnb77 := NB646_644.out; have hnc77 := NB644_646.out; have hcz78_0 : w73.cell? ⟨gb646, 0, none⟩ = some (.int .u8 0) := (blk_cell BK646.out 0).trans rfl; have hcz78_1 : w73.cell? ⟨gb646, 1, none⟩ = some (.int .i64 0) := (blk_cell BK646.out 1).trans rfl; have hcz78_2 : w73.cell? ⟨gb646, 2, none⟩ = some (.int .i64 0) := (blk_cell BK646.out 2).trans rfl; have hcz78_3 : w73.cell? ⟨gb646, 3, none⟩ = some (.int .u64 0) := (blk_cell BK646.out 3).trans rfl; have hfz78_0 := blk_frozen BK646.out 0; have hfz78_1 := blk_frozen BK646.out 1; have hfz78_2 := blk_frozen BK646.out 2; have hfz78_3 := blk_frozen BK646.out 3; have hnb79 := NB644_628.out; have hnc79 := NB628_644.out; have hnb80 := NB644_629.out; have hnc80 := NB629_644.out; have hcz81_0 : w73.cell? ⟨gb644, 0, none⟩ = some (.int .i64 a1_0) := (blk_cell BK644.out 0).trans rfl; have hcz81_1 : w73.cell? ⟨gb644, 1, none⟩ = some (u645001) := (blk_cell BK644.out 1).trans rfl; have hcz81_2 : w73.cell? ⟨gb644, 2, none⟩ = some (.slice none 0 0) := (blk_cell BK644.out 2).trans rfl; have hfz81_0 := blk_frozen BK644.out 0; have hfz81_1 := blk_frozen BK644.out 1; have hfz81_2 := blk_frozen BK644.out 2; obtain ⟨Ao82, co82, eo82⟩ := Kd.R_slice HO_645001.out; subst eo82) | ((with_reducible refine gate_builtin (b := .append) (xs := #[.tmp 75, .tmp 82]) rfl ?_); (try (refine gate_guard (by rfl) ?_; dsimp only)); at_builtin; refine Kd.R_append (Kd.int .i64) (w0 := w) w.heap.size rfl (.tmp 75) (.tmp 82) 23 3 (.int .i64 0) 8 rfl Try.underlying23 info3 rfl (by decide) (by omega) u6 x6_2 (wrap64 (a1_0 + (x645001_2.length : Int))) [.int .i64 (wrap64 (a1_0 + (x645001_2.length : Int)))] (fun _ => True) (fun _ => False) rfl (by first | (go_simp; done) | (go_simp; rfl)) ?aP (fun _ hk => hk.elim) ?aF ?aO ?aB ?aS ?aL ?_; (case aP => exact rfl); (case aB => exact (by repeat (first | (with_reducible first | exact HB.out | apply below_alloc | apply pw_below_drewN | apply below_drew1 | refine below_set ?_ GE627.out | refine below_set ?_ GE628.out | refine below_set ?_ GE629.out | refine below_set ?_ GE644.out | refine below_set ?_ GE646.out) | exact HB.out))); (case aF => exact (fun _ _ => trivial)); (case aO => exact (by (with_reducible repeat (first | apply Kd.R_alloc | apply Kd.R_drewN | apply Kd.R_drew)); exact Kd.R_mono (Kd.R_far (p := ⟨gb646, 3, none⟩) (Kd.R_far (p := ⟨gb646, 2, none⟩) (Kd.R_far (p := ⟨gb646, 1, none⟩) (Kd.R_far (p := ⟨gb646, 0, none⟩) (Kd.R_types HO_6.out BK646.out (by decide)) (fun _ hk => hk.2) (.int .u8 ((rd_T93 l0_1 x8_2).f0))) (fun _ hk => hk.2) (.int .i64 ((rd_T93 l0_1 x8_2).f1))) (fun _ hk => hk.2) (.int .i64 ((rd_T93 l0_1 x8_2).f2))) (fun _ hk => hk.2) (.int .u64 ((rd_T93 l0_1 x8_2).f3))) (fun _ hk => trivial))); (case aS => exact (below_size (by repeat (first | (with_reducible first | exact HB.out | apply below_alloc | apply pw_below_drewN | apply below_drew1 | refine below_set ?_ GE627.out | refine below_set ?_ GE628.out | refine below_set ?_ GE629.out | refine below_set ?_ GE644.out | refine below_set ?_ GE646.out) | exact HB.out)))); (case aL => have := LMc67.out; omega); intro v648 w83 ho hb hg hat; rw [← Ny647.out] at ho; have n0_ := Aside0.mk (Kd.R_over' (by (with_reducible repeat (first | apply Kd.R_alloc | apply Kd.R_drewN | apply Kd.R_drew)); exact (Kd.R_mono (Kd.R_far (p := ⟨gb646, 3, none⟩) (Kd.R_far (p := ⟨gb646, 2, none⟩) (Kd.R_far (p := ⟨gb646, 1, none⟩) (Kd.R_far (p := ⟨gb646, 0, none⟩) (Kd.R_mono HO_645001.out (fun k_ hk => (⟨hk, hk.2⟩ : _ ∧ k_ ≠ gb646))) (fun _ hk => hk.2) (.int .u8 ((rd_T93 l0_1 x8_2).f0))) (fun _ hk => hk.2) (.int .i64 ((rd_T93 l0_1 x8_2).f1))) (fun _ hk => hk.2) (.int .i64 ((rd_T93 l0_1 x8_2).f2))) (fun _ hk => hk.2) (.int .u64 ((rd_T93 l0_1 x8_2).f3))) (fun _ h_ => h_.1))) (Kd.R_typed (by (with_reducible repeat (first | apply Kd.R_alloc | apply Kd.R_drewN | apply Kd.R_drew)); exact (Kd.R_mono (Kd.R_far (p := ⟨gb646, 3, none⟩) (Kd.R_far (p := ⟨gb646, 2, none⟩) (Kd.R_far (p := ⟨gb646, 1, none⟩) (Kd.R_far (p := ⟨gb646, 0, none⟩) (Kd.R_types HO_6.out BK646.out (by decide)) (fun _ hk => hk.2) (.int .u8 ((rd_T93 l0_1 x8_2).f0))) (fun _ hk => hk.2) (.int .i64 ((rd_T93 l0_1 x8_2).f1))) (fun _ hk => hk.2) (.int .i64 ((rd_T93 l0_1 x8_2).f2))) (fun _ hk => hk.2) (.int .u64 ((rd_T93 l0_1 x8_2).f3))) (fun _ h_ => h_.1)))) (by decide) hg); have n1_ := Aside0.mk (blk_grown (g := gb627) (o := .cells #[.int .i64 a0_0, .slice (some ad645) l0_1.length c0_1, .slice A0_2 l0_2.length c0_2] 25 (0, 0)) (by (with_reducible repeat (first | refine blk_drewN ?_ _ | refine blk_drew ?_ | refine blk_alloc ?_ _)); refine blk_far ?_ NB627_646.out _; (with_reducible repeat (first | refine blk_drewN ?_ _ | refine blk_drew ?_ | refine blk_alloc ?_ _)); refine blk_far ?_ NB627_646.out _; (with_reducible repeat (first | refine blk_drewN ?_ _ | refine blk_drew ?_ | refine blk_alloc ?_ _)); refine blk_far ?_ NB627_646.out _; (with_reducible repeat (first | refine blk_drewN ?_ _ | refine blk_drew ?_ | refine blk_alloc ?_ _)); refine blk_far ?_ NB627_646.out _; (with_reducible repeat (first | refine blk_drewN ?_ _ | refine blk_drew ?_ | refine blk_alloc ?_ _)); exact BK627.out) hg (Kd.R_ne HO_6.out BK627.out (by decide))); have n2_ := Aside0.mk (blk_grown (g := gb628) (o := .cells #[.int .i64 a1_0, .slice A1_1 l1_1.length c1_1, .slice A1_2 l1_2.length c1_2] 25 (0, 0)) (by (with_reducible repeat (first | refine blk_drewN ?_ _ | refine blk_drew ?_ | refine blk_alloc ?_ _)); refine blk_far ?_ NB628_646.out _; (with_reducible repeat (first | refine blk_drewN ?_ _ | refine blk_drew ?_ | refine blk_alloc ?_ _)); refine blk_far ?_ NB628_646.out _; (with_reducible repeat (first | refine blk_drewN ?_ _ | refine blk_drew ?_ | refine blk_alloc ?_ _)); refine blk_far ?_ NB628_646.out _; (with_reducible repeat (first | refine blk_drewN ?_ _ | refine blk_drew ?_ | refine blk_alloc ?_ _)); refine blk_far ?_ NB628_646.out _; (with_reducible repeat (first | refine blk_drewN ?_ _ | refine blk_drew ?_ | refine blk_alloc ?_ _)); exact BK628.out) hg (Kd.R_ne HO_6.out BK628.out (by decide))); have n3_ := Aside0.mk (blk_grown (g := gb629) (o := .cells #[.int .i64 0, .slice none 0 0, .slice none 0 0] 25 (0, 0)) (by (with_reducible repeat (first | refine blk_drewN ?_ _ | refine blk_drew ?_ | refine blk_alloc ?_ _)); refine blk_far ?_ NB629_646.out _; (with_reducible repeat (first | refine blk_drewN ?_ _ | refine blk_drew ?_ | refine blk_alloc ?_ _)); refine blk_far ?_ NB629_646.out _; (with_reducible repeat (first | refine blk_drewN ?_ _ | refine blk_drew ?_ | refine blk_alloc ?_ _)); refine blk_far ?_ NB629_646.out _; (with_reducible repeat (first | refine blk_drewN ?_ _ | refine blk_drew ?_ | refine blk_alloc ?_ _)); refine blk_far ?_ NB629_646.out _; (with_reducible repeat (first | refine blk_drewN ?_ _ | refine blk_drew ?_ | refine blk_alloc ?_ _)); exact BK629.out) hg (Kd.R_ne HO_6.out BK629.out (by decide))); have n4_ := Aside0.mk (blk_grown (g := gb644) (o := .cells #[.int .i64 a1_0, .slice Ao82 x645001_2.length co82, .slice none 0 0] 25 (0, 0)) (by (with_reducible repeat (first | refine blk_drewN ?_ _ | refine blk_drew ?_ | refine blk_alloc ?_ _)); refine blk_far ?_ NB644_646.out _; (with_reducible repeat (first | refine blk_drewN ?_ _ | refine blk_drew ?_ | refine blk_alloc ?_ _)); refine blk_far ?_ NB644_646.out _; (with_reducible repeat (first | refine blk_drewN ?_ _ | refine blk_drew ?_ | refine blk_alloc ?_ _)); refine blk_far ?_ NB644_646.out _; (with_reducible repeat (first | refine blk_drewN ?_ _ | refine blk_drew ?_ | refine blk_alloc ?_ _)); refine blk_far ?_ NB644_646.out _; (with_reducible repeat (first | refine blk_drewN ?_ _ | refine blk_drew ?_ | refine blk_alloc ?_ _)); exact BK644.out) hg (Kd.R_ne HO_6.out BK644.out (by decide))); have n5_ := Aside0.mk (blk_grown (g := gb646) (o := .cells #[.int .u8 ((rd_T93 l0_1 x8_2).f0), .int .i64 ((rd_T93 l0_1 x8_2).f1), .int .i64 ((rd_T93 l0_1 x8_2).f2), .int .u64 ((rd_T93 l0_1 x8_2).f3)] 93 (0, 0)) (by (with_reducible repeat (first | refine blk_drewN ?_ _ | refine blk_drew ?_ | refine blk_alloc ?_ _)); refine blk_put (cs := #[.int .u8 ((rd_T93 l0_1 x8_2).f0), .int .i64 ((rd_T93 l0_1 x8_2).f1), .int .i64 ((rd_T93 l0_1 x8_2).f2), .int .u64 0]) ?_ 3 _ rfl; (with_reducible repeat (first | refine blk_drewN ?_ _ | refine blk_drew ?_ | refine blk_alloc ?_ _)); refine blk_put (cs := #[.int .u8 ((rd_T93 l0_1 x8_2).f0), .int .i64 ((rd_T93 l0_1 x8_2).f1), .int .i64 0, .int .u64 0]) ?_ 2 _ rfl; (with_reducible repeat (first | refine blk_drewN ?_ _ | refine blk_drew ?_ | refine blk_alloc ?_ _)); refine blk_put (cs := #[.int .u8 ((rd_T93 l0_1 x8_2).f0), .int .i64 0, .int .i64 0, .int .u64 0]) ?_ 1 _ rfl; (with_reducible repeat (first | refine blk_drewN ?_ _ | refine blk_drew ?_ | refine blk_alloc ?_ _)); refine blk_put (cs := #[.int .u8 0, .int .i64 0, .int .i64 0, .int .u64 0]) ?_ 0 _ rfl; (with_reducible repeat (first | refine blk_drewN ?_ _ | refine blk_drew ?_ | refine blk_alloc ?_ _)); exact BK646.out) hg (Kd.R_ne HO_6.out BK646.out (by decide))); have n6_ := Aside0.mk (hb); have n7_ := Aside0.mk (ho); clear HO_645001; clear BK627; clear BK628; clear BK629; clear BK644; clear BK646; clear HB; clear HO_6; have HO_645001 := n0_; have BK627 := n1_; have BK628 := n2_; have BK629 := n3_; have BK644 := n4_; have BK646 := n5_; have HB := n6_; have HO649 := n7_; clear n0_ n1_ n2_ n3_ n4_ n5_ n6_ n7_; clear ho hb hg hat; have hcz84_0 : w83.cell? ⟨gb644, 0, none⟩ = some (.int .i64 a1_0) := (blk_cell BK644.out 0).trans rfl; have hcz84_1 : w83.cell? ⟨gb644, 1, none⟩ = some (.slice Ao82 x645001_2.length co82) := (blk_cell BK644.out 1).trans rfl; have hcz84_2 : w83.cell? ⟨gb644, 2, none⟩ = some (.slice none 0 0) := (blk_cell BK644.out 2).trans rfl; have hfz84_0 := blk_frozen BK644.out 0; have hfz84_1 := blk_frozen BK644.out 1; have hfz84_2 := blk_frozen BK644.out 2; have hcz85_0 : w83.cell? ⟨gb646, 0, none⟩ = some (.int .u8 ((rd_T93 l0_1 x8_2).f0)) := (blk_cell BK646.out 0).trans rfl; have hcz85_1 : w83.cell? ⟨gb646, 1, none⟩ = some (.int .i64 ((rd_T93 l0_1 x8_2).f1)) := (blk_cell BK646.out 1).trans rfl; have hcz85_2 : w83.cell? ⟨gb646, 2, none⟩ = some (.int .i64 ((rd_T93 l0_1 x8_2).f2)) := (blk_cell BK646.out 2).trans rfl; have hcz85_3 : w83.cell? ⟨gb646, 3, none⟩ = some (.int .u64 ((rd_T93 l0_1 x8_2).f3)) := (blk_cell BK646.out 3).trans rfl; have hfz85_0 := blk_frozen BK646.out 0; have hfz85_1 := blk_frozen BK646.out 1; have hfz85_2 := blk_frozen BK646.out 2; have hfz85_3 := blk_frozen BK646.out 3) | ((with_reducible refine gate_builtin (b := .append) (xs := #[.tmp 85, .tmp 87]) rfl ?_); (try (refine gate_guard (by rfl) ?_; dsimp only)); at_builtin; refine Kd.R_append k93 (w0 := w) w.heap.size rfl (.tmp 85) (.tmp 87) 22 93 (.agg #[(.int .u8 0), (.int .i64 0), (.int .i64 0), (.int .u64 0)]) 32 rfl Try.underlying22 info93 rfl (by decide) (by omega) (.slice Ao82 x645001_2.length co82) x645001_2 (⟨(rd_T93 l0_1 x8_2).f0, (rd_T93 l0_1 x8_2).f1, (rd_T93 l0_1 x8_2).f2, (rd_T93 l0_1 x8_2).f3⟩ : S93) [.int .u8 ((rd_T93 l0_1 x8_2).f0), .int .i64 ((rd_T93 l0_1 x8_2).f1), .int .i64 ((rd_T93 l0_1 x8_2).f2), .int .u64 ((rd_T93 l0_1 x8_2).f3)] (fun k_ => k_ ≠ gb646) (fun _ => False) rfl rfl ?aP (fun _ hk => hk.elim) ?aF ?aO ?aB ?aS ?aL ?_; (case aP => exact k93_mkM _ _ _ (⟨(rd_T93 l0_1 x8_2).f0, (rd_T93 l0_1 x8_2).f1, (rd_T93 l0_1 x8_2).f2, (rd_T93 l0_1 x8_2).f3⟩ : S93)); (case aB => exact (by repeat (first | (with_reducible first | exact HB.out | apply below_alloc | apply pw_below_drewN | apply below_drew1 | refine below_set ?_ GE627.out | refine below_set ?_ GE628.out | refine below_set ?_ GE629.out | refine below_set ?_ GE644.out | refine below_set ?_ GE646.out) | exact HB.out))); (case aF => exact (fun k_ hk => Kd.freshB (g := gb646) (o := .cells #[.int .u8 ((rd_T93 l0_1 x8_2).f0), .int .i64 ((rd_T93 l0_1 x8_2).f1), .int .i64 ((rd_T93 l0_1 x8_2).f2), .int .u64 ((rd_T93 l0_1 x8_2).f3)] 93 (0, 0)) (by (with_reducible repeat (first | refine blk_drewN ?_ _ | refine blk_drew ?_ | refine blk_alloc ?_ _)); exact BK646.out) k_ hk)); (case aO => exact (by (with_reducible repeat (first | apply Kd.R_alloc | apply Kd.R_drewN | apply Kd.R_drew)); exact Kd.R_mono HO_645001.out (fun _ hk => hk.2))); (case aS => exact (below_size (by repeat (first | (with_reducible first | exact HB.out | apply below_alloc | apply pw_below_drewN | apply below_drew1 | refine below_set ?_ GE627.out | refine below_set ?_ GE628.out | refine below_set ?_ GE629.out | refine below_set ?_ GE644.out | refine below_set ?_ GE646.out) | exact HB.out)))); (case aL => have := LMc68.out; omega); intro v651 w86 ho hb hg hat; rw [← Ny650.out] at ho; have n0_ := Aside0.mk (blk_grown (g := gb627) (o := .cells #[.int .i64 a0_0, .slice (some ad645) l0_1.length c0_1, .slice A0_2 l0_2.length c0_2] 25 (0, 0)) (by (with_reducible repeat (first | refine blk_drewN ?_ _ | refine blk_drew ?_ | refine blk_alloc ?_ _)); exact BK627.out) hg (Kd.R_ne HO_645001.out BK627.out (by decide))); have n1_ := Aside0.mk (blk_grown (g := gb628) (o := .cells #[.int .i64 a1_0, .slice A1_1 l1_1.length c1_1, .slice A1_2 l1_2.length c1_2] 25 (0, 0)) (by (with_reducible repeat (first | refine blk_drewN ?_ _ | refine blk_drew ?_ | refine blk_alloc ?_ _)); exact BK628.out) hg (Kd.R_ne HO_645001.out BK628.out (by decide))); have n2_ := Aside0.mk (blk_grown (g := gb629) (o := .cells #[.int .i64 0, .slice none 0 0, .slice none 0 0] 25 (0, 0)) (by (with_reducible repeat (first | refine blk_drewN ?_ _ | refine blk_drew ?_ | refine blk_alloc ?_ _)); exact BK629.out) hg (Kd.R_ne HO_645001.out BK629.out (by decide))); have n3_ := Aside0.mk (blk_grown (g := gb644) (o := .cells #[.int .i64 a1_0, .slice Ao82 x645001_2.length co82, .slice none 0 0] 25 (0, 0)) (by (with_reducible repeat (first | refine blk_drewN ?_ _ | refine blk_drew ?_ | refine blk_alloc ?_ _)); exact BK644.out) hg (Kd.R_ne HO_645001.out BK644.out (by decide))); have n4_ := Aside0.mk (blk_grown (g := gb646) (o := .cells #[.int .u8 ((rd_T93 l0_1 x8_2).f0), .int .i64 ((rd_T93 l0_1 x8_2).f1), .int .i64 ((rd_T93 l0_1 x8_2).f2), .int .u64 ((rd_T93 l0_1 x8_2).f3)] 93 (0, 0)) (by (with_reducible repeat (first | refine blk_drewN ?_ _ | refine blk_drew ?_ | refine blk_alloc ?_ _)); exact BK646.out) hg (Kd.R_away HO_645001.out (fun _ hk => hk.2))); have n5_ := Aside0.mk (Kd.R_over' (by (with_reducible repeat (first | apply Kd.R_alloc | apply Kd.R_drewN | apply Kd.R_drew)); exact HO649.out) (Kd.R_typed (by (with_reducible repeat (first | apply Kd.R_alloc | apply Kd.R_drewN | apply Kd.R_drew)); exact HO_645001.out)) (by decide) hg); have n6_ := Aside0.mk (hb); have n7_ := Aside0.mk (ho); clear BK627; clear BK628; clear BK629; clear BK644; clear BK646; clear HO649; clear HB; clear HO_645001; have BK627 := n0_; have BK628 := n1_; have BK629 := n2_; have BK644 := n3_; have BK646 := n4_; have HO649 := n5_; have HB := n6_; have HO652 := n7_; clear n0_ n1_ n2_ n3_ n4_ n5_ n6_ n7_; clear ho hb hg hat; obtain ⟨Ao87, co87, eo87⟩ := Kd.R_slice HO652.out; subst eo87; have hcz88_0 : w86.cell? ⟨gb644, 0, none⟩ = some (.int .i64 a1_0) := (blk_cell BK644.out 0).trans rfl; have hcz88_1 : w86.cell? ⟨gb644, 1, none⟩ = some (.slice Ao82 x645001_2.length co82) := (blk_cell BK644.out 1).trans rfl; have hcz88_2 : w86.cell? ⟨gb644, 2, none⟩ = some (.slice none 0 0) := (blk_cell BK644.out 2).trans rfl; have hfz88_0 := blk_frozen BK644.out 0; have hfz88_1 := blk_frozen BK644.out 1; have hfz88_2 := blk_frozen BK644.out 2))
                            go_roundg k2
                            case measure => have := HJ2.out; have := HK2.out; omega
                            case rel => exact ⟨(y647), (wrap64 (x8_2 + 1)), (y650), (.slice Ao87 y650.length co87), (by first | rfl | (simp; done) | (simp [*]; done)), H', ⟨by have := HJ2.out; have := HK2.out; omega⟩, ⟨by (with_reducible repeat (first | apply Kd.R_alloc | apply Kd.R_drewN | apply Kd.R_drew)); exact Kd.R_mono (Kd.R_far (p := ⟨gb644, 1, none⟩) (Kd.R_types HO649.out BK644.out (by decide)) (fun _ hk => hk.2) (.slice Ao87 y650.length co87)) (fun _ hk => trivial)⟩, ⟨by (with_reducible repeat (first | apply Kd.R_alloc | apply Kd.R_drewN | apply Kd.R_drew)); exact Kd.R_mono (Kd.R_far (p := ⟨gb644, 1, none⟩) (Kd.R_types HO652.out BK644.out (by decide)) (fun _ hk => hk.2) (.slice Ao87 y650.length co87)) (fun _ hk => trivial)⟩, ⟨by (with_reducible repeat (first | refine blk_drewN ?_ _ | refine blk_drew ?_ | refine blk_alloc ?_ _)); refine blk_far ?_ NB627_644.out _; (with_reducible repeat (first | refine blk_drewN ?_ _ | refine blk_drew ?_ | refine blk_alloc ?_ _)); exact BK627.out⟩, ⟨by (with_reducible repeat (first | refine blk_drewN ?_ _ | refine blk_drew ?_ | refine blk_alloc ?_ _)); refine blk_far ?_ NB628_644.out _; (with_reducible repeat (first | refine blk_drewN ?_ _ | refine blk_drew ?_ | refine blk_alloc ?_ _)); exact BK628.out⟩, ⟨by (with_reducible repeat (first | refine blk_drewN ?_ _ | refine blk_drew ?_ | refine blk_alloc ?_ _)); refine blk_far ?_ NB629_644.out _; (with_reducible repeat (first | refine blk_drewN ?_ _ | refine blk_drew ?_ | refine blk_alloc ?_ _)); exact BK629.out⟩, ⟨by (with_reducible repeat (first | refine blk_drewN ?_ _ | refine blk_drew ?_ | refine blk_alloc ?_ _)); refine blk_put (cs := #[.int .i64 a1_0, .slice Ao82 x645001_2.length co82, .slice none 0 0]) ?_ 1 _ rfl; (with_reducible repeat (first | refine blk_drewN ?_ _ | refine blk_drew ?_ | refine blk_alloc ?_ _)); exact BK644.out⟩, ⟨by repeat (first | (with_reducible first | exact HB.out | apply below_alloc | apply pw_below_drewN | apply below_drew1 | refine below_set ?_ GE627.out | refine below_set ?_ GE628.out | refine below_set ?_ GE629.out | refine below_set ?_ GE644.out | refine below_set ?_ GE646.out) | exact HB.out)⟩⟩
                          · rw [if_neg c68] at H
                            exact absurd H (by simp)
                        · rw [if_neg c67] at H
                          exact absurd H (by simp)
                      · rw [if_neg c66] at H
                        have c66b0 : (((rd_T93 l0_1 x8_2).f0) == 4) = false := beq_eq_false_iff_ne.mpr c66
                        have c66b1 : (((rd_T93 l0_1 x8_2).f0) != 4) = true := bne_iff_ne.mpr c66
                        by_cases c89 : 0 ≤ ((rd_T93 l0_1 x8_2).f1)
                        · rw [if_pos c89] at H
                          have c89b0 : decide (0 ≤ ((rd_T93 l0_1 x8_2).f1)) = true := decide_eq_true c89
                          clear c89
                          by_cases c90 : ((rd_T93 l0_1 x8_2).f1) < (x6_2.length : Int)
                          · rw [if_pos c90] at H
                            have c90b0 : decide (((rd_T93 l0_1 x8_2).f1) < (x6_2.length : Int)) = true := decide_eq_true c90
                            clear c90
                            by_cases c91 : 0 ≤ ((rd_T93 l0_1 x8_2).f2)
                            · rw [if_pos c91] at H
                              have c91b0 : decide (0 ≤ ((rd_T93 l0_1 x8_2).f2)) = true := decide_eq_true c91
                              clear c91
                              by_cases c92 : ((rd_T93 l0_1 x8_2).f2) < (x6_2.length : Int)
                              · rw [if_pos c92] at H
                                have c92b0 : decide (((rd_T93 l0_1 x8_2).f2) < (x6_2.length : Int)) = true := decide_eq_true c92
                                clear c92
                                by_cases c93 : x6_2.length < 17592186044416
                                · rw [if_pos c93] at H
                                  have LMc93 := Aside0.mk c93
                                  clear c93
                                  obtain ⟨y655, hy655⟩ : ∃ y_ : List Int, y_ = (x6_2 ++ [wrap64 (a1_0 + (x645001_2.length : Int))]) := ⟨_, rfl⟩
                                  replace H : (if x645001_2.length < 4398046511104 then (conclaveref09_After.l0 k2 y655 (wrap64 (x8_2 + 1)) a0_0 l0_1 l0_2 a1_0 (x645001_2 ++ [(⟨(rd_T93 l0_1 x8_2).f0, rd x6_2 ((rd_T93 l0_1 x8_2).f1), rd x6_2 ((rd_T93 l0_1 x8_2).f2), (rd_T93 l0_1 x8_2).f3⟩ : S93)])) else (none)) = some (r1, r2, r3, r4) := by first | (rw [hy655]; with_reducible exact H) | (have H2_ := (Option.bind_some _ _).symm.trans H; rw [hy655]; with_reducible exact H2_) | (have H2_ := (Option.bind_some _ _).symm.trans H; with_reducible exact H2_) | with_reducible exact H | (rw [hy655]; exact H) | exact H
                                  have Ny655 := Aside0.mk hy655
                                  clear hy655
                                  by_cases c94 : x645001_2.length < 4398046511104
                                  · rw [if_pos c94] at H
                                    have LMc94 := Aside0.mk c94
                                    clear c94
                                    obtain ⟨y658, hy658⟩ : ∃ y_ : List (S93), y_ = (x645001_2 ++ [(⟨(rd_T93 l0_1 x8_2).f0, rd x6_2 ((rd_T93 l0_1 x8_2).f1), rd x6_2 ((rd_T93 l0_1 x8_2).f2), (rd_T93 l0_1 x8_2).f3⟩ : S93)]) := ⟨_, rfl⟩
                                    replace H : (conclaveref09_After.l0 k2 y655 (wrap64 (x8_2 + 1)) a0_0 l0_1 l0_2 a1_0 y658) = some (r1, r2, r3, r4) := by first | (rw [hy658]; with_reducible exact H) | (have H2_ := (Option.bind_some _ _).symm.trans H; rw [hy658]; with_reducible exact H2_) | (have H2_ := (Option.bind_some _ _).symm.trans H; with_reducible exact H2_) | with_reducible exact H | (rw [hy658]; exact H) | exact H
                                    have Ny658 := Aside0.mk hy658
                                    clear hy658
                                    have H' := Aside0.mk H
                                    clear H
                                    have hnb95 := NB627_628.out
                                    have hnc95 := NB628_627.out
                                    have hnb96 := NB627_629.out
                                    have hnc96 := NB629_627.out
                                    have hnb97 := NB627_644.out
                                    have hnc97 := NB644_627.out
                                    have hcz98_0 : wr.cell? ⟨gb627, 0, none⟩ = some (.int .i64 a0_0) := (blk_cell BK627.out 0).trans rfl
                                    have hcz98_1 : wr.cell? ⟨gb627, 1, none⟩ = some (.slice A0_1 l0_1.length c0_1) := (blk_cell BK627.out 1).trans rfl
                                    have hcz98_2 : wr.cell? ⟨gb627, 2, none⟩ = some (.slice A0_2 l0_2.length c0_2) := (blk_cell BK627.out 2).trans rfl
                                    have hfz98_0 := blk_frozen BK627.out 0
                                    have hfz98_1 := blk_frozen BK627.out 1
                                    have hfz98_2 := blk_frozen BK627.out 2
                                    have p645 : 0 ≤ (x8_2 : Int) := of_decide_eq_true (by first | (with_reducible assumption) | assumption)
                                    have q645 : x8_2 < (l0_1.length : Int) := of_decide_eq_true (by first | (with_reducible assumption) | assumption)
                                    obtain ⟨ad645, e645, hx645_0, hx645_1, hx645_2, hx645_3⟩ := at_T93 HR0_1.out x8_2 p645 q645
                                    cases e645
                                    replace hx645_0 := (HB.out.cell (World.block_lt_of_cell? w _ hx645_0)).trans hx645_0
                                    replace hx645_1 := (HB.out.cell (World.block_lt_of_cell? w _ hx645_1)).trans hx645_1
                                    replace hx645_2 := (HB.out.cell (World.block_lt_of_cell? w _ hx645_2)).trans hx645_2
                                    replace hx645_3 := (HB.out.cell (World.block_lt_of_cell? w _ hx645_3)).trans hx645_3
                                    replace p645 := eq_true p645
                                    replace q645 := eq_true q645
                                    go_wp2_with (first | ((with_reducible refine gate_dst (N := 9) rfl ?_); (try (refine gate_guard (by rfl) ?_; dsimp only)); refine box_event ?hg (N := 9) ?hd (cs := #[.int .u8 0, .int .i64 0, .int .i64 0, .int .u64 0]) (t := 93) ?hr ?_; (case hd => rfl); (case hg => rfl); (case hr => first | (go_simp; done) | (go_simp; rfl)); intro gb646 hg w99 hbox hb; have n0_ := Aside0.mk (Kd.R_below (by (with_reducible repeat (first | apply Kd.R_alloc | apply Kd.R_drewN | apply Kd.R_drew)); exact HO_6.out) hb); have n1_ := Aside0.mk (Kd.R_below (Kd.R_elderB (by (with_reducible repeat (first | apply Kd.R_alloc | apply Kd.R_drewN | apply Kd.R_drew)); exact HO_645001.out) gb646 (Nat.le_of_eq hg.symm)) hb); have n2_ := Aside0.mk (blk_below (g := gb627) (o := .cells #[.int .i64 a0_0, .slice (some ad645) l0_1.length c0_1, .slice A0_2 l0_2.length c0_2] 25 (0, 0)) (by (with_reducible repeat (first | refine blk_drewN ?_ _ | refine blk_drew ?_ | refine blk_alloc ?_ _)); exact BK627.out) hb); have n3_ := Aside0.mk (blk_below (g := gb628) (o := .cells #[.int .i64 a1_0, .slice A1_1 l1_1.length c1_1, .slice A1_2 l1_2.length c1_2] 25 (0, 0)) (by (with_reducible repeat (first | refine blk_drewN ?_ _ | refine blk_drew ?_ | refine blk_alloc ?_ _)); exact BK628.out) hb); have n4_ := Aside0.mk (blk_below (g := gb629) (o := .cells #[.int .i64 0, .slice none 0 0, .slice none 0 0] 25 (0, 0)) (by (with_reducible repeat (first | refine blk_drewN ?_ _ | refine blk_drew ?_ | refine blk_alloc ?_ _)); exact BK629.out) hb); have n5_ := Aside0.mk (blk_below (g := gb644) (o := .cells #[.int .i64 a1_0, u645001, .slice none 0 0] 25 (0, 0)) (by (with_reducible repeat (first | refine blk_drewN ?_ _ | refine blk_drew ?_ | refine blk_alloc ?_ _)); exact BK644.out) hb); have n6_ := Aside0.mk (below_step (by repeat (first | (with_reducible first | exact HB.out | apply below_alloc | apply pw_below_drewN | apply below_drew1 | refine below_set ?_ GE627.out | refine below_set ?_ GE628.out | refine below_set ?_ GE629.out | refine below_set ?_ GE644.out) | exact HB.out)) hb); have n7_ := Aside0.mk (hbox); have n8_ := Aside0.mk ((by rw [hg]; exact (below_size (by repeat (first | (with_reducible first | exact HB.out | apply below_alloc | apply pw_below_drewN | apply below_drew1 | refine below_set ?_ GE627.out | refine below_set ?_ GE628.out | refine below_set ?_ GE629.out | refine below_set ?_ GE644.out) | exact HB.out))) : w.heap.size ≤ gb646)); have n9_ := Aside0.mk ((by rw [hg]; exact (below_size (by repeat (first | (with_reducible first | exact HB.out | apply below_alloc | apply pw_below_drewN | apply below_drew1 | refine below_set ?_ GE627.out | refine below_set ?_ GE628.out | refine below_set ?_ GE629.out | refine below_set ?_ GE644.out) | exact HB.out))) : w.heap.size ≤ gb646)); have n10_ := Aside0.mk ((by rw [hg]; exact Nat.ne_of_lt (blk_lt (g := gb627) (o := .cells #[.int .i64 a0_0, .slice (some ad645) l0_1.length c0_1, .slice A0_2 l0_2.length c0_2] 25 (0, 0)) (by (with_reducible repeat (first | refine blk_drewN ?_ _ | refine blk_drew ?_ | refine blk_alloc ?_ _)); exact BK627.out)) : gb627 ≠ gb646)); have n11_ := Aside0.mk ((by rw [hg]; exact Nat.ne_of_gt (blk_lt (g := gb627) (o := .cells #[.int .i64 a0_0, .slice (some ad645) l0_1.length c0_1, .slice A0_2 l0_2.length c0_2] 25 (0, 0)) (by (with_reducible repeat (first | refine blk_drewN ?_ _ | refine blk_drew ?_ | refine blk_alloc ?_ _)); exact BK627.out)) : gb646 ≠ gb627)); have n12_ := Aside0.mk ((by rw [hg]; exact Nat.ne_of_lt (blk_lt (g := gb628) (o := .cells #[.int .i64 a1_0, .slice A1_1 l1_1.length c1_1, .slice A1_2 l1_2.length c1_2] 25 (0, 0)) (by (with_reducible repeat (first | refine blk_drewN ?_ _ | refine blk_drew ?_ | refine blk_alloc ?_ _)); exact BK628.out)) : gb628 ≠ gb646)); have n13_ := Aside0.mk ((by rw [hg]; exact Nat.ne_of_gt (blk_lt (g := gb628) (o := .cells #[.int .i64 a1_0, .slice A1_1 l1_1.length c1_1, .slice A1_2 l1_2.length c1_2] 25 (0, 0)) (by (with_reducible repeat (first | refine blk_drewN ?_ _ | refine blk_drew ?_ | refine blk_alloc ?_ _)); exact BK628.out)) : gb646 ≠ gb628)); have n14_ := Aside0.mk ((by rw [hg]; exact Nat.ne_of_lt (blk_lt (g := gb629) (o := .cells #[.int .i64 0, .slice none 0 0, .slice none 0 0] 25 (0, 0)) (by (with_reducible repeat (first | refine blk_drewN ?_ _ | refine blk_drew ?_ | refine blk_alloc ?_ _)); exact BK629.out)) : gb629 ≠ gb646)); have n15_ := Aside0.mk ((by rw [hg]; exact Nat.ne_of_gt (blk_lt (g := gb629) (o := .cells #[.int .i64 0, .slice none 0 0, .slice none 0 0] 25 (0, 0)) (by (with_reducible repeat (first | refine blk_drewN ?_ _ | refine blk_drew ?_ | refine blk_alloc ?_ _)); exact BK629.out)) : gb646 ≠ gb629)); have n16_ := Aside0.mk ((by rw [hg]; exact Nat.ne_of_lt (blk_lt (g := gb644) (o := .cells #[.int .i64 a1_0, u645001, .slice none 0 0] 25 (0, 0)) (by (with_reducible repeat (first | refine blk_drewN ?_ _ | refine blk_drew ?_ | refine blk_alloc ?_ _)); exact BK644.out)) : gb644 ≠ gb646)); have n17_ := Aside0.mk ((by rw [hg]; exact Nat.ne_of_gt (blk_lt (g := gb644) (o := .cells #[.int .i64 a1_0, u645001, .slice none 0 0] 25 (0, 0)) (by (with_reducible repeat (first | refine blk_drewN ?_ _ | refine blk_drew ?_ | refine blk_alloc ?_ _)); exact BK644.out)) : gb646 ≠ gb644)); clear HO_6; clear HO_645001; clear BK627; clear BK628; clear BK629; clear BK644; clear HB; have HO_6 := n0_; have HO_645001 := n1_; have BK627 := n2_; have BK628 := n3_; have BK629 := n4_; have BK644 := n5_; have HB := n6_; have BK646 := n7_; have GW646 := n8_; have GE646 := n9_; have NB627_646 := n10_; have NB646_627 := n11_; have NB628_646 := n12_; have NB646_628 := n13_; have NB629_646 := n14_; have NB646_629 := n15_; have NB644_646 := n16_; have NB646_644 := n17_; clear n0_ n1_ n2_ n3_ n4_ n5_ n6_ n7_ n8_ n9_ n10_ n11_ n12_ n13_ n14_ n15_ n16_ n17_; clear hb hbox hg; have hnb100 := NB646_627.out; have hnc100 := NB627_646.out; have hnb101 := NB646_628.out; have hnc101 := NB628_646.out; have hnb102 := NB646_629.out; have hnc102 := NB629_646.out; have hnb103 := NB646_644.out; have hnc103 := NB644_646.out; have hcz104_0 : w99.cell? ⟨gb646, 0, none⟩ = some (.int .u8 0) := (blk_cell BK646.out 0).trans rfl; have hcz104_1 : w99.cell? ⟨gb646, 1, none⟩ = some (.int .i64 0) := (blk_cell BK646.out 1).trans rfl; have hcz104_2 : w99.cell? ⟨gb646, 2, none⟩ = some (.int .i64 0) := (blk_cell BK646.out 2).trans rfl; have hcz104_3 : w99.cell? ⟨gb646, 3, none⟩ = some (.int .u64 0) := (blk_cell BK646.out 3).trans rfl; have hfz104_0 := blk_frozen BK646.out 0; have hfz104_1 := blk_frozen BK646.out 1; have hfz104_2 := blk_frozen BK646.out 2; have hfz104_3 := blk_frozen BK646.out 3; obtain ⟨Ao105, co105, eo105⟩ := Kd.R_slice HO_6.out; subst eo105; have p653 : 0 ≤ (((rd_T93 l0_1 x8_2).f1) : Int) := of_decide_eq_true (by first | (with_reducible assumption) | assumption); have q653 : ((rd_T93 l0_1 x8_2).f1) < (x6_2.length : Int) := of_decide_eq_true (by first | (with_reducible assumption) | assumption); obtain ⟨ad653, e653, hx653_0⟩ := Kd.at_int (Kd.R_reads' HO_6.out).2.2 ((rd_T93 l0_1 x8_2).f1) p653 q653; cases e653; have hn653_0 : ad653.block ≠ gb646 := Kd.own_blk (Kd.R_ne HO_6.out BK646.out (by decide)); have hn653_1 : ad653.block ≠ gb646 := Kd.own_blk (Kd.R_ne HO_6.out BK646.out (by decide)); have hn653_2 : ad653.block ≠ gb646 := Kd.own_blk (Kd.R_ne HO_6.out BK646.out (by decide)); have hn653_3 : ad653.block ≠ gb646 := Kd.own_blk (Kd.R_ne HO_6.out BK646.out (by decide)); replace hx653_0 := (cell_far (p := ⟨gb646, 0, none⟩) (by first | (rw [add_block]; exact hn653_0) | (show (Addr.add _ _).block ≠ _; rw [add_block]; exact hn653_0) | exact hn653_0) (.int .u8 ((rd_T93 l0_1 x8_2).f0))).trans hx653_0; replace hx653_0 := (cell_far (p := ⟨gb646, 1, none⟩) (by first | (rw [add_block]; exact hn653_1) | (show (Addr.add _ _).block ≠ _; rw [add_block]; exact hn653_1) | exact hn653_1) (.int .i64 ((rd_T93 l0_1 x8_2).f1))).trans hx653_0; replace hx653_0 := (cell_far (p := ⟨gb646, 2, none⟩) (by first | (rw [add_block]; exact hn653_2) | (show (Addr.add _ _).block ≠ _; rw [add_block]; exact hn653_2) | exact hn653_2) (.int .i64 ((rd_T93 l0_1 x8_2).f2))).trans hx653_0; replace hx653_0 := (cell_far (p := ⟨gb646, 3, none⟩) (by first | (rw [add_block]; exact hn653_3) | (show (Addr.add _ _).block ≠ _; rw [add_block]; exact hn653_3) | exact hn653_3) (.int .u64 ((rd_T93 l0_1 x8_2).f3))).trans hx653_0; clear hn653_0; clear hn653_1; clear hn653_2; clear hn653_3; replace p653 := eq_true p653; replace q653 := eq_true q653; have p654 : 0 ≤ (((rd_T93 l0_1 x8_2).f2) : Int) := of_decide_eq_true (by first | (with_reducible assumption) | assumption); have q654 : ((rd_T93 l0_1 x8_2).f2) < (x6_2.length : Int) := of_decide_eq_true (by first | (with_reducible assumption) | assumption); obtain ⟨ad654, e654, hx654_0⟩ := Kd.at_int (Kd.R_reads' HO_6.out).2.2 ((rd_T93 l0_1 x8_2).f2) p654 q654; obtain rfl : ad653 = ad654 := (by injection e654); have hn654_0 : ad653.block ≠ gb646 := Kd.own_blk (Kd.R_ne HO_6.out BK646.out (by decide)); have hn654_1 : ad653.block ≠ gb646 := Kd.own_blk (Kd.R_ne HO_6.out BK646.out (by decide)); have hn654_2 : ad653.block ≠ gb646 := Kd.own_blk (Kd.R_ne HO_6.out BK646.out (by decide)); have hn654_3 : ad653.block ≠ gb646 := Kd.own_blk (Kd.R_ne HO_6.out BK646.out (by decide)); replace hx654_0 := (cell_far (p := ⟨gb646, 0, none⟩) (by first | (rw [add_block]; exact hn654_0) | (show (Addr.add _ _).block ≠ _; rw [add_block]; exact hn654_0) | exact hn654_0) (.int .u8 ((rd_T93 l0_1 x8_2).f0))).trans hx654_0; replace hx654_0 := (cell_far (p := ⟨gb646, 1, none⟩) (by first | (rw [add_block]; exact hn654_1) | (show (Addr.add _ _).block ≠ _; rw [add_block]; exact hn654_1) | exact hn654_1) (.int .i64 ((rd_T93 l0_1 x8_2).f1))).trans hx654_0; replace hx654_0 := (cell_far (p := ⟨gb646, 2, none⟩) (by first | (rw [add_block]; exact hn654_2) | (show (Addr.add _ _).block ≠ _; rw [add_block]; exact hn654_2) | exact hn654_2) (.int .i64 ((rd_T93 l0_1 x8_2).f2))).trans hx654_0; replace hx654_0 := (cell_far (p := ⟨gb646, 3, none⟩) (by first | (rw [add_block]; exact hn654_3) | (show (Addr.add _ _).block ≠ _; rw [add_block]; exact hn654_3) | exact hn654_3) (.int .u64 ((rd_T93 l0_1 x8_2).f3))).trans hx654_0; clear hn654_0; clear hn654_1; clear hn654_2; clear hn654_3; replace p654 := eq_true p654; replace q654 := eq_true q654; have hnb106 := NB644_628.out; have hnc106 := NB628_644.out; have hnb107 := NB644_629.out; have hnc107 := NB629_644.out; have hcz108_0 : w99.cell? ⟨gb644, 0, none⟩ = some (.int .i64 a1_0) := (blk_cell BK644.out 0).trans rfl; have hcz108_1 : w99.cell? ⟨gb644, 1, none⟩ = some (u645001) := (blk_cell BK644.out 1).trans rfl; have hcz108_2 : w99.cell? ⟨gb644, 2, none⟩ = some (.slice none 0 0) := (blk_cell BK644.out 2).trans rfl; have hfz108_0 := blk_frozen BK644.out 0; have hfz108_1 := blk_frozen BK644.out 1; have hfz108_2 := blk_frozen BK644.out 2; obtain ⟨Ao109, co109, eo109⟩ := Kd.R_slice HO_645001.out; subst eo109))
                                    have hn_ : ad653.block ≠ gb646 := Kd.own_blk (Kd.R_ne HO_6.out BK646.out (by decide))
                                    have hx2_ := (cell_far (p := ⟨gb646, 1, none⟩) (by first | (rw [add_block]; exact hn_) | (show (Addr.add _ _).block ≠ _; rw [add_block]; exact hn_) | exact hn_) (.int .i64 (rd x6_2 ((rd_T93 l0_1 x8_2).f1)))).trans hx654_0
                                    clear hn_
                                    go_region
                                    clear hx2_ hx654_0 hx653_0
                                    obtain ⟨wd_, hwd_⟩ : ∃ w_, w_ = w99.drew := ⟨_, rfl⟩
                                    simp only [← World.setCell_drew]
                                    rw [← hwd_]
                                    have n0_ := Aside0.mk (Kd.R_drew HO_645001.out)
                                    have n1_ := Aside0.mk (show w99.drew.heap[gb627]? = _ from BK627.out)
                                    have n2_ := Aside0.mk (show w99.drew.heap[gb628]? = _ from BK628.out)
                                    have n3_ := Aside0.mk (show w99.drew.heap[gb629]? = _ from BK629.out)
                                    have n4_ := Aside0.mk (show w99.drew.heap[gb644]? = _ from BK644.out)
                                    have n5_ := Aside0.mk (show w99.drew.heap[gb646]? = _ from BK646.out)
                                    have n6_ := Aside0.mk (HB.out.drew)
                                    have n7_ := Aside0.mk (Kd.R_drew HO_6.out)
                                    rw [← hwd_] at n0_ n1_ n2_ n3_ n4_ n5_ n6_ n7_
                                    clear hwd_ HO_645001 BK627 BK628 BK629 BK644 BK646 HB HO_6
                                    have HO_645001 := n0_
                                    have BK627 := n1_
                                    have BK628 := n2_
                                    have BK629 := n3_
                                    have BK644 := n4_
                                    have BK646 := n5_
                                    have HB := n6_
                                    have HO_6 := n7_
                                    clear n0_ n1_ n2_ n3_ n4_ n5_ n6_ n7_
                                    have hczd0_ : wd_.cell? ⟨gb644, 0, none⟩ = some (.int .i64 a1_0) := (blk_cell BK644.out 0).trans rfl
                                    have hfzd0_ := blk_frozen BK644.out 0
                                    have hczd1_ : wd_.cell? ⟨gb644, 1, none⟩ = some (.slice Ao109 x645001_2.length co109) := (blk_cell BK644.out 1).trans rfl
                                    have hfzd1_ := blk_frozen BK644.out 1
                                    have hczd2_ : wd_.cell? ⟨gb644, 2, none⟩ = some (.slice none 0 0) := (blk_cell BK644.out 2).trans rfl
                                    have hfzd2_ := blk_frozen BK644.out 2
                                    have hczd3_ : wd_.cell? ⟨gb646, 0, none⟩ = some (.int .u8 0) := (blk_cell BK646.out 0).trans rfl
                                    have hfzd3_ := blk_frozen BK646.out 0
                                    have hczd4_ : wd_.cell? ⟨gb646, 1, none⟩ = some (.int .i64 0) := (blk_cell BK646.out 1).trans rfl
                                    have hfzd4_ := blk_frozen BK646.out 1
                                    have hczd5_ : wd_.cell? ⟨gb646, 2, none⟩ = some (.int .i64 0) := (blk_cell BK646.out 2).trans rfl
                                    have hfzd5_ := blk_frozen BK646.out 2
                                    have hczd6_ : wd_.cell? ⟨gb646, 3, none⟩ = some (.int .u64 0) := (blk_cell BK646.out 3).trans rfl
                                    have hfzd6_ := blk_frozen BK646.out 3
                                    go_wp2_with (first | ((with_reducible refine gate_builtin (b := .append) (xs := #[.tmp 75, .tmp 82]) rfl ?_); (try (refine gate_guard (by rfl) ?_; dsimp only)); at_builtin; refine Kd.R_append (Kd.int .i64) (w0 := w) w.heap.size rfl (.tmp 75) (.tmp 82) 23 3 (.int .i64 0) 8 rfl Try.underlying23 info3 rfl (by decide) (by omega) (.slice (some ad653) x6_2.length co105) x6_2 (wrap64 (a1_0 + (x645001_2.length : Int))) [.int .i64 (wrap64 (a1_0 + (x645001_2.length : Int)))] (fun _ => True) (fun _ => False) rfl (by first | (go_simp; done) | (go_simp; rfl)) ?aP (fun _ hk => hk.elim) ?aF ?aO ?aB ?aS ?aL ?_; (case aP => exact rfl); (case aB => exact (by repeat (first | (with_reducible first | exact HB.out | apply below_alloc | apply pw_below_drewN | apply below_drew1 | refine below_set ?_ GE627.out | refine below_set ?_ GE628.out | refine below_set ?_ GE629.out | refine below_set ?_ GE644.out | refine below_set ?_ GE646.out) | exact HB.out))); (case aF => exact (fun _ _ => trivial)); (case aO => exact (by (with_reducible repeat (first | apply Kd.R_alloc | apply Kd.R_drewN | apply Kd.R_drew)); exact Kd.R_mono (Kd.R_far (p := ⟨gb646, 2, none⟩) (Kd.R_far (p := ⟨gb646, 1, none⟩) (Kd.R_far (p := ⟨gb646, 3, none⟩) (Kd.R_far (p := ⟨gb646, 2, none⟩) (Kd.R_far (p := ⟨gb646, 1, none⟩) (Kd.R_far (p := ⟨gb646, 0, none⟩) (Kd.R_types HO_6.out BK646.out (by decide)) (fun _ hk => hk.2) (.int .u8 ((rd_T93 l0_1 x8_2).f0))) (fun _ hk => hk.2) (.int .i64 ((rd_T93 l0_1 x8_2).f1))) (fun _ hk => hk.2) (.int .i64 ((rd_T93 l0_1 x8_2).f2))) (fun _ hk => hk.2) (.int .u64 ((rd_T93 l0_1 x8_2).f3))) (fun _ hk => hk.2) (.int .i64 (rd x6_2 ((rd_T93 l0_1 x8_2).f1)))) (fun _ hk => hk.2) (.int .i64 (rd x6_2 ((rd_T93 l0_1 x8_2).f2)))) (fun _ hk => trivial))); (case aS => exact (below_size (by repeat (first | (with_reducible first | exact HB.out | apply below_alloc | apply pw_below_drewN | apply below_drew1 | refine below_set ?_ GE627.out | refine below_set ?_ GE628.out | refine below_set ?_ GE629.out | refine below_set ?_ GE644.out | refine below_set ?_ GE646.out) | exact HB.out)))); (case aL => have := LMc93.out; omega); intro v656 w110 ho hb hg hat; rw [← Ny655.out] at ho; have n0_ := Aside0.mk (Kd.R_over' (by (with_reducible repeat (first | apply Kd.R_alloc | apply Kd.R_drewN | apply Kd.R_drew)); exact (Kd.R_mono (Kd.R_far (p := ⟨gb646, 2, none⟩) (Kd.R_far (p := ⟨gb646, 1, none⟩) (Kd.R_far (p := ⟨gb646, 3, none⟩) (Kd.R_far (p := ⟨gb646, 2, none⟩) (Kd.R_far (p := ⟨gb646, 1, none⟩) (Kd.R_far (p := ⟨gb646, 0, none⟩) (Kd.R_mono HO_645001.out (fun k_ hk => (⟨hk, hk.2⟩ : _ ∧ k_ ≠ gb646))) (fun _ hk => hk.2) (.int .u8 ((rd_T93 l0_1 x8_2).f0))) (fun _ hk => hk.2) (.int .i64 ((rd_T93 l0_1 x8_2).f1))) (fun _ hk => hk.2) (.int .i64 ((rd_T93 l0_1 x8_2).f2))) (fun _ hk => hk.2) (.int .u64 ((rd_T93 l0_1 x8_2).f3))) (fun _ hk => hk.2) (.int .i64 (rd x6_2 ((rd_T93 l0_1 x8_2).f1)))) (fun _ hk => hk.2) (.int .i64 (rd x6_2 ((rd_T93 l0_1 x8_2).f2)))) (fun _ h_ => h_.1))) (Kd.R_typed (by (with_reducible repeat (first | apply Kd.R_alloc | apply Kd.R_drewN | apply Kd.R_drew)); exact (Kd.R_mono (Kd.R_far (p := ⟨gb646, 2, none⟩) (Kd.R_far (p := ⟨gb646, 1, none⟩) (Kd.R_far (p := ⟨gb646, 3, none⟩) (Kd.R_far (p := ⟨gb646, 2, none⟩) (Kd.R_far (p := ⟨gb646, 1, none⟩) (Kd.R_far (p := ⟨gb646, 0, none⟩) (Kd.R_types HO_6.out BK646.out (by decide)) (fun _ hk => hk.2) (.int .u8 ((rd_T93 l0_1 x8_2).f0))) (fun _ hk => hk.2) (.int .i64 ((rd_T93 l0_1 x8_2).f1))) (fun _ hk => hk.2) (.int .i64 ((rd_T93 l0_1 x8_2).f2))) (fun _ hk => hk.2) (.int .u64 ((rd_T93 l0_1 x8_2).f3))) (fun _ hk => hk.2) (.int .i64 (rd x6_2 ((rd_T93 l0_1 x8_2).f1)))) (fun _ hk => hk.2) (.int .i64 (rd x6_2 ((rd_T93 l0_1 x8_2).f2)))) (fun _ h_ => h_.1)))) (by decide) hg); have n1_ := Aside0.mk (blk_grown (g := gb627) (o := .cells #[.int .i64 a0_0, .slice (some ad645) l0_1.length c0_1, .slice A0_2 l0_2.length c0_2] 25 (0, 0)) (by (with_reducible repeat (first | refine blk_drewN ?_ _ | refine blk_drew ?_ | refine blk_alloc ?_ _)); refine blk_far ?_ NB627_646.out _; (with_reducible repeat (first | refine blk_drewN ?_ _ | refine blk_drew ?_ | refine blk_alloc ?_ _)); refine blk_far ?_ NB627_646.out _; (with_reducible repeat (first | refine blk_drewN ?_ _ | refine blk_drew ?_ | refine blk_alloc ?_ _)); refine blk_far ?_ NB627_646.out _; (with_reducible repeat (first | refine blk_drewN ?_ _ | refine blk_drew ?_ | refine blk_alloc ?_ _)); refine blk_far ?_ NB627_646.out _; (with_reducible repeat (first | refine blk_drewN ?_ _ | refine blk_drew ?_ | refine blk_alloc ?_ _)); refine blk_far ?_ NB627_646.out _; (with_reducible repeat (first | refine blk_drewN ?_ _ | refine blk_drew ?_ | refine blk_alloc ?_ _)); refine blk_far ?_ NB627_646.out _; (with_reducible repeat (first | refine blk_drewN ?_ _ | refine blk_drew ?_ | refine blk_alloc ?_ _)); exact BK627.out) hg (Kd.R_ne HO_6.out BK627.out (by decide))); have n2_ := Aside0.mk (blk_grown (g := gb628) (o := .cells #[.int .i64 a1_0, .slice A1_1 l1_1.length c1_1, .slice A1_2 l1_2.length c1_2] 25 (0, 0)) (by (with_reducible repeat (first | refine blk_drewN ?_ _ | refine blk_drew ?_ | refine blk_alloc ?_ _)); refine blk_far ?_ NB628_646.out _; (with_reducible repeat (first | refine blk_drewN ?_ _ | refine blk_drew ?_ | refine blk_alloc ?_ _)); refine blk_far ?_ NB628_646.out _; (with_reducible repeat (first | refine blk_drewN ?_ _ | refine blk_drew ?_ | refine blk_alloc ?_ _)); refine blk_far ?_ NB628_646.out _; (with_reducible repeat (first | refine blk_drewN ?_ _ | refine blk_drew ?_ | refine blk_alloc ?_ _)); refine blk_far ?_ NB628_646.out _; (with_reducible repeat (first | refine blk_drewN ?_ _ | refine blk_drew ?_ | refine blk_alloc ?_ _)); refine blk_far ?_ NB628_646.out _; (with_reducible repeat (first | refine blk_drewN ?_ _ | refine blk_drew ?_ | refine blk_alloc ?_ _)); refine blk_far ?_ NB628_646.out _; (with_reducible repeat (first | refine blk_drewN ?_ _ | refine blk_drew ?_ | refine blk_alloc ?_ _)); exact BK628.out) hg (Kd.R_ne HO_6.out BK628.out (by decide))); have n3_ := Aside0.mk (blk_grown (g := gb629) (o := .cells #[.int .i64 0, .slice none 0 0, .slice none 0 0] 25 (0, 0)) (by (with_reducible repeat (first | refine blk_drewN ?_ _ | refine blk_drew ?_ | refine blk_alloc ?_ _)); refine blk_far ?_ NB629_646.out _; (with_reducible repeat (first | refine blk_drewN ?_ _ | refine blk_drew ?_ | refine blk_alloc ?_ _)); refine blk_far ?_ NB629_646.out _; (with_reducible repeat (first | refine blk_drewN ?_ _ | refine blk_drew ?_ | refine blk_alloc ?_ _)); refine blk_far ?_ NB629_646.out _; (with_reducible repeat (first | refine blk_drewN ?_ _ | refine blk_drew ?_ | refine blk_alloc ?_ _)); refine blk_far ?_ NB629_646.out _; (with_reducible repeat (first | refine blk_drewN ?_ _ | refine blk_drew ?_ | refine blk_alloc ?_ _)); refine blk_far ?_ NB629_646.out _; (with_reducible repeat (first | refine blk_drewN ?_ _ | refine blk_drew ?_ | refine blk_alloc ?_ _)); refine blk_far ?_ NB629_646.out _; (with_reducible repeat (first | refine blk_drewN ?_ _ | refine blk_drew ?_ | refine blk_alloc ?_ _)); exact BK629.out) hg (Kd.R_ne HO_6.out BK629.out (by decide))); have n4_ := Aside0.mk (blk_grown (g := gb644) (o := .cells #[.int .i64 a1_0, .slice Ao109 x645001_2.length co109, .slice none 0 0] 25 (0, 0)) (by (with_reducible repeat (first | refine blk_drewN ?_ _ | refine blk_drew ?_ | refine blk_alloc ?_ _)); refine blk_far ?_ NB644_646.out _; (with_reducible repeat (first | refine blk_drewN ?_ _ | refine blk_drew ?_ | refine blk_alloc ?_ _)); refine blk_far ?_ NB644_646.out _; (with_reducible repeat (first | refine blk_drewN ?_ _ | refine blk_drew ?_ | refine blk_alloc ?_ _)); refine blk_far ?_ NB644_646.out _; (with_reducible repeat (first | refine blk_drewN ?_ _ | refine blk_drew ?_ | refine blk_alloc ?_ _)); refine blk_far ?_ NB644_646.out _; (with_reducible repeat (first | refine blk_drewN ?_ _ | refine blk_drew ?_ | refine blk_alloc ?_ _)); refine blk_far ?_ NB644_646.out _; (with_reducible repeat (first | refine blk_drewN ?_ _ | refine blk_drew ?_ | refine blk_alloc ?_ _)); refine blk_far ?_ NB644_646.out _; (with_reducible repeat (first | refine blk_drewN ?_ _ | refine blk_drew ?_ | refine blk_alloc ?_ _)); exact BK644.out) hg (Kd.R_ne HO_6.out BK644.out (by decide))); have n5_ := Aside0.mk (blk_grown (g := gb646) (o := .cells #[.int .u8 ((rd_T93 l0_1 x8_2).f0), .int .i64 (rd x6_2 ((rd_T93 l0_1 x8_2).f1)), .int .i64 (rd x6_2 ((rd_T93 l0_1 x8_2).f2)), .int .u64 ((rd_T93 l0_1 x8_2).f3)] 93 (0, 0)) (by (with_reducible repeat (first | refine blk_drewN ?_ _ | refine blk_drew ?_ | refine blk_alloc ?_ _)); refine blk_put (cs := #[.int .u8 ((rd_T93 l0_1 x8_2).f0), .int .i64 (rd x6_2 ((rd_T93 l0_1 x8_2).f1)), .int .i64 ((rd_T93 l0_1 x8_2).f2), .int .u64 ((rd_T93 l0_1 x8_2).f3)]) ?_ 2 _ rfl; (with_reducible repeat (first | refine blk_drewN ?_ _ | refine blk_drew ?_ | refine blk_alloc ?_ _)); refine blk_put (cs := #[.int .u8 ((rd_T93 l0_1 x8_2).f0), .int .i64 ((rd_T93 l0_1 x8_2).f1), .int .i64 ((rd_T93 l0_1 x8_2).f2), .int .u64 ((rd_T93 l0_1 x8_2).f3)]) ?_ 1 _ rfl; (with_reducible repeat (first | refine blk_drewN ?_ _ | refine blk_drew ?_ | refine blk_alloc ?_ _)); refine blk_put (cs := #[.int .u8 ((rd_T93 l0_1 x8_2).f0), .int .i64 ((rd_T93 l0_1 x8_2).f1), .int .i64 ((rd_T93 l0_1 x8_2).f2), .int .u64 0]) ?_ 3 _ rfl; (with_reducible repeat (first | refine blk_drewN ?_ _ | refine blk_drew ?_ | refine blk_alloc ?_ _)); refine blk_put (cs := #[.int .u8 ((rd_T93 l0_1 x8_2).f0), .int .i64 ((rd_T93 l0_1 x8_2).f1), .int .i64 0, .int .u64 0]) ?_ 2 _ rfl; (with_reducible repeat (first | refine blk_drewN ?_ _ | refine blk_drew ?_ | refine blk_alloc ?_ _)); refine blk_put (cs := #[.int .u8 ((rd_T93 l0_1 x8_2).f0), .int .i64 0, .int .i64 0, .int .u64 0]) ?_ 1 _ rfl; (with_reducible repeat (first | refine blk_drewN ?_ _ | refine blk_drew ?_ | refine blk_alloc ?_ _)); refine blk_put (cs := #[.int .u8 0, .int .i64 0, .int .i64 0, .int .u64 0]) ?_ 0 _ rfl; (with_reducible repeat (first | refine blk_drewN ?_ _ | refine blk_drew ?_ | refine blk_alloc ?_ _)); exact BK646.out) hg (Kd.R_ne HO_6.out BK646.out (by decide))); have n6_ := Aside0.mk (hb); have n7_ := Aside0.mk (ho); clear HO_645001; clear BK627; clear BK628; clear BK629; clear BK644; clear BK646; clear HB; clear HO_6; have HO_645001 := n0_; have BK627 := n1_; have BK628 := n2_; have BK629 := n3_; have BK644 := n4_; have BK646 := n5_; have HB := n6_; have HO657 := n7_; clear n0_ n1_ n2_ n3_ n4_ n5_ n6_ n7_; clear ho hb hg hat; have hcz111_0 : w110.cell? ⟨gb644, 0, none⟩ = some (.int .i64 a1_0) := (blk_cell BK644.out 0).trans rfl; have hcz111_1 : w110.cell? ⟨gb644, 1, none⟩ = some (.slice Ao109 x645001_2.length co109) := (blk_cell BK644.out 1).trans rfl; have hcz111_2 : w110.cell? ⟨gb644, 2, none⟩ = some (.slice none 0 0) := (blk_cell BK644.out 2).trans rfl; have hfz111_0 := blk_frozen BK644.out 0; have hfz111_1 := blk_frozen BK644.out 1; have hfz111_2 := blk_frozen BK644.out 2; have hcz112_0 : w110.cell? ⟨gb646, 0, none⟩ = some (.int .u8 ((rd_T93 l0_1 x8_2).f0)) := (blk_cell BK646.out 0).trans rfl; have hcz112_1 : w110.cell? ⟨gb646, 1, none⟩ = some (.int .i64 (rd x6_2 ((rd_T93 l0_1 x8_2).f1))) := (blk_cell BK646.out 1).trans rfl; have hcz112_2 : w110.cell? ⟨gb646, 2, none⟩ = some (.int .i64 (rd x6_2 ((rd_T93 l0_1 x8_2).f2))) := (blk_cell BK646.out 2).trans rfl; have hcz112_3 : w110.cell? ⟨gb646, 3, none⟩ = some (.int .u64 ((rd_T93 l0_1 x8_2).f3)) := (blk_cell BK646.out 3).trans rfl; have hfz112_0 := blk_frozen BK646.out 0; have hfz112_1 := blk_frozen BK646.out 1; have hfz112_2 := blk_frozen BK646.out 2; have hfz112_3 := blk_frozen BK646.out 3) | ((with_reducible refine gate_builtin (b := .append) (xs := #[.tmp 85, .tmp 87]) rfl ?_); (try (refine gate_guard (by rfl) ?_; dsimp only)); at_builtin; refine Kd.R_append k93 (w0 := w) w.heap.size rfl (.tmp 85) (.tmp 87) 22 93 (.agg #[(.int .u8 0), (.int .i64 0), (.int .i64 0), (.int .u64 0)]) 32 rfl Try.underlying22 info93 rfl (by decide) (by omega) (.slice Ao109 x645001_2.length co109) x645001_2 (⟨(rd_T93 l0_1 x8_2).f0, rd x6_2 ((rd_T93 l0_1 x8_2).f1), rd x6_2 ((rd_T93 l0_1 x8_2).f2), (rd_T93 l0_1 x8_2).f3⟩ : S93) [.int .u8 ((rd_T93 l0_1 x8_2).f0), .int .i64 (rd x6_2 ((rd_T93 l0_1 x8_2).f1)), .int .i64 (rd x6_2 ((rd_T93 l0_1 x8_2).f2)), .int .u64 ((rd_T93 l0_1 x8_2).f3)] (fun k_ => k_ ≠ gb646) (fun _ => False) rfl rfl ?aP (fun _ hk => hk.elim) ?aF ?aO ?aB ?aS ?aL ?_; (case aP => exact k93_mkM _ _ _ (⟨(rd_T93 l0_1 x8_2).f0, rd x6_2 ((rd_T93 l0_1 x8_2).f1), rd x6_2 ((rd_T93 l0_1 x8_2).f2), (rd_T93 l0_1 x8_2).f3⟩ : S93)); (case aB => exact (by repeat (first | (with_reducible first | exact HB.out | apply below_alloc | apply pw_below_drewN | apply below_drew1 | refine below_set ?_ GE627.out | refine below_set ?_ GE628.out | refine below_set ?_ GE629.out | refine below_set ?_ GE644.out | refine below_set ?_ GE646.out) | exact HB.out))); (case aF => exact (fun k_ hk => Kd.freshB (g := gb646) (o := .cells #[.int .u8 ((rd_T93 l0_1 x8_2).f0), .int .i64 (rd x6_2 ((rd_T93 l0_1 x8_2).f1)), .int .i64 (rd x6_2 ((rd_T93 l0_1 x8_2).f2)), .int .u64 ((rd_T93 l0_1 x8_2).f3)] 93 (0, 0)) (by (with_reducible repeat (first | refine blk_drewN ?_ _ | refine blk_drew ?_ | refine blk_alloc ?_ _)); exact BK646.out) k_ hk)); (case aO => exact (by (with_reducible repeat (first | apply Kd.R_alloc | apply Kd.R_drewN | apply Kd.R_drew)); exact Kd.R_mono HO_645001.out (fun _ hk => hk.2))); (case aS => exact (below_size (by repeat (first | (with_reducible first | exact HB.out | apply below_alloc | apply pw_below_drewN | apply below_drew1 | refine below_set ?_ GE627.out | refine below_set ?_ GE628.out | refine below_set ?_ GE629.out | refine below_set ?_ GE644.out | refine below_set ?_ GE646.out) | exact HB.out)))); (case aL => have := LMc94.out; omega); intro v659 w113 ho hb hg hat; rw [← Ny658.out] at ho; have n0_ := Aside0.mk (blk_grown (g := gb627) (o := .cells #[.int .i64 a0_0, .slice (some ad645) l0_1.length c0_1, .slice A0_2 l0_2.length c0_2] 25 (0, 0)) (by (with_reducible repeat (first | refine blk_drewN ?_ _ | refine blk_drew ?_ | refine blk_alloc ?_ _)); exact BK627.out) hg (Kd.R_ne HO_645001.out BK627.out (by decide))); have n1_ := Aside0.mk (blk_grown (g := gb628) (o := .cells #[.int .i64 a1_0, .slice A1_1 l1_1.length c1_1, .slice A1_2 l1_2.length c1_2] 25 (0, 0)) (by (with_reducible repeat (first | refine blk_drewN ?_ _ | refine blk_drew ?_ | refine blk_alloc ?_ _)); exact BK628.out) hg (Kd.R_ne HO_645001.out BK628.out (by decide))); have n2_ := Aside0.mk (blk_grown (g := gb629) (o := .cells #[.int .i64 0, .slice none 0 0, .slice none 0 0] 25 (0, 0)) (by (with_reducible repeat (first | refine blk_drewN ?_ _ | refine blk_drew ?_ | refine blk_alloc ?_ _)); exact BK629.out) hg (Kd.R_ne HO_645001.out BK629.out (by decide))); have n3_ := Aside0.mk (blk_grown (g := gb644) (o := .cells #[.int .i64 a1_0, .slice Ao109 x645001_2.length co109, .slice none 0 0] 25 (0, 0)) (by (with_reducible repeat (first | refine blk_drewN ?_ _ | refine blk_drew ?_ | refine blk_alloc ?_ _)); exact BK644.out) hg (Kd.R_ne HO_645001.out BK644.out (by decide))); have n4_ := Aside0.mk (blk_grown (g := gb646) (o := .cells #[.int .u8 ((rd_T93 l0_1 x8_2).f0), .int .i64 (rd x6_2 ((rd_T93 l0_1 x8_2).f1)), .int .i64 (rd x6_2 ((rd_T93 l0_1 x8_2).f2)), .int .u64 ((rd_T93 l0_1 x8_2).f3)] 93 (0, 0)) (by (with_reducible repeat (first | refine blk_drewN ?_ _ | refine blk_drew ?_ | refine blk_alloc ?_ _)); exact BK646.out) hg (Kd.R_away HO_645001.out (fun _ hk => hk.2))); have n5_ := Aside0.mk (Kd.R_over' (by (with_reducible repeat (first | apply Kd.R_alloc | apply Kd.R_drewN | apply Kd.R_drew)); exact HO657.out) (Kd.R_typed (by (with_reducible repeat (first | apply Kd.R_alloc | apply Kd.R_drewN | apply Kd.R_drew)); exact HO_645001.out)) (by decide) hg); have n6_ := Aside0.mk (hb); have n7_ := Aside0.mk (ho); clear BK627; clear BK628; clear BK629; clear BK644; clear BK646; clear HO657; clear HB; clear HO_645001; have BK627 := n0_; have BK628 := n1_; have BK629 := n2_; have BK644 := n3_; have BK646 := n4_; have HO657 := n5_; have HB := n6_; have HO660 := n7_; clear n0_ n1_ n2_ n3_ n4_ n5_ n6_ n7_; clear ho hb hg hat; obtain ⟨Ao114, co114, eo114⟩ := Kd.R_slice HO660.out; subst eo114; have hcz115_0 : w113.cell? ⟨gb644, 0, none⟩ = some (.int .i64 a1_0) := (blk_cell BK644.out 0).trans rfl; have hcz115_1 : w113.cell? ⟨gb644, 1, none⟩ = some (.slice Ao109 x645001_2.length co109) := (blk_cell BK644.out 1).trans rfl; have hcz115_2 : w113.cell? ⟨gb644, 2, none⟩ = some (.slice none 0 0) := (blk_cell BK644.out 2).trans rfl; have hfz115_0 := blk_frozen BK644.out 0; have hfz115_1 := blk_frozen BK644.out 1; have hfz115_2 := blk_frozen BK644.out 2))
                                    go_roundg k2
                                    case measure => have := HJ2.out; have := HK2.out; omega
                                    case rel => exact ⟨(y655), (wrap64 (x8_2 + 1)), (y658), (.slice Ao114 y658.length co114), (by first | rfl | (simp; done) | (simp [*]; done)), H', ⟨by have := HJ2.out; have := HK2.out; omega⟩, ⟨by (with_reducible repeat (first | apply Kd.R_alloc | apply Kd.R_drewN | apply Kd.R_drew)); exact Kd.R_mono (Kd.R_far (p := ⟨gb644, 1, none⟩) (Kd.R_types HO657.out BK644.out (by decide)) (fun _ hk => hk.2) (.slice Ao114 y658.length co114)) (fun _ hk => trivial)⟩, ⟨by (with_reducible repeat (first | apply Kd.R_alloc | apply Kd.R_drewN | apply Kd.R_drew)); exact Kd.R_mono (Kd.R_far (p := ⟨gb644, 1, none⟩) (Kd.R_types HO660.out BK644.out (by decide)) (fun _ hk => hk.2) (.slice Ao114 y658.length co114)) (fun _ hk => trivial)⟩, ⟨by (with_reducible repeat (first | refine blk_drewN ?_ _ | refine blk_drew ?_ | refine blk_alloc ?_ _)); refine blk_far ?_ NB627_644.out _; (with_reducible repeat (first | refine blk_drewN ?_ _ | refine blk_drew ?_ | refine blk_alloc ?_ _)); exact BK627.out⟩, ⟨by (with_reducible repeat (first | refine blk_drewN ?_ _ | refine blk_drew ?_ | refine blk_alloc ?_ _)); refine blk_far ?_ NB628_644.out _; (with_reducible repeat (first | refine blk_drewN ?_ _ | refine blk_drew ?_ | refine blk_alloc ?_ _)); exact BK628.out⟩, ⟨by (with_reducible repeat (first | refine blk_drewN ?_ _ | refine blk_drew ?_ | refine blk_alloc ?_ _)); refine blk_far ?_ NB629_644.out _; (with_reducible repeat (first | refine blk_drewN ?_ _ | refine blk_drew ?_ | refine blk_alloc ?_ _)); exact BK629.out⟩, ⟨by (with_reducible repeat (first | refine blk_drewN ?_ _ | refine blk_drew ?_ | refine blk_alloc ?_ _)); refine blk_put (cs := #[.int .i64 a1_0, .slice Ao109 x645001_2.length co109, .slice none 0 0]) ?_ 1 _ rfl; (with_reducible repeat (first | refine blk_drewN ?_ _ | refine blk_drew ?_ | refine blk_alloc ?_ _)); exact BK644.out⟩, ⟨by repeat (first | (with_reducible first | exact HB.out | apply below_alloc | apply pw_below_drewN | apply below_drew1 | refine below_set ?_ GE627.out | refine below_set ?_ GE628.out | refine below_set ?_ GE629.out | refine below_set ?_ GE644.out | refine below_set ?_ GE646.out) | exact HB.out)⟩⟩
                                  · rw [if_neg c94] at H
                                    exact absurd H (by simp)
                                · rw [if_neg c93] at H
                                  exact absurd H (by simp)
                              · rw [if_neg c92] at H
                                exact absurd H (by simp)
                            · rw [if_neg c91] at H
                              exact absurd H (by simp)
                          · rw [if_neg c90] at H
                            exact absurd H (by simp)
                        · rw [if_neg c89] at H
                          exact absurd H (by simp)
                    · rw [if_neg c65] at H
                      exact absurd H (by simp)
                  · rw [if_neg c64] at H
                    have c64b0 : decide (x8_2 < (l0_1.length : Int)) = false := decide_eq_false c64
                    clear c64
                    have H' := Aside0.mk H
                    clear H
                    have hnb116 := NB627_628.out
                    have hnc116 := NB628_627.out
                    have hnb117 := NB627_629.out
                    have hnc117 := NB629_627.out
                    have hnb118 := NB627_644.out
                    have hnc118 := NB644_627.out
                    have hcz119_0 : wr.cell? ⟨gb627, 0, none⟩ = some (.int .i64 a0_0) := (blk_cell BK627.out 0).trans rfl
                    have hcz119_1 : wr.cell? ⟨gb627, 1, none⟩ = some (.slice A0_1 l0_1.length c0_1) := (blk_cell BK627.out 1).trans rfl
                    have hcz119_2 : wr.cell? ⟨gb627, 2, none⟩ = some (.slice A0_2 l0_2.length c0_2) := (blk_cell BK627.out 2).trans rfl
                    have hfz119_0 := blk_frozen BK627.out 0
                    have hfz119_1 := blk_frozen BK627.out 1
                    have hfz119_2 := blk_frozen BK627.out 2
                    go_wp2
                    go_loopg [10] k2 (fun kq v10 w' => ∃ (x10_3 : Int) (x645002_3 : List Int) (u645002 : Value), v10 = .int .i64 x10_3 ∧ Aside0 (conclaveref09_After.l1 kq x6_2 x10_3 a0_0 l0_1 l0_2 a1_0 x645001_2 x645002_3 = some (r1, r2, r3, r4)) ∧ Aside0 (kq ≤ k2) ∧ Aside0 (Kd.R (Kd.int .i64) 3 w' w.heap.size (fun k_ => some k_ ≠ (u645002 : Value).ownBlock) u6 x6_2) ∧ Aside0 (Kd.R k93 93 w' w.heap.size (fun _ => True) u645001 x645001_2) ∧ Aside0 (Kd.R (Kd.int .i64) 3 w' w.heap.size (fun k_ => some k_ ≠ (u6 : Value).ownBlock) u645002 x645002_3) ∧ Aside0 (w'.heap[gb627]? = some (.cells #[.int .i64 a0_0, (.slice A0_1 l0_1.length c0_1), (.slice A0_2 l0_2.length c0_2)] 25 (0, 0))) ∧ Aside0 (w'.heap[gb628]? = some (.cells #[.int .i64 a1_0, (.slice A1_1 l1_1.length c1_1), (.slice A1_2 l1_2.length c1_2)] 25 (0, 0))) ∧ Aside0 (w'.heap[gb629]? = some (.cells #[.int .i64 0, (.slice none 0 0), (.slice none 0 0)] 25 (0, 0))) ∧ Aside0 (w'.heap[gb644]? = some (.cells #[.int .i64 a1_0, u645001, u645002] 25 (0, 0))) ∧ Aside0 (Below w.heap.size w w'))
                    case atStart => exact ⟨(0), (([] : List Int)), (.slice none 0 0), (by first | rfl | (simp; done) | (simp [*]; done)), H', ⟨Nat.le_refl _⟩, ⟨by (with_reducible repeat (first | apply Kd.R_alloc | apply Kd.R_drewN | apply Kd.R_drew)); exact Kd.R_mono HO_6.out (fun _ hk => (by simp [Value.ownBlock]))⟩, ⟨by (with_reducible repeat (first | apply Kd.R_alloc | apply Kd.R_drewN | apply Kd.R_drew)); exact HO_645001.out⟩, ⟨by first | exact Kd.R_nil _ _ _ _ _ | exact Kd.N_nil _ _ _ _ _ | exact Kd.V_nil _ _ _ _ _ | exact Kd.Q_nil _ _ _ _ _ | exact Kd.S_nil _ _ _ _ _⟩, ⟨by (with_reducible repeat (first | refine blk_drewN ?_ _ | refine blk_drew ?_ | refine blk_alloc ?_ _)); exact BK627.out⟩, ⟨by (with_reducible repeat (first | refine blk_drewN ?_ _ | refine blk_drew ?_ | refine blk_alloc ?_ _)); exact BK628.out⟩, ⟨by (with_reducible repeat (first | refine blk_drewN ?_ _ | refine blk_drew ?_ | refine blk_alloc ?_ _)); exact BK629.out⟩, ⟨by (with_reducible repeat (first | refine blk_drewN ?_ _ | refine blk_drew ?_ | refine blk_alloc ?_ _)); exact BK644.out⟩, ⟨by repeat (first | (with_reducible first | exact HB.out | apply below_alloc | apply pw_below_drewN | apply below_drew1 | refine below_set ?_ GE627.out | refine below_set ?_ GE628.out | refine below_set ?_ GE629.out | refine below_set ?_ GE644.out) | exact HB.out)⟩⟩
                    case round =>
                      clear H'
                      try clear c1
                      try clear p2
                      try clear c3
                      try clear c4
                      try clear c6
                      try clear p6
                      try clear q6
                      try clear hx6
                      try clear c7
                      try clear c8
                      try clear c9
                      try clear c10
                      try clear c11
                      try clear c31
                      try clear c32
                      try clear c33
                      try clear c35
                      try clear c35b0
                      try clear c36
                      try clear c37
                      try clear c39
                      try clear c42
                      try clear c43
                      try clear c44
                      try clear c45
                      try clear c47
                      try clear c64
                      try clear c64b0
                      try clear p64
                      try clear q64
                      try clear hx64
                      try clear c65
                      try clear c65b0
                      try clear p65
                      try clear q65
                      try clear hx65
                      try clear c66
                      try clear c66b0
                      try clear c66b1
                      try clear c67
                      try clear c68
                      try clear c69
                      try clear c70
                      try clear c71
                      try clear c74
                      try clear c75
                      try clear c76
                      try clear c77
                      try clear c79
                      try clear c80
                      try clear c89
                      try clear c89b0
                      try clear c90
                      try clear c90b0
                      try clear c91
                      try clear c91b0
                      try clear c92
                      try clear c92b0
                      try clear c93
                      try clear c94
                      try clear c95
                      try clear c96
                      try clear c97
                      try clear c100
                      try clear c101
                      try clear c102
                      try clear c103
                      try clear c106
                      try clear c107
                      try clear c116
                      try clear c117
                      try clear c118
                      try clear hcz104_0
                      try clear hcz104_1
                      try clear hcz104_2
                      try clear hcz104_3
                      try clear hcz108_0
                      try clear hcz108_1
                      try clear hcz108_2
                      try clear hcz111_0
                      try clear hcz111_1
                      try clear hcz111_2
                      try clear hcz112_0
                      try clear hcz112_1
                      try clear hcz112_2
                      try clear hcz112_3
                      try clear hcz115_0
                      try clear hcz115_1
                      try clear hcz115_2
                      try clear hcz119_0
                      try clear hcz119_1
                      try clear hcz119_2
                      try clear hcz34_0
                      try clear hcz34_1
                      try clear hcz34_2
                      try clear hcz38_0
                      try clear hcz38_1
                      try clear hcz38_2
                      try clear hcz40_0
                      try clear hcz40_1
                      try clear hcz40_2
                      try clear hcz41_0
                      try clear hcz41_1
                      try clear hcz41_2
                      try clear hcz46_0
                      try clear hcz46_1
                      try clear hcz46_2
                      try clear hcz48_0
                      try clear hcz48_1
                      try clear hcz48_2
                      try clear hcz51_0
                      try clear hcz51_1
                      try clear hcz51_2
                      try clear hcz72_0
                      try clear hcz72_1
                      try clear hcz72_2
                      try clear hcz78_0
                      try clear hcz78_1
                      try clear hcz78_2
                      try clear hcz78_3
                      try clear hcz81_0
                      try clear hcz81_1
                      try clear hcz81_2
                      try clear hcz84_0
                      try clear hcz84_1
                      try clear hcz84_2
                      try clear hcz85_0
                      try clear hcz85_1
                      try clear hcz85_2
                      try clear hcz85_3
                      try clear hcz88_0
                      try clear hcz88_1
                      try clear hcz88_2
                      try clear hcz98_0
                      try clear hcz98_1
                      try clear hcz98_2
                      try clear hfz104_0
                      try clear hfz104_1
                      try clear hfz104_2
                      try clear hfz104_3
                      try clear hfz108_0
                      try clear hfz108_1
                      try clear hfz108_2
                      try clear hfz111_0
                      try clear hfz111_1
                      try clear hfz111_2
                      try clear hfz112_0
                      try clear hfz112_1
                      try clear hfz112_2
                      try clear hfz112_3
                      try clear hfz115_0
                      try clear hfz115_1
                      try clear hfz115_2
                      try clear hfz119_0
                      try clear hfz119_1
                      try clear hfz119_2
                      try clear hfz34_0
                      try clear hfz34_1
                      try clear hfz34_2
                      try clear hfz38_0
                      try clear hfz38_1
                      try clear hfz38_2
                      try clear hfz40_0
                      try clear hfz40_1
                      try clear hfz40_2
                      try clear hfz41_0
                      try clear hfz41_1
                      try clear hfz41_2
                      try clear hfz46_0
                      try clear hfz46_1
                      try clear hfz46_2
                      try clear hfz48_0
                      try clear hfz48_1
                      try clear hfz48_2
                      try clear hfz51_0
                      try clear hfz51_1
                      try clear hfz51_2
                      try clear hfz72_0
                      try clear hfz72_1
                      try clear hfz72_2
                      try clear hfz78_0
                      try clear hfz78_1
                      try clear hfz78_2
                      try clear hfz78_3
                      try clear hfz81_0
                      try clear hfz81_1
                      try clear hfz81_2
                      try clear hfz84_0
                      try clear hfz84_1
                      try clear hfz84_2
                      try clear hfz85_0
                      try clear hfz85_1
                      try clear hfz85_2
                      try clear hfz85_3
                      try clear hfz88_0
                      try clear hfz88_1
                      try clear hfz88_2
                      try clear hfz98_0
                      try clear hfz98_1
                      try clear hfz98_2
                      try clear hx645_0
                      try clear hx645_1
                      try clear hx645_2
                      try clear hx645_3
                      try clear hx653_0
                      try clear hx654_0
                      try clear p2
                      try clear p6
                      try clear p645
                      try clear p653
                      try clear p654
                      try clear q645
                      try clear q653
                      try clear q654
                      obtain ⟨x10_3, x645002_3, u645002, rfl, HA, HK3, HO_6, HO_645001, HO_645002, BK627, BK628, BK629, BK644, HB⟩ := hrel
                      cases gk with
                      | zero => exact absurd HA.out (by simp [conclaveref09_After.l1])
                      | succ k3 =>
                        have H := HA.out
                        clear HA
                        simp only [conclaveref09_After.l1] at H
                        by_cases c120 : x10_3 < (l0_2.length : Int)
                        · rw [if_pos c120] at H
                          have c120b0 : decide (x10_3 < (l0_2.length : Int)) = true := decide_eq_true c120
                          clear c120
                          by_cases c121 : 0 ≤ x10_3
                          · rw [if_pos c121] at H
                            have c121b0 : decide (0 ≤ x10_3) = true := decide_eq_true c121
                            clear c121
                            by_cases c122 : 0 ≤ (rd l0_2 x10_3)
                            · rw [if_pos c122] at H
                              have c122b0 : decide (0 ≤ (rd l0_2 x10_3)) = true := decide_eq_true c122
                              clear c122
                              by_cases c123 : (rd l0_2 x10_3) < (x6_2.length : Int)
                              · rw [if_pos c123] at H
                                have c123b0 : decide ((rd l0_2 x10_3) < (x6_2.length : Int)) = true := decide_eq_true c123
                                clear c123
                                by_cases c124 : x645002_3.length < 17592186044416
                                · rw [if_pos c124] at H
                                  have LMc124 := Aside0.mk c124
                                  clear c124
                                  obtain ⟨y663, hy663⟩ : ∃ y_ : List Int, y_ = (x645002_3 ++ [rd x6_2 (rd l0_2 x10_3)]) := ⟨_, rfl⟩
                                  replace H : (conclaveref09_After.l1 k3 x6_2 (wrap64 (x10_3 + 1)) a0_0 l0_1 l0_2 a1_0 x645001_2 y663) = some (r1, r2, r3, r4) := by first | (rw [hy663]; with_reducible exact H) | (have H2_ := (Option.bind_some _ _).symm.trans H; rw [hy663]; with_reducible exact H2_) | (have H2_ := (Option.bind_some _ _).symm.trans H; with_reducible exact H2_) | with_reducible exact H | (rw [hy663]; exact H) | exact H
                                  have Ny663 := Aside0.mk hy663
                                  clear hy663
                                  have H' := Aside0.mk H
                                  clear H
                                  have hnb125 := NB627_628.out
                                  have hnc125 := NB628_627.out
                                  have hnb126 := NB627_629.out
                                  have hnc126 := NB629_627.out
                                  have hnb127 := NB627_644.out
                                  have hnc127 := NB644_627.out
                                  have hcz128_0 : wr.cell? ⟨gb627, 0, none⟩ = some (.int .i64 a0_0) := (blk_cell BK627.out 0).trans rfl
                                  have hcz128_1 : wr.cell? ⟨gb627, 1, none⟩ = some (.slice A0_1 l0_1.length c0_1) := (blk_cell BK627.out 1).trans rfl
                                  have hcz128_2 : wr.cell? ⟨gb627, 2, none⟩ = some (.slice A0_2 l0_2.length c0_2) := (blk_cell BK627.out 2).trans rfl
                                  have hfz128_0 := blk_frozen BK627.out 0
                                  have hfz128_1 := blk_frozen BK627.out 1
                                  have hfz128_2 := blk_frozen BK627.out 2
                                  try go_wp2
                                  have n0_ := Aside0.mk (Kd.R_drew HO_6.out)
                                  have n1_ := Aside0.mk (Kd.R_drew HO_645001.out)
                                  have n2_ := Aside0.mk (Kd.R_drew HO_645002.out)
                                  have n3_ := Aside0.mk (blk_drew BK627.out)
                                  have n4_ := Aside0.mk (blk_drew BK628.out)
                                  have n5_ := Aside0.mk (blk_drew BK629.out)
                                  have n6_ := Aside0.mk (blk_drew BK644.out)
                                  have n7_ := Aside0.mk (below_drew1 HB.out)
                                  clear HO_6
                                  clear HO_645001
                                  clear HO_645002
                                  clear BK627
                                  clear BK628
                                  clear BK629
                                  clear BK644
                                  clear HB
                                  have HO_6 := n0_
                                  have HO_645001 := n1_
                                  have HO_645002 := n2_
                                  have BK627 := n3_
                                  have BK628 := n4_
                                  have BK629 := n5_
                                  have BK644 := n6_
                                  have HB := n7_
                                  clear n0_ n1_ n2_ n3_ n4_ n5_ n6_ n7_
                                  have p661 : 0 ≤ (x10_3 : Int) := of_decide_eq_true (by first | (with_reducible assumption) | assumption)
                                  have q661 : x10_3 < (l0_2.length : Int) := of_decide_eq_true (by first | (with_reducible assumption) | assumption)
                                  obtain ⟨ad661, e661, hx661_0⟩ := Kd.at_int HR0_2.out x10_3 p661 q661
                                  have hw661_0 := hx661_0
                                  cases e661
                                  replace hx661_0 := (HB.out.cell (World.block_lt_of_cell? w _ hx661_0)).trans hx661_0
                                  replace p661 := eq_true p661
                                  replace q661 := eq_true q661
                                  obtain ⟨Ao130, co130, eo130⟩ := Kd.R_slice HO_6.out
                                  (first | subst eo130 | (injection eo130 with f1_ f2_ f3_; have f4_ := f1_.symm; have f5_ := f3_.symm; clear f1_ f2_ f3_; subst f4_; subst f5_))
                                  have p662 : 0 ≤ ((rd l0_2 x10_3) : Int) := of_decide_eq_true (by first | (with_reducible assumption) | assumption)
                                  have q662 : (rd l0_2 x10_3) < (x6_2.length : Int) := of_decide_eq_true (by first | (with_reducible assumption) | assumption)
                                  obtain ⟨ad662, e662, hx662_0⟩ := Kd.at_int (Kd.R_reads' HO_6.out).2.2 (rd l0_2 x10_3) p662 q662
                                  cases e662
                                  replace p662 := eq_true p662
                                  replace q662 := eq_true q662
                                  refine start_ (n := 14) (S := fun w' => w'.cell? ⟨gb644, 0, none⟩ = some (.int .i64 a1_0) ∧ w'.cell? ⟨gb644, 1, none⟩ = some (u645001) ∧ w'.cell? ⟨gb644, 2, none⟩ = some (u645002) ∧ w'.cell? ⟨gb627, 0, none⟩ = some (.int .i64 a0_0) ∧ w'.cell? ⟨gb627, 1, none⟩ = some (.slice A0_1 l0_1.length c0_1) ∧ w'.cell? ⟨gb627, 2, none⟩ = some (.slice (some ad661) l0_2.length c0_2) ∧ w'.cell? (ad661.add (x10_3).toNat) = some (.int .i64 (rd l0_2 x10_3)) ∧ w'.cell? (ad662.add ((rd l0_2 x10_3)).toNat) = some (.int .i64 (rd x6_2 (rd l0_2 x10_3)))) (ds := [11, 13]) #[false, false, false, false, false, false, false, false, false, false, false, false, false, false] (by kernel_rfl) rfl rfl ⟨(blk_cell BK644.out 0).trans rfl, (blk_cell BK644.out 1).trans rfl, (blk_cell BK644.out 2).trans rfl, (blk_cell BK627.out 0).trans rfl, (blk_cell BK627.out 1).trans rfl, (blk_cell BK627.out 2).trans rfl, ((HB.out.cell (World.block_lt_of_cell? w _ hw661_0)).trans hw661_0), hx662_0⟩ (fun hHeld => ?_); refine with_tabW conclaveref09_After.tab18 conclaveref09_After.bits18 (fun HT_ HW_ => ?_)
                                  generalize wr.drew = w129 at HO_6 HO_645001 HO_645002 BK627 BK628 BK629 BK644 HB hx661_0 hx662_0 hHeld ⊢
                                  refine pure_ (i := 0) (N := some 97) (v := ?_) (a' := ?_) #[true, false, false, false, false, false, false, false, false, false, false, false, false, false] rfl rfl (any_of HT_.out (by kernel_rfl)) (fun _ _ _ h => h) (Or.inl ⟨by rfl, ?_⟩) ?_ ?_
                                  rotate_left
                                  · intro w'
                                    go_simp
                                    with_reducible rfl
                                  rotate_left
                                  · simp only [Act.put, List.setIfInBounds_toArray, List.set_cons_zero, List.set_cons_succ, i64_w, i32_w]
                                    rfl
                                  refine pure_ (i := 2) (N := some 99) (v := ?_) (a' := ?_) #[true, false, true, false, false, false, false, false, false, false, false, false, false, false] rfl rfl (any_of HT_.out (by kernel_rfl)) (fun _ _ _ h => h) (Or.inl ⟨by rfl, ?_⟩) ?_ ?_
                                  rotate_left
                                  · intro w'
                                    go_simp
                                    with_reducible rfl
                                  rotate_left
                                  · simp only [Act.put, List.setIfInBounds_toArray, List.set_cons_zero, List.set_cons_succ, i64_w, i32_w]
                                    rfl
                                  refine pure_ (i := 3) (N := some 100) (v := ?_) (a' := ?_) #[true, false, true, true, false, false, false, false, false, false, false, false, false, false] rfl rfl (any_of HT_.out (by kernel_rfl)) (fun _ _ _ h => h) (Or.inl ⟨by rfl, ?_⟩) ?_ ?_
                                  rotate_left
                                  · intro w'
                                    go_simp
                                    with_reducible rfl
                                  rotate_left
                                  · simp only [Act.put, List.setIfInBounds_toArray, List.set_cons_zero, List.set_cons_succ, i64_w, i32_w]
                                    rfl
                                  refine pure_ (i := 5) (N := some 102) (v := ?_) (a' := ?_) #[true, false, true, true, false, true, false, false, false, false, false, false, false, false] rfl rfl (any_of HT_.out (by kernel_rfl)) (fun _ _ _ h => h) (Or.inl ⟨by rfl, ?_⟩) ?_ ?_
                                  rotate_left
                                  · intro w'
                                    go_simp
                                    with_reducible rfl
                                  rotate_left
                                  · simp only [Act.put, List.setIfInBounds_toArray, List.set_cons_zero, List.set_cons_succ, i64_w, i32_w]
                                    rfl
                                  refine take_ (i := 1) (N := some 98) (v := ?_) (a' := ?_) #[true, true, true, true, false, true, false, false, false, false, false, false, false, false] rfl rfl (take_ofW HT_.out HW_.out (by kernel_rfl)) (fun _ _ _ h => h) (Or.inl ⟨by rfl, ?_⟩) hHeld ?_ ?_
                                  rotate_left
                                  · rintro w' ⟨s0, s1, s2, s3, s4, s5, s6, s7⟩
                                    go_simp
                                    with_reducible rfl
                                  rotate_left
                                  · simp only [Act.put, List.setIfInBounds_toArray, List.set_cons_zero, List.set_cons_succ, i64_w, i32_w]
                                    rfl
                                  refine take_ (i := 4) (N := some 101) (v := ?_) (a' := ?_) #[true, true, true, true, true, true, false, false, false, false, false, false, false, false] rfl rfl (take_ofW HT_.out HW_.out (by kernel_rfl)) (fun _ _ _ h => h) (Or.inl ⟨by rfl, ?_⟩) hHeld ?_ ?_
                                  rotate_left
                                  · rintro w' ⟨s0, s1, s2, s3, s4, s5, s6, s7⟩
                                    go_simp
                                    with_reducible rfl
                                  rotate_left
                                  · simp only [Act.put, List.setIfInBounds_toArray, List.set_cons_zero, List.set_cons_succ, i64_w, i32_w]
                                    rfl
                                  refine pure_ (i := 6) (N := some 103) (v := ?_) (a' := ?_) #[true, true, true, true, true, true, true, false, false, false, false, false, false, false] rfl rfl (any_of HT_.out (by kernel_rfl)) (fun _ _ _ h => h) (Or.inl ⟨by rfl, ?_⟩) ?_ ?_
                                  rotate_left
                                  · intro w'
                                    go_simp
                                    with_reducible rfl
                                  rotate_left
                                  · simp only [Act.put, List.setIfInBounds_toArray, List.set_cons_zero, List.set_cons_succ, i64_w, i32_w]
                                    rfl
                                  refine take_ (i := 7) (N := some 104) (v := ?_) (a' := ?_) #[true, true, true, true, true, true, true, true, false, false, false, false, false, false] rfl rfl (take_ofW HT_.out HW_.out (by kernel_rfl)) (fun _ _ _ h => h) (Or.inl ⟨by rfl, ?_⟩) hHeld ?_ ?_
                                  rotate_left
                                  · rintro w' ⟨s0, s1, s2, s3, s4, s5, s6, s7⟩
                                    go_simp
                                    with_reducible rfl
                                  rotate_left
                                  · simp only [Act.put, List.setIfInBounds_toArray, List.set_cons_zero, List.set_cons_succ, i64_w, i32_w]
                                    rfl
                                  refine pure_ (i := 8) (N := some 105) (v := ?_) (a' := ?_) #[true, true, true, true, true, true, true, true, true, false, false, false, false, false] rfl rfl (any_of HT_.out (by kernel_rfl)) (fun _ _ _ h => h) (Or.inl ⟨by rfl, ?_⟩) ?_ ?_
                                  rotate_left
                                  · intro w'
                                    go_simp
                                    with_reducible rfl
                                  rotate_left
                                  · simp only [Act.put, List.setIfInBounds_toArray, List.set_cons_zero, List.set_cons_succ, i64_w, i32_w]
                                    rfl
                                  refine take_ (i := 9) (N := some 106) (v := ?_) (a' := ?_) #[true, true, true, true, true, true, true, true, true, true, false, false, false, false] rfl rfl (take_ofW HT_.out HW_.out (by kernel_rfl)) (fun _ _ _ h => h) (Or.inl ⟨by rfl, ?_⟩) hHeld ?_ ?_
                                  rotate_left
                                  · rintro w' ⟨s0, s1, s2, s3, s4, s5, s6, s7⟩
                                    go_simp
                                    with_reducible rfl
                                  rotate_left
                                  · simp only [Act.put, List.setIfInBounds_toArray, List.set_cons_zero, List.set_cons_succ, i64_w, i32_w]
                                    rfl
                                  refine one_ (i := 10) (N := some 107) #[true, true, true, true, true, true, true, true, true, true, true, false, false, false] rfl rfl (one_of HT_.out (by kernel_rfl)) (by decide) (fun K hK => ?_)
                                  refine value_ (w1 := ?_) (v := ?_) (by rfl) rfl ?_ ?_
                                  rotate_left 2
                                  · go_simp
                                    constructor
                                    · rfl
                                    · rfl
                                  refine hK.out _ _ ⟨(blk_cell (blk_alloc BK644.out _) 0).trans rfl, (blk_cell (blk_alloc BK644.out _) 1).trans rfl, (blk_cell (blk_alloc BK644.out _) 2).trans rfl, (blk_cell (blk_alloc BK627.out _) 0).trans rfl, (blk_cell (blk_alloc BK627.out _) 1).trans rfl, (blk_cell (blk_alloc BK627.out _) 2).trans rfl, (World.cell?_alloc_lt _ _ _ (World.block_lt_of_cell? _ _ (((HB.out.cell (World.block_lt_of_cell? w _ hw661_0)).trans hw661_0)))).trans (((HB.out.cell (World.block_lt_of_cell? w _ hw661_0)).trans hw661_0)), (World.cell?_alloc_lt _ _ _ (World.block_lt_of_cell? _ _ (hHeld.2.2.2.2.2.2.2))).trans (hHeld.2.2.2.2.2.2.2)⟩ (fun hHeld => ?_)
                                  clear hK K
                                  refine norm_ (a' := ?_) ?_ ?_
                                  rotate_left
                                  · show Act.put _ (some 107) _ = _
                                    simp only [Act.put, List.setIfInBounds_toArray, List.set_cons_zero, List.set_cons_succ, i64_w, i32_w]
                                    rfl
                                  refine last_ (i := 11) (N := some 108) #[true, true, true, true, true, true, true, true, true, true, true, true, false, false] rfl rfl (one_of HT_.out (by kernel_rfl)) (by decide) (fun K hK => ?_)
                                  refine Kd.R_append_step (Kd.int .i64) (w0 := w) w.heap.size (by rfl) (.tmp 98) (.tmp 107) 23 3 (.int .i64 0) 8 rfl Try.underlying23 info3 rfl (by decide) (by omega) u645002 x645002_3 (rd x6_2 (rd l0_2 x10_3)) [.int .i64 (rd x6_2 (rd l0_2 x10_3))] (fun k_ => some k_ ≠ (.slice (some ad662) x6_2.length co130 : Value).ownBlock) (fun _ => False) rfl rfl ?aP (fun _ hk => hk.elim) ?aF ?aO ?aB ?aS ?aL ?_
                                  (case aP => exact rfl)
                                  (case aB => exact (by repeat (first | (with_reducible first | exact HB.out | apply below_alloc | apply pw_below_drewN | apply below_drew1 | refine below_set ?_ GE627.out | refine below_set ?_ GE628.out | refine below_set ?_ GE629.out | refine below_set ?_ GE644.out) | exact HB.out)))
                                  (case aF => exact (fun k_ hk => Kd.fresh' (Kd.R_lt (by (with_reducible repeat (first | apply Kd.R_alloc | apply Kd.R_drewN | apply Kd.R_drew)); exact HO_6.out)) k_ hk))
                                  (case aO => exact (by (with_reducible repeat (first | apply Kd.R_alloc | apply Kd.R_drewN | apply Kd.R_drew)); exact HO_645002.out))
                                  (case aS => exact (below_size (by repeat (first | (with_reducible first | exact HB.out | apply below_alloc | apply pw_below_drewN | apply below_drew1 | refine below_set ?_ GE627.out | refine below_set ?_ GE628.out | refine below_set ?_ GE629.out | refine below_set ?_ GE644.out) | exact HB.out))))
                                  (case aL => have := LMc124.out; omega)
                                  intro v664 w131 ho hb hg hat
                                  rw [← Ny663.out] at ho
                                  have n0_ := Aside0.mk (Kd.R_after (ok := (fun _ => True)) (by (with_reducible repeat (first | apply Kd.R_alloc | apply Kd.R_drewN | apply Kd.R_drew)); exact Kd.R_mono HO_6.out (fun _ hk => ⟨trivial, hk⟩)) hg hat)
                                  have n1_ := Aside0.mk (Kd.R_over' (by (with_reducible repeat (first | apply Kd.R_alloc | apply Kd.R_drewN | apply Kd.R_drew)); exact HO_645001.out) (Kd.R_typed (by (with_reducible repeat (first | apply Kd.R_alloc | apply Kd.R_drewN | apply Kd.R_drew)); exact HO_645002.out)) (by decide) hg)
                                  have n2_ := Aside0.mk (blk_grown (g := gb627) (o := .cells #[.int .i64 a0_0, .slice A0_1 l0_1.length c0_1, .slice (some ad661) l0_2.length c0_2] 25 (0, 0)) (by (with_reducible repeat (first | refine blk_drewN ?_ _ | refine blk_drew ?_ | refine blk_alloc ?_ _)); exact BK627.out) hg (Kd.R_ne HO_645002.out BK627.out (by decide)))
                                  have n3_ := Aside0.mk (blk_grown (g := gb628) (o := .cells #[.int .i64 a1_0, .slice A1_1 l1_1.length c1_1, .slice A1_2 l1_2.length c1_2] 25 (0, 0)) (by (with_reducible repeat (first | refine blk_drewN ?_ _ | refine blk_drew ?_ | refine blk_alloc ?_ _)); exact BK628.out) hg (Kd.R_ne HO_645002.out BK628.out (by decide)))
                                  have n4_ := Aside0.mk (blk_grown (g := gb629) (o := .cells #[.int .i64 0, .slice none 0 0, .slice none 0 0] 25 (0, 0)) (by (with_reducible repeat (first | refine blk_drewN ?_ _ | refine blk_drew ?_ | refine blk_alloc ?_ _)); exact BK629.out) hg (Kd.R_ne HO_645002.out BK629.out (by decide)))
                                  have n5_ := Aside0.mk (blk_grown (g := gb644) (o := .cells #[.int .i64 a1_0, u645001, u645002] 25 (0, 0)) (by (with_reducible repeat (first | refine blk_drewN ?_ _ | refine blk_drew ?_ | refine blk_alloc ?_ _)); exact BK644.out) hg (Kd.R_ne HO_645002.out BK644.out (by decide)))
                                  have n6_ := Aside0.mk (hb)
                                  have n7_ := Aside0.mk (ho)
                                  clear HO_6
                                  clear HO_645001
                                  clear BK627
                                  clear BK628
                                  clear BK629
                                  clear BK644
                                  clear HB
                                  clear HO_645002
                                  have HO_6 := n0_
                                  have HO_645001 := n1_
                                  have BK627 := n2_
                                  have BK628 := n3_
                                  have BK629 := n4_
                                  have BK644 := n5_
                                  have HB := n6_
                                  have HO665 := n7_
                                  clear n0_ n1_ n2_ n3_ n4_ n5_ n6_ n7_
                                  clear ho hb hg hat
                                  obtain ⟨Ao132, co132, eo132⟩ := Kd.R_slice HO665.out
                                  (first | subst eo132 | (injection eo132 with f1_ f2_ f3_; have f4_ := f1_.symm; have f5_ := f3_.symm; clear f1_ f2_ f3_; subst f4_; subst f5_))
                                  refine hK.out _ _ ?_
                                  clear hK K
                                  refine norm_ (a' := ?_) ?_ ?_
                                  rotate_left
                                  · show Act.put _ (some 108) _ = _
                                    simp only [Act.put, List.setIfInBounds_toArray, List.set_cons_zero, List.set_cons_succ, i64_w, i32_w]
                                    rfl
                                  refine pure_ (i := 12) (N := some 109) (v := ?_) (a' := ?_) #[true, true, true, true, true, true, true, true, true, true, true, true, true, false] rfl rfl (any_of HT_.out (by kernel_rfl)) (fun _ _ _ h => h) (Or.inl ⟨by rfl, ?_⟩) ?_ ?_
                                  rotate_left
                                  · intro w'
                                    go_simp
                                    with_reducible rfl
                                  rotate_left
                                  · simp only [Act.put, List.setIfInBounds_toArray, List.set_cons_zero, List.set_cons_succ, i64_w, i32_w]
                                    rfl
                                  refine last_ (i := 13) (N := none) #[true, true, true, true, true, true, true, true, true, true, true, true, true, true] rfl rfl (one_of HT_.out (by kernel_rfl)) (by decide) (fun K hK => ?_)
                                  have hs133 : w131.cell? ⟨gb644, 2, none⟩ = some (u645002) := (blk_cell BK644.out 2).trans rfl
                                  have hfs133 := blk_frozen BK644.out 2
                                  have hns133_0 := NB627_644.out
                                  have hns133_1 := NB628_644.out
                                  have hns133_2 := NB629_644.out
                                  have hms133_0 := NB644_627.out
                                  have hms133_1 := NB644_628.out
                                  have hms133_2 := NB644_629.out
                                  refine skip_ (w1 := ?_) (by rfl) rfl ?_ ?_
                                  rotate_left
                                  · go_simp
                                    rfl
                                  refine hK.out _ _ ?_
                                  clear hK K
                                  refine done_ (done_of HT_.out (by kernel_rfl)) ?_
                                  try go_wp2
                                  go_roundg k3
                                  case measure => have := HJ2.out; have := HK2.out; have := HK3.out; omega
                                  case rel => exact ⟨(wrap64 (x10_3 + 1)), (y663), (.slice Ao132 y663.length co132), (by first | rfl | (simp; done) | (simp [*]; done)), H', ⟨by have := HJ2.out; have := HK2.out; have := HK3.out; omega⟩, ⟨by (with_reducible repeat (first | apply Kd.R_alloc | apply Kd.R_drewN | apply Kd.R_drew)); exact Kd.R_mono (Kd.R_far (p := ⟨gb644, 2, none⟩) (Kd.R_types HO_6.out BK644.out (by decide)) (fun _ hk => hk.2) (.slice Ao132 y663.length co132)) (fun _ hk => hk.1.2)⟩, ⟨by (with_reducible repeat (first | apply Kd.R_alloc | apply Kd.R_drewN | apply Kd.R_drew)); exact Kd.R_mono (Kd.R_far (p := ⟨gb644, 2, none⟩) (Kd.R_types HO_645001.out BK644.out (by decide)) (fun _ hk => hk.2) (.slice Ao132 y663.length co132)) (fun _ hk => trivial)⟩, ⟨by (with_reducible repeat (first | apply Kd.R_alloc | apply Kd.R_drewN | apply Kd.R_drew)); exact Kd.R_mono (Kd.R_far (p := ⟨gb644, 2, none⟩) (Kd.R_types HO665.out BK644.out (by decide)) (fun _ hk => hk.2) (.slice Ao132 y663.length co132)) (fun _ hk => hk.1)⟩, ⟨by (with_reducible repeat (first | refine blk_drewN ?_ _ | refine blk_drew ?_ | refine blk_alloc ?_ _)); refine blk_far ?_ NB627_644.out _; (with_reducible repeat (first | refine blk_drewN ?_ _ | refine blk_drew ?_ | refine blk_alloc ?_ _)); exact BK627.out⟩, ⟨by (with_reducible repeat (first | refine blk_drewN ?_ _ | refine blk_drew ?_ | refine blk_alloc ?_ _)); refine blk_far ?_ NB628_644.out _; (with_reducible repeat (first | refine blk_drewN ?_ _ | refine blk_drew ?_ | refine blk_alloc ?_ _)); exact BK628.out⟩, ⟨by (with_reducible repeat (first | refine blk_drewN ?_ _ | refine blk_drew ?_ | refine blk_alloc ?_ _)); refine blk_far ?_ NB629_644.out _; (with_reducible repeat (first | refine blk_drewN ?_ _ | refine blk_drew ?_ | refine blk_alloc ?_ _)); exact BK629.out⟩, ⟨by (with_reducible repeat (first | refine blk_drewN ?_ _ | refine blk_drew ?_ | refine blk_alloc ?_ _)); refine blk_put (cs := #[.int .i64 a1_0, u645001, u645002]) ?_ 2 _ rfl; (with_reducible repeat (first | refine blk_drewN ?_ _ | refine blk_drew ?_ | refine blk_alloc ?_ _)); exact BK644.out⟩, ⟨by repeat (first | (with_reducible first | exact HB.out | apply below_alloc | apply pw_below_drewN | apply below_drew1 | refine below_set ?_ GE627.out | refine below_set ?_ GE628.out | refine below_set ?_ GE629.out | refine below_set ?_ GE644.out) | exact HB.out)⟩⟩
                                · rw [if_neg c124] at H
                                  exact absurd H (by simp)
                              · rw [if_neg c123] at H
                                exact absurd H (by simp)
                            · rw [if_neg c122] at H
                              exact absurd H (by simp)
                          · rw [if_neg c121] at H
                            exact absurd H (by simp)
                        · rw [if_neg c120] at H
                          have c120b0 : decide (x10_3 < (l0_2.length : Int)) = false := decide_eq_false c120
                          clear c120
                          simp only [Option.some.injEq, Prod.mk.injEq] at H
                          obtain ⟨rfl, rfl, rfl, rfl⟩ := H
                          have hnb134 := NB627_628.out
                          have hnc134 := NB628_627.out
                          have hnb135 := NB627_629.out
                          have hnc135 := NB629_627.out
                          have hnb136 := NB627_644.out
                          have hnc136 := NB644_627.out
                          have hcz137_0 : wr.cell? ⟨gb627, 0, none⟩ = some (.int .i64 a0_0) := (blk_cell BK627.out 0).trans rfl
                          have hcz137_1 : wr.cell? ⟨gb627, 1, none⟩ = some (.slice A0_1 l0_1.length c0_1) := (blk_cell BK627.out 1).trans rfl
                          have hcz137_2 : wr.cell? ⟨gb627, 2, none⟩ = some (.slice A0_2 l0_2.length c0_2) := (blk_cell BK627.out 2).trans rfl
                          have hfz137_0 := blk_frozen BK627.out 0
                          have hfz137_1 := blk_frozen BK627.out 1
                          have hfz137_2 := blk_frozen BK627.out 2
                          have hnb138 := NB644_628.out
                          have hnc138 := NB628_644.out
                          have hnb139 := NB644_629.out
                          have hnc139 := NB629_644.out
                          have hcz140_0 : wr.cell? ⟨gb644, 0, none⟩ = some (.int .i64 a1_0) := (blk_cell BK644.out 0).trans rfl
                          have hcz140_1 : wr.cell? ⟨gb644, 1, none⟩ = some (u645001) := (blk_cell BK644.out 1).trans rfl
                          have hcz140_2 : wr.cell? ⟨gb644, 2, none⟩ = some (u645002) := (blk_cell BK644.out 2).trans rfl
                          have hfz140_0 := blk_frozen BK644.out 0
                          have hfz140_1 := blk_frozen BK644.out 1
                          have hfz140_2 := blk_frozen BK644.out 2
                          have hnb141 := NB629_628.out
                          have hnc141 := NB628_629.out
                          have hcz142_0 : wr.cell? ⟨gb629, 0, none⟩ = some (.int .i64 0) := (blk_cell BK629.out 0).trans rfl
                          have hcz142_1 : wr.cell? ⟨gb629, 1, none⟩ = some (.slice none 0 0) := (blk_cell BK629.out 1).trans rfl
                          have hcz142_2 : wr.cell? ⟨gb629, 2, none⟩ = some (.slice none 0 0) := (blk_cell BK629.out 2).trans rfl
                          have hfz142_0 := blk_frozen BK629.out 0
                          have hfz142_1 := blk_frozen BK629.out 1
                          have hfz142_2 := blk_frozen BK629.out 2
                          obtain ⟨Ao143, co143, eo143⟩ := Kd.R_slice HO_645001.out
                          subst eo143
                          obtain ⟨Ao144, co144, eo144⟩ := Kd.R_slice HO_645002.out
                          subst eo144
                          go_wp2
                          refine bodyPost_ret (results_ct rfl _ _ gb629 25 #[.int .i64 a1_0, .slice Ao143 x645001_2.length co143, .slice Ao144 x645002_3.length co144] (0, 0) _ rfl (by (with_reducible repeat (first | refine blk_drewN ?_ _ | refine blk_drew ?_ | refine blk_alloc ?_ _)); refine blk_put (cs := #[.int .i64 a1_0, .slice Ao143 x645001_2.length co143, .slice none 0 0]) ?_ 2 _ rfl; (with_reducible repeat (first | refine blk_drewN ?_ _ | refine blk_drew ?_ | refine blk_alloc ?_ _)); refine blk_put (cs := #[.int .i64 a1_0, .slice none 0 0, .slice none 0 0]) ?_ 1 _ rfl; (with_reducible repeat (first | refine blk_drewN ?_ _ | refine blk_drew ?_ | refine blk_alloc ?_ _)); refine blk_put (cs := #[.int .i64 0, .slice none 0 0, .slice none 0 0]) ?_ 0 _ rfl; (with_reducible repeat (first | refine blk_drewN ?_ _ | refine blk_drew ?_ | refine blk_alloc ?_ _)); exact BK629.out) Try.underlying25 rfl (by kernel_rfl)) rfl ?_
                          exact ⟨_, _, by first | rfl | (simp [errW_none, errW_some] <;> rfl) | (simp [*, errW_none, errW_some] <;> rfl), by (with_reducible repeat (first | apply Kd.R_alloc | apply Kd.R_drewN | apply Kd.R_drew)); exact Kd.R_mono (Kd.R_far (p := ⟨gb629, 2, none⟩) (Kd.R_far (p := ⟨gb629, 1, none⟩) (Kd.R_far (p := ⟨gb629, 0, none⟩) (Kd.R_types HO_645001.out BK629.out (by decide)) (fun _ hk => hk.2) (.int .i64 a1_0)) (fun _ hk => hk.2) (.slice Ao143 x645001_2.length co143)) (fun _ hk => hk.2) (.slice Ao144 x645002_3.length co144)) (fun _ hk => trivial), by (with_reducible repeat (first | apply Kd.R_alloc | apply Kd.R_drewN | apply Kd.R_drew)); exact Kd.R_mono (Kd.R_far (p := ⟨gb629, 2, none⟩) (Kd.R_far (p := ⟨gb629, 1, none⟩) (Kd.R_far (p := ⟨gb629, 0, none⟩) (Kd.R_types HO_645002.out BK629.out (by decide)) (fun _ hk => hk.2) (.int .i64 a1_0)) (fun _ hk => hk.2) (.slice Ao143 x645001_2.length co143)) (fun _ hk => hk.2) (.slice Ao144 x645002_3.length co144)) (fun _ hk => trivial), by repeat (first | (with_reducible first | exact HB.out | apply below_alloc | apply pw_below_drewN | apply below_drew1 | refine below_set ?_ GE627.out | refine below_set ?_ GE628.out | refine below_set ?_ GE629.out | refine below_set ?_ GE644.out) | exact HB.out)⟩
            · rw [if_neg c43] at H
              exact absurd H (by simp)
          · rw [if_neg c42] at H
            exact absurd H (by simp)
end Go.Proofs.Ytjgojlnnphkefaa.P
