import Derived.Test.YtdafolenaibccaaSInterpChainZ
import Derived.Test.YtdafolenaibccaaSInterpChain18
import Derived.Test.YtdafolenaibccaaSInterpChain19
section
namespace Go.Proofs.Ytdafolenaibccaa.P
open Go.RowKit Go.Proofs.YtdafolenaibccaaW.PrintWords Go.Proofs.YtdafolenaibccaaW.PrintLast Go.Proofs.YtdafolenaibccaaW.PrintMore
attribute [local go_sem] max2_int min2_int max_two min_two max_three min_three max_four min_four
set_option linter.unusedVariables false
set_option linter.unusedSimpArgs false
mutual
def interp_weights.l0 : Nat → Int → List Int → List Int → List Int → Int → Int → Int → Option (List Int × Int)
 | 0, _, _, _, _, _, _, _ => none
 | k + 1, x0, x1, x7, x18, x19, x20, x174000 => if x20 < x19 then (if 0 ≤ x20 then (if x20 < (x18.length : Int) then (interp_weights.l1 k x0 x1 x7 x20 (rd x18 x20) 1 x18 x19 x20 x1 (x1.length : Int) 0 x174000) else (none)) else (none)) else ((field_Batch.f k x0 x7).bind fun bt177 => (some (bt177.1, bt177.2)))
def interp_weights.l1 : Nat → Int → List Int → List Int → Int → Int → Int → List Int → Int → Int → List Int → Int → Int → Int → Option (List Int × Int)
 | 0, _, _, _, _, _, _, _, _, _, _, _, _, _ => none
 | k + 1, x0, x1, x7, x8, x9, x10, x18, x19, x20, x25, x26, x27, x174000 => if x27 < x26 then (if 0 ≤ x27 then (if x27 < (x25.length : Int) then (if x27 = x8 then (interp_weights.l1 k x0 x1 x7 x8 x9 x10 x18 x19 x20 x25 x26 (wrap64 (x27 + 1)) x174000) else ((interp_reckoner_sub.f k x174000 x9 (rd x25 x27)).bind fun t184 => ((interp_reckoner_mul.f k x174000 x10 t184).bind fun t185 => (interp_weights.l1 k x0 x1 x7 x8 x9 t185 x18 x19 x20 x25 x26 (wrap64 (x27 + 1)) x174000)))) else (none)) else (none)) else (if 0 ≤ x8 then (if x8 < (x7.length : Int) then (interp_weights.l0 k x0 x1 (x7.set (x8 : Int).toNat x10) x18 x19 (wrap64 (x20 + 1)) x174000) else (none)) else (none))
end
def interp_weights.f (k : Nat) (a0 : Int) (l1 : List Int) : Option (List Int × Int) := if 0 ≤ (l1.length : Int) then (if ((l1.length : Int) : Int).toNat ≤ 35184372088832 then (interp_weights.l0 k a0 l1 (List.replicate ((l1.length : Int) : Int).toNat 0) l1 (l1.length : Int) 0 a0) else (none)) else (none)
theorem interp_weights.mono_l : ∀ k, (∀ y0 y1 y2 y3 y4 y5 y6, LeO (interp_weights.l0 k y0 y1 y2 y3 y4 y5 y6) (interp_weights.l0 (k + 1) y0 y1 y2 y3 y4 y5 y6)) ∧ (∀ y0 y1 y2 y3 y4 y5 y6 y7 y8 y9 y10 y11 y12, LeO (interp_weights.l1 k y0 y1 y2 y3 y4 y5 y6 y7 y8 y9 y10 y11 y12) (interp_weights.l1 (k + 1) y0 y1 y2 y3 y4 y5 y6 y7 y8 y9 y10 y11 y12))
 | 0 => ⟨fun _ _ _ _ _ _ _ r h => by simp [interp_weights.l0] at h, fun _ _ _ _ _ _ _ _ _ _ _ _ _ r h => by simp [interp_weights.l1] at h⟩
 | k + 1 => by
  obtain ⟨ih0, ih1⟩ := interp_weights.mono_l k; refine ⟨?_, ?_⟩
  ·intro y0 y1 y2 y3 y4 y5 y6; unfold interp_weights.l0; repeat' first
   | (with_reducible exact ih0 _ _ _ _ _ _ _)
   | (with_reducible exact ih1 _ _ _ _ _ _ _ _ _ _ _ _ _)
   | (with_reducible exact field_Batch.mono _ _ _)
   | (with_reducible exact interp_reckoner_mul.mono _ _ _ _)
   | (with_reducible exact interp_reckoner_sub.mono _ _ _ _)
   | (with_reducible exact LeO.refl _)
   | (with_reducible exact LeO.none _)
   | (with_reducible refine LeO.ite ?_ ?_)
   | (with_reducible refine LeO.bind ?_ (fun _ => ?_))
   | exact ih0 _ _ _ _ _ _ _
   | exact ih1 _ _ _ _ _ _ _ _ _ _ _ _ _
   | exact field_Batch.mono _ _ _
   | exact interp_reckoner_mul.mono _ _ _ _
   | exact interp_reckoner_sub.mono _ _ _ _
   | exact LeO.none _
   | refine LeO.ite ?_ ?_
   | refine LeO.bind ?_ (fun _ => ?_)
  ·intro y0 y1 y2 y3 y4 y5 y6 y7 y8 y9 y10 y11 y12; unfold interp_weights.l1; repeat' first
   | (with_reducible exact ih0 _ _ _ _ _ _ _)
   | (with_reducible exact ih1 _ _ _ _ _ _ _ _ _ _ _ _ _)
   | (with_reducible exact field_Batch.mono _ _ _)
   | (with_reducible exact interp_reckoner_mul.mono _ _ _ _)
   | (with_reducible exact interp_reckoner_sub.mono _ _ _ _)
   | (with_reducible exact LeO.refl _)
   | (with_reducible exact LeO.none _)
   | (with_reducible refine LeO.ite ?_ ?_)
   | (with_reducible refine LeO.bind ?_ (fun _ => ?_))
   | exact ih0 _ _ _ _ _ _ _
   | exact ih1 _ _ _ _ _ _ _ _ _ _ _ _ _
   | exact field_Batch.mono _ _ _
   | exact interp_reckoner_mul.mono _ _ _ _
   | exact interp_reckoner_sub.mono _ _ _ _
   | exact LeO.none _
   | refine LeO.ite ?_ ?_
   | refine LeO.bind ?_ (fun _ => ?_)
theorem interp_weights.mono : ∀ a0 a1 k, LeO (interp_weights.f k a0 a1) (interp_weights.f (k + 1) a0 a1) := by
 intro a0 a1 k; obtain ⟨ih0, ih1⟩ := interp_weights.mono_l k; unfold interp_weights.f; repeat' first
   | (with_reducible exact ih0 _ _ _ _ _ _ _)
   | (with_reducible exact ih1 _ _ _ _ _ _ _ _ _ _ _ _ _)
   | (with_reducible exact field_Batch.mono _ _ _)
   | (with_reducible exact interp_reckoner_mul.mono _ _ _ _)
   | (with_reducible exact interp_reckoner_sub.mono _ _ _ _)
   | (with_reducible exact LeO.refl _)
   | (with_reducible exact LeO.none _)
   | (with_reducible refine LeO.ite ?_ ?_)
   | (with_reducible refine LeO.bind ?_ (fun _ => ?_))
   | exact ih0 _ _ _ _ _ _ _
   | exact ih1 _ _ _ _ _ _ _ _ _ _ _ _ _
   | exact field_Batch.mono _ _ _
   | exact interp_reckoner_mul.mono _ _ _ _
   | exact interp_reckoner_sub.mono _ _ _ _
   | exact LeO.none _
   | refine LeO.ite ?_ ?_
   | refine LeO.bind ?_ (fun _ => ?_)
def interp_weights.T11 : Bool × List (List Nat × List Nat) := (true, [([], []), ([], []), ([], []), ([], []), ([], []), ([2, 3, 4], [2, 3, 4]), ([0, 1, 5, 5], [0, 1, 5]), ([6, 6, 0, 1, 2, 3, 4, 5, 6], [1, 6])])
def interp_weights.B11 : List Nat := [0, 0, 0, 0, 0, 28, 63, 127]
theorem interp_weights.tab11 : rtab .any (opsOf Try.f38 11) = interp_weights.T11 := by kernel_rfl
theorem interp_weights.bits11 : waitsOk interp_weights.T11.2 interp_weights.B11 = true := by kernel_rfl
set_option maxHeartbeats 8000000 in
set_option maxRecDepth 100000 in
theorem interp_weights.calls (k : Nat) (a0 : Int) (A1 : Option Addr) (c1 : Nat) (l1 : List Int) (r1 : List Int) (r2 : Int) (w : World) (hr1 : Kd.C (Kd.int .u64) w A1 l1.length l1) (hc1 : l1.length ≤ c1) (h : interp_weights.f k a0 l1 = some (r1, r2)) :
  Calls Try.prog 38 #[.int .u8 a0, .slice A1 l1.length c1] w fun e w' => ∃ v0_ : Value, e = .returned (.tuple #[v0_, .int .i64 r2]) ∧ Kd.R (Kd.int .u64) 24 w' w.heap.size (fun _ => True) v0_ r1 ∧ Below w.heap.size w w' := by
 have hu68 := Try.underlying68; have HR1 := am hr1; have HC1 := am hc1; clear hr1 hc1; have HB := am (Below.refl w.heap.size w); have H : (if 0 ≤ (l1.length : Int) then (if ((l1.length : Int) : Int).toNat ≤ 35184372088832 then (interp_weights.l0 k a0 l1 (List.replicate ((l1.length : Int) : Int).toNat 0) l1 (l1.length : Int) 0 a0) else (none)) else (none)) = some (r1, r2) := h; clear h; by_cases c3 : 0 ≤ (l1.length : Int)
 ·rw [if_pos c3] at H; have c3b0 := eq_true c3; have c3b1 : decide (0 ≤ (l1.length : Int)) = true := decide_eq_true c3; clear c3; by_cases c4 : ((l1.length : Int) : Int).toNat ≤ 35184372088832
  ·rw [if_pos c4] at H; have c4b0 := eq_true c4; have c4b1 : decide (((l1.length : Int) : Int).toNat ≤ 35184372088832) = true := decide_eq_true c4; clear c4; obtain ⟨y174, hy174⟩ : ∃ y_ : List Int, y_ = (List.replicate ((l1.length : Int) : Int).toNat 0) := ⟨_, rfl⟩; replace H : (interp_weights.l0 k a0 l1 y174 l1 (l1.length : Int) 0 a0) = some (r1, r2) := by first | (rw [hy174]; with_reducible exact H) | (have H2_ := (Option.bind_some _ _).symm.trans H; rw [hy174]; with_reducible exact H2_) | (have H2_ := (Option.bind_some _ _).symm.trans H; with_reducible exact H2_) | with_reducible exact H | (rw [hy174]; exact H) | exact H
   have Ny174 := am hy174; clear hy174; have H' := am H; clear H; go_enter Try.func38, Try.ntmps38
   go_wp2_with (first | ((with_reducible refine gate_dst (N := 6) rfl ?_); refine box_event ?hg (N := 6) ?hd (cs := #[.int .u8 0]) (t := 68) ?hr ?_; (case hd => rfl); (case hg => rfl); (case hr => first | (go_simp; done) | (go_simp; rfl)); intro gb173 hg w5 hbox hb; have BK173 := am (hbox); have GW173 := am ((Z57 : w.heap.size ≤ gb173)); have GE173 := am ((Z57 : w.heap.size ≤ gb173)); replace HB := am (below_step Z1 hb); clear hb hbox hg; have hcz6_0 : w5.cell? ⟨gb173, 0, none⟩ = some (.int .u8 0) := (blk_cell BK173.out 0).trans rfl; have hfz6_0 := blk_frozen BK173.out 0) | ((with_reducible refine gate_dst (N := 17) rfl ?_); refine Kd.R_make (Kd.int .u64) _ 24 rfl (N := 17) rfl 22 _ _ rfl (l1.length : Int) rfl rfl Try.underlying22 (.int .u64 0) 8 info24 rfl Z101 (by omega) 0 (ok := fun _ => True) (okp := fun _ => True) rfl (fun _ hk => hk) trivial (of_decide_eq_true Z3) (Nat.le_trans (Nat.mul_le_mul_right _ (of_decide_eq_true Z3 : (l1.length : Int).toNat ≤ 35184372088832)) (by omega)) (Below.refl _ _) (Nat.le_refl _) ?_; intro v175 w7 ho8 hb hg_ hnew_; clear hg_ hnew_; (first | rw [← Ny174.out] at ho8 | (simp only [Int.reduceToNat] at ho8; rw [← Ny174.out] at ho8)); have HO176 := am (Kd.R_lower ho8 (below_size Z18)); replace BK173 := am (blk_below (g := gb173) (o := .cells #[.int .u8 a0] 68 (0, 0)) (by (with_reducible repeat (first | refine blk_drewN ?_ _ | refine blk_drew ?_ | refine blk_alloc ?_ _)); refine blk_put (cs := #[.int .u8 0]) ?_ 0 _ rfl; (with_reducible repeat (first | refine blk_drewN ?_ _ | refine blk_drew ?_ | refine blk_alloc ?_ _)); exact BK173.out) hb); replace HB := am (below_step Z18 hb); clear hb ho8))
   go_loopg [20] k (fun kq v20 w' => ∃ (x7_1 : List Int) (x20_1 : Int), v20 = .int .i64 x20_1 ∧ Aside0 (interp_weights.l0 kq a0 l1 x7_1 l1 (l1.length : Int) x20_1 a0 = some (r1, r2)) ∧ Aside0 (kq ≤ k) ∧ Aside0 (Kd.R (Kd.int .u64) 24 w' w.heap.size (fun _ => True) v175 x7_1) ∧ Aside0 (w'.heap[gb173]? = some (.cells #[.int .u8 a0] 68 (0, 0))) ∧ Aside0 (Below w.heap.size w w'))
   case atStart => exact ⟨(y174), (0), Z7, H', ⟨Nat.le_refl _⟩, ⟨by (with_reducible repeat (first | apply Kd.R_alloc | apply Kd.R_drewN | apply Kd.R_drew)); exact HO176.out⟩, ⟨Z33⟩, ⟨Z18⟩⟩
   case round =>
    clear H'; (try clear c1); (try clear p2); (try clear c3); (try clear c3b0); (try clear c3b1); (try clear c4); (try clear c4b0); (try clear c4b1); (try clear hcz6_0); (try clear hfz6_0); obtain ⟨x7_1, x20_1, rfl, HA, HK1, HO_7, BK173, HB⟩ := hrel; cases gk with
    | zero => exact absurd HA.out (by simp [interp_weights.l0])
    | succ k1 =>
     have H := HA.out; clear HA; simp only [interp_weights.l0] at H; by_cases c9 : x20_1 < (l1.length : Int)
     ·rw [if_pos c9] at H; have c9b0 : decide (x20_1 < (l1.length : Int)) = true := decide_eq_true c9; clear c9; by_cases c10 : 0 ≤ x20_1
      ·rw [if_pos c10] at H; have c10b0 : decide (0 ≤ x20_1) = true := decide_eq_true c10; clear c10; by_cases c11 : x20_1 < (l1.length : Int)
       ·rw [if_pos c11] at H; have c11b0 : decide (x20_1 < (l1.length : Int)) = true := decide_eq_true c11; clear c11; have H' := am H; clear H; have p181 : 0 ≤ (x20_1 : Int) := of_decide_eq_true Z3; have q181 : x20_1 < (l1.length : Int) := of_decide_eq_true Z3; obtain ⟨ad181, e181, hx181_0⟩ := Kd.at_int HR1.out x20_1 p181 q181; cases e181; replace hx181_0 := (HB.out.cell (World.block_lt_of_cell? w _ hx181_0)).trans hx181_0; replace p181 := eq_true p181; replace q181 := eq_true q181; go_wp2; go_loopg [10, 27] k1 (fun kq v10 v27 w' => ∃ (x10_2 : Int) (x27_2 : Int), v10 = .int .u64 x10_2 ∧ v27 = .int .i64 x27_2 ∧ Aside0 (interp_weights.l1 kq a0 l1 x7_1 x20_1 (rd l1 x20_1) x10_2 l1 (l1.length : Int) x20_1 l1 (l1.length : Int) x27_2 a0 = some (r1, r2)) ∧ Aside0 (kq ≤ k1) ∧ Aside0 (Kd.R (Kd.int .u64) 24 w' w.heap.size (fun _ => True) v175 x7_1) ∧ Aside0 (w'.heap[gb173]? = some (.cells #[.int .u8 a0] 68 (0, 0))) ∧ Aside0 (Below w.heap.size w w'))
        case atStart => exact ⟨(1), (0), Z7, Z7, H', ⟨Nat.le_refl _⟩, ⟨Z25⟩, ⟨Z33⟩, ⟨Z18⟩⟩
        case round =>
         clear H'; (try clear c1); (try clear p1); (try clear q1); (try clear hx1); (try clear p2); (try clear c3); (try clear c3b0); (try clear c3b1); (try clear c4); (try clear c4b0); (try clear c4b1); (try clear c9); (try clear c9b0); (try clear c10); (try clear c10b0); (try clear c11); (try clear c11b0); (try clear hcz6_0); (try clear hfz6_0); (try clear hx181_0); (try clear p181); (try clear p2); (try clear q181); obtain ⟨x10_2, x27_2, rfl, rfl, HA, HK2, HO_7, BK173, HB⟩ := hrel; cases gk with
         | zero => exact absurd HA.out (by simp [interp_weights.l1])
         | succ k2 =>
          have H := HA.out; clear HA; simp only [interp_weights.l1] at H; by_cases c12 : x27_2 < (l1.length : Int)
          ·rw [if_pos c12] at H; have c12b0 : decide (x27_2 < (l1.length : Int)) = true := decide_eq_true c12; clear c12; by_cases c13 : 0 ≤ x27_2
           ·rw [if_pos c13] at H; have c13b0 : decide (0 ≤ x27_2) = true := decide_eq_true c13; clear c13; by_cases c14 : x27_2 < (l1.length : Int)
            ·rw [if_pos c14] at H; have c14b0 : decide (x27_2 < (l1.length : Int)) = true := decide_eq_true c14; clear c14; by_cases c15 : x27_2 = x20_1
             ·rw [if_pos c15] at H; have c15b0 : (x27_2 == x20_1) = true := beq_iff_eq.mpr c15; have c15b1 : (x27_2 != x20_1) = false := bne_eq_false_iff_eq.mpr c15; clear c15; have H' := am H; clear H; have p183 : 0 ≤ (x27_2 : Int) := of_decide_eq_true Z3; have q183 : x27_2 < (l1.length : Int) := of_decide_eq_true Z3; obtain ⟨ad183, e183, hx183_0⟩ := Kd.at_int HR1.out x27_2 p183 q183; obtain rfl : ad181 = ad183 := (by injection e183); replace hx183_0 := (HB.out.cell (World.block_lt_of_cell? w _ hx183_0)).trans hx183_0; replace p183 := eq_true p183; replace q183 := eq_true q183; go_wp2; go_roundg k2
              case measure => have := HK1.out; have := HK2.out; omega
              case rel => exact ⟨(x10_2), (wrap64 (x27_2 + 1)), Z7, Z7, H', ⟨Z78⟩, ⟨Z25⟩, ⟨Z33⟩, ⟨Z18⟩⟩
             ·rw [if_neg c15] at H; have c15b0 : (x27_2 == x20_1) = false := beq_eq_false_iff_ne.mpr c15; have c15b1 : (x27_2 != x20_1) = true := bne_iff_ne.mpr c15; replace H := Option.bind_eq_some_iff.mp H; obtain ⟨t184, A160, H⟩ := H; replace H : ((interp_reckoner_mul.f k2 a0 x10_2 t184).bind fun t185 => (interp_weights.l1 k2 a0 l1 x7_1 x20_1 (rd l1 x20_1) t185 l1 (l1.length : Int) x20_1 l1 (l1.length : Int) (wrap64 (x27_2 + 1)) a0)) = some (r1, r2) := H; have A16 := am A160; clear A160; replace H := Option.bind_eq_some_iff.mp H; obtain ⟨t185, A170, H⟩ := H; replace H : (interp_weights.l1 k2 a0 l1 x7_1 x20_1 (rd l1 x20_1) t185 l1 (l1.length : Int) x20_1 l1 (l1.length : Int) (wrap64 (x27_2 + 1)) a0) = some (r1, r2) := H; have A17 := am A170; clear A170; have H' := am H; clear H; have p183 : 0 ≤ (x27_2 : Int) := of_decide_eq_true Z3; have q183 : x27_2 < (l1.length : Int) := of_decide_eq_true Z3; obtain ⟨ad183, e183, hx183_0⟩ := Kd.at_int HR1.out x27_2 p183 q183; obtain rfl : ad181 = ad183 := (by injection e183); replace hx183_0 := (HB.out.cell (World.block_lt_of_cell? w _ hx183_0)).trans hx183_0; replace p183 := eq_true p183; replace q183 := eq_true q183; (try go_wp2); replace HO_7 := am (Kd.R_drew HO_7.out); replace BK173 := am (blk_drew BK173.out); replace HB := am (below_drew1 HB.out); refine start_ (n := 8) (S := fun w' => w'.cell? ⟨gb173, 0, none⟩ = some (.int .u8 a0)) (ds := []) #[false, false, false, false, false, false, false, false] Z12 rfl rfl ((blk_cell BK173.out 0).trans rfl) (fun hHeld => ?_); refine with_tabW interp_weights.tab11 interp_weights.bits11 (fun HT_ HW_ => ?_)
              generalize wr.drew = w18 at HO_7 BK173 HB hHeld ⊢
              refine pure_ (i := 1) (N := some 36) (v := ?_) (a' := ?_) #[false, true, false, false, false, false, false, false] rfl rfl (any_of HT_.out Z12) (fun _ _ _ h => h) (Or.inl ⟨by rfl, ?_⟩) ?_ ?_; rotate_left
              ·intro w'; go_simp; with_reducible rfl
              rotate_left
              ·simp only [Act.put, List.setIfInBounds_toArray, List.set_cons_zero, List.set_cons_succ, i64_w, i32_w]; rfl
              refine pure_ (i := 3) (N := some 38) (v := ?_) (a' := ?_) #[false, true, false, true, false, false, false, false] rfl rfl (any_of HT_.out Z12) (fun _ _ _ h => h) (Or.inl ⟨by rfl, ?_⟩) ?_ ?_; rotate_left
              ·intro w'; go_simp; with_reducible rfl
              rotate_left
              ·simp only [Act.put, List.setIfInBounds_toArray, List.set_cons_zero, List.set_cons_succ, i64_w, i32_w]; rfl
              refine pure_ (i := 4) (N := some 39) (v := ?_) (a' := ?_) #[false, true, false, true, true, false, false, false] rfl rfl (any_of HT_.out Z12) (fun _ _ _ h => h) (Or.inl ⟨by rfl, ?_⟩) ?_ ?_; rotate_left
              ·intro w'; go_simp; with_reducible rfl
              rotate_left
              ·simp only [Act.put, List.setIfInBounds_toArray, List.set_cons_zero, List.set_cons_succ, i64_w, i32_w]; rfl
              refine take_ (i := 0) (N := some 35) (v := ?_) (a' := ?_) #[true, true, false, true, true, false, false, false] rfl rfl (take_ofW HT_.out HW_.out Z12) (fun _ _ _ h => h) (Or.inl ⟨by rfl, ?_⟩) hHeld ?_ ?_; rotate_left
              ·intro w' s0; go_simp; with_reducible rfl
              rotate_left
              ·simp only [Act.put, List.setIfInBounds_toArray, List.set_cons_zero, List.set_cons_succ, i64_w, i32_w]; rfl
              refine take_ (i := 2) (N := some 37) (v := ?_) (a' := ?_) #[true, true, true, true, true, false, false, false] rfl rfl (take_ofW HT_.out HW_.out Z12) (fun _ _ _ h => h) (Or.inl ⟨by rfl, ?_⟩) hHeld ?_ ?_; rotate_left
              ·intro w' s0; go_simp; with_reducible rfl
              rotate_left
              ·simp only [Act.put, List.setIfInBounds_toArray, List.set_cons_zero, List.set_cons_succ, i64_w, i32_w]; rfl
              refine one_ (i := 5) (N := some 40) #[true, true, true, true, true, true, false, false] rfl rfl (one_of HT_.out Z12) Z101 (fun K hK => ?_); refine goes_ Try.func56 Z12 rfl #[.agg #[.int .u8 a0], .int .u64 (rd l1 x20_1), .int .u64 (rd l1 x27_2)] (by rfl) rfl rfl Z2 ?_; (with_reducible refine (interp_reckoner_sub.calls k2 a0 (rd l1 x20_1) (rd l1 x27_2) t184 _ A16.out).mono ?_); rintro e w19 ⟨rfl, hb⟩; refine ⟨_, rfl, ?_⟩; replace HO_7 := am (Kd.R_below Z25 hb); replace BK173 := am (blk_below (g := gb173) (o := .cells #[.int .u8 a0] 68 (0, 0)) Z33 hb); replace HB := am (below_step Z18 hb); (try clear hb)
              (try clear hb2)
              (try clear hk)
              (try clear hi)
              refine hK.out _ _ ((blk_cell BK173.out 0).trans rfl) (fun hHeld => ?_); clear hK K; refine norm_ (a' := ?_) ?_ ?_; rotate_left
              ·show Act.put _ (some 40) _ = _
               simp only [Act.put, List.setIfInBounds_toArray, List.set_cons_zero, List.set_cons_succ, i64_w, i32_w]; rfl
              refine one_ (i := 6) (N := some 41) #[true, true, true, true, true, true, true, false] rfl rfl (one_of HT_.out Z12) Z101 (fun K hK => ?_); refine goes_ Try.func42 Z12 rfl #[.agg #[.int .u8 a0], .int .u64 x10_2, .int .u64 t184] (by rfl) rfl rfl Z2 ?_; (with_reducible refine (interp_reckoner_mul.calls k2 a0 x10_2 t184 t185 _ A17.out).mono ?_); rintro e w20 ⟨rfl, hb⟩; refine ⟨_, rfl, ?_⟩; replace HO_7 := am (Kd.R_below Z25 hb); replace BK173 := am (blk_below (g := gb173) (o := .cells #[.int .u8 a0] 68 (0, 0)) Z33 hb); replace HB := am (below_step Z18 hb); (try clear hb)
              (try clear hb2)
              (try clear hk)
              (try clear hi)
              refine hK.out _ _ ((blk_cell BK173.out 0).trans rfl) (fun hHeld => ?_); clear hK K; refine norm_ (a' := ?_) ?_ ?_; rotate_left
              ·show Act.put _ (some 41) _ = _
               simp only [Act.put, List.setIfInBounds_toArray, List.set_cons_zero, List.set_cons_succ, i64_w, i32_w]; rfl
              refine pure_ (i := 7) (N := some 10) (v := ?_) (a' := ?_) #[true, true, true, true, true, true, true, true] rfl rfl (any_of HT_.out Z12) (fun _ _ _ h => h) (Or.inl ⟨by rfl, ?_⟩) ?_ ?_; rotate_left
              ·intro w'; go_simp; with_reducible rfl
              rotate_left
              ·simp only [Act.put, List.setIfInBounds_toArray, List.set_cons_zero, List.set_cons_succ, i64_w, i32_w]; rfl
              refine done_ (done_of HT_.out Z12) ?_; (try go_wp2); go_roundg k2
              case measure => have := HK1.out; have := HK2.out; omega
              case rel => exact ⟨(t185), (wrap64 (x27_2 + 1)), Z7, Z7, H', ⟨Z78⟩, ⟨Z25⟩, ⟨Z33⟩, ⟨Z18⟩⟩
            ·rw [if_neg c14] at H; exact absurd H (by simp)
           ·rw [if_neg c13] at H; exact absurd H (by simp)
          ·rw [if_neg c12] at H; have c12b0 : decide (x27_2 < (l1.length : Int)) = false := decide_eq_false c12; clear c12; by_cases c21 : 0 ≤ x20_1
           ·rw [if_pos c21] at H; have c21b0 : decide (0 ≤ x20_1) = true := decide_eq_true c21; clear c21; by_cases c22 : x20_1 < (x7_1.length : Int)
            ·rw [if_pos c22] at H; have c22b0 : decide (x20_1 < (x7_1.length : Int)) = true := decide_eq_true c22; clear c22; obtain ⟨y182, hy182⟩ : ∃ y_ : List Int, y_ = (x7_1.set (x20_1 : Int).toNat x10_2) := ⟨_, rfl⟩; replace H : (interp_weights.l0 k2 a0 l1 y182 l1 (l1.length : Int) (wrap64 (x20_1 + 1)) a0) = some (r1, r2) := by first | (rw [hy182]; with_reducible exact H) | (have H2_ := (Option.bind_some _ _).symm.trans H; rw [hy182]; with_reducible exact H2_) | (have H2_ := (Option.bind_some _ _).symm.trans H; with_reducible exact H2_) | with_reducible exact H | (rw [hy182]; exact H) | exact H
             have Ny182 := am hy182; clear hy182; have H' := am H; clear H; have p23 : 0 ≤ (x20_1 : Int) := of_decide_eq_true Z3; have q23 : (x20_1 : Int) < ((x7_1.length : Int) : Int) := of_decide_eq_true Z3; obtain ⟨go23, co23, eo23, gb23, gl23, cl23, HG23⟩ := Kd.R_form HO_7.out (by omega); (first | cases eo23 | (injection eo23 with ea_ en_ ec_; (first | subst ea_ | (injection ea_ with ea_; subst ea_)); subst ec_; clear en_))
             have GB23 := am gb23; have GG23 := am HG23; clear gb23 gl23 HG23; obtain ⟨hx23_0, hf23_0⟩ := Kd.R_celln 0 HO_7.out (x20_1 : Int) p23 q23; replace p23 := eq_true p23; replace q23 := eq_true q23; have HP24 := Kd.R_putg HO_7.out (x20_1 : Int) x10_2; go_wp2_with (first | ((with_reducible refine gate_store (t := 24) (p := 46) rfl ?_); refine store_event (t := 24) (p := 46) (v := ?vo_w25) (w1 := (wr.setCell ⟨go23, (x20_1 : Int).toNat, none⟩ (.int .u64 x10_2))) ?hg ?ho ?hn ?hr ?_; (case ho => rfl); (case hg => rfl); (case hn => rfl); (case hr => first | (go_simp; done) | (go_simp; rfl)); intro w25 hw; have hg : wr.grownBy w25 (some go23) := (by rw [hw]; exact HP24.2); have hp_ : Kd.R (Kd.int .u64) 24 w25 w.heap.size (fun _ => True) (.slice (some ⟨go23, 0, none⟩) x7_1.length co23) y182 := (by rw [hw, Ny182.out]; exact HP24.1); clear HP24; replace BK173 := am (blk_grown (g := gb173) (o := .cells #[.int .u8 a0] 68 (0, 0)) Z33 hg (Kd.R_ne HO_7.out BK173.out Z101)); replace HO_7 := am (hp_); replace HB := am ((by rw [hw]; exact below_set (HB.out) GB23.out : Below w.heap.size w w25)); clear hg hw hp_))
             go_roundg k2
             case measure => have := HK1.out; have := HK2.out; omega
             case rel => exact ⟨(y182), (wrap64 (x20_1 + 1)), Z7, H', ⟨Z78⟩, ⟨Z25⟩, ⟨Z33⟩, ⟨Z18⟩⟩
            ·rw [if_neg c22] at H; exact absurd H (by simp)
           ·rw [if_neg c21] at H; exact absurd H (by simp)
       ·rw [if_neg c11] at H; exact absurd H (by simp)
      ·rw [if_neg c10] at H; exact absurd H (by simp)
     ·rw [if_neg c9] at H; have c9b0 : decide (x20_1 < (l1.length : Int)) = false := decide_eq_false c9; clear c9; replace H := Option.bind_eq_some_iff.mp H; obtain ⟨⟨t177, t178⟩, A260, H⟩ := H; replace H : (some (t177, t178)) = some (r1, r2) := H; have A26 := am A260; clear A260; simp only [Option.some.injEq, Prod.mk.injEq] at H; obtain ⟨rfl, rfl⟩ := H; obtain ⟨Ao27, co27, eo27⟩ := Kd.R_slice HO_7.out; subst eo27; go_wp2_with (first | ((with_reducible refine gate_callee (f := 57) rfl ?_); refine goesL_ (some 50) rfl rfl Try.func57 Z12 rfl #[.int .u8 a0, .slice Ao27 x7_1.length co27] rfl Z2 ?_; (with_reducible refine (field_Batch.calls k1 a0 _ _ x7_1 t177 t178 _ ?side1 ?side2 A26.out).mono ?_); (case side1 => repeat (first | exact (Kd.R_reads' HO_7.out).2.2 | (with_reducible refine Kd.C_alloc ?_ _) | (with_reducible refine Kd.C_drewN ?_ _) | (with_reducible refine Kd.C_drew ?_))); (case side2 => exact (Kd.R_reads' HO_7.out).2.1); rintro e w28 ⟨v179, rfl, ho0, hb⟩; refine ⟨_, rfl, ?_⟩; have HO180 := am (Kd.R_lower (Kd.R_new' ho0 (Kd.R_lt Z25)) (below_size Z18)); replace HO_7 := am (Kd.R_elder' Z25 (Kd.R_base ho0) hb); replace BK173 := am (blk_below (g := gb173) (o := .cells #[.int .u8 a0] 68 (0, 0)) Z33 hb); replace HB := am (below_step Z18 hb); (try clear hb); (try clear ho0)))
      go_ret2; exact ⟨_, Z5, by (with_reducible repeat (first | apply Kd.R_alloc | apply Kd.R_drewN | apply Kd.R_drew)); exact Kd.R_mono HO180.out (fun _ hk => trivial), Z18⟩
  ·rw [if_neg c4] at H; exact absurd H (by simp)
 ·rw [if_neg c3] at H; exact absurd H (by simp)
end Go.Proofs.Ytdafolenaibccaa.P
end
section
namespace Go.Proofs.Ytdafolenaibccaa.P
open Go.RowKit Go.Proofs.YtdafolenaibccaaW.PrintWords Go.Proofs.YtdafolenaibccaaW.PrintLast Go.Proofs.YtdafolenaibccaaW.PrintMore
attribute [local go_sem] max2_int min2_int max_two min_two max_three min_three max_four min_four
set_option linter.unusedVariables false
set_option linter.unusedSimpArgs false
mutual
def interp_basis_1.l0 : Nat → Int → List Int → Int → Int → List Int → Int → List Int → Option (List Int)
 | 0, _, _, _, _, _, _, _ => none
 | k + 1, x0, x6, x7, x8, x187000, x188000, x189000 => if x8 ≥ 0 then (if 0 ≤ x8 then (if x8 < (x189000.length : Int) then ((interp_reckoner_mul.f k x188000 (rd x189000 x8) x7).bind fun t193 => (if x8 < (x6.length : Int) then (if x8 < (x187000.length : Int) then ((interp_reckoner_sub.f k x188000 x0 (rd x187000 x8)).bind fun t196 => ((interp_reckoner_mul.f k x188000 x7 t196).bind fun t197 => (interp_basis_1.l0 k x0 (x6.set (x8 : Int).toNat t193) t197 (wrap64 (x8 - 1)) x187000 x188000 x189000))) else (none)) else (none))) else (none)) else (none)) else (interp_basis_1.l1 k x0 x6 1 (x187000.length : Int) 0 x187000 x188000)
def interp_basis_1.l1 : Nat → Int → List Int → Int → Int → Int → List Int → Int → Option (List Int)
 | 0, _, _, _, _, _, _, _ => none
 | k + 1, x0, x6, x9, x42, x43, x187000, x188000 => if x43 < x42 then (if 0 ≤ x43 then (if x43 < (x6.length : Int) then ((interp_reckoner_mul.f k x188000 (rd x6 x43) x9).bind fun t199 => (if x43 < (x187000.length : Int) then ((interp_reckoner_sub.f k x188000 x0 (rd x187000 x43)).bind fun t202 => ((interp_reckoner_mul.f k x188000 x9 t202).bind fun t203 => (interp_basis_1.l1 k x0 (x6.set (x43 : Int).toNat t199) t203 x42 (wrap64 (x43 + 1)) x187000 x188000))) else (none))) else (none)) else (none)) else (some x6)
end
def interp_basis_1.f (k : Nat) (a0 : Int) (l1 : List Int) (a2_0 : Int) (l3 : List Int) : Option (List Int) := if 0 ≤ (l1.length : Int) then (if ((l1.length : Int) : Int).toNat ≤ 35184372088832 then (interp_basis_1.l0 k a0 (List.replicate ((l1.length : Int) : Int).toNat 0) 1 (wrap64 ((l1.length : Int) - 1)) l1 a2_0 l3) else (none)) else (none)
def interp_basis_1.T6 : Bool × List (List Nat × List Nat) := (true, [([], []), ([], []), ([], []), ([], []), ([], []), ([3, 4], [3, 4]), ([5], [5]), ([], []), ([2, 6, 7], [2, 6, 7]), ([0, 1, 0, 1, 2, 3, 4, 5, 6, 7, 8], [0, 1]), ([9, 8, 8, 0, 1, 2, 3, 4, 5, 6, 7, 8], [8, 9])])
def interp_basis_1.B6 : List Nat := [0, 0, 0, 0, 0, 24, 56, 0, 252, 511, 1023]
theorem interp_basis_1.tab6 : rtab .any (opsOf Try.f68 6) = interp_basis_1.T6 := by kernel_rfl
theorem interp_basis_1.bits6 : waitsOk interp_basis_1.T6.2 interp_basis_1.B6 = true := by kernel_rfl
def interp_basis_1.T7 : Bool × List (List Nat × List Nat) := (true, [([], []), ([], []), ([], []), ([], []), ([], []), ([], []), ([4, 5], [4, 5]), ([6], [6]), ([2, 3, 7], [2, 3, 7]), ([0, 1, 8, 8], [0, 1, 8]), ([9, 9, 0, 1, 2, 3, 4, 5, 6, 7, 8, 9], [1, 9])])
def interp_basis_1.B7 : List Nat := [0, 0, 0, 0, 0, 0, 48, 112, 252, 511, 1023]
theorem interp_basis_1.tab7 : rtab .any (opsOf Try.f68 7) = interp_basis_1.T7 := by kernel_rfl
theorem interp_basis_1.bits7 : waitsOk interp_basis_1.T7.2 interp_basis_1.B7 = true := by kernel_rfl
def interp_basis_1.T12 : Bool × List (List Nat × List Nat) := (true, [([], []), ([], []), ([], []), ([], []), ([], []), ([3, 4], [3, 4]), ([5], [5]), ([], []), ([2, 6, 7], [2, 6, 7]), ([0, 1, 0, 1, 2, 3, 4, 5, 6, 7, 8], [0, 1]), ([9, 8, 8, 0, 1, 2, 3, 4, 5, 6, 7, 8], [8, 9])])
def interp_basis_1.B12 : List Nat := [0, 0, 0, 0, 0, 24, 56, 0, 252, 511, 1023]
theorem interp_basis_1.tab12 : rtab .any (opsOf Try.f68 12) = interp_basis_1.T12 := by kernel_rfl
theorem interp_basis_1.bits12 : waitsOk interp_basis_1.T12.2 interp_basis_1.B12 = true := by kernel_rfl
def interp_basis_1.T13 : Bool × List (List Nat × List Nat) := (true, [([], []), ([], []), ([], []), ([], []), ([], []), ([], []), ([4, 5], [4, 5]), ([6], [6]), ([2, 3, 7], [2, 3, 7]), ([0, 1, 8, 8], [0, 1, 8]), ([9, 9, 0, 1, 2, 3, 4, 5, 6, 7, 8, 9], [1, 9])])
def interp_basis_1.B13 : List Nat := [0, 0, 0, 0, 0, 0, 48, 112, 252, 511, 1023]
theorem interp_basis_1.tab13 : rtab .any (opsOf Try.f68 13) = interp_basis_1.T13 := by kernel_rfl
theorem interp_basis_1.bits13 : waitsOk interp_basis_1.T13.2 interp_basis_1.B13 = true := by kernel_rfl
set_option maxHeartbeats 8000000 in
set_option maxRecDepth 100000 in
theorem interp_basis_1.calls (k : Nat) (a0 : Int) (A1 : Option Addr) (c1 : Nat) (l1 : List Int) (a2_0 : Int) (A3 : Option Addr) (c3 : Nat) (l3 : List Int) (r : List Int) (gb186 : Nat) (gb187 : Nat) (gb188 : Nat) (w : World) (hr1 : Kd.C (Kd.int .u64) w A1 l1.length l1) (hc1 : l1.length ≤ c1) (hr3 : Kd.C (Kd.int .u64) w A3 l3.length l3) (hc3 : l3.length ≤ c3) (hk186 : w.heap[gb186]? = some (.cells #[.slice A1 l1.length c1] 22 (0, 0))) (hk187 : w.heap[gb187]? = some (.cells #[.int .u8 a2_0] 68 (0, 0))) (hk188 : w.heap[gb188]? = some (.cells #[.slice A3 l3.length c3] 22 (0, 0))) (hn186_187 : gb186 ≠ gb187) (hn186_188 : gb186 ≠ gb188) (hn187_188 : gb187 ≠ gb188) (h : interp_basis_1.f k a0 l1 a2_0 l3 = some r) :
  Calls Try.prog 68 #[.int .u64 a0, .pointer (some ⟨gb186, 0, none⟩), .pointer (some ⟨gb187, 0, none⟩), .pointer (some ⟨gb188, 0, none⟩)] w fun e w' => ∃ v0_ : Value, e = .returned (v0_) ∧ Kd.R (Kd.int .u64) 24 w' w.heap.size (fun _ => True) v0_ r ∧ Below w.heap.size w w' := by
 have BK186 := am hk186; clear hk186; have BK187 := am hk187; clear hk187; have BK188 := am hk188; clear hk188; have NB186_187 := am hn186_187; have NB187_186 := am hn186_187.symm; clear hn186_187; have NB186_188 := am hn186_188; have NB188_186 := am hn186_188.symm; clear hn186_188; have NB187_188 := am hn187_188; have NB188_187 := am hn187_188.symm; clear hn187_188; have hu68 := Try.underlying68; have HR1 := am hr1; have HC1 := am hc1; clear hr1 hc1; have HR3 := am hr3; have HC3 := am hc3; clear hr3 hc3; have HB := am (Below.refl w.heap.size w); have H : (if 0 ≤ (l1.length : Int) then (if ((l1.length : Int) : Int).toNat ≤ 35184372088832 then (interp_basis_1.l0 k a0 (List.replicate ((l1.length : Int) : Int).toNat 0) 1 (wrap64 ((l1.length : Int) - 1)) l1 a2_0 l3) else (none)) else (none)) = some r := h; clear h; by_cases c5 : 0 ≤ (l1.length : Int)
 ·rw [if_pos c5] at H; have c5b0 := eq_true c5; have c5b1 : decide (0 ≤ (l1.length : Int)) = true := decide_eq_true c5; clear c5; by_cases c6 : ((l1.length : Int) : Int).toNat ≤ 35184372088832
  ·rw [if_pos c6] at H; have c6b0 := eq_true c6; have c6b1 : decide (((l1.length : Int) : Int).toNat ≤ 35184372088832) = true := decide_eq_true c6; clear c6; obtain ⟨y189, hy189⟩ : ∃ y_ : List Int, y_ = (List.replicate ((l1.length : Int) : Int).toNat 0) := ⟨_, rfl⟩; replace H : (interp_basis_1.l0 k a0 y189 1 (wrap64 ((l1.length : Int) - 1)) l1 a2_0 l3) = some r := by first | (rw [hy189]; with_reducible exact H) | (have H2_ := (Option.bind_some _ _).symm.trans H; rw [hy189]; with_reducible exact H2_) | (have H2_ := (Option.bind_some _ _).symm.trans H; with_reducible exact H2_) | with_reducible exact H | (rw [hy189]; exact H) | exact H
   have Ny189 := am hy189; clear hy189; have H' := am H; clear H; have hcq186_0 : w.cell? ⟨gb186, 0, none⟩ = some (.slice A1 l1.length c1) := (blk_cell BK186.out 0).trans rfl; have hfq186_0 := blk_frozen BK186.out 0; have hcq187_0 : w.cell? ⟨gb187, 0, none⟩ = some (.int .u8 a2_0) := (blk_cell BK187.out 0).trans rfl; have hfq187_0 := blk_frozen BK187.out 0; have hcq188_0 : w.cell? ⟨gb188, 0, none⟩ = some (.slice A3 l3.length c3) := (blk_cell BK188.out 0).trans rfl; have hfq188_0 := blk_frozen BK188.out 0; go_enter Try.func68, Try.ntmps68
   go_wp2_with (first | ((with_reducible refine gate_dst (N := 13) rfl ?_); refine Kd.R_make (Kd.int .u64) _ 24 rfl (N := 13) rfl 22 _ _ rfl (l1.length : Int) rfl rfl Try.underlying22 (.int .u64 0) 8 info24 rfl Z101 (by omega) 0 (ok := fun _ => True) (okp := fun _ => True) rfl (fun _ hk => hk) trivial (of_decide_eq_true Z3) (Nat.le_trans (Nat.mul_le_mul_right _ (of_decide_eq_true Z3 : (l1.length : Int).toNat ≤ 35184372088832)) (by omega)) (Below.refl _ _) (Nat.le_refl _) ?_; intro v190 w13 ho14 hb hg_ hnew_; clear hg_ hnew_; (first | rw [← Ny189.out] at ho14 | (simp only [Int.reduceToNat] at ho14; rw [← Ny189.out] at ho14)); have HO191 := am (Kd.R_lower ho14 (below_size Z9)); replace BK186 := am (blk_below (g := gb186) (o := .cells #[.slice A1 l1.length c1] 22 (0, 0)) Z30 hb); replace BK187 := am (blk_below (g := gb187) (o := .cells #[.int .u8 a2_0] 68 (0, 0)) Z29 hb); replace BK188 := am (blk_below (g := gb188) (o := .cells #[.slice A3 l3.length c3] 22 (0, 0)) Z28 hb); replace HB := am (below_step Z9 hb); clear hb ho14; have hcz15_0 : w13.cell? ⟨gb186, 0, none⟩ = some (.slice A1 l1.length c1) := (blk_cell BK186.out 0).trans rfl; have hfz15_0 := blk_frozen BK186.out 0))
   go_loopg [7, 8] k (fun kq v7 v8 w' => ∃ (x6_1 : List Int) (x7_1 : Int) (x8_1 : Int), v7 = .int .u64 x7_1 ∧ v8 = .int .i64 x8_1 ∧ Aside0 (interp_basis_1.l0 kq a0 x6_1 x7_1 x8_1 l1 a2_0 l3 = some r) ∧ Aside0 (kq ≤ k) ∧ Aside0 (Kd.R (Kd.int .u64) 24 w' w.heap.size (fun _ => True) v190 x6_1) ∧ Aside0 (w'.heap[gb186]? = some (.cells #[(.slice A1 l1.length c1)] 22 (0, 0))) ∧ Aside0 (w'.heap[gb187]? = some (.cells #[.int .u8 a2_0] 68 (0, 0))) ∧ Aside0 (w'.heap[gb188]? = some (.cells #[(.slice A3 l3.length c3)] 22 (0, 0))) ∧ Aside0 (Below w.heap.size w w'))
   case atStart => exact ⟨(y189), (1), (wrap64 ((l1.length : Int) - 1)), Z7, Z7, H', ⟨Nat.le_refl _⟩, ⟨by (with_reducible repeat (first | apply Kd.R_alloc | apply Kd.R_drewN | apply Kd.R_drew)); exact HO191.out⟩, ⟨Z30⟩, ⟨Z29⟩, ⟨Z28⟩, ⟨Z9⟩⟩
   case round =>
    clear H'; (try clear c1); (try clear p2); (try clear c3); (try clear c5); (try clear c5b0); (try clear c5b1); (try clear c6); (try clear c6b0); (try clear c6b1); (try clear p6); (try clear c10); (try clear c11); (try clear hcz12_0); (try clear hcz15_0); (try clear hfz12_0); (try clear hfz15_0); obtain ⟨x6_1, x7_1, x8_1, rfl, rfl, HA, HK1, HO_6, BK186, BK187, BK188, HB⟩ := hrel; cases gk with
    | zero => exact absurd HA.out (by simp [interp_basis_1.l0])
    | succ k1 =>
     have H := HA.out; clear HA; simp only [interp_basis_1.l0] at H; by_cases c16 : x8_1 ≥ 0
     ·rw [if_pos c16] at H; have c16b0 : decide (0 ≤ x8_1) = true := decide_eq_true c16; clear c16; by_cases c17 : 0 ≤ x8_1
      ·rw [if_pos c17] at H; have c17b0 : decide (0 ≤ x8_1) = true := decide_eq_true c17; clear c17; by_cases c18 : x8_1 < (l3.length : Int)
       ·rw [if_pos c18] at H; have c18b0 : decide (x8_1 < (l3.length : Int)) = true := decide_eq_true c18; clear c18; replace H := Option.bind_eq_some_iff.mp H; obtain ⟨t193, A190, H⟩ := H; replace H : (if x8_1 < (x6_1.length : Int) then (if x8_1 < (l1.length : Int) then ((interp_reckoner_sub.f k1 a2_0 a0 (rd l1 x8_1)).bind fun t196 => ((interp_reckoner_mul.f k1 a2_0 x7_1 t196).bind fun t197 => (interp_basis_1.l0 k1 a0 (x6_1.set (x8_1 : Int).toNat t193) t197 (wrap64 (x8_1 - 1)) l1 a2_0 l3))) else (none)) else (none)) = some r := H; have A19 := am A190; clear A190; by_cases c20 : x8_1 < (x6_1.length : Int)
        ·rw [if_pos c20] at H; have c20b0 : decide (x8_1 < (x6_1.length : Int)) = true := decide_eq_true c20; clear c20; obtain ⟨y194, hy194⟩ : ∃ y_ : List Int, y_ = (x6_1.set (x8_1 : Int).toNat t193) := ⟨_, rfl⟩; replace H : (if x8_1 < (l1.length : Int) then ((interp_reckoner_sub.f k1 a2_0 a0 (rd l1 x8_1)).bind fun t196 => ((interp_reckoner_mul.f k1 a2_0 x7_1 t196).bind fun t197 => (interp_basis_1.l0 k1 a0 y194 t197 (wrap64 (x8_1 - 1)) l1 a2_0 l3))) else (none)) = some r := by first | (rw [hy194]; with_reducible exact H) | (have H2_ := (Option.bind_some _ _).symm.trans H; rw [hy194]; with_reducible exact H2_) | (have H2_ := (Option.bind_some _ _).symm.trans H; with_reducible exact H2_) | with_reducible exact H | (rw [hy194]; exact H) | exact H
         have Ny194 := am hy194; clear hy194; by_cases c22 : x8_1 < (l1.length : Int)
         ·rw [if_pos c22] at H; have c22b0 : decide (x8_1 < (l1.length : Int)) = true := decide_eq_true c22; clear c22; replace H := Option.bind_eq_some_iff.mp H; obtain ⟨t196, A230, H⟩ := H; replace H : ((interp_reckoner_mul.f k1 a2_0 x7_1 t196).bind fun t197 => (interp_basis_1.l0 k1 a0 y194 t197 (wrap64 (x8_1 - 1)) l1 a2_0 l3)) = some r := H; have A23 := am A230; clear A230; replace H := Option.bind_eq_some_iff.mp H; obtain ⟨t197, A240, H⟩ := H; replace H : (interp_basis_1.l0 k1 a0 y194 t197 (wrap64 (x8_1 - 1)) l1 a2_0 l3) = some r := H; have A24 := am A240; clear A240; have H' := am H; clear H; (try go_wp2); replace HO_6 := am (Kd.R_drew HO_6.out); replace BK186 := am (blk_drew BK186.out); replace BK187 := am (blk_drew BK187.out); replace BK188 := am (blk_drew BK188.out); replace HB := am (below_drew1 HB.out); have p192 : 0 ≤ (x8_1 : Int) := of_decide_eq_true Z3; have q192 : x8_1 < (l3.length : Int) := of_decide_eq_true Z3; obtain ⟨ad192, e192, hx192_0⟩ := Kd.at_int HR3.out x8_1 p192 q192; have hw192_0 := hx192_0; cases e192; replace hx192_0 := (HB.out.cell (World.block_lt_of_cell? w _ hx192_0)).trans hx192_0; replace p192 := eq_true p192; replace q192 := eq_true q192; refine start_ (n := 11) (S := fun w' => w'.cell? ⟨gb187, 0, none⟩ = some (.int .u8 a2_0) ∧ w'.cell? ⟨gb188, 0, none⟩ = some (.slice (some ad192) l3.length c3) ∧ w'.cell? (ad192.add (x8_1).toNat) = some (.int .u64 (rd l3 x8_1))) (ds := [10]) #[false, false, false, false, false, false, false, false, false, false, false] Z12 rfl rfl ⟨(blk_cell BK187.out 0).trans rfl, (blk_cell BK188.out 0).trans rfl, ((HB.out.cell (World.block_lt_of_cell? w _ hw192_0)).trans hw192_0)⟩ (fun hHeld => ?_); refine with_tabW interp_basis_1.tab6 interp_basis_1.bits6 (fun HT_ HW_ => ?_)
          generalize wr.drew = w25 at HO_6 BK186 BK187 BK188 HB hx192_0 hHeld ⊢
          refine pure_ (i := 0) (N := some 21) (v := ?_) (a' := ?_) #[true, false, false, false, false, false, false, false, false, false, false] rfl rfl (any_of HT_.out Z12) (fun _ _ _ h => h) (Or.inl ⟨by rfl, ?_⟩) ?_ ?_; rotate_left
          ·intro w'; go_simp; with_reducible rfl
          rotate_left
          ·simp only [Act.put, List.setIfInBounds_toArray, List.set_cons_zero, List.set_cons_succ, i64_w, i32_w]; rfl
          refine pure_ (i := 1) (N := some 22) (v := ?_) (a' := ?_) #[true, true, false, false, false, false, false, false, false, false, false] rfl rfl (any_of HT_.out Z12) (fun _ _ _ h => h) (Or.inl ⟨by rfl, ?_⟩) ?_ ?_; rotate_left
          ·intro w'; go_simp; with_reducible rfl
          rotate_left
          ·simp only [Act.put, List.setIfInBounds_toArray, List.set_cons_zero, List.set_cons_succ, i64_w, i32_w]; rfl
          refine pure_ (i := 4) (N := some 25) (v := ?_) (a' := ?_) #[true, true, false, false, true, false, false, false, false, false, false] rfl rfl (any_of HT_.out Z12) (fun _ _ _ h => h) (Or.inl ⟨by rfl, ?_⟩) ?_ ?_; rotate_left
          ·intro w'; go_simp; with_reducible rfl
          rotate_left
          ·simp only [Act.put, List.setIfInBounds_toArray, List.set_cons_zero, List.set_cons_succ, i64_w, i32_w]; rfl
          refine pure_ (i := 7) (N := some 28) (v := ?_) (a' := ?_) #[true, true, false, false, true, false, false, true, false, false, false] rfl rfl (any_of HT_.out Z12) (fun _ _ _ h => h) (Or.inl ⟨by rfl, ?_⟩) ?_ ?_; rotate_left
          ·intro w'; go_simp; with_reducible rfl
          rotate_left
          ·simp only [Act.put, List.setIfInBounds_toArray, List.set_cons_zero, List.set_cons_succ, i64_w, i32_w]; rfl
          refine take_ (i := 2) (N := some 23) (v := ?_) (a' := ?_) #[true, true, true, false, true, false, false, true, false, false, false] rfl rfl (take_ofW HT_.out HW_.out Z12) (fun _ _ _ h => h) (Or.inl ⟨by rfl, ?_⟩) hHeld ?_ ?_; rotate_left
          ·rintro w' ⟨s0, s1, s2⟩; go_simp; with_reducible rfl
          rotate_left
          ·simp only [Act.put, List.setIfInBounds_toArray, List.set_cons_zero, List.set_cons_succ, i64_w, i32_w]; rfl
          refine take_ (i := 3) (N := some 24) (v := ?_) (a' := ?_) #[true, true, true, true, true, false, false, true, false, false, false] rfl rfl (take_ofW HT_.out HW_.out Z12) (fun _ _ _ h => h) (Or.inl ⟨by rfl, ?_⟩) hHeld ?_ ?_; rotate_left
          ·rintro w' ⟨s0, s1, s2⟩; go_simp; with_reducible rfl
          rotate_left
          ·simp only [Act.put, List.setIfInBounds_toArray, List.set_cons_zero, List.set_cons_succ, i64_w, i32_w]; rfl
          refine pure_ (i := 5) (N := some 26) (v := ?_) (a' := ?_) #[true, true, true, true, true, true, false, true, false, false, false] rfl rfl (any_of HT_.out Z12) (fun _ _ _ h => h) (Or.inl ⟨by rfl, ?_⟩) ?_ ?_; rotate_left
          ·intro w'; go_simp; with_reducible rfl
          rotate_left
          ·simp only [Act.put, List.setIfInBounds_toArray, List.set_cons_zero, List.set_cons_succ, i64_w, i32_w]; rfl
          refine take_ (i := 6) (N := some 27) (v := ?_) (a' := ?_) #[true, true, true, true, true, true, true, true, false, false, false] rfl rfl (take_ofW HT_.out HW_.out Z12) (fun _ _ _ h => h) (Or.inl ⟨by rfl, ?_⟩) hHeld ?_ ?_; rotate_left
          ·rintro w' ⟨s0, s1, s2⟩; go_simp; with_reducible rfl
          rotate_left
          ·simp only [Act.put, List.setIfInBounds_toArray, List.set_cons_zero, List.set_cons_succ, i64_w, i32_w]; rfl
          refine one_ (i := 8) (N := some 29) #[true, true, true, true, true, true, true, true, true, false, false] rfl rfl (one_of HT_.out Z12) Z101 (fun K hK => ?_); refine goes_ Try.func42 Z12 rfl #[.agg #[.int .u8 a2_0], .int .u64 (rd l3 x8_1), .int .u64 x7_1] (by rfl) rfl rfl Z2 ?_; (with_reducible refine (interp_reckoner_mul.calls k1 a2_0 (rd l3 x8_1) x7_1 t193 _ A19.out).mono ?_); rintro e w26 ⟨rfl, hb⟩; refine ⟨_, rfl, ?_⟩; replace HO_6 := am (Kd.R_below Z35 hb); replace BK186 := am (blk_below (g := gb186) (o := .cells #[.slice A1 l1.length c1] 22 (0, 0)) Z30 hb); replace BK187 := am (blk_below (g := gb187) (o := .cells #[.int .u8 a2_0] 68 (0, 0)) Z29 hb); replace BK188 := am (blk_below (g := gb188) (o := .cells #[.slice (some ad192) l3.length c3] 22 (0, 0)) Z28 hb); replace HB := am (below_step Z9 hb); (try clear hb)
          (try clear hb2)
          (try clear hk)
          (try clear hi)
          have p21 : 0 ≤ (x8_1 : Int) := of_decide_eq_true Z3; have q21 : (x8_1 : Int) < ((x6_1.length : Int) : Int) := of_decide_eq_true Z3; obtain ⟨go21, co21, eo21, gb21, gl21, cl21, HG21⟩ := Kd.R_form HO_6.out (by omega); (first | cases eo21 | (injection eo21 with ea_ en_ ec_; (first | subst ea_ | (injection ea_ with ea_; subst ea_)); subst ec_; clear en_))
          have GB21 := am gb21; have GG21 := am HG21; clear gb21 gl21 HG21; obtain ⟨hx21_0, hf21_0⟩ := Kd.R_celln 0 HO_6.out (x8_1 : Int) p21 q21; replace p21 := eq_true p21; replace q21 := eq_true q21; have HP27 := Kd.R_putn HO_6.out (x8_1 : Int) t193; rw [← Ny194.out] at HP27; have HQ27 := am HP27; clear HP27; refine hK.out _ _ ⟨(blk_cell BK187.out 0).trans rfl, (blk_cell BK188.out 0).trans rfl, ((HB.out.cell (World.block_lt_of_cell? w _ hw192_0)).trans hw192_0)⟩ (fun hHeld => ?_); clear hK K; refine norm_ (a' := ?_) ?_ ?_; rotate_left
          ·show Act.put _ (some 29) _ = _
           simp only [Act.put, List.setIfInBounds_toArray, List.set_cons_zero, List.set_cons_succ, i64_w, i32_w]; rfl
          refine pure_ (i := 9) (N := some 30) (v := ?_) (a' := ?_) #[true, true, true, true, true, true, true, true, true, true, false] rfl rfl (any_of HT_.out Z12) (fun _ _ _ h => h) (Or.inl ⟨by rfl, ?_⟩) ?_ ?_; rotate_left
          ·intro w'; go_simp; with_reducible rfl
          rotate_left
          ·simp only [Act.put, List.setIfInBounds_toArray, List.set_cons_zero, List.set_cons_succ, i64_w, i32_w]; rfl
          refine last_ (i := 10) (N := none) #[true, true, true, true, true, true, true, true, true, true, true] rfl rfl (one_of HT_.out Z12) Z101 (fun K hK => ?_); refine skip_ (w1 := ?_) (by rfl) rfl ?_ ?_; rotate_left
          ·go_simp; rfl
          refine hK.out _ _ ?_; clear hK K; refine done_ (done_of HT_.out Z12) ?_; (try go_wp2); have n0_ : Aside0 (Kd.R (Kd.int .u64) 24 (w26.setCell ⟨go21, (x8_1 : Int).toNat, none⟩ (.int .u64 t193)) w.heap.size (fun _ => True) (.slice (some ⟨go21, 0, none⟩) x6_1.length co21) y194) := ⟨by (with_reducible repeat (first | apply Kd.R_alloc | apply Kd.R_drewN | apply Kd.R_drew)); exact HQ27.out⟩; have n1_ : Aside0 ((w26.setCell ⟨go21, (x8_1 : Int).toNat, none⟩ (.int .u64 t193)).heap[gb186]? = some (.cells #[.slice A1 l1.length c1] 22 (0, 0))) := ⟨Z64⟩; have n2_ : Aside0 ((w26.setCell ⟨go21, (x8_1 : Int).toNat, none⟩ (.int .u64 t193)).heap[gb187]? = some (.cells #[.int .u8 a2_0] 68 (0, 0))) := ⟨Z63⟩; have n3_ : Aside0 ((w26.setCell ⟨go21, (x8_1 : Int).toNat, none⟩ (.int .u64 t193)).heap[gb188]? = some (.cells #[.slice (some ad192) l3.length c3] 22 (0, 0))) := ⟨Z62⟩; have n4_ : Aside0 (Below w.heap.size w (w26.setCell ⟨go21, (x8_1 : Int).toNat, none⟩ (.int .u64 t193))) := ⟨by repeat (first | (with_reducible first | exact HB.out | apply below_alloc | apply pw_below_drewN | apply below_drew1 | refine below_set ?_ GB21.out | refine below_set ?_ GE186.out | refine below_set ?_ GE187.out | refine below_set ?_ GE188.out) | exact HB.out)⟩; (try clear HO_6)
          (try clear BK186)
          (try clear BK187)
          (try clear BK188)
          (try clear HB)
          generalize (w26.setCell ⟨go21, (x8_1 : Int).toNat, none⟩ (.int .u64 t193)) = w28 at n0_ n1_ n2_ n3_ n4_ ⊢
          have HO_6 := n0_; have BK186 := n1_; have BK187 := n2_; have BK188 := n3_; have HB := n4_; clear n0_ n1_ n2_ n3_ n4_; replace HO_6 := am (Kd.R_drew HO_6.out); replace BK186 := am (blk_drew BK186.out); replace BK187 := am (blk_drew BK187.out); replace BK188 := am (blk_drew BK188.out); replace HB := am (below_drew1 HB.out); have p195 : 0 ≤ (x8_1 : Int) := of_decide_eq_true Z3; have q195 : x8_1 < (l1.length : Int) := of_decide_eq_true Z3; obtain ⟨ad195, e195, hx195_0⟩ := Kd.at_int HR1.out x8_1 p195 q195; have hw195_0 := hx195_0; cases e195; replace hx195_0 := (HB.out.cell (World.block_lt_of_cell? w _ hx195_0)).trans hx195_0; replace p195 := eq_true p195; replace q195 := eq_true q195; refine start_ (n := 11) (S := fun w' => w'.cell? ⟨gb187, 0, none⟩ = some (.int .u8 a2_0) ∧ w'.cell? ⟨gb186, 0, none⟩ = some (.slice (some ad195) l1.length c1) ∧ w'.cell? (ad195.add (x8_1).toNat) = some (.int .u64 (rd l1 x8_1))) (ds := []) #[false, false, false, false, false, false, false, false, false, false, false] Z12 rfl rfl ⟨(blk_cell BK187.out 0).trans rfl, (blk_cell BK186.out 0).trans rfl, ((HB.out.cell (World.block_lt_of_cell? w _ hw195_0)).trans hw195_0)⟩ (fun hHeld => ?_); refine with_tabW interp_basis_1.tab7 interp_basis_1.bits7 (fun HT_ HW_ => ?_)
          generalize w28.drew = w29 at HO_6 BK186 BK187 BK188 HB HQ27 hx195_0 hHeld ⊢
          refine pure_ (i := 1) (N := some 32) (v := ?_) (a' := ?_) #[false, true, false, false, false, false, false, false, false, false, false] rfl rfl (any_of HT_.out Z12) (fun _ _ _ h => h) (Or.inl ⟨by rfl, ?_⟩) ?_ ?_; rotate_left
          ·intro w'; go_simp; with_reducible rfl
          rotate_left
          ·simp only [Act.put, List.setIfInBounds_toArray, List.set_cons_zero, List.set_cons_succ, i64_w, i32_w]; rfl
          refine pure_ (i := 3) (N := some 34) (v := ?_) (a' := ?_) #[false, true, false, true, false, false, false, false, false, false, false] rfl rfl (any_of HT_.out Z12) (fun _ _ _ h => h) (Or.inl ⟨by rfl, ?_⟩) ?_ ?_; rotate_left
          ·intro w'; go_simp; with_reducible rfl
          rotate_left
          ·simp only [Act.put, List.setIfInBounds_toArray, List.set_cons_zero, List.set_cons_succ, i64_w, i32_w]; rfl
          refine pure_ (i := 5) (N := some 36) (v := ?_) (a' := ?_) #[false, true, false, true, false, true, false, false, false, false, false] rfl rfl (any_of HT_.out Z12) (fun _ _ _ h => h) (Or.inl ⟨by rfl, ?_⟩) ?_ ?_; rotate_left
          ·intro w'; go_simp; with_reducible rfl
          rotate_left
          ·simp only [Act.put, List.setIfInBounds_toArray, List.set_cons_zero, List.set_cons_succ, i64_w, i32_w]; rfl
          refine take_ (i := 0) (N := some 31) (v := ?_) (a' := ?_) #[true, true, false, true, false, true, false, false, false, false, false] rfl rfl (take_ofW HT_.out HW_.out Z12) (fun _ _ _ h => h) (Or.inl ⟨by rfl, ?_⟩) hHeld ?_ ?_; rotate_left
          ·rintro w' ⟨s0, s1, s2⟩; go_simp; with_reducible rfl
          rotate_left
          ·simp only [Act.put, List.setIfInBounds_toArray, List.set_cons_zero, List.set_cons_succ, i64_w, i32_w]; rfl
          refine take_ (i := 2) (N := some 33) (v := ?_) (a' := ?_) #[true, true, true, true, false, true, false, false, false, false, false] rfl rfl (take_ofW HT_.out HW_.out Z12) (fun _ _ _ h => h) (Or.inl ⟨by rfl, ?_⟩) hHeld ?_ ?_; rotate_left
          ·rintro w' ⟨s0, s1, s2⟩; go_simp; with_reducible rfl
          rotate_left
          ·simp only [Act.put, List.setIfInBounds_toArray, List.set_cons_zero, List.set_cons_succ, i64_w, i32_w]; rfl
          refine take_ (i := 4) (N := some 35) (v := ?_) (a' := ?_) #[true, true, true, true, true, true, false, false, false, false, false] rfl rfl (take_ofW HT_.out HW_.out Z12) (fun _ _ _ h => h) (Or.inl ⟨by rfl, ?_⟩) hHeld ?_ ?_; rotate_left
          ·rintro w' ⟨s0, s1, s2⟩; go_simp; with_reducible rfl
          rotate_left
          ·simp only [Act.put, List.setIfInBounds_toArray, List.set_cons_zero, List.set_cons_succ, i64_w, i32_w]; rfl
          refine pure_ (i := 6) (N := some 37) (v := ?_) (a' := ?_) #[true, true, true, true, true, true, true, false, false, false, false] rfl rfl (any_of HT_.out Z12) (fun _ _ _ h => h) (Or.inl ⟨by rfl, ?_⟩) ?_ ?_; rotate_left
          ·intro w'; go_simp; with_reducible rfl
          rotate_left
          ·simp only [Act.put, List.setIfInBounds_toArray, List.set_cons_zero, List.set_cons_succ, i64_w, i32_w]; rfl
          refine take_ (i := 7) (N := some 38) (v := ?_) (a' := ?_) #[true, true, true, true, true, true, true, true, false, false, false] rfl rfl (take_ofW HT_.out HW_.out Z12) (fun _ _ _ h => h) (Or.inl ⟨by rfl, ?_⟩) hHeld ?_ ?_; rotate_left
          ·rintro w' ⟨s0, s1, s2⟩; go_simp; with_reducible rfl
          rotate_left
          ·simp only [Act.put, List.setIfInBounds_toArray, List.set_cons_zero, List.set_cons_succ, i64_w, i32_w]; rfl
          refine one_ (i := 8) (N := some 39) #[true, true, true, true, true, true, true, true, true, false, false] rfl rfl (one_of HT_.out Z12) Z101 (fun K hK => ?_); refine goes_ Try.func56 Z12 rfl #[.agg #[.int .u8 a2_0], .int .u64 a0, .int .u64 (rd l1 x8_1)] (by rfl) rfl rfl Z2 ?_; (with_reducible refine (interp_reckoner_sub.calls k1 a2_0 a0 (rd l1 x8_1) t196 _ A23.out).mono ?_); rintro e w30 ⟨rfl, hb⟩; refine ⟨_, rfl, ?_⟩; replace HO_6 := am (Kd.R_below Z35 hb); replace BK186 := am (blk_below (g := gb186) (o := .cells #[.slice (some ad195) l1.length c1] 22 (0, 0)) Z30 hb); replace BK187 := am (blk_below (g := gb187) (o := .cells #[.int .u8 a2_0] 68 (0, 0)) Z29 hb); replace BK188 := am (blk_below (g := gb188) (o := .cells #[.slice (some ad192) l3.length c3] 22 (0, 0)) Z28 hb); replace HB := am (below_step Z9 hb); (try clear hb)
          (try clear hb2)
          (try clear hk)
          (try clear hi)
          refine hK.out _ _ ⟨(blk_cell BK187.out 0).trans rfl, (blk_cell BK186.out 0).trans rfl, ((HB.out.cell (World.block_lt_of_cell? w _ hw195_0)).trans hw195_0)⟩ (fun hHeld => ?_); clear hK K; refine norm_ (a' := ?_) ?_ ?_; rotate_left
          ·show Act.put _ (some 39) _ = _
           simp only [Act.put, List.setIfInBounds_toArray, List.set_cons_zero, List.set_cons_succ, i64_w, i32_w]; rfl
          refine one_ (i := 9) (N := some 40) #[true, true, true, true, true, true, true, true, true, true, false] rfl rfl (one_of HT_.out Z12) Z101 (fun K hK => ?_); refine goes_ Try.func42 Z12 rfl #[.agg #[.int .u8 a2_0], .int .u64 x7_1, .int .u64 t196] (by rfl) rfl rfl Z2 ?_; (with_reducible refine (interp_reckoner_mul.calls k1 a2_0 x7_1 t196 t197 _ A24.out).mono ?_); rintro e w31 ⟨rfl, hb⟩; refine ⟨_, rfl, ?_⟩; replace HO_6 := am (Kd.R_below Z35 hb); replace BK186 := am (blk_below (g := gb186) (o := .cells #[.slice (some ad195) l1.length c1] 22 (0, 0)) Z30 hb); replace BK187 := am (blk_below (g := gb187) (o := .cells #[.int .u8 a2_0] 68 (0, 0)) Z29 hb); replace BK188 := am (blk_below (g := gb188) (o := .cells #[.slice (some ad192) l3.length c3] 22 (0, 0)) Z28 hb); replace HB := am (below_step Z9 hb); (try clear hb)
          (try clear hb2)
          (try clear hk)
          (try clear hi)
          refine hK.out _ _ ⟨(blk_cell BK187.out 0).trans rfl, (blk_cell BK186.out 0).trans rfl, ((HB.out.cell (World.block_lt_of_cell? w _ hw195_0)).trans hw195_0)⟩ (fun hHeld => ?_); clear hK K; refine norm_ (a' := ?_) ?_ ?_; rotate_left
          ·show Act.put _ (some 40) _ = _
           simp only [Act.put, List.setIfInBounds_toArray, List.set_cons_zero, List.set_cons_succ, i64_w, i32_w]; rfl
          refine pure_ (i := 10) (N := some 7) (v := ?_) (a' := ?_) #[true, true, true, true, true, true, true, true, true, true, true] rfl rfl (any_of HT_.out Z12) (fun _ _ _ h => h) (Or.inl ⟨by rfl, ?_⟩) ?_ ?_; rotate_left
          ·intro w'; go_simp; with_reducible rfl
          rotate_left
          ·simp only [Act.put, List.setIfInBounds_toArray, List.set_cons_zero, List.set_cons_succ, i64_w, i32_w]; rfl
          refine done_ (done_of HT_.out Z12) ?_; (try go_wp2); go_roundg k1
          case measure => have := HK1.out; omega
          case rel => exact ⟨(y194), (t197), (wrap64 (x8_1 - 1)), Z7, Z7, H', ⟨Z75⟩, ⟨Z35⟩, ⟨Z30⟩, ⟨Z29⟩, ⟨Z28⟩, ⟨Z9⟩⟩
         ·rw [if_neg c22] at H; exact absurd H (by simp)
        ·rw [if_neg c20] at H; exact absurd H (by simp)
       ·rw [if_neg c18] at H; exact absurd H (by simp)
      ·rw [if_neg c17] at H; exact absurd H (by simp)
     ·rw [if_neg c16] at H; have c16b0 : decide (0 ≤ x8_1) = false := decide_eq_false c16; clear c16; have H' := am H; clear H; have hnb32 := NB186_187.out; have hnc32 := NB187_186.out; have hnb33 := NB186_188.out; have hnc33 := NB188_186.out; have hcz34_0 : wr.cell? ⟨gb186, 0, none⟩ = some (.slice A1 l1.length c1) := (blk_cell BK186.out 0).trans rfl; have hfz34_0 := blk_frozen BK186.out 0; go_wp2; go_loopg [9, 43] k1 (fun kq v9 v43 w' => ∃ (x6_2 : List Int) (x9_2 : Int) (x43_2 : Int), v9 = .int .u64 x9_2 ∧ v43 = .int .i64 x43_2 ∧ Aside0 (interp_basis_1.l1 kq a0 x6_2 x9_2 (l1.length : Int) x43_2 l1 a2_0 = some r) ∧ Aside0 (kq ≤ k1) ∧ Aside0 (Kd.R (Kd.int .u64) 24 w' w.heap.size (fun _ => True) v190 x6_2) ∧ Aside0 (w'.heap[gb186]? = some (.cells #[(.slice A1 l1.length c1)] 22 (0, 0))) ∧ Aside0 (w'.heap[gb187]? = some (.cells #[.int .u8 a2_0] 68 (0, 0))) ∧ Aside0 (w'.heap[gb188]? = some (.cells #[(.slice A3 l3.length c3)] 22 (0, 0))) ∧ Aside0 (Below w.heap.size w w'))
      case atStart => exact ⟨(x6_1), (1), (0), Z7, Z7, H', ⟨Nat.le_refl _⟩, ⟨Z35⟩, ⟨Z30⟩, ⟨Z29⟩, ⟨Z28⟩, ⟨Z9⟩⟩
      case round =>
       clear H'; (try clear c1); (try clear p1); (try clear q1); (try clear hx1); (try clear c2); (try clear p2); (try clear q2); (try clear hx2); (try clear c3); (try clear c4); (try clear c5); (try clear c5b0); (try clear c5b1); (try clear c6); (try clear c6b0); (try clear c6b1); (try clear p6); (try clear c10); (try clear c11); (try clear c16); (try clear c16b0); (try clear c17); (try clear c17b0); (try clear c18); (try clear c18b0); (try clear p19); (try clear q19); (try clear hx19); (try clear c20); (try clear c20b0); (try clear p21); (try clear q21); (try clear hx21); (try clear hf21); (try clear c22); (try clear c22b0); (try clear c32); (try clear c33); (try clear hcz12_0); (try clear hcz15_0); (try clear hcz34_0); (try clear hfz12_0); (try clear hfz15_0); (try clear hfz34_0); (try clear hx192_0); (try clear hx195_0); (try clear hx21_0); (try clear p192); (try clear p195); (try clear p2); (try clear p21); (try clear p6); (try clear q192); (try clear q195); (try clear q21); obtain ⟨x6_2, x9_2, x43_2, rfl, rfl, HA, HK2, HO_6, BK186, BK187, BK188, HB⟩ := hrel; cases gk with
       | zero => exact absurd HA.out (by simp [interp_basis_1.l1])
       | succ k2 =>
        have H := HA.out; clear HA; simp only [interp_basis_1.l1] at H; by_cases c35 : x43_2 < (l1.length : Int)
        ·rw [if_pos c35] at H; have c35b0 : decide (x43_2 < (l1.length : Int)) = true := decide_eq_true c35; clear c35; by_cases c36 : 0 ≤ x43_2
         ·rw [if_pos c36] at H; have c36b0 : decide (0 ≤ x43_2) = true := decide_eq_true c36; clear c36; by_cases c37 : x43_2 < (x6_2.length : Int)
          ·rw [if_pos c37] at H; have c37b0 : decide (x43_2 < (x6_2.length : Int)) = true := decide_eq_true c37; clear c37; replace H := Option.bind_eq_some_iff.mp H; obtain ⟨t199, A380, H⟩ := H; replace H : (if x43_2 < (l1.length : Int) then ((interp_reckoner_sub.f k2 a2_0 a0 (rd l1 x43_2)).bind fun t202 => ((interp_reckoner_mul.f k2 a2_0 x9_2 t202).bind fun t203 => (interp_basis_1.l1 k2 a0 (x6_2.set (x43_2 : Int).toNat t199) t203 (l1.length : Int) (wrap64 (x43_2 + 1)) l1 a2_0))) else (none)) = some r := H; have A38 := am A380; clear A380; obtain ⟨y200, hy200⟩ : ∃ y_ : List Int, y_ = (x6_2.set (x43_2 : Int).toNat t199) := ⟨_, rfl⟩; replace H : (if x43_2 < (l1.length : Int) then ((interp_reckoner_sub.f k2 a2_0 a0 (rd l1 x43_2)).bind fun t202 => ((interp_reckoner_mul.f k2 a2_0 x9_2 t202).bind fun t203 => (interp_basis_1.l1 k2 a0 y200 t203 (l1.length : Int) (wrap64 (x43_2 + 1)) l1 a2_0))) else (none)) = some r := by first | (rw [hy200]; with_reducible exact H) | (have H2_ := (Option.bind_some _ _).symm.trans H; rw [hy200]; with_reducible exact H2_) | (have H2_ := (Option.bind_some _ _).symm.trans H; with_reducible exact H2_) | with_reducible exact H | (rw [hy200]; exact H) | exact H
           have Ny200 := am hy200; clear hy200; by_cases c40 : x43_2 < (l1.length : Int)
           ·rw [if_pos c40] at H; have c40b0 : decide (x43_2 < (l1.length : Int)) = true := decide_eq_true c40; clear c40; replace H := Option.bind_eq_some_iff.mp H; obtain ⟨t202, A410, H⟩ := H; replace H : ((interp_reckoner_mul.f k2 a2_0 x9_2 t202).bind fun t203 => (interp_basis_1.l1 k2 a0 y200 t203 (l1.length : Int) (wrap64 (x43_2 + 1)) l1 a2_0)) = some r := H; have A41 := am A410; clear A410; replace H := Option.bind_eq_some_iff.mp H; obtain ⟨t203, A420, H⟩ := H; replace H : (interp_basis_1.l1 k2 a0 y200 t203 (l1.length : Int) (wrap64 (x43_2 + 1)) l1 a2_0) = some r := H; have A42 := am A420; clear A420; have H' := am H; clear H; (try go_wp2); replace HO_6 := am (Kd.R_drew HO_6.out); replace BK186 := am (blk_drew BK186.out); replace BK187 := am (blk_drew BK187.out); replace BK188 := am (blk_drew BK188.out); replace HB := am (below_drew1 HB.out); obtain ⟨Ao44, co44, eo44⟩ := Kd.R_slice HO_6.out; (first | subst eo44 | (injection eo44 with f1_ f2_ f3_; have f4_ := f1_.symm; have f5_ := f3_.symm; clear f1_ f2_ f3_; subst f4_; subst f5_))
            have p198 : 0 ≤ (x43_2 : Int) := of_decide_eq_true Z3; have q198 : x43_2 < (x6_2.length : Int) := of_decide_eq_true Z3; obtain ⟨ad198, e198, hx198_0⟩ := Kd.at_int (Kd.R_reads' HO_6.out).2.2 x43_2 p198 q198; cases e198; replace p198 := eq_true p198; replace q198 := eq_true q198; refine start_ (n := 11) (S := fun w' => w'.cell? ⟨gb187, 0, none⟩ = some (.int .u8 a2_0) ∧ w'.cell? (ad198.add (x43_2).toNat) = some (.int .u64 (rd x6_2 x43_2))) (ds := [10]) #[false, false, false, false, false, false, false, false, false, false, false] Z12 rfl rfl ⟨(blk_cell BK187.out 0).trans rfl, hx198_0⟩ (fun hHeld => ?_); refine with_tabW interp_basis_1.tab12 interp_basis_1.bits12 (fun HT_ HW_ => ?_)
            generalize wr.drew = w43 at HO_6 BK186 BK187 BK188 HB hx198_0 hHeld ⊢
            refine pure_ (i := 0) (N := some 46) (v := ?_) (a' := ?_) #[true, false, false, false, false, false, false, false, false, false, false] rfl rfl (any_of HT_.out Z12) (fun _ _ _ h => h) (Or.inl ⟨by rfl, ?_⟩) ?_ ?_; rotate_left
            ·intro w'; go_simp; with_reducible rfl
            rotate_left
            ·simp only [Act.put, List.setIfInBounds_toArray, List.set_cons_zero, List.set_cons_succ, i64_w, i32_w]; rfl
            refine pure_ (i := 1) (N := some 47) (v := ?_) (a' := ?_) #[true, true, false, false, false, false, false, false, false, false, false] rfl rfl (any_of HT_.out Z12) (fun _ _ _ h => h) (Or.inl ⟨by rfl, ?_⟩) ?_ ?_; rotate_left
            ·intro w'; go_simp; with_reducible rfl
            rotate_left
            ·simp only [Act.put, List.setIfInBounds_toArray, List.set_cons_zero, List.set_cons_succ, i64_w, i32_w]; rfl
            refine pure_ (i := 3) (N := some 49) (v := ?_) (a' := ?_) #[true, true, false, true, false, false, false, false, false, false, false] rfl rfl (any_of HT_.out Z12) (fun _ _ _ h => h) (Or.inl ⟨by rfl, ?_⟩) ?_ ?_; rotate_left
            ·intro w'; go_simp; with_reducible rfl
            rotate_left
            ·simp only [Act.put, List.setIfInBounds_toArray, List.set_cons_zero, List.set_cons_succ, i64_w, i32_w]; rfl
            refine pure_ (i := 4) (N := some 50) (v := ?_) (a' := ?_) #[true, true, false, true, true, false, false, false, false, false, false] rfl rfl (any_of HT_.out Z12) (fun _ _ _ h => h) (Or.inl ⟨by rfl, ?_⟩) ?_ ?_; rotate_left
            ·intro w'; go_simp; with_reducible rfl
            rotate_left
            ·simp only [Act.put, List.setIfInBounds_toArray, List.set_cons_zero, List.set_cons_succ, i64_w, i32_w]; rfl
            refine pure_ (i := 5) (N := some 51) (v := ?_) (a' := ?_) #[true, true, false, true, true, true, false, false, false, false, false] rfl rfl (any_of HT_.out Z12) (fun _ _ _ h => h) (Or.inl ⟨by rfl, ?_⟩) ?_ ?_; rotate_left
            ·intro w'; go_simp; with_reducible rfl
            rotate_left
            ·simp only [Act.put, List.setIfInBounds_toArray, List.set_cons_zero, List.set_cons_succ, i64_w, i32_w]; rfl
            refine pure_ (i := 7) (N := some 53) (v := ?_) (a' := ?_) #[true, true, false, true, true, true, false, true, false, false, false] rfl rfl (any_of HT_.out Z12) (fun _ _ _ h => h) (Or.inl ⟨by rfl, ?_⟩) ?_ ?_; rotate_left
            ·intro w'; go_simp; with_reducible rfl
            rotate_left
            ·simp only [Act.put, List.setIfInBounds_toArray, List.set_cons_zero, List.set_cons_succ, i64_w, i32_w]; rfl
            refine take_ (i := 2) (N := some 48) (v := ?_) (a' := ?_) #[true, true, true, true, true, true, false, true, false, false, false] rfl rfl (take_ofW HT_.out HW_.out Z12) (fun _ _ _ h => h) (Or.inl ⟨by rfl, ?_⟩) hHeld ?_ ?_; rotate_left
            ·rintro w' ⟨s0, s1⟩; go_simp; with_reducible rfl
            rotate_left
            ·simp only [Act.put, List.setIfInBounds_toArray, List.set_cons_zero, List.set_cons_succ, i64_w, i32_w]; rfl
            refine take_ (i := 6) (N := some 52) (v := ?_) (a' := ?_) #[true, true, true, true, true, true, true, true, false, false, false] rfl rfl (take_ofW HT_.out HW_.out Z12) (fun _ _ _ h => h) (Or.inl ⟨by rfl, ?_⟩) hHeld ?_ ?_; rotate_left
            ·rintro w' ⟨s0, s1⟩; go_simp; with_reducible rfl
            rotate_left
            ·simp only [Act.put, List.setIfInBounds_toArray, List.set_cons_zero, List.set_cons_succ, i64_w, i32_w]; rfl
            refine one_ (i := 8) (N := some 54) #[true, true, true, true, true, true, true, true, true, false, false] rfl rfl (one_of HT_.out Z12) Z101 (fun K hK => ?_); refine goes_ Try.func42 Z12 rfl #[.agg #[.int .u8 a2_0], .int .u64 (rd x6_2 x43_2), .int .u64 x9_2] (by rfl) rfl rfl Z2 ?_; (with_reducible refine (interp_reckoner_mul.calls k2 a2_0 (rd x6_2 x43_2) x9_2 t199 _ A38.out).mono ?_); rintro e w45 ⟨rfl, hb⟩; have HS1_ := (hb.cell (World.block_lt_of_cell? _ _ (hHeld.2))).trans (hHeld.2); refine ⟨_, rfl, ?_⟩; replace HO_6 := am (Kd.R_below Z35 hb); replace BK186 := am (blk_below (g := gb186) (o := .cells #[.slice A1 l1.length c1] 22 (0, 0)) Z30 hb); replace BK187 := am (blk_below (g := gb187) (o := .cells #[.int .u8 a2_0] 68 (0, 0)) Z29 hb); replace BK188 := am (blk_below (g := gb188) (o := .cells #[.slice A3 l3.length c3] 22 (0, 0)) Z28 hb); replace HB := am (below_step Z9 hb); (try clear hb)
            (try clear hb2)
            (try clear hk)
            (try clear hi)
            have p39 : 0 ≤ (x43_2 : Int) := of_decide_eq_true Z3; have q39 : (x43_2 : Int) < ((x6_2.length : Int) : Int) := of_decide_eq_true Z3; obtain ⟨go39, co39, eo39, gb39, gl39, cl39, HG39⟩ := Kd.R_form HO_6.out (by omega); (first | cases eo39 | (injection eo39 with ea_ en_ ec_; (first | subst ea_ | (injection ea_ with ea_; subst ea_)); subst ec_; clear en_))
            have GB39 := am gb39; have GG39 := am HG39; clear gb39 gl39 HG39; (first | simp only [add_plain] at hx198_0 | skip)
            obtain ⟨hx39_0, hf39_0⟩ := Kd.R_celln 0 HO_6.out (x43_2 : Int) p39 q39; replace p39 := eq_true p39; replace q39 := eq_true q39; have HP46 := Kd.R_putn HO_6.out (x43_2 : Int) t199; rw [← Ny200.out] at HP46; have HQ46 := am HP46; clear HP46; refine hK.out _ _ ⟨(blk_cell BK187.out 0).trans rfl, HS1_⟩ (fun hHeld => ?_); clear hK K; refine norm_ (a' := ?_) ?_ ?_; rotate_left
            ·show Act.put _ (some 54) _ = _
             simp only [Act.put, List.setIfInBounds_toArray, List.set_cons_zero, List.set_cons_succ, i64_w, i32_w]; rfl
            refine pure_ (i := 9) (N := some 55) (v := ?_) (a' := ?_) #[true, true, true, true, true, true, true, true, true, true, false] rfl rfl (any_of HT_.out Z12) (fun _ _ _ h => h) (Or.inl ⟨by rfl, ?_⟩) ?_ ?_; rotate_left
            ·intro w'; go_simp; with_reducible rfl
            rotate_left
            ·simp only [Act.put, List.setIfInBounds_toArray, List.set_cons_zero, List.set_cons_succ, i64_w, i32_w]; rfl
            refine last_ (i := 10) (N := none) #[true, true, true, true, true, true, true, true, true, true, true] rfl rfl (one_of HT_.out Z12) Z101 (fun K hK => ?_); refine skip_ (w1 := ?_) (by rfl) rfl ?_ ?_; rotate_left
            ·go_simp; rfl
            refine hK.out _ _ ?_; clear hK K; refine done_ (done_of HT_.out Z12) ?_; (try go_wp2); have n0_ : Aside0 (Kd.R (Kd.int .u64) 24 (w45.setCell ⟨go39, (x43_2 : Int).toNat, none⟩ (.int .u64 t199)) w.heap.size (fun _ => True) (.slice (some ⟨go39, 0, none⟩) x6_2.length co44) y200) := ⟨by (with_reducible repeat (first | apply Kd.R_alloc | apply Kd.R_drewN | apply Kd.R_drew)); exact HQ46.out⟩; have n1_ : Aside0 ((w45.setCell ⟨go39, (x43_2 : Int).toNat, none⟩ (.int .u64 t199)).heap[gb186]? = some (.cells #[.slice A1 l1.length c1] 22 (0, 0))) := ⟨Z64⟩; have n2_ : Aside0 ((w45.setCell ⟨go39, (x43_2 : Int).toNat, none⟩ (.int .u64 t199)).heap[gb187]? = some (.cells #[.int .u8 a2_0] 68 (0, 0))) := ⟨Z63⟩; have n3_ : Aside0 ((w45.setCell ⟨go39, (x43_2 : Int).toNat, none⟩ (.int .u64 t199)).heap[gb188]? = some (.cells #[.slice A3 l3.length c3] 22 (0, 0))) := ⟨Z62⟩; have n4_ : Aside0 (Below w.heap.size w (w45.setCell ⟨go39, (x43_2 : Int).toNat, none⟩ (.int .u64 t199))) := ⟨by repeat (first | (with_reducible first | exact HB.out | apply below_alloc | apply pw_below_drewN | apply below_drew1 | refine below_set ?_ GB39.out | refine below_set ?_ GE186.out | refine below_set ?_ GE187.out | refine below_set ?_ GE188.out) | exact HB.out)⟩; (try clear HO_6)
            (try clear BK186)
            (try clear BK187)
            (try clear BK188)
            (try clear HB)
            generalize (w45.setCell ⟨go39, (x43_2 : Int).toNat, none⟩ (.int .u64 t199)) = w47 at n0_ n1_ n2_ n3_ n4_ ⊢
            have HO_6 := n0_; have BK186 := n1_; have BK187 := n2_; have BK188 := n3_; have HB := n4_; clear n0_ n1_ n2_ n3_ n4_; replace HO_6 := am (Kd.R_drew HO_6.out); replace BK186 := am (blk_drew BK186.out); replace BK187 := am (blk_drew BK187.out); replace BK188 := am (blk_drew BK188.out); replace HB := am (below_drew1 HB.out); have p201 : 0 ≤ (x43_2 : Int) := of_decide_eq_true Z3; have q201 : x43_2 < (l1.length : Int) := of_decide_eq_true Z3; obtain ⟨ad201, e201, hx201_0⟩ := Kd.at_int HR1.out x43_2 p201 q201; have hw201_0 := hx201_0; cases e201; replace hx201_0 := (HB.out.cell (World.block_lt_of_cell? w _ hx201_0)).trans hx201_0; replace p201 := eq_true p201; replace q201 := eq_true q201; refine start_ (n := 11) (S := fun w' => w'.cell? ⟨gb187, 0, none⟩ = some (.int .u8 a2_0) ∧ w'.cell? ⟨gb186, 0, none⟩ = some (.slice (some ad201) l1.length c1) ∧ w'.cell? (ad201.add (x43_2).toNat) = some (.int .u64 (rd l1 x43_2))) (ds := []) #[false, false, false, false, false, false, false, false, false, false, false] Z12 rfl rfl ⟨(blk_cell BK187.out 0).trans rfl, (blk_cell BK186.out 0).trans rfl, ((HB.out.cell (World.block_lt_of_cell? w _ hw201_0)).trans hw201_0)⟩ (fun hHeld => ?_); refine with_tabW interp_basis_1.tab13 interp_basis_1.bits13 (fun HT_ HW_ => ?_)
            generalize w47.drew = w48 at HO_6 BK186 BK187 BK188 HB HQ46 hx201_0 hHeld ⊢
            refine pure_ (i := 1) (N := some 57) (v := ?_) (a' := ?_) #[false, true, false, false, false, false, false, false, false, false, false] rfl rfl (any_of HT_.out Z12) (fun _ _ _ h => h) (Or.inl ⟨by rfl, ?_⟩) ?_ ?_; rotate_left
            ·intro w'; go_simp; with_reducible rfl
            rotate_left
            ·simp only [Act.put, List.setIfInBounds_toArray, List.set_cons_zero, List.set_cons_succ, i64_w, i32_w]; rfl
            refine pure_ (i := 3) (N := some 59) (v := ?_) (a' := ?_) #[false, true, false, true, false, false, false, false, false, false, false] rfl rfl (any_of HT_.out Z12) (fun _ _ _ h => h) (Or.inl ⟨by rfl, ?_⟩) ?_ ?_; rotate_left
            ·intro w'; go_simp; with_reducible rfl
            rotate_left
            ·simp only [Act.put, List.setIfInBounds_toArray, List.set_cons_zero, List.set_cons_succ, i64_w, i32_w]; rfl
            refine pure_ (i := 5) (N := some 61) (v := ?_) (a' := ?_) #[false, true, false, true, false, true, false, false, false, false, false] rfl rfl (any_of HT_.out Z12) (fun _ _ _ h => h) (Or.inl ⟨by rfl, ?_⟩) ?_ ?_; rotate_left
            ·intro w'; go_simp; with_reducible rfl
            rotate_left
            ·simp only [Act.put, List.setIfInBounds_toArray, List.set_cons_zero, List.set_cons_succ, i64_w, i32_w]; rfl
            refine take_ (i := 0) (N := some 56) (v := ?_) (a' := ?_) #[true, true, false, true, false, true, false, false, false, false, false] rfl rfl (take_ofW HT_.out HW_.out Z12) (fun _ _ _ h => h) (Or.inl ⟨by rfl, ?_⟩) hHeld ?_ ?_; rotate_left
            ·rintro w' ⟨s0, s1, s2⟩; go_simp; with_reducible rfl
            rotate_left
            ·simp only [Act.put, List.setIfInBounds_toArray, List.set_cons_zero, List.set_cons_succ, i64_w, i32_w]; rfl
            refine take_ (i := 2) (N := some 58) (v := ?_) (a' := ?_) #[true, true, true, true, false, true, false, false, false, false, false] rfl rfl (take_ofW HT_.out HW_.out Z12) (fun _ _ _ h => h) (Or.inl ⟨by rfl, ?_⟩) hHeld ?_ ?_; rotate_left
            ·rintro w' ⟨s0, s1, s2⟩; go_simp; with_reducible rfl
            rotate_left
            ·simp only [Act.put, List.setIfInBounds_toArray, List.set_cons_zero, List.set_cons_succ, i64_w, i32_w]; rfl
            refine take_ (i := 4) (N := some 60) (v := ?_) (a' := ?_) #[true, true, true, true, true, true, false, false, false, false, false] rfl rfl (take_ofW HT_.out HW_.out Z12) (fun _ _ _ h => h) (Or.inl ⟨by rfl, ?_⟩) hHeld ?_ ?_; rotate_left
            ·rintro w' ⟨s0, s1, s2⟩; go_simp; with_reducible rfl
            rotate_left
            ·simp only [Act.put, List.setIfInBounds_toArray, List.set_cons_zero, List.set_cons_succ, i64_w, i32_w]; rfl
            refine pure_ (i := 6) (N := some 62) (v := ?_) (a' := ?_) #[true, true, true, true, true, true, true, false, false, false, false] rfl rfl (any_of HT_.out Z12) (fun _ _ _ h => h) (Or.inl ⟨by rfl, ?_⟩) ?_ ?_; rotate_left
            ·intro w'; go_simp; with_reducible rfl
            rotate_left
            ·simp only [Act.put, List.setIfInBounds_toArray, List.set_cons_zero, List.set_cons_succ, i64_w, i32_w]; rfl
            refine take_ (i := 7) (N := some 63) (v := ?_) (a' := ?_) #[true, true, true, true, true, true, true, true, false, false, false] rfl rfl (take_ofW HT_.out HW_.out Z12) (fun _ _ _ h => h) (Or.inl ⟨by rfl, ?_⟩) hHeld ?_ ?_; rotate_left
            ·rintro w' ⟨s0, s1, s2⟩; go_simp; with_reducible rfl
            rotate_left
            ·simp only [Act.put, List.setIfInBounds_toArray, List.set_cons_zero, List.set_cons_succ, i64_w, i32_w]; rfl
            refine one_ (i := 8) (N := some 64) #[true, true, true, true, true, true, true, true, true, false, false] rfl rfl (one_of HT_.out Z12) Z101 (fun K hK => ?_); refine goes_ Try.func56 Z12 rfl #[.agg #[.int .u8 a2_0], .int .u64 a0, .int .u64 (rd l1 x43_2)] (by rfl) rfl rfl Z2 ?_; (with_reducible refine (interp_reckoner_sub.calls k2 a2_0 a0 (rd l1 x43_2) t202 _ A41.out).mono ?_); rintro e w49 ⟨rfl, hb⟩; refine ⟨_, rfl, ?_⟩; replace HO_6 := am (Kd.R_below Z35 hb); replace BK186 := am (blk_below (g := gb186) (o := .cells #[.slice (some ad201) l1.length c1] 22 (0, 0)) Z30 hb); replace BK187 := am (blk_below (g := gb187) (o := .cells #[.int .u8 a2_0] 68 (0, 0)) Z29 hb); replace BK188 := am (blk_below (g := gb188) (o := .cells #[.slice A3 l3.length c3] 22 (0, 0)) Z28 hb); replace HB := am (below_step Z9 hb); (try clear hb)
            (try clear hb2)
            (try clear hk)
            (try clear hi)
            refine hK.out _ _ ⟨(blk_cell BK187.out 0).trans rfl, (blk_cell BK186.out 0).trans rfl, ((HB.out.cell (World.block_lt_of_cell? w _ hw201_0)).trans hw201_0)⟩ (fun hHeld => ?_); clear hK K; refine norm_ (a' := ?_) ?_ ?_; rotate_left
            ·show Act.put _ (some 64) _ = _
             simp only [Act.put, List.setIfInBounds_toArray, List.set_cons_zero, List.set_cons_succ, i64_w, i32_w]; rfl
            refine one_ (i := 9) (N := some 65) #[true, true, true, true, true, true, true, true, true, true, false] rfl rfl (one_of HT_.out Z12) Z101 (fun K hK => ?_); refine goes_ Try.func42 Z12 rfl #[.agg #[.int .u8 a2_0], .int .u64 x9_2, .int .u64 t202] (by rfl) rfl rfl Z2 ?_; (with_reducible refine (interp_reckoner_mul.calls k2 a2_0 x9_2 t202 t203 _ A42.out).mono ?_); rintro e w50 ⟨rfl, hb⟩; refine ⟨_, rfl, ?_⟩; replace HO_6 := am (Kd.R_below Z35 hb); replace BK186 := am (blk_below (g := gb186) (o := .cells #[.slice (some ad201) l1.length c1] 22 (0, 0)) Z30 hb); replace BK187 := am (blk_below (g := gb187) (o := .cells #[.int .u8 a2_0] 68 (0, 0)) Z29 hb); replace BK188 := am (blk_below (g := gb188) (o := .cells #[.slice A3 l3.length c3] 22 (0, 0)) Z28 hb); replace HB := am (below_step Z9 hb); (try clear hb)
            (try clear hb2)
            (try clear hk)
            (try clear hi)
            refine hK.out _ _ ⟨(blk_cell BK187.out 0).trans rfl, (blk_cell BK186.out 0).trans rfl, ((HB.out.cell (World.block_lt_of_cell? w _ hw201_0)).trans hw201_0)⟩ (fun hHeld => ?_); clear hK K; refine norm_ (a' := ?_) ?_ ?_; rotate_left
            ·show Act.put _ (some 65) _ = _
             simp only [Act.put, List.setIfInBounds_toArray, List.set_cons_zero, List.set_cons_succ, i64_w, i32_w]; rfl
            refine pure_ (i := 10) (N := some 9) (v := ?_) (a' := ?_) #[true, true, true, true, true, true, true, true, true, true, true] rfl rfl (any_of HT_.out Z12) (fun _ _ _ h => h) (Or.inl ⟨by rfl, ?_⟩) ?_ ?_; rotate_left
            ·intro w'; go_simp; with_reducible rfl
            rotate_left
            ·simp only [Act.put, List.setIfInBounds_toArray, List.set_cons_zero, List.set_cons_succ, i64_w, i32_w]; rfl
            refine done_ (done_of HT_.out Z12) ?_; (try go_wp2); go_roundg k2
            case measure => have := HK1.out; have := HK2.out; omega
            case rel => exact ⟨(y200), (t203), (wrap64 (x43_2 + 1)), Z7, Z7, H', ⟨Z78⟩, ⟨Z35⟩, ⟨Z30⟩, ⟨Z29⟩, ⟨Z28⟩, ⟨Z9⟩⟩
           ·rw [if_neg c40] at H; exact absurd H (by simp)
          ·rw [if_neg c37] at H; exact absurd H (by simp)
         ·rw [if_neg c36] at H; exact absurd H (by simp)
        ·rw [if_neg c35] at H; have c35b0 : decide (x43_2 < (l1.length : Int)) = false := decide_eq_false c35; clear c35; obtain rfl := Option.some.inj H; go_wp2; go_ret; exact ⟨_, Z5, Z35, Z9⟩
  ·rw [if_neg c6] at H; exact absurd H (by simp)
 ·rw [if_neg c5] at H; exact absurd H (by simp)
end Go.Proofs.Ytdafolenaibccaa.P
end
