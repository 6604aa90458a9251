import Derived.Test.YtfkikfapbdlnjaaSShareRowsZ
import Derived.Test.YtfkikfapbdlnjaaSShareRows17
import Derived.Test.YtfkikfapbdlnjaaSShareRows19
import Derived.RangeFuncBox
import Derived.RangeFuncLeaves
import Derived.RangeFuncNested
import Derived.Shelf.Abstract
import Derived.WalkKit
import Derived.OwnWalkIn
import Derived.TacticsInMore
import Derived.LoopNIn
import Derived.LoopIn
import Derived.Maps.AppendAt
section
namespace Go.Proofs.Ytfkikfapbdlnjaa.P
open Go.RowKit Go.Proofs.YtfkikfapbdlnjaaW.PrintWords Go.Proofs.YtfkikfapbdlnjaaW.PrintLast Go.Proofs.YtfkikfapbdlnjaaW.PrintMore
attribute [local go_sem] max2_int min2_int max_two min_two max_three min_three max_four min_four
set_option linter.unusedVariables false
set_option linter.unusedSimpArgs false
mutual
def interp_basis_1.l0 : Nat → Int → List Int → Int → Int → List Int → Int → List Int → Option (List Int)
 | 0, _, _, _, _, _, _, _ => none
 | k + 1, x0, x6, x7, x8, x215000, x216000, x217000 => if x8 ≥ 0 then (if 0 ≤ x8 then (if x8 < (x217000.length : Int) then ((interp_reckoner_mul.f k x216000 (rd x217000 x8) x7).bind fun t221 => (if x8 < (x6.length : Int) then (if x8 < (x215000.length : Int) then ((interp_reckoner_sub.f k x216000 x0 (rd x215000 x8)).bind fun t224 => ((interp_reckoner_mul.f k x216000 x7 t224).bind fun t225 => (interp_basis_1.l0 k x0 (x6.set (x8 : Int).toNat t221) t225 (wrap64 (x8 - 1)) x215000 x216000 x217000))) else (none)) else (none))) else (none)) else (none)) else (interp_basis_1.l1 k x0 x6 1 (x215000.length : Int) 0 x215000 x216000)
def interp_basis_1.l1 : Nat → Int → List Int → Int → Int → Int → List Int → Int → Option (List Int)
 | 0, _, _, _, _, _, _, _ => none
 | k + 1, x0, x6, x9, x42, x43, x215000, x216000 => if x43 < x42 then (if 0 ≤ x43 then (if x43 < (x6.length : Int) then ((interp_reckoner_mul.f k x216000 (rd x6 x43) x9).bind fun t227 => (if x43 < (x215000.length : Int) then ((interp_reckoner_sub.f k x216000 x0 (rd x215000 x43)).bind fun t230 => ((interp_reckoner_mul.f k x216000 x9 t230).bind fun t231 => (interp_basis_1.l1 k x0 (x6.set (x43 : Int).toNat t227) t231 x42 (wrap64 (x43 + 1)) x215000 x216000))) else (none))) else (none)) else (none)) else (some x6)
end
def interp_basis_1.f (k : Nat) (a0 : Int) (l1 : List Int) (a2_0 : Int) (l3 : List Int) : Option (List Int) := if 0 ≤ (l1.length : Int) then (if ((l1.length : Int) : Int).toNat ≤ 35184372088832 then (interp_basis_1.l0 k a0 (List.replicate ((l1.length : Int) : Int).toNat 0) 1 (wrap64 ((l1.length : Int) - 1)) l1 a2_0 l3) else (none)) else (none)
def interp_basis_1.T6 : Bool × List (List Nat × List Nat) := (true, [([], []), ([], []), ([], []), ([], []), ([], []), ([3, 4], [3, 4]), ([5], [5]), ([], []), ([2, 6, 7], [2, 6, 7]), ([0, 1, 0, 1, 2, 3, 4, 5, 6, 7, 8], [0, 1]), ([9, 8, 8, 0, 1, 2, 3, 4, 5, 6, 7, 8], [8, 9])])
def interp_basis_1.B6 : List Nat := [0, 0, 0, 0, 0, 24, 56, 0, 252, 511, 1023]
theorem interp_basis_1.tab6 : rtab .any (opsOf Try.f96 6) = interp_basis_1.T6 := by kernel_rfl
theorem interp_basis_1.bits6 : waitsOk interp_basis_1.T6.2 interp_basis_1.B6 = true := by kernel_rfl
def interp_basis_1.T7 : Bool × List (List Nat × List Nat) := (true, [([], []), ([], []), ([], []), ([], []), ([], []), ([], []), ([4, 5], [4, 5]), ([6], [6]), ([2, 3, 7], [2, 3, 7]), ([0, 1, 8, 8], [0, 1, 8]), ([9, 9, 0, 1, 2, 3, 4, 5, 6, 7, 8, 9], [1, 9])])
def interp_basis_1.B7 : List Nat := [0, 0, 0, 0, 0, 0, 48, 112, 252, 511, 1023]
theorem interp_basis_1.tab7 : rtab .any (opsOf Try.f96 7) = interp_basis_1.T7 := by kernel_rfl
theorem interp_basis_1.bits7 : waitsOk interp_basis_1.T7.2 interp_basis_1.B7 = true := by kernel_rfl
def interp_basis_1.T12 : Bool × List (List Nat × List Nat) := (true, [([], []), ([], []), ([], []), ([], []), ([], []), ([3, 4], [3, 4]), ([5], [5]), ([], []), ([2, 6, 7], [2, 6, 7]), ([0, 1, 0, 1, 2, 3, 4, 5, 6, 7, 8], [0, 1]), ([9, 8, 8, 0, 1, 2, 3, 4, 5, 6, 7, 8], [8, 9])])
def interp_basis_1.B12 : List Nat := [0, 0, 0, 0, 0, 24, 56, 0, 252, 511, 1023]
theorem interp_basis_1.tab12 : rtab .any (opsOf Try.f96 12) = interp_basis_1.T12 := by kernel_rfl
theorem interp_basis_1.bits12 : waitsOk interp_basis_1.T12.2 interp_basis_1.B12 = true := by kernel_rfl
def interp_basis_1.T13 : Bool × List (List Nat × List Nat) := (true, [([], []), ([], []), ([], []), ([], []), ([], []), ([], []), ([4, 5], [4, 5]), ([6], [6]), ([2, 3, 7], [2, 3, 7]), ([0, 1, 8, 8], [0, 1, 8]), ([9, 9, 0, 1, 2, 3, 4, 5, 6, 7, 8, 9], [1, 9])])
def interp_basis_1.B13 : List Nat := [0, 0, 0, 0, 0, 0, 48, 112, 252, 511, 1023]
theorem interp_basis_1.tab13 : rtab .any (opsOf Try.f96 13) = interp_basis_1.T13 := by kernel_rfl
theorem interp_basis_1.bits13 : waitsOk interp_basis_1.T13.2 interp_basis_1.B13 = true := by kernel_rfl
set_option maxHeartbeats 8000000 in
set_option maxRecDepth 100000 in
theorem interp_basis_1.calls (k : Nat) (a0 : Int) (A1 : Option Addr) (c1 : Nat) (l1 : List Int) (a2_0 : Int) (A3 : Option Addr) (c3 : Nat) (l3 : List Int) (r : List Int) (gb214 : Nat) (gb215 : Nat) (gb216 : Nat) (w : World) (hr1 : Kd.C (Kd.int .u64) w A1 l1.length l1) (hc1 : l1.length ≤ c1) (hr3 : Kd.C (Kd.int .u64) w A3 l3.length l3) (hc3 : l3.length ≤ c3) (hk214 : w.heap[gb214]? = some (.cells #[.slice A1 l1.length c1] 38 (0, 0))) (hk215 : w.heap[gb215]? = some (.cells #[.int .u8 a2_0] 127 (0, 0))) (hk216 : w.heap[gb216]? = some (.cells #[.slice A3 l3.length c3] 38 (0, 0))) (hn214_215 : gb214 ≠ gb215) (hn214_216 : gb214 ≠ gb216) (hn215_216 : gb215 ≠ gb216) (h : interp_basis_1.f k a0 l1 a2_0 l3 = some r) :
  Calls Try.prog 96 #[.int .u64 a0, .pointer (some ⟨gb214, 0, none⟩), .pointer (some ⟨gb215, 0, none⟩), .pointer (some ⟨gb216, 0, none⟩)] w fun e w' => ∃ v0_ : Value, e = .returned (v0_) ∧ Kd.R (Kd.int .u64) 36 w' w.heap.size (fun _ => True) v0_ r ∧ Below w.heap.size w w' := by
 have BK214 := am hk214; clear hk214; have BK215 := am hk215; clear hk215; have BK216 := am hk216; clear hk216; have NB214_215 := am hn214_215; have NB215_214 := am hn214_215.symm; clear hn214_215; have NB214_216 := am hn214_216; have NB216_214 := am hn214_216.symm; clear hn214_216; have NB215_216 := am hn215_216; have NB216_215 := am hn215_216.symm; clear hn215_216; have hu127 := Try.underlying127; have HR1 := am hr1; have HC1 := am hc1; clear hr1 hc1; have HR3 := am hr3; have HC3 := am hc3; clear hr3 hc3; have HB := am (Below.refl w.heap.size w); have H : (if 0 ≤ (l1.length : Int) then (if ((l1.length : Int) : Int).toNat ≤ 35184372088832 then (interp_basis_1.l0 k a0 (List.replicate ((l1.length : Int) : Int).toNat 0) 1 (wrap64 ((l1.length : Int) - 1)) l1 a2_0 l3) else (none)) else (none)) = some r := h; clear h; by_cases c5 : 0 ≤ (l1.length : Int)
 ·rw [if_pos c5] at H; have c5b0 := eq_true c5; have c5b1 : decide (0 ≤ (l1.length : Int)) = true := decide_eq_true c5; clear c5; by_cases c6 : ((l1.length : Int) : Int).toNat ≤ 35184372088832
  ·rw [if_pos c6] at H; have c6b0 := eq_true c6; have c6b1 : decide (((l1.length : Int) : Int).toNat ≤ 35184372088832) = true := decide_eq_true c6; clear c6; obtain ⟨y217, hy217⟩ : ∃ y_ : List Int, y_ = (List.replicate ((l1.length : Int) : Int).toNat 0) := ⟨_, rfl⟩; replace H : (interp_basis_1.l0 k a0 y217 1 (wrap64 ((l1.length : Int) - 1)) l1 a2_0 l3) = some r := by first | (rw [hy217]; with_reducible exact H) | (have H2_ := (Option.bind_some _ _).symm.trans H; rw [hy217]; with_reducible exact H2_) | (have H2_ := (Option.bind_some _ _).symm.trans H; with_reducible exact H2_) | with_reducible exact H | (rw [hy217]; exact H) | exact H
   have Ny217 := am hy217; clear hy217; have H' := am H; clear H; have hcq214_0 : w.cell? ⟨gb214, 0, none⟩ = some (.slice A1 l1.length c1) := (blk_cell BK214.out 0).trans rfl; have hfq214_0 := blk_frozen BK214.out 0; have hcq215_0 : w.cell? ⟨gb215, 0, none⟩ = some (.int .u8 a2_0) := (blk_cell BK215.out 0).trans rfl; have hfq215_0 := blk_frozen BK215.out 0; have hcq216_0 : w.cell? ⟨gb216, 0, none⟩ = some (.slice A3 l3.length c3) := (blk_cell BK216.out 0).trans rfl; have hfq216_0 := blk_frozen BK216.out 0; go_enter Try.func96, Try.ntmps96
   go_wp2_with (first | ((with_reducible refine gate_dst (N := 13) rfl ?_); refine Kd.R_make (Kd.int .u64) _ 36 rfl (N := 13) rfl 38 _ _ rfl (l1.length : Int) rfl rfl Try.underlying38 (.int .u64 0) 8 info36 rfl Z117 Z121 0 (ok := fun _ => True) (okp := fun _ => True) rfl (fun _ hk => hk) trivial (of_decide_eq_true Z4) (Nat.le_trans (Nat.mul_le_mul_right _ (of_decide_eq_true Z4 : (l1.length : Int).toNat ≤ 35184372088832)) Z121) (Below.refl _ _) (Nat.le_refl _) ?_; intro v218 w13 ho14 hb hg_ hnew_; clear hg_ hnew_; (first | rw [← Ny217.out] at ho14 | (simp only [Int.reduceToNat] at ho14; rw [← Ny217.out] at ho14)); have HO219 := am (Kd.R_lower ho14 (below_size Z11)); replace BK214 := am (blk_below (g := gb214) (o := .cells #[.slice A1 l1.length c1] 38 (0, 0)) Z35 hb); replace BK215 := am (blk_below (g := gb215) (o := .cells #[.int .u8 a2_0] 127 (0, 0)) Z34 hb); replace BK216 := am (blk_below (g := gb216) (o := .cells #[.slice A3 l3.length c3] 38 (0, 0)) Z33 hb); replace HB := am (below_step Z11 hb); clear hb ho14; have hcz15_0 : w13.cell? ⟨gb214, 0, none⟩ = some (.slice A1 l1.length c1) := (blk_cell BK214.out 0).trans rfl; have hfz15_0 := blk_frozen BK214.out 0))
   go_loopg [7, 8] k (fun kq v7 v8 w' => ∃ (x6_1 : List Int) (x7_1 : Int) (x8_1 : Int), v7 = .int .u64 x7_1 ∧ v8 = .int .i64 x8_1 ∧ Aside0 (interp_basis_1.l0 kq a0 x6_1 x7_1 x8_1 l1 a2_0 l3 = some r) ∧ Aside0 (kq ≤ k) ∧ Aside0 (Kd.R (Kd.int .u64) 36 w' w.heap.size (fun _ => True) v218 x6_1) ∧ Aside0 (w'.heap[gb214]? = some (.cells #[(.slice A1 l1.length c1)] 38 (0, 0))) ∧ Aside0 (w'.heap[gb215]? = some (.cells #[.int .u8 a2_0] 127 (0, 0))) ∧ Aside0 (w'.heap[gb216]? = some (.cells #[(.slice A3 l3.length c3)] 38 (0, 0))) ∧ Aside0 (Below w.heap.size w w'))
   case atStart => exact ⟨(y217), (1), (wrap64 ((l1.length : Int) - 1)), Z5, Z5, H', ⟨Nat.le_refl _⟩, ⟨by (with_reducible repeat (first | apply Kd.R_alloc | apply Kd.R_drewN | apply Kd.R_drew)); exact HO219.out⟩, ⟨Z35⟩, ⟨Z34⟩, ⟨Z33⟩, ⟨Z11⟩⟩
   case round =>
    clear H'; (try clear c1); (try clear p2); (try clear c3); (try clear c5); (try clear c5b0); (try clear c5b1); (try clear c6); (try clear c6b0); (try clear c6b1); (try clear p6); (try clear c9); (try clear c10); (try clear c11); (try clear hcz12_0); (try clear hcz15_0); (try clear hfz12_0); (try clear hfz15_0); obtain ⟨x6_1, x7_1, x8_1, rfl, rfl, HA, HK1, HO_6, BK214, BK215, BK216, HB⟩ := hrel; cases gk with
    | zero => exact absurd HA.out (by simp [interp_basis_1.l0])
    | succ k1 =>
     have H := HA.out; clear HA; simp only [interp_basis_1.l0] at H; by_cases c16 : x8_1 ≥ 0
     ·rw [if_pos c16] at H; have c16b0 : decide (0 ≤ x8_1) = true := decide_eq_true c16; clear c16; by_cases c17 : 0 ≤ x8_1
      ·rw [if_pos c17] at H; have c17b0 : decide (0 ≤ x8_1) = true := decide_eq_true c17; clear c17; by_cases c18 : x8_1 < (l3.length : Int)
       ·rw [if_pos c18] at H; have c18b0 : decide (x8_1 < (l3.length : Int)) = true := decide_eq_true c18; clear c18; replace H := Option.bind_eq_some_iff.mp H; obtain ⟨t221, A190, H⟩ := H; replace H : (if x8_1 < (x6_1.length : Int) then (if x8_1 < (l1.length : Int) then ((interp_reckoner_sub.f k1 a2_0 a0 (rd l1 x8_1)).bind fun t224 => ((interp_reckoner_mul.f k1 a2_0 x7_1 t224).bind fun t225 => (interp_basis_1.l0 k1 a0 (x6_1.set (x8_1 : Int).toNat t221) t225 (wrap64 (x8_1 - 1)) l1 a2_0 l3))) else (none)) else (none)) = some r := H; have A19 := am A190; clear A190; by_cases c20 : x8_1 < (x6_1.length : Int)
        ·rw [if_pos c20] at H; have c20b0 : decide (x8_1 < (x6_1.length : Int)) = true := decide_eq_true c20; clear c20; obtain ⟨y222, hy222⟩ : ∃ y_ : List Int, y_ = (x6_1.set (x8_1 : Int).toNat t221) := ⟨_, rfl⟩; replace H : (if x8_1 < (l1.length : Int) then ((interp_reckoner_sub.f k1 a2_0 a0 (rd l1 x8_1)).bind fun t224 => ((interp_reckoner_mul.f k1 a2_0 x7_1 t224).bind fun t225 => (interp_basis_1.l0 k1 a0 y222 t225 (wrap64 (x8_1 - 1)) l1 a2_0 l3))) else (none)) = some r := by first | (rw [hy222]; with_reducible exact H) | (have H2_ := (Option.bind_some _ _).symm.trans H; rw [hy222]; with_reducible exact H2_) | (have H2_ := (Option.bind_some _ _).symm.trans H; with_reducible exact H2_) | with_reducible exact H | (rw [hy222]; exact H) | exact H
         have Ny222 := am hy222; clear hy222; by_cases c22 : x8_1 < (l1.length : Int)
         ·rw [if_pos c22] at H; have c22b0 : decide (x8_1 < (l1.length : Int)) = true := decide_eq_true c22; clear c22; replace H := Option.bind_eq_some_iff.mp H; obtain ⟨t224, A230, H⟩ := H; replace H : ((interp_reckoner_mul.f k1 a2_0 x7_1 t224).bind fun t225 => (interp_basis_1.l0 k1 a0 y222 t225 (wrap64 (x8_1 - 1)) l1 a2_0 l3)) = some r := H; have A23 := am A230; clear A230; replace H := Option.bind_eq_some_iff.mp H; obtain ⟨t225, A240, H⟩ := H; replace H : (interp_basis_1.l0 k1 a0 y222 t225 (wrap64 (x8_1 - 1)) l1 a2_0 l3) = some r := H; have A24 := am A240; clear A240; have H' := am H; clear H; (try go_wp2); replace HO_6 := am (Kd.R_drew HO_6.out); replace BK214 := am (blk_drew BK214.out); replace BK215 := am (blk_drew BK215.out); replace BK216 := am (blk_drew BK216.out); replace HB := am (below_drew1 HB.out); have p220 : 0 ≤ (x8_1 : Int) := of_decide_eq_true Z4; have q220 : x8_1 < (l3.length : Int) := of_decide_eq_true Z4; obtain ⟨ad220, e220, hx220_0⟩ := Kd.at_int HR3.out x8_1 p220 q220; have hw220_0 := hx220_0; cases e220; replace hx220_0 := (HB.out.cell (World.block_lt_of_cell? w _ hx220_0)).trans hx220_0; replace p220 := eq_true p220; replace q220 := eq_true q220; refine start_ (n := 11) (S := fun w' => w'.cell? ⟨gb215, 0, none⟩ = some (.int .u8 a2_0) ∧ w'.cell? ⟨gb216, 0, none⟩ = some (.slice (some ad220) l3.length c3) ∧ w'.cell? (ad220.add (x8_1).toNat) = some (.int .u64 (rd l3 x8_1))) (ds := [10]) #[false, false, false, false, false, false, false, false, false, false, false] Z12 rfl rfl ⟨(blk_cell BK215.out 0).trans rfl, (blk_cell BK216.out 0).trans rfl, ((HB.out.cell (World.block_lt_of_cell? w _ hw220_0)).trans hw220_0)⟩ (fun hHeld => ?_); refine with_tabW interp_basis_1.tab6 interp_basis_1.bits6 (fun HT_ HW_ => ?_)
          generalize wr.drew = w25 at HO_6 BK214 BK215 BK216 HB hx220_0 hHeld ⊢
          refine pure_ (i := 0) (N := some 21) (v := ?_) (a' := ?_) #[true, false, false, false, false, false, false, false, false, false, false] rfl rfl (any_of HT_.out Z12) (fun _ _ _ h => h) (Or.inl ⟨by rfl, ?_⟩) ?_ ?_; rotate_left
          ·intro w'; go_simp; with_reducible rfl
          rotate_left
          ·simp only [Act.put, List.setIfInBounds_toArray, List.set_cons_zero, List.set_cons_succ, i64_w, i32_w]; rfl
          refine pure_ (i := 1) (N := some 22) (v := ?_) (a' := ?_) #[true, true, false, false, false, false, false, false, false, false, false] rfl rfl (any_of HT_.out Z12) (fun _ _ _ h => h) (Or.inl ⟨by rfl, ?_⟩) ?_ ?_; rotate_left
          ·intro w'; go_simp; with_reducible rfl
          rotate_left
          ·simp only [Act.put, List.setIfInBounds_toArray, List.set_cons_zero, List.set_cons_succ, i64_w, i32_w]; rfl
          refine pure_ (i := 4) (N := some 25) (v := ?_) (a' := ?_) #[true, true, false, false, true, false, false, false, false, false, false] rfl rfl (any_of HT_.out Z12) (fun _ _ _ h => h) (Or.inl ⟨by rfl, ?_⟩) ?_ ?_; rotate_left
          ·intro w'; go_simp; with_reducible rfl
          rotate_left
          ·simp only [Act.put, List.setIfInBounds_toArray, List.set_cons_zero, List.set_cons_succ, i64_w, i32_w]; rfl
          refine pure_ (i := 7) (N := some 28) (v := ?_) (a' := ?_) #[true, true, false, false, true, false, false, true, false, false, false] rfl rfl (any_of HT_.out Z12) (fun _ _ _ h => h) (Or.inl ⟨by rfl, ?_⟩) ?_ ?_; rotate_left
          ·intro w'; go_simp; with_reducible rfl
          rotate_left
          ·simp only [Act.put, List.setIfInBounds_toArray, List.set_cons_zero, List.set_cons_succ, i64_w, i32_w]; rfl
          refine take_ (i := 2) (N := some 23) (v := ?_) (a' := ?_) #[true, true, true, false, true, false, false, true, false, false, false] rfl rfl (take_ofW HT_.out HW_.out Z12) (fun _ _ _ h => h) (Or.inl ⟨by rfl, ?_⟩) hHeld ?_ ?_; rotate_left
          ·rintro w' ⟨s0, s1, s2⟩; go_simp; with_reducible rfl
          rotate_left
          ·simp only [Act.put, List.setIfInBounds_toArray, List.set_cons_zero, List.set_cons_succ, i64_w, i32_w]; rfl
          refine take_ (i := 3) (N := some 24) (v := ?_) (a' := ?_) #[true, true, true, true, true, false, false, true, false, false, false] rfl rfl (take_ofW HT_.out HW_.out Z12) (fun _ _ _ h => h) (Or.inl ⟨by rfl, ?_⟩) hHeld ?_ ?_; rotate_left
          ·rintro w' ⟨s0, s1, s2⟩; go_simp; with_reducible rfl
          rotate_left
          ·simp only [Act.put, List.setIfInBounds_toArray, List.set_cons_zero, List.set_cons_succ, i64_w, i32_w]; rfl
          refine pure_ (i := 5) (N := some 26) (v := ?_) (a' := ?_) #[true, true, true, true, true, true, false, true, false, false, false] rfl rfl (any_of HT_.out Z12) (fun _ _ _ h => h) (Or.inl ⟨by rfl, ?_⟩) ?_ ?_; rotate_left
          ·intro w'; go_simp; with_reducible rfl
          rotate_left
          ·simp only [Act.put, List.setIfInBounds_toArray, List.set_cons_zero, List.set_cons_succ, i64_w, i32_w]; rfl
          refine take_ (i := 6) (N := some 27) (v := ?_) (a' := ?_) #[true, true, true, true, true, true, true, true, false, false, false] rfl rfl (take_ofW HT_.out HW_.out Z12) (fun _ _ _ h => h) (Or.inl ⟨by rfl, ?_⟩) hHeld ?_ ?_; rotate_left
          ·rintro w' ⟨s0, s1, s2⟩; go_simp; with_reducible rfl
          rotate_left
          ·simp only [Act.put, List.setIfInBounds_toArray, List.set_cons_zero, List.set_cons_succ, i64_w, i32_w]; rfl
          refine one_ (i := 8) (N := some 29) #[true, true, true, true, true, true, true, true, true, false, false] rfl rfl (one_of HT_.out Z12) Z117 (fun K hK => ?_); refine goes_ Try.func93 Z12 rfl #[.agg #[.int .u8 a2_0], .int .u64 (rd l3 x8_1), .int .u64 x7_1] (by rfl) rfl rfl Z2 ?_; (with_reducible refine (interp_reckoner_mul.calls k1 a2_0 (rd l3 x8_1) x7_1 t221 _ A19.out).mono ?_); rintro e w26 ⟨rfl, hb⟩; refine ⟨_, rfl, ?_⟩; replace HO_6 := am (Kd.R_below Z49 hb); replace BK214 := am (blk_below (g := gb214) (o := .cells #[.slice A1 l1.length c1] 38 (0, 0)) Z35 hb); replace BK215 := am (blk_below (g := gb215) (o := .cells #[.int .u8 a2_0] 127 (0, 0)) Z34 hb); replace BK216 := am (blk_below (g := gb216) (o := .cells #[.slice (some ad220) l3.length c3] 38 (0, 0)) Z33 hb); replace HB := am (below_step Z11 hb); (try clear hb)
          (try clear hb2)
          (try clear hk)
          (try clear hi)
          have p21 : 0 ≤ (x8_1 : Int) := of_decide_eq_true Z4; have q21 : (x8_1 : Int) < ((x6_1.length : Int) : Int) := of_decide_eq_true Z4; obtain ⟨go21, co21, eo21, gb21, gl21, cl21, HG21⟩ := Kd.R_form HO_6.out Z121; (first | cases eo21 | (injection eo21 with ea_ en_ ec_; (first | subst ea_ | (injection ea_ with ea_; subst ea_)); subst ec_; clear en_))
          have GB21 := am gb21; have GG21 := am HG21; clear gb21 gl21 HG21; obtain ⟨hx21_0, hf21_0⟩ := Kd.R_celln 0 HO_6.out (x8_1 : Int) p21 q21; replace p21 := eq_true p21; replace q21 := eq_true q21; have HP27 := Kd.R_putn HO_6.out (x8_1 : Int) t221; rw [← Ny222.out] at HP27; have HQ27 := am HP27; clear HP27; refine hK.out _ _ ⟨(blk_cell BK215.out 0).trans rfl, (blk_cell BK216.out 0).trans rfl, ((HB.out.cell (World.block_lt_of_cell? w _ hw220_0)).trans hw220_0)⟩ (fun hHeld => ?_); clear hK K; refine norm_ (a' := ?_) ?_ ?_; rotate_left
          ·show Act.put _ (some 29) _ = _
           simp only [Act.put, List.setIfInBounds_toArray, List.set_cons_zero, List.set_cons_succ, i64_w, i32_w]; rfl
          refine pure_ (i := 9) (N := some 30) (v := ?_) (a' := ?_) #[true, true, true, true, true, true, true, true, true, true, false] rfl rfl (any_of HT_.out Z12) (fun _ _ _ h => h) (Or.inl ⟨by rfl, ?_⟩) ?_ ?_; rotate_left
          ·intro w'; go_simp; with_reducible rfl
          rotate_left
          ·simp only [Act.put, List.setIfInBounds_toArray, List.set_cons_zero, List.set_cons_succ, i64_w, i32_w]; rfl
          refine last_ (i := 10) (N := none) #[true, true, true, true, true, true, true, true, true, true, true] rfl rfl (one_of HT_.out Z12) Z117 (fun K hK => ?_); refine skip_ (w1 := ?_) (by rfl) rfl ?_ ?_; rotate_left
          ·go_simp; rfl
          refine hK.out _ _ ?_; clear hK K; refine done_ (done_of HT_.out Z12) ?_; (try go_wp2); have n0_ : Aside0 (Kd.R (Kd.int .u64) 36 (w26.setCell ⟨go21, (x8_1 : Int).toNat, none⟩ (.int .u64 t221)) w.heap.size (fun _ => True) (.slice (some ⟨go21, 0, none⟩) x6_1.length co21) y222) := ⟨by (with_reducible repeat (first | apply Kd.R_alloc | apply Kd.R_drewN | apply Kd.R_drew)); exact HQ27.out⟩; have n1_ : Aside0 ((w26.setCell ⟨go21, (x8_1 : Int).toNat, none⟩ (.int .u64 t221)).heap[gb214]? = some (.cells #[.slice A1 l1.length c1] 38 (0, 0))) := ⟨Z86⟩; have n2_ : Aside0 ((w26.setCell ⟨go21, (x8_1 : Int).toNat, none⟩ (.int .u64 t221)).heap[gb215]? = some (.cells #[.int .u8 a2_0] 127 (0, 0))) := ⟨Z85⟩; have n3_ : Aside0 ((w26.setCell ⟨go21, (x8_1 : Int).toNat, none⟩ (.int .u64 t221)).heap[gb216]? = some (.cells #[.slice (some ad220) l3.length c3] 38 (0, 0))) := ⟨Z84⟩; have n4_ : Aside0 (Below w.heap.size w (w26.setCell ⟨go21, (x8_1 : Int).toNat, none⟩ (.int .u64 t221))) := ⟨by repeat (first | (with_reducible first | exact HB.out | apply below_alloc | apply pw_below_drewN | apply below_drew1 | refine below_set ?_ GB21.out | refine below_set ?_ GE214.out | refine below_set ?_ GE215.out | refine below_set ?_ GE216.out) | exact HB.out)⟩; (try clear HO_6)
          (try clear BK214)
          (try clear BK215)
          (try clear BK216)
          (try clear HB)
          generalize (w26.setCell ⟨go21, (x8_1 : Int).toNat, none⟩ (.int .u64 t221)) = w28 at n0_ n1_ n2_ n3_ n4_ ⊢
          have HO_6 := n0_; have BK214 := n1_; have BK215 := n2_; have BK216 := n3_; have HB := n4_; clear n0_ n1_ n2_ n3_ n4_; replace HO_6 := am (Kd.R_drew HO_6.out); replace BK214 := am (blk_drew BK214.out); replace BK215 := am (blk_drew BK215.out); replace BK216 := am (blk_drew BK216.out); replace HB := am (below_drew1 HB.out); have p223 : 0 ≤ (x8_1 : Int) := of_decide_eq_true Z4; have q223 : x8_1 < (l1.length : Int) := of_decide_eq_true Z4; obtain ⟨ad223, e223, hx223_0⟩ := Kd.at_int HR1.out x8_1 p223 q223; have hw223_0 := hx223_0; cases e223; replace hx223_0 := (HB.out.cell (World.block_lt_of_cell? w _ hx223_0)).trans hx223_0; replace p223 := eq_true p223; replace q223 := eq_true q223; refine start_ (n := 11) (S := fun w' => w'.cell? ⟨gb215, 0, none⟩ = some (.int .u8 a2_0) ∧ w'.cell? ⟨gb214, 0, none⟩ = some (.slice (some ad223) l1.length c1) ∧ w'.cell? (ad223.add (x8_1).toNat) = some (.int .u64 (rd l1 x8_1))) (ds := []) #[false, false, false, false, false, false, false, false, false, false, false] Z12 rfl rfl ⟨(blk_cell BK215.out 0).trans rfl, (blk_cell BK214.out 0).trans rfl, ((HB.out.cell (World.block_lt_of_cell? w _ hw223_0)).trans hw223_0)⟩ (fun hHeld => ?_); refine with_tabW interp_basis_1.tab7 interp_basis_1.bits7 (fun HT_ HW_ => ?_)
          generalize w28.drew = w29 at HO_6 BK214 BK215 BK216 HB HQ27 hx223_0 hHeld ⊢
          refine pure_ (i := 1) (N := some 32) (v := ?_) (a' := ?_) #[false, true, false, false, false, false, false, false, false, false, false] rfl rfl (any_of HT_.out Z12) (fun _ _ _ h => h) (Or.inl ⟨by rfl, ?_⟩) ?_ ?_; rotate_left
          ·intro w'; go_simp; with_reducible rfl
          rotate_left
          ·simp only [Act.put, List.setIfInBounds_toArray, List.set_cons_zero, List.set_cons_succ, i64_w, i32_w]; rfl
          refine pure_ (i := 3) (N := some 34) (v := ?_) (a' := ?_) #[false, true, false, true, false, false, false, false, false, false, false] rfl rfl (any_of HT_.out Z12) (fun _ _ _ h => h) (Or.inl ⟨by rfl, ?_⟩) ?_ ?_; rotate_left
          ·intro w'; go_simp; with_reducible rfl
          rotate_left
          ·simp only [Act.put, List.setIfInBounds_toArray, List.set_cons_zero, List.set_cons_succ, i64_w, i32_w]; rfl
          refine pure_ (i := 5) (N := some 36) (v := ?_) (a' := ?_) #[false, true, false, true, false, true, false, false, false, false, false] rfl rfl (any_of HT_.out Z12) (fun _ _ _ h => h) (Or.inl ⟨by rfl, ?_⟩) ?_ ?_; rotate_left
          ·intro w'; go_simp; with_reducible rfl
          rotate_left
          ·simp only [Act.put, List.setIfInBounds_toArray, List.set_cons_zero, List.set_cons_succ, i64_w, i32_w]; rfl
          refine take_ (i := 0) (N := some 31) (v := ?_) (a' := ?_) #[true, true, false, true, false, true, false, false, false, false, false] rfl rfl (take_ofW HT_.out HW_.out Z12) (fun _ _ _ h => h) (Or.inl ⟨by rfl, ?_⟩) hHeld ?_ ?_; rotate_left
          ·rintro w' ⟨s0, s1, s2⟩; go_simp; with_reducible rfl
          rotate_left
          ·simp only [Act.put, List.setIfInBounds_toArray, List.set_cons_zero, List.set_cons_succ, i64_w, i32_w]; rfl
          refine take_ (i := 2) (N := some 33) (v := ?_) (a' := ?_) #[true, true, true, true, false, true, false, false, false, false, false] rfl rfl (take_ofW HT_.out HW_.out Z12) (fun _ _ _ h => h) (Or.inl ⟨by rfl, ?_⟩) hHeld ?_ ?_; rotate_left
          ·rintro w' ⟨s0, s1, s2⟩; go_simp; with_reducible rfl
          rotate_left
          ·simp only [Act.put, List.setIfInBounds_toArray, List.set_cons_zero, List.set_cons_succ, i64_w, i32_w]; rfl
          refine take_ (i := 4) (N := some 35) (v := ?_) (a' := ?_) #[true, true, true, true, true, true, false, false, false, false, false] rfl rfl (take_ofW HT_.out HW_.out Z12) (fun _ _ _ h => h) (Or.inl ⟨by rfl, ?_⟩) hHeld ?_ ?_; rotate_left
          ·rintro w' ⟨s0, s1, s2⟩; go_simp; with_reducible rfl
          rotate_left
          ·simp only [Act.put, List.setIfInBounds_toArray, List.set_cons_zero, List.set_cons_succ, i64_w, i32_w]; rfl
          refine pure_ (i := 6) (N := some 37) (v := ?_) (a' := ?_) #[true, true, true, true, true, true, true, false, false, false, false] rfl rfl (any_of HT_.out Z12) (fun _ _ _ h => h) (Or.inl ⟨by rfl, ?_⟩) ?_ ?_; rotate_left
          ·intro w'; go_simp; with_reducible rfl
          rotate_left
          ·simp only [Act.put, List.setIfInBounds_toArray, List.set_cons_zero, List.set_cons_succ, i64_w, i32_w]; rfl
          refine take_ (i := 7) (N := some 38) (v := ?_) (a' := ?_) #[true, true, true, true, true, true, true, true, false, false, false] rfl rfl (take_ofW HT_.out HW_.out Z12) (fun _ _ _ h => h) (Or.inl ⟨by rfl, ?_⟩) hHeld ?_ ?_; rotate_left
          ·rintro w' ⟨s0, s1, s2⟩; go_simp; with_reducible rfl
          rotate_left
          ·simp only [Act.put, List.setIfInBounds_toArray, List.set_cons_zero, List.set_cons_succ, i64_w, i32_w]; rfl
          refine one_ (i := 8) (N := some 39) #[true, true, true, true, true, true, true, true, true, false, false] rfl rfl (one_of HT_.out Z12) Z117 (fun K hK => ?_); refine goes_ Try.func94 Z12 rfl #[.agg #[.int .u8 a2_0], .int .u64 a0, .int .u64 (rd l1 x8_1)] (by rfl) rfl rfl Z2 ?_; (with_reducible refine (interp_reckoner_sub.calls k1 a2_0 a0 (rd l1 x8_1) t224 _ A23.out).mono ?_); rintro e w30 ⟨rfl, hb⟩; refine ⟨_, rfl, ?_⟩; replace HO_6 := am (Kd.R_below Z49 hb); replace BK214 := am (blk_below (g := gb214) (o := .cells #[.slice (some ad223) l1.length c1] 38 (0, 0)) Z35 hb); replace BK215 := am (blk_below (g := gb215) (o := .cells #[.int .u8 a2_0] 127 (0, 0)) Z34 hb); replace BK216 := am (blk_below (g := gb216) (o := .cells #[.slice (some ad220) l3.length c3] 38 (0, 0)) Z33 hb); replace HB := am (below_step Z11 hb); (try clear hb)
          (try clear hb2)
          (try clear hk)
          (try clear hi)
          refine hK.out _ _ ⟨(blk_cell BK215.out 0).trans rfl, (blk_cell BK214.out 0).trans rfl, ((HB.out.cell (World.block_lt_of_cell? w _ hw223_0)).trans hw223_0)⟩ (fun hHeld => ?_); clear hK K; refine norm_ (a' := ?_) ?_ ?_; rotate_left
          ·show Act.put _ (some 39) _ = _
           simp only [Act.put, List.setIfInBounds_toArray, List.set_cons_zero, List.set_cons_succ, i64_w, i32_w]; rfl
          refine one_ (i := 9) (N := some 40) #[true, true, true, true, true, true, true, true, true, true, false] rfl rfl (one_of HT_.out Z12) Z117 (fun K hK => ?_); refine goes_ Try.func93 Z12 rfl #[.agg #[.int .u8 a2_0], .int .u64 x7_1, .int .u64 t224] (by rfl) rfl rfl Z2 ?_; (with_reducible refine (interp_reckoner_mul.calls k1 a2_0 x7_1 t224 t225 _ A24.out).mono ?_); rintro e w31 ⟨rfl, hb⟩; refine ⟨_, rfl, ?_⟩; replace HO_6 := am (Kd.R_below Z49 hb); replace BK214 := am (blk_below (g := gb214) (o := .cells #[.slice (some ad223) l1.length c1] 38 (0, 0)) Z35 hb); replace BK215 := am (blk_below (g := gb215) (o := .cells #[.int .u8 a2_0] 127 (0, 0)) Z34 hb); replace BK216 := am (blk_below (g := gb216) (o := .cells #[.slice (some ad220) l3.length c3] 38 (0, 0)) Z33 hb); replace HB := am (below_step Z11 hb); (try clear hb)
          (try clear hb2)
          (try clear hk)
          (try clear hi)
          refine hK.out _ _ ⟨(blk_cell BK215.out 0).trans rfl, (blk_cell BK214.out 0).trans rfl, ((HB.out.cell (World.block_lt_of_cell? w _ hw223_0)).trans hw223_0)⟩ (fun hHeld => ?_); clear hK K; refine norm_ (a' := ?_) ?_ ?_; rotate_left
          ·show Act.put _ (some 40) _ = _
           simp only [Act.put, List.setIfInBounds_toArray, List.set_cons_zero, List.set_cons_succ, i64_w, i32_w]; rfl
          refine pure_ (i := 10) (N := some 7) (v := ?_) (a' := ?_) #[true, true, true, true, true, true, true, true, true, true, true] rfl rfl (any_of HT_.out Z12) (fun _ _ _ h => h) (Or.inl ⟨by rfl, ?_⟩) ?_ ?_; rotate_left
          ·intro w'; go_simp; with_reducible rfl
          rotate_left
          ·simp only [Act.put, List.setIfInBounds_toArray, List.set_cons_zero, List.set_cons_succ, i64_w, i32_w]; rfl
          refine done_ (done_of HT_.out Z12) ?_; (try go_wp2); go_roundg k1
          case measure => have := HK1.out; omega
          case rel => exact ⟨(y222), (t225), (wrap64 (x8_1 - 1)), Z5, Z5, H', ⟨Z99⟩, ⟨Z49⟩, ⟨Z35⟩, ⟨Z34⟩, ⟨Z33⟩, ⟨Z11⟩⟩
         ·rw [if_neg c22] at H; exact absurd H (by simp)
        ·rw [if_neg c20] at H; exact absurd H (by simp)
       ·rw [if_neg c18] at H; exact absurd H (by simp)
      ·rw [if_neg c17] at H; exact absurd H (by simp)
     ·rw [if_neg c16] at H; have c16b0 : decide (0 ≤ x8_1) = false := decide_eq_false c16; clear c16; have H' := am H; clear H; have hnb32 := NB214_215.out; have hnc32 := NB215_214.out; have hnb33 := NB214_216.out; have hnc33 := NB216_214.out; have hcz34_0 : wr.cell? ⟨gb214, 0, none⟩ = some (.slice A1 l1.length c1) := (blk_cell BK214.out 0).trans rfl; have hfz34_0 := blk_frozen BK214.out 0; go_wp2; go_loopg [9, 43] k1 (fun kq v9 v43 w' => ∃ (x6_2 : List Int) (x9_2 : Int) (x43_2 : Int), v9 = .int .u64 x9_2 ∧ v43 = .int .i64 x43_2 ∧ Aside0 (interp_basis_1.l1 kq a0 x6_2 x9_2 (l1.length : Int) x43_2 l1 a2_0 = some r) ∧ Aside0 (kq ≤ k1) ∧ Aside0 (Kd.R (Kd.int .u64) 36 w' w.heap.size (fun _ => True) v218 x6_2) ∧ Aside0 (w'.heap[gb214]? = some (.cells #[(.slice A1 l1.length c1)] 38 (0, 0))) ∧ Aside0 (w'.heap[gb215]? = some (.cells #[.int .u8 a2_0] 127 (0, 0))) ∧ Aside0 (w'.heap[gb216]? = some (.cells #[(.slice A3 l3.length c3)] 38 (0, 0))) ∧ Aside0 (Below w.heap.size w w'))
      case atStart => exact ⟨(x6_1), (1), (0), Z5, Z5, H', ⟨Nat.le_refl _⟩, ⟨Z49⟩, ⟨Z35⟩, ⟨Z34⟩, ⟨Z33⟩, ⟨Z11⟩⟩
      case round =>
       clear H'; (try clear c1); (try clear c2); (try clear p2); (try clear q2); (try clear hx2); (try clear c3); (try clear c5); (try clear c5b0); (try clear c5b1); (try clear c6); (try clear c6b0); (try clear c6b1); (try clear p6); (try clear c9); (try clear c10); (try clear c11); (try clear c16); (try clear c16b0); (try clear c17); (try clear c17b0); (try clear c18); (try clear c18b0); (try clear c20); (try clear c20b0); (try clear p21); (try clear q21); (try clear hx21); (try clear hf21); (try clear c22); (try clear c22b0); (try clear p22); (try clear q22); (try clear hx22); (try clear c32); (try clear c33); (try clear hcz12_0); (try clear hcz15_0); (try clear hcz34_0); (try clear hfz12_0); (try clear hfz15_0); (try clear hfz34_0); (try clear hx21_0); (try clear hx220_0); (try clear hx223_0); (try clear p2); (try clear p21); (try clear p220); (try clear p223); (try clear p6); (try clear q21); (try clear q220); (try clear q223); obtain ⟨x6_2, x9_2, x43_2, rfl, rfl, HA, HK2, HO_6, BK214, BK215, BK216, HB⟩ := hrel; cases gk with
       | zero => exact absurd HA.out (by simp [interp_basis_1.l1])
       | succ k2 =>
        have H := HA.out; clear HA; simp only [interp_basis_1.l1] at H; by_cases c35 : x43_2 < (l1.length : Int)
        ·rw [if_pos c35] at H; have c35b0 : decide (x43_2 < (l1.length : Int)) = true := decide_eq_true c35; clear c35; by_cases c36 : 0 ≤ x43_2
         ·rw [if_pos c36] at H; have c36b0 : decide (0 ≤ x43_2) = true := decide_eq_true c36; clear c36; by_cases c37 : x43_2 < (x6_2.length : Int)
          ·rw [if_pos c37] at H; have c37b0 : decide (x43_2 < (x6_2.length : Int)) = true := decide_eq_true c37; clear c37; replace H := Option.bind_eq_some_iff.mp H; obtain ⟨t227, A380, H⟩ := H; replace H : (if x43_2 < (l1.length : Int) then ((interp_reckoner_sub.f k2 a2_0 a0 (rd l1 x43_2)).bind fun t230 => ((interp_reckoner_mul.f k2 a2_0 x9_2 t230).bind fun t231 => (interp_basis_1.l1 k2 a0 (x6_2.set (x43_2 : Int).toNat t227) t231 (l1.length : Int) (wrap64 (x43_2 + 1)) l1 a2_0))) else (none)) = some r := H; have A38 := am A380; clear A380; obtain ⟨y228, hy228⟩ : ∃ y_ : List Int, y_ = (x6_2.set (x43_2 : Int).toNat t227) := ⟨_, rfl⟩; replace H : (if x43_2 < (l1.length : Int) then ((interp_reckoner_sub.f k2 a2_0 a0 (rd l1 x43_2)).bind fun t230 => ((interp_reckoner_mul.f k2 a2_0 x9_2 t230).bind fun t231 => (interp_basis_1.l1 k2 a0 y228 t231 (l1.length : Int) (wrap64 (x43_2 + 1)) l1 a2_0))) else (none)) = some r := by first | (rw [hy228]; with_reducible exact H) | (have H2_ := (Option.bind_some _ _).symm.trans H; rw [hy228]; with_reducible exact H2_) | (have H2_ := (Option.bind_some _ _).symm.trans H; with_reducible exact H2_) | with_reducible exact H | (rw [hy228]; exact H) | exact H
           have Ny228 := am hy228; clear hy228; by_cases c40 : x43_2 < (l1.length : Int)
           ·rw [if_pos c40] at H; have c40b0 : decide (x43_2 < (l1.length : Int)) = true := decide_eq_true c40; clear c40; replace H := Option.bind_eq_some_iff.mp H; obtain ⟨t230, A410, H⟩ := H; replace H : ((interp_reckoner_mul.f k2 a2_0 x9_2 t230).bind fun t231 => (interp_basis_1.l1 k2 a0 y228 t231 (l1.length : Int) (wrap64 (x43_2 + 1)) l1 a2_0)) = some r := H; have A41 := am A410; clear A410; replace H := Option.bind_eq_some_iff.mp H; obtain ⟨t231, A420, H⟩ := H; replace H : (interp_basis_1.l1 k2 a0 y228 t231 (l1.length : Int) (wrap64 (x43_2 + 1)) l1 a2_0) = some r := H; have A42 := am A420; clear A420; have H' := am H; clear H; (try go_wp2); replace HO_6 := am (Kd.R_drew HO_6.out); replace BK214 := am (blk_drew BK214.out); replace BK215 := am (blk_drew BK215.out); replace BK216 := am (blk_drew BK216.out); replace HB := am (below_drew1 HB.out); obtain ⟨Ao44, co44, eo44⟩ := Kd.R_slice HO_6.out; (first | subst eo44 | (injection eo44 with f1_ f2_ f3_; have f4_ := f1_.symm; have f5_ := f3_.symm; clear f1_ f2_ f3_; subst f4_; subst f5_))
            have p226 : 0 ≤ (x43_2 : Int) := of_decide_eq_true Z4; have q226 : x43_2 < (x6_2.length : Int) := of_decide_eq_true Z4; obtain ⟨ad226, e226, hx226_0⟩ := Kd.at_int (Kd.R_reads' HO_6.out).2.2 x43_2 p226 q226; cases e226; replace p226 := eq_true p226; replace q226 := eq_true q226; refine start_ (n := 11) (S := fun w' => w'.cell? ⟨gb215, 0, none⟩ = some (.int .u8 a2_0) ∧ w'.cell? (ad226.add (x43_2).toNat) = some (.int .u64 (rd x6_2 x43_2))) (ds := [10]) #[false, false, false, false, false, false, false, false, false, false, false] Z12 rfl rfl ⟨(blk_cell BK215.out 0).trans rfl, hx226_0⟩ (fun hHeld => ?_); refine with_tabW interp_basis_1.tab12 interp_basis_1.bits12 (fun HT_ HW_ => ?_)
            generalize wr.drew = w43 at HO_6 BK214 BK215 BK216 HB hx226_0 hHeld ⊢
            refine pure_ (i := 0) (N := some 46) (v := ?_) (a' := ?_) #[true, false, false, false, false, false, false, false, false, false, false] rfl rfl (any_of HT_.out Z12) (fun _ _ _ h => h) (Or.inl ⟨by rfl, ?_⟩) ?_ ?_; rotate_left
            ·intro w'; go_simp; with_reducible rfl
            rotate_left
            ·simp only [Act.put, List.setIfInBounds_toArray, List.set_cons_zero, List.set_cons_succ, i64_w, i32_w]; rfl
            refine pure_ (i := 1) (N := some 47) (v := ?_) (a' := ?_) #[true, true, false, false, false, false, false, false, false, false, false] rfl rfl (any_of HT_.out Z12) (fun _ _ _ h => h) (Or.inl ⟨by rfl, ?_⟩) ?_ ?_; rotate_left
            ·intro w'; go_simp; with_reducible rfl
            rotate_left
            ·simp only [Act.put, List.setIfInBounds_toArray, List.set_cons_zero, List.set_cons_succ, i64_w, i32_w]; rfl
            refine pure_ (i := 3) (N := some 49) (v := ?_) (a' := ?_) #[true, true, false, true, false, false, false, false, false, false, false] rfl rfl (any_of HT_.out Z12) (fun _ _ _ h => h) (Or.inl ⟨by rfl, ?_⟩) ?_ ?_; rotate_left
            ·intro w'; go_simp; with_reducible rfl
            rotate_left
            ·simp only [Act.put, List.setIfInBounds_toArray, List.set_cons_zero, List.set_cons_succ, i64_w, i32_w]; rfl
            refine pure_ (i := 4) (N := some 50) (v := ?_) (a' := ?_) #[true, true, false, true, true, false, false, false, false, false, false] rfl rfl (any_of HT_.out Z12) (fun _ _ _ h => h) (Or.inl ⟨by rfl, ?_⟩) ?_ ?_; rotate_left
            ·intro w'; go_simp; with_reducible rfl
            rotate_left
            ·simp only [Act.put, List.setIfInBounds_toArray, List.set_cons_zero, List.set_cons_succ, i64_w, i32_w]; rfl
            refine pure_ (i := 5) (N := some 51) (v := ?_) (a' := ?_) #[true, true, false, true, true, true, false, false, false, false, false] rfl rfl (any_of HT_.out Z12) (fun _ _ _ h => h) (Or.inl ⟨by rfl, ?_⟩) ?_ ?_; rotate_left
            ·intro w'; go_simp; with_reducible rfl
            rotate_left
            ·simp only [Act.put, List.setIfInBounds_toArray, List.set_cons_zero, List.set_cons_succ, i64_w, i32_w]; rfl
            refine pure_ (i := 7) (N := some 53) (v := ?_) (a' := ?_) #[true, true, false, true, true, true, false, true, false, false, false] rfl rfl (any_of HT_.out Z12) (fun _ _ _ h => h) (Or.inl ⟨by rfl, ?_⟩) ?_ ?_; rotate_left
            ·intro w'; go_simp; with_reducible rfl
            rotate_left
            ·simp only [Act.put, List.setIfInBounds_toArray, List.set_cons_zero, List.set_cons_succ, i64_w, i32_w]; rfl
            refine take_ (i := 2) (N := some 48) (v := ?_) (a' := ?_) #[true, true, true, true, true, true, false, true, false, false, false] rfl rfl (take_ofW HT_.out HW_.out Z12) (fun _ _ _ h => h) (Or.inl ⟨by rfl, ?_⟩) hHeld ?_ ?_; rotate_left
            ·rintro w' ⟨s0, s1⟩; go_simp; with_reducible rfl
            rotate_left
            ·simp only [Act.put, List.setIfInBounds_toArray, List.set_cons_zero, List.set_cons_succ, i64_w, i32_w]; rfl
            refine take_ (i := 6) (N := some 52) (v := ?_) (a' := ?_) #[true, true, true, true, true, true, true, true, false, false, false] rfl rfl (take_ofW HT_.out HW_.out Z12) (fun _ _ _ h => h) (Or.inl ⟨by rfl, ?_⟩) hHeld ?_ ?_; rotate_left
            ·rintro w' ⟨s0, s1⟩; go_simp; with_reducible rfl
            rotate_left
            ·simp only [Act.put, List.setIfInBounds_toArray, List.set_cons_zero, List.set_cons_succ, i64_w, i32_w]; rfl
            refine one_ (i := 8) (N := some 54) #[true, true, true, true, true, true, true, true, true, false, false] rfl rfl (one_of HT_.out Z12) Z117 (fun K hK => ?_); refine goes_ Try.func93 Z12 rfl #[.agg #[.int .u8 a2_0], .int .u64 (rd x6_2 x43_2), .int .u64 x9_2] (by rfl) rfl rfl Z2 ?_; (with_reducible refine (interp_reckoner_mul.calls k2 a2_0 (rd x6_2 x43_2) x9_2 t227 _ A38.out).mono ?_); rintro e w45 ⟨rfl, hb⟩; have HS1_ := (hb.cell (World.block_lt_of_cell? _ _ (hHeld.2))).trans (hHeld.2); refine ⟨_, rfl, ?_⟩; replace HO_6 := am (Kd.R_below Z49 hb); replace BK214 := am (blk_below (g := gb214) (o := .cells #[.slice A1 l1.length c1] 38 (0, 0)) Z35 hb); replace BK215 := am (blk_below (g := gb215) (o := .cells #[.int .u8 a2_0] 127 (0, 0)) Z34 hb); replace BK216 := am (blk_below (g := gb216) (o := .cells #[.slice A3 l3.length c3] 38 (0, 0)) Z33 hb); replace HB := am (below_step Z11 hb); (try clear hb)
            (try clear hb2)
            (try clear hk)
            (try clear hi)
            have p39 : 0 ≤ (x43_2 : Int) := of_decide_eq_true Z4; have q39 : (x43_2 : Int) < ((x6_2.length : Int) : Int) := of_decide_eq_true Z4; obtain ⟨go39, co39, eo39, gb39, gl39, cl39, HG39⟩ := Kd.R_form HO_6.out Z121; (first | cases eo39 | (injection eo39 with ea_ en_ ec_; (first | subst ea_ | (injection ea_ with ea_; subst ea_)); subst ec_; clear en_))
            have GB39 := am gb39; have GG39 := am HG39; clear gb39 gl39 HG39; (first | simp only [add_plain] at hx226_0 | skip)
            obtain ⟨hx39_0, hf39_0⟩ := Kd.R_celln 0 HO_6.out (x43_2 : Int) p39 q39; replace p39 := eq_true p39; replace q39 := eq_true q39; have HP46 := Kd.R_putn HO_6.out (x43_2 : Int) t227; rw [← Ny228.out] at HP46; have HQ46 := am HP46; clear HP46; refine hK.out _ _ ⟨(blk_cell BK215.out 0).trans rfl, HS1_⟩ (fun hHeld => ?_); clear hK K; refine norm_ (a' := ?_) ?_ ?_; rotate_left
            ·show Act.put _ (some 54) _ = _
             simp only [Act.put, List.setIfInBounds_toArray, List.set_cons_zero, List.set_cons_succ, i64_w, i32_w]; rfl
            refine pure_ (i := 9) (N := some 55) (v := ?_) (a' := ?_) #[true, true, true, true, true, true, true, true, true, true, false] rfl rfl (any_of HT_.out Z12) (fun _ _ _ h => h) (Or.inl ⟨by rfl, ?_⟩) ?_ ?_; rotate_left
            ·intro w'; go_simp; with_reducible rfl
            rotate_left
            ·simp only [Act.put, List.setIfInBounds_toArray, List.set_cons_zero, List.set_cons_succ, i64_w, i32_w]; rfl
            refine last_ (i := 10) (N := none) #[true, true, true, true, true, true, true, true, true, true, true] rfl rfl (one_of HT_.out Z12) Z117 (fun K hK => ?_); refine skip_ (w1 := ?_) (by rfl) rfl ?_ ?_; rotate_left
            ·go_simp; rfl
            refine hK.out _ _ ?_; clear hK K; refine done_ (done_of HT_.out Z12) ?_; (try go_wp2); have n0_ : Aside0 (Kd.R (Kd.int .u64) 36 (w45.setCell ⟨go39, (x43_2 : Int).toNat, none⟩ (.int .u64 t227)) w.heap.size (fun _ => True) (.slice (some ⟨go39, 0, none⟩) x6_2.length co44) y228) := ⟨by (with_reducible repeat (first | apply Kd.R_alloc | apply Kd.R_drewN | apply Kd.R_drew)); exact HQ46.out⟩; have n1_ : Aside0 ((w45.setCell ⟨go39, (x43_2 : Int).toNat, none⟩ (.int .u64 t227)).heap[gb214]? = some (.cells #[.slice A1 l1.length c1] 38 (0, 0))) := ⟨Z86⟩; have n2_ : Aside0 ((w45.setCell ⟨go39, (x43_2 : Int).toNat, none⟩ (.int .u64 t227)).heap[gb215]? = some (.cells #[.int .u8 a2_0] 127 (0, 0))) := ⟨Z85⟩; have n3_ : Aside0 ((w45.setCell ⟨go39, (x43_2 : Int).toNat, none⟩ (.int .u64 t227)).heap[gb216]? = some (.cells #[.slice A3 l3.length c3] 38 (0, 0))) := ⟨Z84⟩; have n4_ : Aside0 (Below w.heap.size w (w45.setCell ⟨go39, (x43_2 : Int).toNat, none⟩ (.int .u64 t227))) := ⟨by repeat (first | (with_reducible first | exact HB.out | apply below_alloc | apply pw_below_drewN | apply below_drew1 | refine below_set ?_ GB39.out | refine below_set ?_ GE214.out | refine below_set ?_ GE215.out | refine below_set ?_ GE216.out) | exact HB.out)⟩; (try clear HO_6)
            (try clear BK214)
            (try clear BK215)
            (try clear BK216)
            (try clear HB)
            generalize (w45.setCell ⟨go39, (x43_2 : Int).toNat, none⟩ (.int .u64 t227)) = w47 at n0_ n1_ n2_ n3_ n4_ ⊢
            have HO_6 := n0_; have BK214 := n1_; have BK215 := n2_; have BK216 := n3_; have HB := n4_; clear n0_ n1_ n2_ n3_ n4_; replace HO_6 := am (Kd.R_drew HO_6.out); replace BK214 := am (blk_drew BK214.out); replace BK215 := am (blk_drew BK215.out); replace BK216 := am (blk_drew BK216.out); replace HB := am (below_drew1 HB.out); have p229 : 0 ≤ (x43_2 : Int) := of_decide_eq_true Z4; have q229 : x43_2 < (l1.length : Int) := of_decide_eq_true Z4; obtain ⟨ad229, e229, hx229_0⟩ := Kd.at_int HR1.out x43_2 p229 q229; have hw229_0 := hx229_0; cases e229; replace hx229_0 := (HB.out.cell (World.block_lt_of_cell? w _ hx229_0)).trans hx229_0; replace p229 := eq_true p229; replace q229 := eq_true q229; refine start_ (n := 11) (S := fun w' => w'.cell? ⟨gb215, 0, none⟩ = some (.int .u8 a2_0) ∧ w'.cell? ⟨gb214, 0, none⟩ = some (.slice (some ad229) l1.length c1) ∧ w'.cell? (ad229.add (x43_2).toNat) = some (.int .u64 (rd l1 x43_2))) (ds := []) #[false, false, false, false, false, false, false, false, false, false, false] Z12 rfl rfl ⟨(blk_cell BK215.out 0).trans rfl, (blk_cell BK214.out 0).trans rfl, ((HB.out.cell (World.block_lt_of_cell? w _ hw229_0)).trans hw229_0)⟩ (fun hHeld => ?_); refine with_tabW interp_basis_1.tab13 interp_basis_1.bits13 (fun HT_ HW_ => ?_)
            generalize w47.drew = w48 at HO_6 BK214 BK215 BK216 HB HQ46 hx229_0 hHeld ⊢
            refine pure_ (i := 1) (N := some 57) (v := ?_) (a' := ?_) #[false, true, false, false, false, false, false, false, false, false, false] rfl rfl (any_of HT_.out Z12) (fun _ _ _ h => h) (Or.inl ⟨by rfl, ?_⟩) ?_ ?_; rotate_left
            ·intro w'; go_simp; with_reducible rfl
            rotate_left
            ·simp only [Act.put, List.setIfInBounds_toArray, List.set_cons_zero, List.set_cons_succ, i64_w, i32_w]; rfl
            refine pure_ (i := 3) (N := some 59) (v := ?_) (a' := ?_) #[false, true, false, true, false, false, false, false, false, false, false] rfl rfl (any_of HT_.out Z12) (fun _ _ _ h => h) (Or.inl ⟨by rfl, ?_⟩) ?_ ?_; rotate_left
            ·intro w'; go_simp; with_reducible rfl
            rotate_left
            ·simp only [Act.put, List.setIfInBounds_toArray, List.set_cons_zero, List.set_cons_succ, i64_w, i32_w]; rfl
            refine pure_ (i := 5) (N := some 61) (v := ?_) (a' := ?_) #[false, true, false, true, false, true, false, false, false, false, false] rfl rfl (any_of HT_.out Z12) (fun _ _ _ h => h) (Or.inl ⟨by rfl, ?_⟩) ?_ ?_; rotate_left
            ·intro w'; go_simp; with_reducible rfl
            rotate_left
            ·simp only [Act.put, List.setIfInBounds_toArray, List.set_cons_zero, List.set_cons_succ, i64_w, i32_w]; rfl
            refine take_ (i := 0) (N := some 56) (v := ?_) (a' := ?_) #[true, true, false, true, false, true, false, false, false, false, false] rfl rfl (take_ofW HT_.out HW_.out Z12) (fun _ _ _ h => h) (Or.inl ⟨by rfl, ?_⟩) hHeld ?_ ?_; rotate_left
            ·rintro w' ⟨s0, s1, s2⟩; go_simp; with_reducible rfl
            rotate_left
            ·simp only [Act.put, List.setIfInBounds_toArray, List.set_cons_zero, List.set_cons_succ, i64_w, i32_w]; rfl
            refine take_ (i := 2) (N := some 58) (v := ?_) (a' := ?_) #[true, true, true, true, false, true, false, false, false, false, false] rfl rfl (take_ofW HT_.out HW_.out Z12) (fun _ _ _ h => h) (Or.inl ⟨by rfl, ?_⟩) hHeld ?_ ?_; rotate_left
            ·rintro w' ⟨s0, s1, s2⟩; go_simp; with_reducible rfl
            rotate_left
            ·simp only [Act.put, List.setIfInBounds_toArray, List.set_cons_zero, List.set_cons_succ, i64_w, i32_w]; rfl
            refine take_ (i := 4) (N := some 60) (v := ?_) (a' := ?_) #[true, true, true, true, true, true, false, false, false, false, false] rfl rfl (take_ofW HT_.out HW_.out Z12) (fun _ _ _ h => h) (Or.inl ⟨by rfl, ?_⟩) hHeld ?_ ?_; rotate_left
            ·rintro w' ⟨s0, s1, s2⟩; go_simp; with_reducible rfl
            rotate_left
            ·simp only [Act.put, List.setIfInBounds_toArray, List.set_cons_zero, List.set_cons_succ, i64_w, i32_w]; rfl
            refine pure_ (i := 6) (N := some 62) (v := ?_) (a' := ?_) #[true, true, true, true, true, true, true, false, false, false, false] rfl rfl (any_of HT_.out Z12) (fun _ _ _ h => h) (Or.inl ⟨by rfl, ?_⟩) ?_ ?_; rotate_left
            ·intro w'; go_simp; with_reducible rfl
            rotate_left
            ·simp only [Act.put, List.setIfInBounds_toArray, List.set_cons_zero, List.set_cons_succ, i64_w, i32_w]; rfl
            refine take_ (i := 7) (N := some 63) (v := ?_) (a' := ?_) #[true, true, true, true, true, true, true, true, false, false, false] rfl rfl (take_ofW HT_.out HW_.out Z12) (fun _ _ _ h => h) (Or.inl ⟨by rfl, ?_⟩) hHeld ?_ ?_; rotate_left
            ·rintro w' ⟨s0, s1, s2⟩; go_simp; with_reducible rfl
            rotate_left
            ·simp only [Act.put, List.setIfInBounds_toArray, List.set_cons_zero, List.set_cons_succ, i64_w, i32_w]; rfl
            refine one_ (i := 8) (N := some 64) #[true, true, true, true, true, true, true, true, true, false, false] rfl rfl (one_of HT_.out Z12) Z117 (fun K hK => ?_); refine goes_ Try.func94 Z12 rfl #[.agg #[.int .u8 a2_0], .int .u64 a0, .int .u64 (rd l1 x43_2)] (by rfl) rfl rfl Z2 ?_; (with_reducible refine (interp_reckoner_sub.calls k2 a2_0 a0 (rd l1 x43_2) t230 _ A41.out).mono ?_); rintro e w49 ⟨rfl, hb⟩; refine ⟨_, rfl, ?_⟩; replace HO_6 := am (Kd.R_below Z49 hb); replace BK214 := am (blk_below (g := gb214) (o := .cells #[.slice (some ad229) l1.length c1] 38 (0, 0)) Z35 hb); replace BK215 := am (blk_below (g := gb215) (o := .cells #[.int .u8 a2_0] 127 (0, 0)) Z34 hb); replace BK216 := am (blk_below (g := gb216) (o := .cells #[.slice A3 l3.length c3] 38 (0, 0)) Z33 hb); replace HB := am (below_step Z11 hb); (try clear hb)
            (try clear hb2)
            (try clear hk)
            (try clear hi)
            refine hK.out _ _ ⟨(blk_cell BK215.out 0).trans rfl, (blk_cell BK214.out 0).trans rfl, ((HB.out.cell (World.block_lt_of_cell? w _ hw229_0)).trans hw229_0)⟩ (fun hHeld => ?_); clear hK K; refine norm_ (a' := ?_) ?_ ?_; rotate_left
            ·show Act.put _ (some 64) _ = _
             simp only [Act.put, List.setIfInBounds_toArray, List.set_cons_zero, List.set_cons_succ, i64_w, i32_w]; rfl
            refine one_ (i := 9) (N := some 65) #[true, true, true, true, true, true, true, true, true, true, false] rfl rfl (one_of HT_.out Z12) Z117 (fun K hK => ?_); refine goes_ Try.func93 Z12 rfl #[.agg #[.int .u8 a2_0], .int .u64 x9_2, .int .u64 t230] (by rfl) rfl rfl Z2 ?_; (with_reducible refine (interp_reckoner_mul.calls k2 a2_0 x9_2 t230 t231 _ A42.out).mono ?_); rintro e w50 ⟨rfl, hb⟩; refine ⟨_, rfl, ?_⟩; replace HO_6 := am (Kd.R_below Z49 hb); replace BK214 := am (blk_below (g := gb214) (o := .cells #[.slice (some ad229) l1.length c1] 38 (0, 0)) Z35 hb); replace BK215 := am (blk_below (g := gb215) (o := .cells #[.int .u8 a2_0] 127 (0, 0)) Z34 hb); replace BK216 := am (blk_below (g := gb216) (o := .cells #[.slice A3 l3.length c3] 38 (0, 0)) Z33 hb); replace HB := am (below_step Z11 hb); (try clear hb)
            (try clear hb2)
            (try clear hk)
            (try clear hi)
            refine hK.out _ _ ⟨(blk_cell BK215.out 0).trans rfl, (blk_cell BK214.out 0).trans rfl, ((HB.out.cell (World.block_lt_of_cell? w _ hw229_0)).trans hw229_0)⟩ (fun hHeld => ?_); clear hK K; refine norm_ (a' := ?_) ?_ ?_; rotate_left
            ·show Act.put _ (some 65) _ = _
             simp only [Act.put, List.setIfInBounds_toArray, List.set_cons_zero, List.set_cons_succ, i64_w, i32_w]; rfl
            refine pure_ (i := 10) (N := some 9) (v := ?_) (a' := ?_) #[true, true, true, true, true, true, true, true, true, true, true] rfl rfl (any_of HT_.out Z12) (fun _ _ _ h => h) (Or.inl ⟨by rfl, ?_⟩) ?_ ?_; rotate_left
            ·intro w'; go_simp; with_reducible rfl
            rotate_left
            ·simp only [Act.put, List.setIfInBounds_toArray, List.set_cons_zero, List.set_cons_succ, i64_w, i32_w]; rfl
            refine done_ (done_of HT_.out Z12) ?_; (try go_wp2); go_roundg k2
            case measure => have := HK1.out; have := HK2.out; omega
            case rel => exact ⟨(y228), (t231), (wrap64 (x43_2 + 1)), Z5, Z5, H', ⟨Z64⟩, ⟨Z49⟩, ⟨Z35⟩, ⟨Z34⟩, ⟨Z33⟩, ⟨Z11⟩⟩
           ·rw [if_neg c40] at H; exact absurd H (by simp)
          ·rw [if_neg c37] at H; exact absurd H (by simp)
         ·rw [if_neg c36] at H; exact absurd H (by simp)
        ·rw [if_neg c35] at H; have c35b0 : decide (x43_2 < (l1.length : Int)) = false := decide_eq_false c35; clear c35; obtain rfl := Option.some.inj H; go_wp2; go_ret; exact ⟨_, Z3, Z49, Z11⟩
  ·rw [if_neg c6] at H; exact absurd H (by simp)
 ·rw [if_neg c5] at H; exact absurd H (by simp)
end Go.Proofs.Ytfkikfapbdlnjaa.P
end
section
namespace Go.Proofs.Ytfkikfapbdlnjaa.P
open Go.RowKit Go.Shelf Go.Proofs.YtfkikfapbdlnjaaW.PrintWords Go.Proofs.YtfkikfapbdlnjaaW.PrintLast Go.Proofs.YtfkikfapbdlnjaaW.PrintMore
set_option linter.unusedVariables false
set_option linter.unusedSimpArgs false
attribute [local go_sem] Oper.semAt_some
def runX (fr : Int) (j : Nat) : Int := IntKind.u64.wrap (wrap64 (fr + (j : Int)))
def runL (fr : Int) (n : Nat) : List Int := (List.range n).map (runX fr)
theorem runL_len (fr : Int) (n : Nat) : (runL fr n).length = n := by simp [runL]
theorem runL_succ (fr : Int) (n : Nat) : runL fr (n + 1) = runL fr n ++ [runX fr n] := by simp [runL, List.range_succ]
def KpC (b : Nat) (W W' : World) : Prop := ∀ v, W.cell? ⟨b, 0, none⟩ = some v → W'.cell? ⟨b, 0, none⟩ = some v
theorem kpC_t {b : Nat} {A B C : World} (h : KpC b A B) (k : KpC b B C) : KpC b A C := fun v hv => k v (h v hv)
theorem kpC_b {b n : Nat} (W : World) (l : Nat) (o o' : Obj) (_ : n ≤ l) (h : W.heap[l]? = some o) (ho : o.isCells = false) (_ : o.isWalk = false) : KpC b W (W.putObj l o') := by
 intro v hv; by_cases e : l = b
 ·subst e; cases o <;> simp_all [World.cell?, Obj.isCells]
 ·exact (World.cell?_of_block ((grownBy_putObj' W l o').block b (World.block_lt_of_cell? W _ hv) (by simp; omega))).trans hv
set_option maxRecDepth 100000 in
set_option maxHeartbeats 1000000 in
theorem run1_in (F : Fence) (n : Nat) (hF : F.fn 105) (hro : F.round = none) (hn : 1 ≤ n) (l bn bf : Nat) (fr : Int) (m : Nat) (hm : m ≤ 17592186044416) (J Jx : List Int → World → Prop)
  (hY : ∀ pre x W, J pre W → pre.length < m → YieldAt F (n - 1) Try.prog l #[.int .u64 x] W fun e W' =>
   (e = .returned (.bool true) ∧ J (pre ++ [x]) W' ∧ KpC bf W W') ∨ (e = .returned (.bool false) ∧ Jx (pre ++ [x]) W'))
  (W : World) (hcn : W.cell? ⟨bn, 0, none⟩ = some (.int .i64 (m : Int))) (hcf : W.cell? ⟨bf, 0, none⟩ = some (.int .i64 fr)) (h0 : J [] W) :
  CallsIn F n Try.prog 105 #[.func (.yield l) #[] #[], .pointer (some ⟨bn, 0, none⟩), .pointer (some ⟨bf, 0, none⟩)] W fun e W' => (∃ v, e = .returned v) ∧
   ((∃ ys, ys = runL fr m ∧ J ys W') ∨ (∃ pre, True ∧ Jx pre W')) := by
 refine callsIn_of_wp Try.func105 rfl hF ?_ hro; simp only [Try.ntmps105, List.size_toArray, List.length_cons, List.length_nil, Nat.reduceAdd, Nat.reduceSub, Array.replicate_succ, Array.replicate_zero, List.push_toArray, List.append_toArray, List.nil_append, List.cons_append]; gi_wp2
 gi_loopw [6] (fun v6 wr => ∃ j : Nat, v6 = .int .i64 j ∧ j ≤ m ∧ wr.cell? ⟨bf, 0, none⟩ = some (.int .i64 fr) ∧ J (runL fr j) wr) (fun v6 _ => m - (intOf v6).toNat)
 case atStart => exact ⟨0, rfl, Z121, hcf, h0⟩
 case round =>
  obtain ⟨j, rfl, hj, hc, hJ⟩ := hrel; by_cases hlt : j < m
  ·obtain ⟨x, hx⟩ : ∃ x, x = runX fr j := ⟨_, rfl⟩; obtain ⟨fn, tmps, assign, body, hy, hR⟩ := hY (runL fr j) x wr hJ (by rw [runL_len]; exact hlt); have hxe : IntKind.u64.wrap (wrap64 (fr + (j : Int))) = x := hx.symm; have HX := am hx; clear hx; gi_wp2
   refine hR.mono ?_; rintro e W3 (⟨rfl, hJ3, hk3⟩ | ⟨rfl, hJx3⟩)
   ·have hc3 : W3.cell? ⟨bf, 0, none⟩ = some (.int .i64 fr) := hk3 _ hc; gi_wp2
    go_roundw
    case rel => exact ⟨j + 1, by first | rfl | go_num, Z121, hc3, by rw [runL_succ, ← HX.out]; exact hJ3⟩
    case measure => simp [intOf]; omega
   ·gi_wp2
    refine bodyPost_ret (results_none rfl _ _ _) rfl ?_; exact ⟨⟨_, rfl⟩, .inr ⟨_, trivial, hJx3⟩⟩
  ·obtain rfl : j = m := by omega
   gi_wp2
   go_end0
   exact ⟨⟨_, rfl⟩, .inl ⟨_, rfl, hJ⟩⟩
theorem run_stops (F : Fence) (n : Nat) (hF : F.fn 105) (hro : F.round = none) (hn : 1 ≤ n) (bn bf : Nat) (fr : Int) (m : Nat) (hm : m ≤ 17592186044416) (w : World) (hbn : bn < w.heap.size) (hbf2 : bf < w.heap.size)
  (hcn : w.cell? ⟨bn, 0, none⟩ = some (.int .i64 (m : Int))) (hcf : w.cell? ⟨bf, 0, none⟩ = some (.int .i64 fr)) :
  SeqStopsK F n Try.prog 105 #[.pointer (some ⟨bn, 0, none⟩), .pointer (some ⟨bf, 0, none⟩)] (fun x : Int => #[Value.int .u64 x]) (KpC bf) (fun ys => ys = runL fr m) (fun _ => True) m w := fun l J Jx W hW _ _ hY h0 =>
 run1_in F n hF hro hn l bn bf fr m hm J Jx hY W ((hW.cell (p := ⟨bn, 0, none⟩) hbn).trans hcn) ((hW.cell (p := ⟨bf, 0, none⟩) hbf2).trans hcf) h0
set_option maxHeartbeats 1000000 in
theorem run_is (fr m : Int) (w : World) : Calls Try.prog 81 #[.int .i64 fr, .int .i64 m] w fun e w' =>
  e = .returned (.func (.func 105) #[] #[.pointer (some ⟨w.heap.size + 1, 0, none⟩), .pointer (some ⟨w.heap.size, 0, none⟩)]) ∧ w' = (w.alloc (.cells #[.int .i64 fr] 3)).alloc (.cells #[.int .i64 m] 3) := by
 go_enter Try.func81, Try.ntmps81
 go_wp2; go_ret; exact ⟨rfl, rfl⟩
def PartIs (fc : Nat) (b : Nat) (plan : Array Value) (fr m : Int) : Prop := ∀ W : World, W.heap[b]? = some (.cells plan 24 (0, 0)) →
 Calls Try.prog fc #[.pointer (some ⟨b, 0, none⟩)] W fun e W' => e = .returned (.func (.func 105) #[] #[.pointer (some ⟨W.heap.size + 1, 0, none⟩), .pointer (some ⟨W.heap.size, 0, none⟩)]) ∧ W' = (W.alloc (.cells #[.int .i64 fr] 3)).alloc (.cells #[.int .i64 m] 3)
set_option maxHeartbeats 1000000 in
theorem data_clo (b : Nat) (a0 a1 a2 a3 a4 a5 a6 a7 : Int) : PartIs 80 b #[.int .u8 a0, .int .i64 a1, .int .i64 a2, .int .i64 a3, .int .i64 a4, .int .i64 a5, .int .i64 a6, .int .i64 a7] 0 a2 := by
 intro w hb; have hu40 := Try.underlying24; have hc1 : w.cell? ⟨b, 1, none⟩ = some (.int .i64 a1) := (blk_cell hb 1).trans rfl; have hc2 : w.cell? ⟨b, 2, none⟩ = some (.int .i64 a2) := (blk_cell hb 2).trans rfl; have hc3 : w.cell? ⟨b, 3, none⟩ = some (.int .i64 a3) := (blk_cell hb 3).trans rfl; clear hb; go_enter Try.func80, Try.ntmps80
 go_wp2_with (go_at_call 81; refine (run_is _ _ _).mono ?_; rintro e w' ⟨rfl, rfl⟩)
 go_ret; exact ⟨rfl, rfl⟩
set_option maxHeartbeats 1000000 in
theorem pads_clo (b : Nat) (a0 a1 a2 a3 a4 a5 a6 a7 : Int) : PartIs 82 b #[.int .u8 a0, .int .i64 a1, .int .i64 a2, .int .i64 a3, .int .i64 a4, .int .i64 a5, .int .i64 a6, .int .i64 a7] a2 a3 := by
 intro w hb; have hu40 := Try.underlying24; have hc1 : w.cell? ⟨b, 1, none⟩ = some (.int .i64 a1) := (blk_cell hb 1).trans rfl; have hc2 : w.cell? ⟨b, 2, none⟩ = some (.int .i64 a2) := (blk_cell hb 2).trans rfl; have hc3 : w.cell? ⟨b, 3, none⟩ = some (.int .i64 a3) := (blk_cell hb 3).trans rfl; clear hb; go_enter Try.func82, Try.ntmps82
 go_wp2_with (go_at_call 81; refine (run_is _ _ _).mono ?_; rintro e w' ⟨rfl, rfl⟩)
 go_ret; exact ⟨rfl, rfl⟩
set_option maxHeartbeats 1000000 in
theorem workers_clo (b : Nat) (a0 a1 a2 a3 a4 a5 a6 a7 : Int) : PartIs 89 b #[.int .u8 a0, .int .i64 a1, .int .i64 a2, .int .i64 a3, .int .i64 a4, .int .i64 a5, .int .i64 a6, .int .i64 a7] (wrap64 (a2 + a3)) a1 := by
 intro w hb; have hu40 := Try.underlying24; have hc1 : w.cell? ⟨b, 1, none⟩ = some (.int .i64 a1) := (blk_cell hb 1).trans rfl; have hc2 : w.cell? ⟨b, 2, none⟩ = some (.int .i64 a2) := (blk_cell hb 2).trans rfl; have hc3 : w.cell? ⟨b, 3, none⟩ = some (.int .i64 a3) := (blk_cell hb 3).trans rfl; clear hb; go_enter Try.func89, Try.ntmps89
 go_wp2_with (go_at_call 81; refine (run_is _ _ _).mono ?_; rintro e w' ⟨rfl, rfl⟩)
 go_ret; exact ⟨rfl, rfl⟩
set_option maxHeartbeats 1000000 in
theorem part_no (g : Value) (a0 a1 a2 a3 a4 a5 a6 a7 : Int) (w : World) (hmay : plan_May.f a0 a1 a2 a3 a4 a5 a6 a7 = some false) :
  Calls Try.prog 79 #[.agg #[.int .u8 a0, .int .i64 a1, .int .i64 a2, .int .i64 a3, .int .i64 a4, .int .i64 a5, .int .i64 a6, .int .i64 a7], g] w fun e w' =>
   e = .returned (.tuple #[.slice none 0 0, .int .i64 2]) ∧ Below w.heap.size w w' := by
 have hu40 := Try.underlying24; go_enter Try.func79, Try.ntmps79
 go_wp2_with (go_at_call 62; refine (plan_May.calls a0 a1 a2 a3 a4 a5 a6 a7 false _ hmay).mono ?_; rintro e wM ⟨rfl, hbM⟩)
 go_ret2; exact ⟨rfl, below_step (below_alloc (Below.refl _ _) _) hbM⟩
theorem bind_within {x lo hi : Int} {R : Option Bool} (h : ((plan_within.f x lo hi).bind fun t => if t = true then R else some false) = some true) : lo ≤ x ∧ x ≤ hi ∧ R = some true := by
 obtain ⟨t, ht, h⟩ := Option.bind_eq_some_iff.mp h; cases t
 ·simp at h
 ·simp only [if_true] at h; unfold plan_within.f at ht; by_cases c : x ≥ lo
  ·rw [if_pos c] at ht; have := Option.some.inj ht; simp only [decide_eq_true_eq] at this; exact ⟨c, this, h⟩
  ·rw [if_neg c] at ht; simp at ht
theorem may_range {a0 a1 a2 a3 a4 a5 a6 a7 : Int} (h : plan_May.f a0 a1 a2 a3 a4 a5 a6 a7 = some true) : 1 ≤ a1 ∧ a1 ≤ 64 ∧ 1 ≤ a2 ∧ a2 ≤ 64 ∧ 0 ≤ a3 ∧ a3 ≤ 64 := by
 unfold plan_May.f at h; by_cases c1 : a0 = 1
 ·rw [if_pos c1] at h; obtain ⟨h1, h2, h⟩ := bind_within h; obtain ⟨h3, h4, h⟩ := bind_within h; obtain ⟨_, _, h⟩ := bind_within h; obtain ⟨h5, h6, h⟩ := bind_within h; exact ⟨h1, h2, h3, h4, h5, h6⟩
 ·rw [if_neg c1] at h; by_cases c2 : a0 = 2
  ·rw [if_pos c2] at h; obtain ⟨h1, h2, h⟩ := bind_within h; obtain ⟨h3, h4, h⟩ := bind_within h; obtain ⟨_, _, h⟩ := bind_within h; obtain ⟨h5, h6, h⟩ := bind_within h; exact ⟨h1, h2, h3, h4, h5, h6⟩
  ·rw [if_neg c2] at h; simp at h
set_option maxRecDepth 100000 in
set_option maxHeartbeats 4000000 in
theorem data_part (b : Nat) (a0 a1 a2 a3 a4 a5 a6 a7 fr : Int) (m : Nat) (hm : m ≤ 17592186044416) (w : World) (hmay : plan_May.f a0 a1 a2 a3 a4 a5 a6 a7 = some true)
  (hb : w.heap[b]? = some (.cells #[.int .u8 a0, .int .i64 a1, .int .i64 a2, .int .i64 a3, .int .i64 a4, .int .i64 a5, .int .i64 a6, .int .i64 a7] 24 (0, 0)))
  (hclo : PartIs 80 b #[.int .u8 a0, .int .i64 a1, .int .i64 a2, .int .i64 a3, .int .i64 a4, .int .i64 a5, .int .i64 a6, .int .i64 a7] fr (m : Int)) :
  Calls Try.prog 79 #[.agg #[.int .u8 a0, .int .i64 a1, .int .i64 a2, .int .i64 a3, .int .i64 a4, .int .i64 a5, .int .i64 a6, .int .i64 a7], .func (.func 80) #[] #[.pointer (some ⟨b, 0, none⟩)]] w fun e w' =>
   ∃ v, e = .returned (.tuple #[v, .int .i64 0]) ∧ Kd.R (Kd.int .u64) 36 w' w.heap.size (fun _ => True) v (runL fr m) ∧ Below w.heap.size w w' := by
 have hu40 := Try.underlying24; obtain ⟨i0, hi, hz0, hz1, hz2⟩ := info_parts info36; refine (callsIn_wide (n := 6)).1 ?_; refine callsIn_of_wp_marks Try.func79 rfl trivial ?_ rfl; simp only [Try.ntmps79, List.size_toArray, List.length_cons, List.length_nil, Nat.reduceAdd, Nat.reduceSub, Array.replicate_succ, Array.replicate_zero, List.push_toArray, List.append_toArray, List.nil_append, List.cons_append]; gi_wp2_with (first
  | (refine ⟨trivial, ?_⟩; gi_at_call 62; refine (callsIn_wide.2 (plan_May.calls a0 a1 a2 a3 a4 a5 a6 a7 true _ hmay)).mono ?_; rintro e wM ⟨rfl, hbM⟩))
 have hB1 : Below w.heap.size w wM := below_step (below_alloc (Below.refl _ _) _) hbM; have hBL : Below w.heap.size w (wM.alloc (.cells #[.slice none 0 0] 38)) := hB1.alloc hB1.size _; have bO := Boxed.new wM 38 (.slice none 0 0); refine ⟨trivial, (callsIn_wide.2 (hclo _ ((hBL.block b (blk_lt hb)).trans hb))).mono ?_⟩; rintro e w2 ⟨rfl, rfl⟩; gi_wp2
 have bF := Boxed.new (wM.alloc (.cells #[.slice none 0 0] 38)) 3 (.int .i64 fr); have bN := Boxed.new ((wM.alloc (.cells #[.slice none 0 0] 38)).alloc (.cells #[.int .i64 fr] 3)) 3 (.int .i64 (m : Int)); simp only [World.size_alloc] at bF bN; have hB3 : Below w.heap.size w (((wM.alloc (.cells #[.slice none 0 0] 38)).alloc (.cells #[.int .i64 fr] 3)).alloc (.cells #[.int .i64 (m : Int)] 3)) := (hBL.alloc hBL.size _).alloc (by have := hBL.size; simp at this ⊢; omega) _; have hsz := hB1.size; refine wpIn_rangeFunc_ownF rfl Z121 (gf := 105) (lb := #[.pointer (some ⟨wM.heap.size + 1 + 1, 0, none⟩), .pointer (some ⟨wM.heap.size + 1, 0, none⟩)]) rfl trivial (enters_of Try.func105 Z12 rfl)
  (run_stops Fence.wide (6 - 1) trivial rfl Z121 (wM.heap.size + 1 + 1) (wM.heap.size + 1) fr m hm _ (by simp) (by simp <;> omega) bN.cell (bF.alloc _).cell) kpC_t kpC_b (Below.refl _ _) (fun _ => rfl)
  (fun (pre : List Int) W => ((∃ v, Boxed W wM.heap.size 38 v ∧ W.ownsRow w.heap.size 36 1 v pre.length (pre.map (Value.int .u64)) ∧ True) ∧ Boxed W (wM.heap.size + 1) 3 (.int .i64 fr)) ∧ Below w.heap.size w W)
  (fun _ _ _ => False)
  (OwnFrom.and (OwnFrom.and (Own.from (holdsRow_own w.heap.size wM.heap.size 38 36 1 (fun (pre : List Int) => pre.length) (fun (pre : List Int) => pre.map (Value.int .u64)) (fun _ _ => True)) _) (Own.from (boxed_own _ _ _) _)) (ownFrom_below (Nat.le_refl _) (by simp; omega)))
  (fun _ _ _ _ _ hs _ _ => hs)
  ⟨⟨⟨_, (bO.alloc _).alloc _, World.ownsRow_nil _ _ _ _, trivial⟩, bF.alloc _⟩, hB3⟩
  (fun x => { tmps := #[.agg #[.int .u8 a0, .int .i64 a1, .int .i64 a2, .int .i64 a3, .int .i64 a4, .int .i64 a5, .int .i64 a6, .int .i64 a7], .func (.func 80) #[] #[.pointer (some ⟨b, 0, none⟩)], .pointer (some ⟨w.heap.size, 0, none⟩), undef, .slice none 0 0, .int .i64 0, .pointer (some ⟨wM.heap.size, 0, none⟩), .int .u64 x, .agg #[.int .u8 a0, .int .i64 a1, .int .i64 a2, .int .i64 a3, .int .i64 a4, .int .i64 a5, .int .i64 a6, .int .i64 a7], .bool true, .bool false, .func (.func 80) #[] #[.pointer (some ⟨b, 0, none⟩)], .func (.func 105) #[] #[.pointer (some ⟨wM.heap.size + 1 + 1, 0, none⟩), .pointer (some ⟨wM.heap.size + 1, 0, none⟩)], .int .u64 x, undef, undef, undef, undef, undef], defers := [] }) ?assign ?body ?done ?stop
 case assign =>
  intro l x W K hK; gi_wp2
  exact hK
 case body =>
  rintro l pre x W ⟨⟨⟨v, hv, hrow, _⟩, hf⟩, hB⟩ hlt; have hc := hv.cell; have hff := hv.frozen; gi_wp2_with (gi_at_builtin; refine wpListIn_append_own _ rfl _ _ 38 rfl w.heap.size 36 i0 (.int .u64 0) 1 8 Try.underlying38 hi hz0 hz1 hz2 rfl Z117 _ _ _ rfl (hrow.alloc _) ⟨W.heap.size, 0, none⟩ 1 1 [.int .u64 x] rfl rfl (cell_one_new _ _ _) (by simp [Value.oneCell']) (by unfold maxLen; omega) Z121 (by have := hB.size; simp; omega) ?_; intro v' w1 hown' hgrow _; obtain ⟨g', cap', rfl⟩ := ownsRow_succ hown'; obtain ⟨hv1, hv2, hr2, hk2, hb2⟩ := hv.appended Z117 hrow hB.size hsz hown' hgrow; have hf2 := ((hf.alloc _).kept hgrow (hf.not_row Z117 hrow)).other (B' := wM.heap.size) Z121 (.slice (some ⟨g', 0, none⟩) (pre.length + 1) cap'); have hc1 := hv1.cell; have hf1 := hv1.frozen)
  exact ⟨hk2, fun u hu => by
   have h1 := hf.cell; rw [h1] at hu; cases hu; exact hf2.cell, ⟨⟨_, hv2, by simpa using hr2, trivial⟩, hf2⟩, hB.trans hb2⟩
 case done =>
  rintro D ys W hD rfl ⟨⟨⟨v, hv, hrow, _⟩, hf⟩, hB⟩ hK; have hc := hv.cell; gi_wp2
  refine ⟨by simp, .inl ⟨_, _, rfl, run_takeDeferred hK, ?_⟩⟩; exact ⟨.tuple #[v, .int .i64 0], by simp [results, Try.results79, go_sem], v, rfl, ⟨fun _ _ => trivial, _, ownsRow_putObj hrow _ hK rfl, Kd.reps_scalar _⟩, hB.trans (belowK_b (w := w) (Nat.le_refl _) W D _ _ (by simp at hD; omega) hK rfl rfl)⟩
 case stop =>
  rintro D c pre W _ _ h _; exact h.elim
set_option maxRecDepth 100000 in
set_option maxHeartbeats 4000000 in
theorem pads_part (b : Nat) (a0 a1 a2 a3 a4 a5 a6 a7 fr : Int) (m : Nat) (hm : m ≤ 17592186044416) (w : World) (hmay : plan_May.f a0 a1 a2 a3 a4 a5 a6 a7 = some true)
  (hb : w.heap[b]? = some (.cells #[.int .u8 a0, .int .i64 a1, .int .i64 a2, .int .i64 a3, .int .i64 a4, .int .i64 a5, .int .i64 a6, .int .i64 a7] 24 (0, 0)))
  (hclo : PartIs 82 b #[.int .u8 a0, .int .i64 a1, .int .i64 a2, .int .i64 a3, .int .i64 a4, .int .i64 a5, .int .i64 a6, .int .i64 a7] fr (m : Int)) :
  Calls Try.prog 79 #[.agg #[.int .u8 a0, .int .i64 a1, .int .i64 a2, .int .i64 a3, .int .i64 a4, .int .i64 a5, .int .i64 a6, .int .i64 a7], .func (.func 82) #[] #[.pointer (some ⟨b, 0, none⟩)]] w fun e w' =>
   ∃ v, e = .returned (.tuple #[v, .int .i64 0]) ∧ Kd.R (Kd.int .u64) 36 w' w.heap.size (fun _ => True) v (runL fr m) ∧ Below w.heap.size w w' := by
 have hu40 := Try.underlying24; obtain ⟨i0, hi, hz0, hz1, hz2⟩ := info_parts info36; refine (callsIn_wide (n := 6)).1 ?_; refine callsIn_of_wp_marks Try.func79 rfl trivial ?_ rfl; simp only [Try.ntmps79, List.size_toArray, List.length_cons, List.length_nil, Nat.reduceAdd, Nat.reduceSub, Array.replicate_succ, Array.replicate_zero, List.push_toArray, List.append_toArray, List.nil_append, List.cons_append]; gi_wp2_with (first
  | (refine ⟨trivial, ?_⟩; gi_at_call 62; refine (callsIn_wide.2 (plan_May.calls a0 a1 a2 a3 a4 a5 a6 a7 true _ hmay)).mono ?_; rintro e wM ⟨rfl, hbM⟩))
 have hB1 : Below w.heap.size w wM := below_step (below_alloc (Below.refl _ _) _) hbM; have hBL : Below w.heap.size w (wM.alloc (.cells #[.slice none 0 0] 38)) := hB1.alloc hB1.size _; have bO := Boxed.new wM 38 (.slice none 0 0); refine ⟨trivial, (callsIn_wide.2 (hclo _ ((hBL.block b (blk_lt hb)).trans hb))).mono ?_⟩; rintro e w2 ⟨rfl, rfl⟩; gi_wp2
 have bF := Boxed.new (wM.alloc (.cells #[.slice none 0 0] 38)) 3 (.int .i64 fr); have bN := Boxed.new ((wM.alloc (.cells #[.slice none 0 0] 38)).alloc (.cells #[.int .i64 fr] 3)) 3 (.int .i64 (m : Int)); simp only [World.size_alloc] at bF bN; have hB3 : Below w.heap.size w (((wM.alloc (.cells #[.slice none 0 0] 38)).alloc (.cells #[.int .i64 fr] 3)).alloc (.cells #[.int .i64 (m : Int)] 3)) := (hBL.alloc hBL.size _).alloc (by have := hBL.size; simp at this ⊢; omega) _; have hsz := hB1.size; refine wpIn_rangeFunc_ownF rfl Z121 (gf := 105) (lb := #[.pointer (some ⟨wM.heap.size + 1 + 1, 0, none⟩), .pointer (some ⟨wM.heap.size + 1, 0, none⟩)]) rfl trivial (enters_of Try.func105 Z12 rfl)
  (run_stops Fence.wide (6 - 1) trivial rfl Z121 (wM.heap.size + 1 + 1) (wM.heap.size + 1) fr m hm _ (by simp) (by simp <;> omega) bN.cell (bF.alloc _).cell) kpC_t kpC_b (Below.refl _ _) (fun _ => rfl)
  (fun (pre : List Int) W => ((∃ v, Boxed W wM.heap.size 38 v ∧ W.ownsRow w.heap.size 36 1 v pre.length (pre.map (Value.int .u64)) ∧ True) ∧ Boxed W (wM.heap.size + 1) 3 (.int .i64 fr)) ∧ Below w.heap.size w W)
  (fun _ _ _ => False)
  (OwnFrom.and (OwnFrom.and (Own.from (holdsRow_own w.heap.size wM.heap.size 38 36 1 (fun (pre : List Int) => pre.length) (fun (pre : List Int) => pre.map (Value.int .u64)) (fun _ _ => True)) _) (Own.from (boxed_own _ _ _) _)) (ownFrom_below (Nat.le_refl _) (by simp; omega)))
  (fun _ _ _ _ _ hs _ _ => hs)
  ⟨⟨⟨_, (bO.alloc _).alloc _, World.ownsRow_nil _ _ _ _, trivial⟩, bF.alloc _⟩, hB3⟩
  (fun x => { tmps := #[.agg #[.int .u8 a0, .int .i64 a1, .int .i64 a2, .int .i64 a3, .int .i64 a4, .int .i64 a5, .int .i64 a6, .int .i64 a7], .func (.func 82) #[] #[.pointer (some ⟨b, 0, none⟩)], .pointer (some ⟨w.heap.size, 0, none⟩), undef, .slice none 0 0, .int .i64 0, .pointer (some ⟨wM.heap.size, 0, none⟩), .int .u64 x, .agg #[.int .u8 a0, .int .i64 a1, .int .i64 a2, .int .i64 a3, .int .i64 a4, .int .i64 a5, .int .i64 a6, .int .i64 a7], .bool true, .bool false, .func (.func 82) #[] #[.pointer (some ⟨b, 0, none⟩)], .func (.func 105) #[] #[.pointer (some ⟨wM.heap.size + 1 + 1, 0, none⟩), .pointer (some ⟨wM.heap.size + 1, 0, none⟩)], .int .u64 x, undef, undef, undef, undef, undef], defers := [] }) ?assign ?body ?done ?stop
 case assign =>
  intro l x W K hK; gi_wp2
  exact hK
 case body =>
  rintro l pre x W ⟨⟨⟨v, hv, hrow, _⟩, hf⟩, hB⟩ hlt; have hc := hv.cell; have hff := hv.frozen; gi_wp2_with (gi_at_builtin; refine wpListIn_append_own _ rfl _ _ 38 rfl w.heap.size 36 i0 (.int .u64 0) 1 8 Try.underlying38 hi hz0 hz1 hz2 rfl Z117 _ _ _ rfl (hrow.alloc _) ⟨W.heap.size, 0, none⟩ 1 1 [.int .u64 x] rfl rfl (cell_one_new _ _ _) (by simp [Value.oneCell']) (by unfold maxLen; omega) Z121 (by have := hB.size; simp; omega) ?_; intro v' w1 hown' hgrow _; obtain ⟨g', cap', rfl⟩ := ownsRow_succ hown'; obtain ⟨hv1, hv2, hr2, hk2, hb2⟩ := hv.appended Z117 hrow hB.size hsz hown' hgrow; have hf2 := ((hf.alloc _).kept hgrow (hf.not_row Z117 hrow)).other (B' := wM.heap.size) Z121 (.slice (some ⟨g', 0, none⟩) (pre.length + 1) cap'); have hc1 := hv1.cell; have hf1 := hv1.frozen)
  exact ⟨hk2, fun u hu => by
   have h1 := hf.cell; rw [h1] at hu; cases hu; exact hf2.cell, ⟨⟨_, hv2, by simpa using hr2, trivial⟩, hf2⟩, hB.trans hb2⟩
 case done =>
  rintro D ys W hD rfl ⟨⟨⟨v, hv, hrow, _⟩, hf⟩, hB⟩ hK; have hc := hv.cell; gi_wp2
  refine ⟨by simp, .inl ⟨_, _, rfl, run_takeDeferred hK, ?_⟩⟩; exact ⟨.tuple #[v, .int .i64 0], by simp [results, Try.results79, go_sem], v, rfl, ⟨fun _ _ => trivial, _, ownsRow_putObj hrow _ hK rfl, Kd.reps_scalar _⟩, hB.trans (belowK_b (w := w) (Nat.le_refl _) W D _ _ (by simp at hD; omega) hK rfl rfl)⟩
 case stop =>
  rintro D c pre W _ _ h _; exact h.elim
set_option maxRecDepth 100000 in
set_option maxHeartbeats 4000000 in
theorem workers_part (b : Nat) (a0 a1 a2 a3 a4 a5 a6 a7 fr : Int) (m : Nat) (hm : m ≤ 17592186044416) (w : World) (hmay : plan_May.f a0 a1 a2 a3 a4 a5 a6 a7 = some true)
  (hb : w.heap[b]? = some (.cells #[.int .u8 a0, .int .i64 a1, .int .i64 a2, .int .i64 a3, .int .i64 a4, .int .i64 a5, .int .i64 a6, .int .i64 a7] 24 (0, 0)))
  (hclo : PartIs 89 b #[.int .u8 a0, .int .i64 a1, .int .i64 a2, .int .i64 a3, .int .i64 a4, .int .i64 a5, .int .i64 a6, .int .i64 a7] fr (m : Int)) :
  Calls Try.prog 79 #[.agg #[.int .u8 a0, .int .i64 a1, .int .i64 a2, .int .i64 a3, .int .i64 a4, .int .i64 a5, .int .i64 a6, .int .i64 a7], .func (.func 89) #[] #[.pointer (some ⟨b, 0, none⟩)]] w fun e w' =>
   ∃ v, e = .returned (.tuple #[v, .int .i64 0]) ∧ Kd.R (Kd.int .u64) 36 w' w.heap.size (fun _ => True) v (runL fr m) ∧ Below w.heap.size w w' := by
 have hu40 := Try.underlying24; obtain ⟨i0, hi, hz0, hz1, hz2⟩ := info_parts info36; refine (callsIn_wide (n := 6)).1 ?_; refine callsIn_of_wp_marks Try.func79 rfl trivial ?_ rfl; simp only [Try.ntmps79, List.size_toArray, List.length_cons, List.length_nil, Nat.reduceAdd, Nat.reduceSub, Array.replicate_succ, Array.replicate_zero, List.push_toArray, List.append_toArray, List.nil_append, List.cons_append]; gi_wp2_with (first
  | (refine ⟨trivial, ?_⟩; gi_at_call 62; refine (callsIn_wide.2 (plan_May.calls a0 a1 a2 a3 a4 a5 a6 a7 true _ hmay)).mono ?_; rintro e wM ⟨rfl, hbM⟩))
 have hB1 : Below w.heap.size w wM := below_step (below_alloc (Below.refl _ _) _) hbM; have hBL : Below w.heap.size w (wM.alloc (.cells #[.slice none 0 0] 38)) := hB1.alloc hB1.size _; have bO := Boxed.new wM 38 (.slice none 0 0); refine ⟨trivial, (callsIn_wide.2 (hclo _ ((hBL.block b (blk_lt hb)).trans hb))).mono ?_⟩; rintro e w2 ⟨rfl, rfl⟩; gi_wp2
 have bF := Boxed.new (wM.alloc (.cells #[.slice none 0 0] 38)) 3 (.int .i64 fr); have bN := Boxed.new ((wM.alloc (.cells #[.slice none 0 0] 38)).alloc (.cells #[.int .i64 fr] 3)) 3 (.int .i64 (m : Int)); simp only [World.size_alloc] at bF bN; have hB3 : Below w.heap.size w (((wM.alloc (.cells #[.slice none 0 0] 38)).alloc (.cells #[.int .i64 fr] 3)).alloc (.cells #[.int .i64 (m : Int)] 3)) := (hBL.alloc hBL.size _).alloc (by have := hBL.size; simp at this ⊢; omega) _; have hsz := hB1.size; refine wpIn_rangeFunc_ownF rfl Z121 (gf := 105) (lb := #[.pointer (some ⟨wM.heap.size + 1 + 1, 0, none⟩), .pointer (some ⟨wM.heap.size + 1, 0, none⟩)]) rfl trivial (enters_of Try.func105 Z12 rfl)
  (run_stops Fence.wide (6 - 1) trivial rfl Z121 (wM.heap.size + 1 + 1) (wM.heap.size + 1) fr m hm _ (by simp) (by simp <;> omega) bN.cell (bF.alloc _).cell) kpC_t kpC_b (Below.refl _ _) (fun _ => rfl)
  (fun (pre : List Int) W => ((∃ v, Boxed W wM.heap.size 38 v ∧ W.ownsRow w.heap.size 36 1 v pre.length (pre.map (Value.int .u64)) ∧ True) ∧ Boxed W (wM.heap.size + 1) 3 (.int .i64 fr)) ∧ Below w.heap.size w W)
  (fun _ _ _ => False)
  (OwnFrom.and (OwnFrom.and (Own.from (holdsRow_own w.heap.size wM.heap.size 38 36 1 (fun (pre : List Int) => pre.length) (fun (pre : List Int) => pre.map (Value.int .u64)) (fun _ _ => True)) _) (Own.from (boxed_own _ _ _) _)) (ownFrom_below (Nat.le_refl _) (by simp; omega)))
  (fun _ _ _ _ _ hs _ _ => hs)
  ⟨⟨⟨_, (bO.alloc _).alloc _, World.ownsRow_nil _ _ _ _, trivial⟩, bF.alloc _⟩, hB3⟩
  (fun x => { tmps := #[.agg #[.int .u8 a0, .int .i64 a1, .int .i64 a2, .int .i64 a3, .int .i64 a4, .int .i64 a5, .int .i64 a6, .int .i64 a7], .func (.func 89) #[] #[.pointer (some ⟨b, 0, none⟩)], .pointer (some ⟨w.heap.size, 0, none⟩), undef, .slice none 0 0, .int .i64 0, .pointer (some ⟨wM.heap.size, 0, none⟩), .int .u64 x, .agg #[.int .u8 a0, .int .i64 a1, .int .i64 a2, .int .i64 a3, .int .i64 a4, .int .i64 a5, .int .i64 a6, .int .i64 a7], .bool true, .bool false, .func (.func 89) #[] #[.pointer (some ⟨b, 0, none⟩)], .func (.func 105) #[] #[.pointer (some ⟨wM.heap.size + 1 + 1, 0, none⟩), .pointer (some ⟨wM.heap.size + 1, 0, none⟩)], .int .u64 x, undef, undef, undef, undef, undef], defers := [] }) ?assign ?body ?done ?stop
 case assign =>
  intro l x W K hK; gi_wp2
  exact hK
 case body =>
  rintro l pre x W ⟨⟨⟨v, hv, hrow, _⟩, hf⟩, hB⟩ hlt; have hc := hv.cell; have hff := hv.frozen; gi_wp2_with (gi_at_builtin; refine wpListIn_append_own _ rfl _ _ 38 rfl w.heap.size 36 i0 (.int .u64 0) 1 8 Try.underlying38 hi hz0 hz1 hz2 rfl Z117 _ _ _ rfl (hrow.alloc _) ⟨W.heap.size, 0, none⟩ 1 1 [.int .u64 x] rfl rfl (cell_one_new _ _ _) (by simp [Value.oneCell']) (by unfold maxLen; omega) Z121 (by have := hB.size; simp; omega) ?_; intro v' w1 hown' hgrow _; obtain ⟨g', cap', rfl⟩ := ownsRow_succ hown'; obtain ⟨hv1, hv2, hr2, hk2, hb2⟩ := hv.appended Z117 hrow hB.size hsz hown' hgrow; have hf2 := ((hf.alloc _).kept hgrow (hf.not_row Z117 hrow)).other (B' := wM.heap.size) Z121 (.slice (some ⟨g', 0, none⟩) (pre.length + 1) cap'); have hc1 := hv1.cell; have hf1 := hv1.frozen)
  exact ⟨hk2, fun u hu => by
   have h1 := hf.cell; rw [h1] at hu; cases hu; exact hf2.cell, ⟨⟨_, hv2, by simpa using hr2, trivial⟩, hf2⟩, hB.trans hb2⟩
 case done =>
  rintro D ys W hD rfl ⟨⟨⟨v, hv, hrow, _⟩, hf⟩, hB⟩ hK; have hc := hv.cell; gi_wp2
  refine ⟨by simp, .inl ⟨_, _, rfl, run_takeDeferred hK, ?_⟩⟩; exact ⟨.tuple #[v, .int .i64 0], by simp [results, Try.results79, go_sem], v, rfl, ⟨fun _ _ => trivial, _, ownsRow_putObj hrow _ hK rfl, Kd.reps_scalar _⟩, hB.trans (belowK_b (w := w) (Nat.le_refl _) W D _ _ (by simp at hD; omega) hK rfl rfl)⟩
 case stop =>
  rintro D c pre W _ _ h _; exact h.elim
end Go.Proofs.Ytfkikfapbdlnjaa.P
end
