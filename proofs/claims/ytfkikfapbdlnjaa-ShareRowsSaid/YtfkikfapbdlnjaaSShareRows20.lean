import Derived.Test.YtfkikfapbdlnjaaSShareRowsZ
import Derived.Test.YtfkikfapbdlnjaaSShareRows17
import Derived.Test.YtfkikfapbdlnjaaSShareRows18
import Derived.Test.YtfkikfapbdlnjaaSShareRows19
section
namespace Go.Proofs.Ytfkikfapbdlnjaa.P
open Go.RowKit Go.Proofs.YtfkikfapbdlnjaaW.PrintWords Go.Proofs.YtfkikfapbdlnjaaW.PrintLast Go.Proofs.YtfkikfapbdlnjaaW.PrintMore
attribute [local go_sem] max2_int min2_int max_two min_two max_three min_three max_four min_four
set_option linter.unusedVariables false
set_option linter.unusedSimpArgs false
mutual
def field_Batch.l0 : Nat → List Int → List Int → Int → List Int → Int → Int → Int → Bool → Option (List Int × Int)
 | 0, _, _, _, _, _, _, _, _ => none
 | k + 1, x1, x8, x9, x26, x27, x28, x189000, x189001 => if x28 < x27 then (if 0 ≤ x28 then (if x28 < (x26.length : Int) then (if (rd x26 x28) = 0 then (some (([] : List Int), 5)) else (if x28 < (x8.length : Int) then ((field_reckoner_mul.f x189000 x189001 x9 (rd x26 x28)).bind fun t194 => (field_Batch.l0 k x1 (x8.set (x28 : Int).toNat x9) t194 x26 x27 (wrap64 (x28 + 1)) x189000 x189001)) else (none))) else (none)) else (none)) else ((field_reckoner_inv.f k x189000 x189001 x9).bind fun t195 => (field_Batch.l1 k x1 x8 t195 (wrap64 ((x1.length : Int) - 1)) x189000 x189001))
def field_Batch.l1 : Nat → List Int → List Int → Int → Int → Int → Bool → Option (List Int × Int)
 | 0, _, _, _, _, _, _ => none
 | k + 1, x1, x8, x12, x13, x189000, x189001 => if x13 ≥ 0 then (if 0 ≤ x13 then (if x13 < (x8.length : Int) then ((field_reckoner_mul.f x189000 x189001 (rd x8 x13) x12).bind fun t197 => (if x13 < (x1.length : Int) then ((field_reckoner_mul.f x189000 x189001 x12 (rd x1 x13)).bind fun t200 => (field_Batch.l1 k x1 (x8.set (x13 : Int).toNat t197) t200 (wrap64 (x13 - 1)) x189000 x189001)) else (none))) else (none)) else (none)) else (some (x8, 0))
end
def field_Batch.f (k : Nat) (a0 : Int) (l1 : List Int) : Option (List Int × Int) := (field_asked.f k a0 l1).bind fun bt185 => (if bt185.2.2 = 0 then (if 0 ≤ (l1.length : Int) then (if ((l1.length : Int) : Int).toNat ≤ 35184372088832 then (field_Batch.l0 k l1 (List.replicate ((l1.length : Int) : Int).toNat 0) 1 l1 (l1.length : Int) 0 bt185.1 bt185.2.1) else (none)) else (none)) else (some (([] : List Int), bt185.2.2)))
def field_Batch.T18 : Bool × List (List Nat × List Nat) := (true, [([], []), ([], []), ([], []), ([], []), ([], []), ([3, 4], [3, 4]), ([5], [5]), ([], []), ([2, 6, 7], [2, 6, 7]), ([0, 1, 0, 1, 2, 3, 4, 5, 6, 7, 8], [0, 1]), ([9, 8, 8, 0, 1, 2, 3, 4, 5, 6, 7, 8], [8, 9])])
def field_Batch.B18 : List Nat := [0, 0, 0, 0, 0, 24, 56, 0, 252, 511, 1023]
theorem field_Batch.tab18 : rtab .any (opsOf Try.f95 18) = field_Batch.T18 := by kernel_rfl
theorem field_Batch.bits18 : waitsOk field_Batch.T18.2 field_Batch.B18 = true := by kernel_rfl
def field_Batch.T19 : Bool × List (List Nat × List Nat) := (true, [([], []), ([], []), ([], []), ([], []), ([2, 3], [2, 3]), ([4], [4]), ([0, 1, 5], [0, 1, 5]), ([6, 6, 0, 1, 2, 3, 4, 5, 6], [1, 6])])
def field_Batch.B19 : List Nat := [0, 0, 0, 0, 12, 28, 63, 127]
theorem field_Batch.tab19 : rtab .any (opsOf Try.f95 19) = field_Batch.T19 := by kernel_rfl
theorem field_Batch.bits19 : waitsOk field_Batch.T19.2 field_Batch.B19 = true := by kernel_rfl
set_option maxHeartbeats 8000000 in
set_option maxRecDepth 100000 in
theorem field_Batch.calls (k : Nat) (a0 : Int) (A1 : Option Addr) (c1 : Nat) (l1 : List Int) (r1 : List Int) (r2 : Int) (w : World) (hr1 : Kd.C (Kd.int .u64) w A1 l1.length l1) (hc1 : l1.length ≤ c1) (h : field_Batch.f k a0 l1 = some (r1, r2)) :
  Calls Try.prog 95 #[.int .u8 a0, .slice A1 l1.length c1] w fun e w' => ∃ v0_ : Value, e = .returned (.tuple #[v0_, .int .i64 r2]) ∧ Kd.R (Kd.int .u64) 36 w' w.heap.size (fun _ => True) v0_ r1 ∧ Below w.heap.size w w' := by
 have hu118 := Try.underlying118; have HR1 := am hr1; have HC1 := am hc1; clear hr1 hc1; have HB := am (Below.refl w.heap.size w); have H : ((field_asked.f k a0 l1).bind fun bt185 => (if bt185.2.2 = 0 then (if 0 ≤ (l1.length : Int) then (if ((l1.length : Int) : Int).toNat ≤ 35184372088832 then (field_Batch.l0 k l1 (List.replicate ((l1.length : Int) : Int).toNat 0) 1 l1 (l1.length : Int) 0 bt185.1 bt185.2.1) else (none)) else (none)) else (some (([] : List Int), bt185.2.2)))) = some (r1, r2) := h; clear h; replace H := Option.bind_eq_some_iff.mp H; obtain ⟨⟨t185, t186, t187⟩, A30, H⟩ := H; replace H : (if t187 = 0 then (if 0 ≤ (l1.length : Int) then (if ((l1.length : Int) : Int).toNat ≤ 35184372088832 then (field_Batch.l0 k l1 (List.replicate ((l1.length : Int) : Int).toNat 0) 1 l1 (l1.length : Int) 0 t185 t186) else (none)) else (none)) else (some (([] : List Int), t187))) = some (r1, r2) := H; have A3 := am A30; clear A30; by_cases c4 : t187 = 0
 ·rw [if_pos c4] at H; have c4b0 : (t187 == 0) = true := beq_iff_eq.mpr c4; have c4b1 : (t187 != 0) = false := bne_eq_false_iff_eq.mpr c4; clear c4; by_cases c5 : 0 ≤ (l1.length : Int)
  ·rw [if_pos c5] at H; have c5b0 := eq_true c5; have c5b1 : decide (0 ≤ (l1.length : Int)) = true := decide_eq_true c5; clear c5; by_cases c6 : ((l1.length : Int) : Int).toNat ≤ 35184372088832
   ·rw [if_pos c6] at H; have c6b0 := eq_true c6; have c6b1 : decide (((l1.length : Int) : Int).toNat ≤ 35184372088832) = true := decide_eq_true c6; clear c6; obtain ⟨y189, hy189⟩ : ∃ y_ : List Int, y_ = (List.replicate ((l1.length : Int) : Int).toNat 0) := ⟨_, rfl⟩; replace H : (field_Batch.l0 k l1 y189 1 l1 (l1.length : Int) 0 t185 t186) = some (r1, r2) := by first | (rw [hy189]; with_reducible exact H) | (have H2_ := (Option.bind_some _ _).symm.trans H; rw [hy189]; with_reducible exact H2_) | (have H2_ := (Option.bind_some _ _).symm.trans H; with_reducible exact H2_) | with_reducible exact H | (rw [hy189]; exact H) | exact H
    have Ny189 := am hy189; clear hy189; have H' := am H; clear H; go_enter Try.func95, Try.ntmps95
    go_wp2_with (first | ((with_reducible refine gate_callee (f := 84) rfl ?_); refine goesL_ (some 17) rfl rfl Try.func84 Z12 rfl #[.int .u8 a0, .slice A1 l1.length c1] rfl Z2 ?_; (with_reducible refine (field_asked.calls k a0 _ _ l1 t185 t186 t187 _ ?side1 ?side2 A3.out).mono ?_); (case side1 => repeat (first | exact HR1.out | (with_reducible refine Kd.C_alloc ?_ _) | (with_reducible refine Kd.C_drewN ?_ _) | (with_reducible refine Kd.C_drew ?_))); (case side2 => exact HC1.out); rintro e w7 ⟨rfl, hb⟩; refine ⟨_, rfl, ?_⟩; replace HB := am (below_step Z1 hb); (try clear hb)) | ((with_reducible refine gate_dst (N := 6) rfl ?_); refine box_event ?hg (N := 6) ?hd (cs := #[.int .u64 0, .bool false]) (t := 118) ?hr ?_; (case hd => rfl); (case hg => rfl); (case hr => first | (go_simp; done) | (go_simp; rfl)); intro gb188 hg w8 hbox hb; have BK188 := am (hbox); have GW188 := am ((Z58 : w.heap.size ≤ gb188)); have GE188 := am ((Z58 : w.heap.size ≤ gb188)); replace HB := am (below_step Z1 hb); clear hb hbox hg; have hcz9_0 : w8.cell? ⟨gb188, 0, none⟩ = some (.int .u64 0) := (blk_cell BK188.out 0).trans rfl; have hcz9_1 : w8.cell? ⟨gb188, 1, none⟩ = some (.bool false) := (blk_cell BK188.out 1).trans rfl; have hfz9_0 := blk_frozen BK188.out 0; have hfz9_1 := blk_frozen BK188.out 1) | ((with_reducible refine gate_dst (N := 25) rfl ?_); refine Kd.R_make (Kd.int .u64) _ 36 rfl (N := 25) rfl 38 _ _ rfl (l1.length : Int) rfl rfl Try.underlying38 (.int .u64 0) 8 info36 rfl Z117 Z121 0 (ok := fun _ => True) (okp := fun _ => True) rfl (fun _ hk => hk) trivial (of_decide_eq_true Z4) (Nat.le_trans (Nat.mul_le_mul_right _ (of_decide_eq_true Z4 : (l1.length : Int).toNat ≤ 35184372088832)) Z121) (Below.refl _ _) (Nat.le_refl _) ?_; intro v190 w10 ho11 hb hg_ hnew_; clear hg_ hnew_; (first | rw [← Ny189.out] at ho11 | (simp only [Int.reduceToNat] at ho11; rw [← Ny189.out] at ho11)); have HO191 := am (Kd.R_lower ho11 (below_size Z19)); replace BK188 := am (blk_below (g := gb188) (o := .cells #[.int .u64 t185, .bool t186] 118 (0, 0)) (by (with_reducible repeat (first | refine blk_drewN ?_ _ | refine blk_drew ?_ | refine blk_alloc ?_ _)); refine blk_put (cs := #[.int .u64 t185, .bool false]) ?_ 1 _ rfl; (with_reducible repeat (first | refine blk_drewN ?_ _ | refine blk_drew ?_ | refine blk_alloc ?_ _)); refine blk_put (cs := #[.int .u64 0, .bool false]) ?_ 0 _ rfl; (with_reducible repeat (first | refine blk_drewN ?_ _ | refine blk_drew ?_ | refine blk_alloc ?_ _)); exact BK188.out) hb); replace HB := am (below_step Z19 hb); clear hb ho11))
    go_loopg [9, 28] k (fun kq v9 v28 w' => ∃ (x8_1 : List Int) (x9_1 : Int) (x28_1 : Int), v9 = .int .u64 x9_1 ∧ v28 = .int .i64 x28_1 ∧ Aside0 (field_Batch.l0 kq l1 x8_1 x9_1 l1 (l1.length : Int) x28_1 t185 t186 = some (r1, r2)) ∧ Aside0 (kq ≤ k) ∧ Aside0 (Kd.R (Kd.int .u64) 36 w' w.heap.size (fun _ => True) v190 x8_1) ∧ Aside0 (w'.heap[gb188]? = some (.cells #[.int .u64 t185, .bool t186] 118 (0, 0))) ∧ Aside0 (Below w.heap.size w w'))
    case atStart => exact ⟨(y189), (1), (0), Z5, Z5, H', ⟨Nat.le_refl _⟩, ⟨by (with_reducible repeat (first | apply Kd.R_alloc | apply Kd.R_drewN | apply Kd.R_drew)); exact HO191.out⟩, ⟨Z47⟩, ⟨Z19⟩⟩
    case round =>
     clear H'; (try clear c1); (try clear p2); (try clear c4); (try clear c4b0); (try clear c4b1); (try clear c5); (try clear c5b0); (try clear c5b1); (try clear c6); (try clear c6b0); (try clear c6b1); (try clear c8); (try clear c9); (try clear hcz9_0); (try clear hcz9_1); (try clear hfz9_0); (try clear hfz9_1); obtain ⟨x8_1, x9_1, x28_1, rfl, rfl, HA, HK1, HO_8, BK188, HB⟩ := hrel; cases gk with
     | zero => exact absurd HA.out (by simp [field_Batch.l0])
     | succ k1 =>
      have H := HA.out; clear HA; simp only [field_Batch.l0] at H; by_cases c12 : x28_1 < (l1.length : Int)
      ·rw [if_pos c12] at H; have c12b0 : decide (x28_1 < (l1.length : Int)) = true := decide_eq_true c12; clear c12; by_cases c13 : 0 ≤ x28_1
       ·rw [if_pos c13] at H; have c13b0 : decide (0 ≤ x28_1) = true := decide_eq_true c13; clear c13; by_cases c14 : x28_1 < (l1.length : Int)
        ·rw [if_pos c14] at H; have c14b0 : decide (x28_1 < (l1.length : Int)) = true := decide_eq_true c14; clear c14; by_cases c15 : (rd l1 x28_1) = 0
         ·rw [if_pos c15] at H; have c15b0 : ((rd l1 x28_1) == 0) = true := beq_iff_eq.mpr c15; have c15b1 : ((rd l1 x28_1) != 0) = false := bne_eq_false_iff_eq.mpr c15; clear c15; simp only [Option.some.injEq, Prod.mk.injEq] at H; obtain ⟨rfl, rfl⟩ := H; have p192 : 0 ≤ (x28_1 : Int) := of_decide_eq_true Z4; have q192 : x28_1 < (l1.length : Int) := of_decide_eq_true Z4; obtain ⟨ad192, e192, hx192_0⟩ := Kd.at_int HR1.out x28_1 p192 q192; cases e192; replace hx192_0 := (HB.out.cell (World.block_lt_of_cell? w _ hx192_0)).trans hx192_0; replace p192 := eq_true p192; replace q192 := eq_true q192; go_wp2; go_ret2; exact ⟨_, Z3, Z50, Z19⟩
         ·rw [if_neg c15] at H; have c15b0 : ((rd l1 x28_1) == 0) = false := beq_eq_false_iff_ne.mpr c15; have c15b1 : ((rd l1 x28_1) != 0) = true := bne_iff_ne.mpr c15; by_cases c16 : x28_1 < (x8_1.length : Int)
          ·rw [if_pos c16] at H; have c16b0 : decide (x28_1 < (x8_1.length : Int)) = true := decide_eq_true c16; clear c16; obtain ⟨y193, hy193⟩ : ∃ y_ : List Int, y_ = (x8_1.set (x28_1 : Int).toNat x9_1) := ⟨_, rfl⟩; replace H : ((field_reckoner_mul.f t185 t186 x9_1 (rd l1 x28_1)).bind fun t194 => (field_Batch.l0 k1 l1 y193 t194 l1 (l1.length : Int) (wrap64 (x28_1 + 1)) t185 t186)) = some (r1, r2) := by first | (rw [hy193]; with_reducible exact H) | (have H2_ := (Option.bind_some _ _).symm.trans H; rw [hy193]; with_reducible exact H2_) | (have H2_ := (Option.bind_some _ _).symm.trans H; with_reducible exact H2_) | with_reducible exact H | (rw [hy193]; exact H) | exact H
           have Ny193 := am hy193; clear hy193; replace H := Option.bind_eq_some_iff.mp H; obtain ⟨t194, A180, H⟩ := H; replace H : (field_Batch.l0 k1 l1 y193 t194 l1 (l1.length : Int) (wrap64 (x28_1 + 1)) t185 t186) = some (r1, r2) := H; have A18 := am A180; clear A180; have H' := am H; clear H; have p192 : 0 ≤ (x28_1 : Int) := of_decide_eq_true Z4; have q192 : x28_1 < (l1.length : Int) := of_decide_eq_true Z4; obtain ⟨ad192, e192, hx192_0⟩ := Kd.at_int HR1.out x28_1 p192 q192; cases e192; replace hx192_0 := (HB.out.cell (World.block_lt_of_cell? w _ hx192_0)).trans hx192_0; replace p192 := eq_true p192; replace q192 := eq_true q192; have p17 : 0 ≤ (x28_1 : Int) := of_decide_eq_true Z4; have q17 : (x28_1 : Int) < ((x8_1.length : Int) : Int) := of_decide_eq_true Z4; obtain ⟨go17, co17, eo17, gb17, gl17, cl17, HG17⟩ := Kd.R_form HO_8.out Z121; (first | cases eo17 | (injection eo17 with ea_ en_ ec_; (first | subst ea_ | (injection ea_ with ea_; subst ea_)); subst ec_; clear en_))
           have GB17 := am gb17; have GG17 := am HG17; clear gb17 gl17 HG17; obtain ⟨hx17_0, hf17_0⟩ := Kd.R_celln 0 HO_8.out (x28_1 : Int) p17 q17; replace p17 := eq_true p17; replace q17 := eq_true q17; have HP19 := Kd.R_putg HO_8.out (x28_1 : Int) x9_1; go_wp2_with (first | ((with_reducible refine gate_store (t := 36) (p := 38) rfl ?_); refine store_event (t := 36) (p := 38) (v := ?vo_w20) (w1 := (wr.setCell ⟨go17, (x28_1 : Int).toNat, none⟩ (.int .u64 x9_1))) ?hg ?ho ?hn ?hr ?_; (case ho => rfl); (case hg => rfl); (case hn => rfl); (case hr => first | (go_simp; done) | (go_simp; rfl)); intro w20 hw; have hg : wr.grownBy w20 (some go17) := (by rw [hw]; exact HP19.2); have hp_ : Kd.R (Kd.int .u64) 36 w20 w.heap.size (fun _ => True) (.slice (some ⟨go17, 0, none⟩) x8_1.length co17) y193 := (by rw [hw, Ny193.out]; exact HP19.1); clear HP19; replace BK188 := am (blk_grown (g := gb188) (o := .cells #[.int .u64 t185, .bool t186] 118 (0, 0)) Z47 hg (Kd.R_ne HO_8.out BK188.out Z117)); replace HO_8 := am (hp_); replace HB := am ((by rw [hw]; exact below_set (HB.out) GB17.out : Below w.heap.size w w20)); clear hg hw hp_; have hcz21_0 : w20.cell? ⟨gb188, 0, none⟩ = some (.int .u64 t185) := (blk_cell BK188.out 0).trans rfl; have hcz21_1 : w20.cell? ⟨gb188, 1, none⟩ = some (.bool t186) := (blk_cell BK188.out 1).trans rfl; have hfz21_0 := blk_frozen BK188.out 0; have hfz21_1 := blk_frozen BK188.out 1) | ((with_reducible refine gate_callee (f := 87) rfl ?_); refine goesL_ (some 42) rfl rfl Try.func87 Z12 rfl #[.agg #[.int .u64 t185, .bool t186], .int .u64 x9_1, .int .u64 (rd l1 x28_1)] rfl Z2 ?_; (with_reducible refine (field_reckoner_mul.calls t185 t186 x9_1 (rd l1 x28_1) t194 _ A18.out).mono ?_); rintro e w22 ⟨rfl, hb⟩; refine ⟨_, rfl, ?_⟩; replace HO_8 := am (Kd.R_below Z26 hb); replace BK188 := am (blk_below (g := gb188) (o := .cells #[.int .u64 t185, .bool t186] 118 (0, 0)) Z47 hb); replace HB := am (below_step Z19 hb); (try clear hb)))
           go_roundg k1
           case measure => have := HK1.out; omega
           case rel => exact ⟨(y193), (t194), (wrap64 (x28_1 + 1)), Z5, Z5, H', ⟨Z99⟩, ⟨Z26⟩, ⟨Z47⟩, ⟨Z19⟩⟩
          ·rw [if_neg c16] at H; exact absurd H (by simp)
        ·rw [if_neg c14] at H; exact absurd H (by simp)
       ·rw [if_neg c13] at H; exact absurd H (by simp)
      ·rw [if_neg c12] at H; have c12b0 : decide (x28_1 < (l1.length : Int)) = false := decide_eq_false c12; clear c12; replace H := Option.bind_eq_some_iff.mp H; obtain ⟨t195, A230, H⟩ := H; replace H : (field_Batch.l1 k1 l1 x8_1 t195 (wrap64 ((l1.length : Int) - 1)) t185 t186) = some (r1, r2) := H; have A23 := am A230; clear A230; have H' := am H; clear H; have hcz24_0 : wr.cell? ⟨gb188, 0, none⟩ = some (.int .u64 t185) := (blk_cell BK188.out 0).trans rfl; have hcz24_1 : wr.cell? ⟨gb188, 1, none⟩ = some (.bool t186) := (blk_cell BK188.out 1).trans rfl; have hfz24_0 := blk_frozen BK188.out 0; have hfz24_1 := blk_frozen BK188.out 1; go_wp2_with (first | ((with_reducible refine gate_callee (f := 113) rfl ?_); refine goesL_ (some 46) rfl rfl Try.func113 Z12 rfl #[.agg #[.int .u64 t185, .bool t186], .int .u64 x9_1] rfl Z2 ?_; (with_reducible refine (field_reckoner_inv.calls k1 t185 t186 x9_1 t195 _ A23.out).mono ?_); rintro e w25 ⟨rfl, hb⟩; refine ⟨_, rfl, ?_⟩; replace HO_8 := am (Kd.R_below Z26 hb); replace BK188 := am (blk_below (g := gb188) (o := .cells #[.int .u64 t185, .bool t186] 118 (0, 0)) Z47 hb); replace HB := am (below_step Z19 hb); (try clear hb)))
       go_loopg [12, 13] k1 (fun kq v12 v13 w' => ∃ (x8_2 : List Int) (x12_2 : Int) (x13_2 : Int), v12 = .int .u64 x12_2 ∧ v13 = .int .i64 x13_2 ∧ Aside0 (field_Batch.l1 kq l1 x8_2 x12_2 x13_2 t185 t186 = some (r1, r2)) ∧ Aside0 (kq ≤ k1) ∧ Aside0 (Kd.R (Kd.int .u64) 36 w' w.heap.size (fun _ => True) v190 x8_2) ∧ Aside0 (w'.heap[gb188]? = some (.cells #[.int .u64 t185, .bool t186] 118 (0, 0))) ∧ Aside0 (Below w.heap.size w w'))
       case atStart => exact ⟨(x8_1), (t195), (wrap64 ((l1.length : Int) - 1)), Z5, Z5, H', ⟨Nat.le_refl _⟩, ⟨Z26⟩, ⟨Z47⟩, ⟨Z19⟩⟩
       case round =>
        clear H'; (try clear c1); (try clear p1); (try clear q1); (try clear hx1); (try clear p2); (try clear c4); (try clear c4b0); (try clear c4b1); (try clear c5); (try clear c5b0); (try clear c5b1); (try clear c6); (try clear c6b0); (try clear c6b1); (try clear p6); (try clear c8); (try clear c9); (try clear c11); (try clear c12); (try clear c12b0); (try clear c13); (try clear c13b0); (try clear c14); (try clear c14b0); (try clear c15); (try clear c15b0); (try clear c15b1); (try clear c16); (try clear c16b0); (try clear p17); (try clear q17); (try clear hx17); (try clear hf17); (try clear p19); (try clear q19); (try clear hx19); (try clear hcz21_0); (try clear hcz21_1); (try clear hcz24_0); (try clear hcz24_1); (try clear hcz9_0); (try clear hcz9_1); (try clear hfz21_0); (try clear hfz21_1); (try clear hfz24_0); (try clear hfz24_1); (try clear hfz9_0); (try clear hfz9_1); (try clear hx17_0); (try clear hx192_0); (try clear p17); (try clear p192); (try clear p2); (try clear q17); (try clear q192); obtain ⟨x8_2, x12_2, x13_2, rfl, rfl, HA, HK2, HO_8, BK188, HB⟩ := hrel; cases gk with
        | zero => exact absurd HA.out (by simp [field_Batch.l1])
        | succ k2 =>
         have H := HA.out; clear HA; simp only [field_Batch.l1] at H; by_cases c26 : x13_2 ≥ 0
         ·rw [if_pos c26] at H; have c26b0 : decide (0 ≤ x13_2) = true := decide_eq_true c26; clear c26; by_cases c27 : 0 ≤ x13_2
          ·rw [if_pos c27] at H; have c27b0 : decide (0 ≤ x13_2) = true := decide_eq_true c27; clear c27; by_cases c28 : x13_2 < (x8_2.length : Int)
           ·rw [if_pos c28] at H; have c28b0 : decide (x13_2 < (x8_2.length : Int)) = true := decide_eq_true c28; clear c28; replace H := Option.bind_eq_some_iff.mp H; obtain ⟨t197, A290, H⟩ := H; replace H : (if x13_2 < (l1.length : Int) then ((field_reckoner_mul.f t185 t186 x12_2 (rd l1 x13_2)).bind fun t200 => (field_Batch.l1 k2 l1 (x8_2.set (x13_2 : Int).toNat t197) t200 (wrap64 (x13_2 - 1)) t185 t186)) else (none)) = some (r1, r2) := H; have A29 := am A290; clear A290; obtain ⟨y198, hy198⟩ : ∃ y_ : List Int, y_ = (x8_2.set (x13_2 : Int).toNat t197) := ⟨_, rfl⟩; replace H : (if x13_2 < (l1.length : Int) then ((field_reckoner_mul.f t185 t186 x12_2 (rd l1 x13_2)).bind fun t200 => (field_Batch.l1 k2 l1 y198 t200 (wrap64 (x13_2 - 1)) t185 t186)) else (none)) = some (r1, r2) := by first | (rw [hy198]; with_reducible exact H) | (have H2_ := (Option.bind_some _ _).symm.trans H; rw [hy198]; with_reducible exact H2_) | (have H2_ := (Option.bind_some _ _).symm.trans H; with_reducible exact H2_) | with_reducible exact H | (rw [hy198]; exact H) | exact H
            have Ny198 := am hy198; clear hy198; by_cases c31 : x13_2 < (l1.length : Int)
            ·rw [if_pos c31] at H; have c31b0 : decide (x13_2 < (l1.length : Int)) = true := decide_eq_true c31; clear c31; replace H := Option.bind_eq_some_iff.mp H; obtain ⟨t200, A320, H⟩ := H; replace H : (field_Batch.l1 k2 l1 y198 t200 (wrap64 (x13_2 - 1)) t185 t186) = some (r1, r2) := H; have A32 := am A320; clear A320; have H' := am H; clear H; (try go_wp2); replace HO_8 := am (Kd.R_drew HO_8.out); replace BK188 := am (blk_drew BK188.out); replace HB := am (below_drew1 HB.out); obtain ⟨Ao34, co34, eo34⟩ := Kd.R_slice HO_8.out; (first | subst eo34 | (injection eo34 with f1_ f2_ f3_; have f4_ := f1_.symm; have f5_ := f3_.symm; clear f1_ f2_ f3_; subst f4_; subst f5_))
             have p196 : 0 ≤ (x13_2 : Int) := of_decide_eq_true Z4; have q196 : x13_2 < (x8_2.length : Int) := of_decide_eq_true Z4; obtain ⟨ad196, e196, hx196_0⟩ := Kd.at_int (Kd.R_reads' HO_8.out).2.2 x13_2 p196 q196; cases e196; replace p196 := eq_true p196; replace q196 := eq_true q196; refine start_ (n := 11) (S := fun w' => w'.cell? ⟨gb188, 0, none⟩ = some (.int .u64 t185) ∧ w'.cell? ⟨gb188, 1, none⟩ = some (.bool t186) ∧ w'.cell? (ad196.add (x13_2).toNat) = some (.int .u64 (rd x8_2 x13_2))) (ds := [10]) #[false, false, false, false, false, false, false, false, false, false, false] Z12 rfl rfl ⟨(blk_cell BK188.out 0).trans rfl, (blk_cell BK188.out 1).trans rfl, hx196_0⟩ (fun hHeld => ?_); refine with_tabW field_Batch.tab18 field_Batch.bits18 (fun HT_ HW_ => ?_)
             generalize wr.drew = w33 at HO_8 BK188 HB hx196_0 hHeld ⊢
             refine pure_ (i := 0) (N := some 54) (v := ?_) (a' := ?_) #[true, false, false, false, false, false, false, false, false, false, false] rfl rfl (any_of HT_.out Z12) (fun _ _ _ h => h) (Or.inl ⟨by rfl, ?_⟩) ?_ ?_; rotate_left
             ·intro w'; go_simp; with_reducible rfl
             rotate_left
             ·simp only [Act.put, List.setIfInBounds_toArray, List.set_cons_zero, List.set_cons_succ, i64_w, i32_w]; rfl
             refine pure_ (i := 1) (N := some 55) (v := ?_) (a' := ?_) #[true, true, false, false, false, false, false, false, false, false, false] rfl rfl (any_of HT_.out Z12) (fun _ _ _ h => h) (Or.inl ⟨by rfl, ?_⟩) ?_ ?_; rotate_left
             ·intro w'; go_simp; with_reducible rfl
             rotate_left
             ·simp only [Act.put, List.setIfInBounds_toArray, List.set_cons_zero, List.set_cons_succ, i64_w, i32_w]; rfl
             refine pure_ (i := 3) (N := some 57) (v := ?_) (a' := ?_) #[true, true, false, true, false, false, false, false, false, false, false] rfl rfl (any_of HT_.out Z12) (fun _ _ _ h => h) (Or.inl ⟨by rfl, ?_⟩) ?_ ?_; rotate_left
             ·intro w'; go_simp; with_reducible rfl
             rotate_left
             ·simp only [Act.put, List.setIfInBounds_toArray, List.set_cons_zero, List.set_cons_succ, i64_w, i32_w]; rfl
             refine pure_ (i := 4) (N := some 58) (v := ?_) (a' := ?_) #[true, true, false, true, true, false, false, false, false, false, false] rfl rfl (any_of HT_.out Z12) (fun _ _ _ h => h) (Or.inl ⟨by rfl, ?_⟩) ?_ ?_; rotate_left
             ·intro w'; go_simp; with_reducible rfl
             rotate_left
             ·simp only [Act.put, List.setIfInBounds_toArray, List.set_cons_zero, List.set_cons_succ, i64_w, i32_w]; rfl
             refine pure_ (i := 5) (N := some 59) (v := ?_) (a' := ?_) #[true, true, false, true, true, true, false, false, false, false, false] rfl rfl (any_of HT_.out Z12) (fun _ _ _ h => h) (Or.inl ⟨by rfl, ?_⟩) ?_ ?_; rotate_left
             ·intro w'; go_simp; with_reducible rfl
             rotate_left
             ·simp only [Act.put, List.setIfInBounds_toArray, List.set_cons_zero, List.set_cons_succ, i64_w, i32_w]; rfl
             refine pure_ (i := 7) (N := some 61) (v := ?_) (a' := ?_) #[true, true, false, true, true, true, false, true, false, false, false] rfl rfl (any_of HT_.out Z12) (fun _ _ _ h => h) (Or.inl ⟨by rfl, ?_⟩) ?_ ?_; rotate_left
             ·intro w'; go_simp; with_reducible rfl
             rotate_left
             ·simp only [Act.put, List.setIfInBounds_toArray, List.set_cons_zero, List.set_cons_succ, i64_w, i32_w]; rfl
             refine take_ (i := 2) (N := some 56) (v := ?_) (a' := ?_) #[true, true, true, true, true, true, false, true, false, false, false] rfl rfl (take_ofW HT_.out HW_.out Z12) (fun _ _ _ h => h) (Or.inl ⟨by rfl, ?_⟩) hHeld ?_ ?_; rotate_left
             ·rintro w' ⟨s0, s1, s2⟩; go_simp; with_reducible rfl
             rotate_left
             ·simp only [Act.put, List.setIfInBounds_toArray, List.set_cons_zero, List.set_cons_succ, i64_w, i32_w]; rfl
             refine take_ (i := 6) (N := some 60) (v := ?_) (a' := ?_) #[true, true, true, true, true, true, true, true, false, false, false] rfl rfl (take_ofW HT_.out HW_.out Z12) (fun _ _ _ h => h) (Or.inl ⟨by rfl, ?_⟩) hHeld ?_ ?_; rotate_left
             ·rintro w' ⟨s0, s1, s2⟩; go_simp; with_reducible rfl
             rotate_left
             ·simp only [Act.put, List.setIfInBounds_toArray, List.set_cons_zero, List.set_cons_succ, i64_w, i32_w]; rfl
             refine one_ (i := 8) (N := some 62) #[true, true, true, true, true, true, true, true, true, false, false] rfl rfl (one_of HT_.out Z12) Z117 (fun K hK => ?_); refine goes_ Try.func87 Z12 rfl #[.agg #[.int .u64 t185, .bool t186], .int .u64 (rd x8_2 x13_2), .int .u64 x12_2] (by rfl) rfl rfl Z2 ?_; (with_reducible refine (field_reckoner_mul.calls t185 t186 (rd x8_2 x13_2) x12_2 t197 _ A29.out).mono ?_); rintro e w35 ⟨rfl, hb⟩; have HS2_ := (hb.cell (World.block_lt_of_cell? _ _ (hHeld.2.2))).trans (hHeld.2.2); refine ⟨_, rfl, ?_⟩; replace HO_8 := am (Kd.R_below Z26 hb); replace BK188 := am (blk_below (g := gb188) (o := .cells #[.int .u64 t185, .bool t186] 118 (0, 0)) Z47 hb); replace HB := am (below_step Z19 hb); (try clear hb)
             (try clear hb2)
             (try clear hk)
             (try clear hi)
             have p30 : 0 ≤ (x13_2 : Int) := of_decide_eq_true Z4; have q30 : (x13_2 : Int) < ((x8_2.length : Int) : Int) := of_decide_eq_true Z4; obtain ⟨go30, co30, eo30, gb30, gl30, cl30, HG30⟩ := Kd.R_form HO_8.out Z121; (first | cases eo30 | (injection eo30 with ea_ en_ ec_; (first | subst ea_ | (injection ea_ with ea_; subst ea_)); subst ec_; clear en_))
             have GB30 := am gb30; have GG30 := am HG30; clear gb30 gl30 HG30; (first | simp only [add_plain] at hx196_0 | skip)
             obtain ⟨hx30_0, hf30_0⟩ := Kd.R_celln 0 HO_8.out (x13_2 : Int) p30 q30; replace p30 := eq_true p30; replace q30 := eq_true q30; have HP36 := Kd.R_putn HO_8.out (x13_2 : Int) t197; rw [← Ny198.out] at HP36; have HQ36 := am HP36; clear HP36; refine hK.out _ _ ⟨(blk_cell BK188.out 0).trans rfl, (blk_cell BK188.out 1).trans rfl, HS2_⟩ (fun hHeld => ?_); clear hK K; refine norm_ (a' := ?_) ?_ ?_; rotate_left
             ·show Act.put _ (some 62) _ = _
              simp only [Act.put, List.setIfInBounds_toArray, List.set_cons_zero, List.set_cons_succ, i64_w, i32_w]; rfl
             refine pure_ (i := 9) (N := some 63) (v := ?_) (a' := ?_) #[true, true, true, true, true, true, true, true, true, true, false] rfl rfl (any_of HT_.out Z12) (fun _ _ _ h => h) (Or.inl ⟨by rfl, ?_⟩) ?_ ?_; rotate_left
             ·intro w'; go_simp; with_reducible rfl
             rotate_left
             ·simp only [Act.put, List.setIfInBounds_toArray, List.set_cons_zero, List.set_cons_succ, i64_w, i32_w]; rfl
             refine last_ (i := 10) (N := none) #[true, true, true, true, true, true, true, true, true, true, true] rfl rfl (one_of HT_.out Z12) Z117 (fun K hK => ?_); refine skip_ (w1 := ?_) (by rfl) rfl ?_ ?_; rotate_left
             ·go_simp; rfl
             refine hK.out _ _ ?_; clear hK K; refine done_ (done_of HT_.out Z12) ?_; (try go_wp2); have n0_ : Aside0 (Kd.R (Kd.int .u64) 36 (w35.setCell ⟨go30, (x13_2 : Int).toNat, none⟩ (.int .u64 t197)) w.heap.size (fun _ => True) (.slice (some ⟨go30, 0, none⟩) x8_2.length co34) y198) := ⟨by (with_reducible repeat (first | apply Kd.R_alloc | apply Kd.R_drewN | apply Kd.R_drew)); exact HQ36.out⟩; have n1_ : Aside0 ((w35.setCell ⟨go30, (x13_2 : Int).toNat, none⟩ (.int .u64 t197)).heap[gb188]? = some (.cells #[.int .u64 t185, .bool t186] 118 (0, 0))) := ⟨by (with_reducible repeat (first | refine blk_drewN ?_ _ | refine blk_drew ?_ | refine blk_alloc ?_ _)); refine blk_far ?_ (by have h_ := Kd.R_ne HO_8.out BK188.out Z117; intro e_; exact h_ (by rw [e_]; rfl)) _; (with_reducible repeat (first | refine blk_drewN ?_ _ | refine blk_drew ?_ | refine blk_alloc ?_ _)); exact BK188.out⟩; have n2_ : Aside0 (Below w.heap.size w (w35.setCell ⟨go30, (x13_2 : Int).toNat, none⟩ (.int .u64 t197))) := ⟨by repeat (first | (with_reducible first | exact HB.out | apply below_alloc | apply pw_below_drewN | apply below_drew1 | refine below_set ?_ GB30.out | refine below_set ?_ GE188.out) | exact HB.out)⟩; (try clear HO_8)
             (try clear BK188)
             (try clear HB)
             generalize (w35.setCell ⟨go30, (x13_2 : Int).toNat, none⟩ (.int .u64 t197)) = w37 at n0_ n1_ n2_ ⊢
             have HO_8 := n0_; have BK188 := n1_; have HB := n2_; clear n0_ n1_ n2_; replace HO_8 := am (Kd.R_drew HO_8.out); replace BK188 := am (blk_drew BK188.out); replace HB := am (below_drew1 HB.out); have p199 : 0 ≤ (x13_2 : Int) := of_decide_eq_true Z4; have q199 : x13_2 < (l1.length : Int) := of_decide_eq_true Z4; obtain ⟨ad199, e199, hx199_0⟩ := Kd.at_int HR1.out x13_2 p199 q199; have hw199_0 := hx199_0; cases e199; replace hx199_0 := (HB.out.cell (World.block_lt_of_cell? w _ hx199_0)).trans hx199_0; replace p199 := eq_true p199; replace q199 := eq_true q199; refine start_ (n := 8) (S := fun w' => w'.cell? ⟨gb188, 0, none⟩ = some (.int .u64 t185) ∧ w'.cell? ⟨gb188, 1, none⟩ = some (.bool t186) ∧ w'.cell? (ad199.add (x13_2).toNat) = some (.int .u64 (rd l1 x13_2))) (ds := []) #[false, false, false, false, false, false, false, false] Z12 rfl rfl ⟨(blk_cell BK188.out 0).trans rfl, (blk_cell BK188.out 1).trans rfl, ((HB.out.cell (World.block_lt_of_cell? w _ hw199_0)).trans hw199_0)⟩ (fun hHeld => ?_); refine with_tabW field_Batch.tab19 field_Batch.bits19 (fun HT_ HW_ => ?_)
             generalize w37.drew = w38 at HO_8 BK188 HB HQ36 hx199_0 hHeld ⊢
             refine pure_ (i := 1) (N := some 65) (v := ?_) (a' := ?_) #[false, true, false, false, false, false, false, false] rfl rfl (any_of HT_.out Z12) (fun _ _ _ h => h) (Or.inl ⟨by rfl, ?_⟩) ?_ ?_; rotate_left
             ·intro w'; go_simp; with_reducible rfl
             rotate_left
             ·simp only [Act.put, List.setIfInBounds_toArray, List.set_cons_zero, List.set_cons_succ, i64_w, i32_w]; rfl
             refine pure_ (i := 2) (N := some 66) (v := ?_) (a' := ?_) #[false, true, true, false, false, false, false, false] rfl rfl (any_of HT_.out Z12) (fun _ _ _ h => h) (Or.inl ⟨by rfl, ?_⟩) ?_ ?_; rotate_left
             ·intro w'; go_simp; with_reducible rfl
             rotate_left
             ·simp only [Act.put, List.setIfInBounds_toArray, List.set_cons_zero, List.set_cons_succ, i64_w, i32_w]; rfl
             refine pure_ (i := 3) (N := some 67) (v := ?_) (a' := ?_) #[false, true, true, true, false, false, false, false] rfl rfl (any_of HT_.out Z12) (fun _ _ _ h => h) (Or.inl ⟨by rfl, ?_⟩) ?_ ?_; rotate_left
             ·intro w'; go_simp; with_reducible rfl
             rotate_left
             ·simp only [Act.put, List.setIfInBounds_toArray, List.set_cons_zero, List.set_cons_succ, i64_w, i32_w]; rfl
             refine pure_ (i := 4) (N := some 68) (v := ?_) (a' := ?_) #[false, true, true, true, true, false, false, false] rfl rfl (any_of HT_.out Z12) (fun _ _ _ h => h) (Or.inl ⟨by rfl, ?_⟩) ?_ ?_; rotate_left
             ·intro w'; go_simp; with_reducible rfl
             rotate_left
             ·simp only [Act.put, List.setIfInBounds_toArray, List.set_cons_zero, List.set_cons_succ, i64_w, i32_w]; rfl
             refine take_ (i := 0) (N := some 64) (v := ?_) (a' := ?_) #[true, true, true, true, true, false, false, false] rfl rfl (take_ofW HT_.out HW_.out Z12) (fun _ _ _ h => h) (Or.inl ⟨by rfl, ?_⟩) hHeld ?_ ?_; rotate_left
             ·rintro w' ⟨s0, s1, s2⟩; go_simp; with_reducible rfl
             rotate_left
             ·simp only [Act.put, List.setIfInBounds_toArray, List.set_cons_zero, List.set_cons_succ, i64_w, i32_w]; rfl
             refine take_ (i := 5) (N := some 69) (v := ?_) (a' := ?_) #[true, true, true, true, true, true, false, false] rfl rfl (take_ofW HT_.out HW_.out Z12) (fun _ _ _ h => h) (Or.inl ⟨by rfl, ?_⟩) hHeld ?_ ?_; rotate_left
             ·rintro w' ⟨s0, s1, s2⟩; go_simp; with_reducible rfl
             rotate_left
             ·simp only [Act.put, List.setIfInBounds_toArray, List.set_cons_zero, List.set_cons_succ, i64_w, i32_w]; rfl
             refine one_ (i := 6) (N := some 70) #[true, true, true, true, true, true, true, false] rfl rfl (one_of HT_.out Z12) Z117 (fun K hK => ?_); refine goes_ Try.func87 Z12 rfl #[.agg #[.int .u64 t185, .bool t186], .int .u64 x12_2, .int .u64 (rd l1 x13_2)] (by rfl) rfl rfl Z2 ?_; (with_reducible refine (field_reckoner_mul.calls t185 t186 x12_2 (rd l1 x13_2) t200 _ A32.out).mono ?_); rintro e w39 ⟨rfl, hb⟩; refine ⟨_, rfl, ?_⟩; replace HO_8 := am (Kd.R_below Z26 hb); replace BK188 := am (blk_below (g := gb188) (o := .cells #[.int .u64 t185, .bool t186] 118 (0, 0)) Z47 hb); replace HB := am (below_step Z19 hb); (try clear hb)
             (try clear hb2)
             (try clear hk)
             (try clear hi)
             refine hK.out _ _ ⟨(blk_cell BK188.out 0).trans rfl, (blk_cell BK188.out 1).trans rfl, ((HB.out.cell (World.block_lt_of_cell? w _ hw199_0)).trans hw199_0)⟩ (fun hHeld => ?_); clear hK K; refine norm_ (a' := ?_) ?_ ?_; rotate_left
             ·show Act.put _ (some 70) _ = _
              simp only [Act.put, List.setIfInBounds_toArray, List.set_cons_zero, List.set_cons_succ, i64_w, i32_w]; rfl
             refine pure_ (i := 7) (N := some 12) (v := ?_) (a' := ?_) #[true, true, true, true, true, true, true, true] rfl rfl (any_of HT_.out Z12) (fun _ _ _ h => h) (Or.inl ⟨by rfl, ?_⟩) ?_ ?_; rotate_left
             ·intro w'; go_simp; with_reducible rfl
             rotate_left
             ·simp only [Act.put, List.setIfInBounds_toArray, List.set_cons_zero, List.set_cons_succ, i64_w, i32_w]; rfl
             refine done_ (done_of HT_.out Z12) ?_; (try go_wp2); go_roundg k2
             case measure => have := HK1.out; have := HK2.out; omega
             case rel => exact ⟨(y198), (t200), (wrap64 (x13_2 - 1)), Z5, Z5, H', ⟨Z64⟩, ⟨Z26⟩, ⟨Z47⟩, ⟨Z19⟩⟩
            ·rw [if_neg c31] at H; exact absurd H (by simp)
           ·rw [if_neg c28] at H; exact absurd H (by simp)
          ·rw [if_neg c27] at H; exact absurd H (by simp)
         ·rw [if_neg c26] at H; have c26b0 : decide (0 ≤ x13_2) = false := decide_eq_false c26; clear c26; simp only [Option.some.injEq, Prod.mk.injEq] at H; obtain ⟨rfl, rfl⟩ := H; go_wp2; go_ret2; exact ⟨_, Z3, Z26, Z19⟩
   ·rw [if_neg c6] at H; exact absurd H (by simp)
  ·rw [if_neg c5] at H; exact absurd H (by simp)
 ·rw [if_neg c4] at H; have c4b0 : (t187 == 0) = false := beq_eq_false_iff_ne.mpr c4; have c4b1 : (t187 != 0) = true := bne_iff_ne.mpr c4; simp only [Option.some.injEq, Prod.mk.injEq] at H; obtain ⟨rfl, rfl⟩ := H; go_enter Try.func95, Try.ntmps95
  go_wp2_with (first | ((with_reducible refine gate_callee (f := 84) rfl ?_); refine goesL_ (some 17) rfl rfl Try.func84 Z12 rfl #[.int .u8 a0, .slice A1 l1.length c1] rfl Z2 ?_; (with_reducible refine (field_asked.calls k a0 _ _ l1 t185 t186 t187 _ ?side1 ?side2 A3.out).mono ?_); (case side1 => repeat (first | exact HR1.out | (with_reducible refine Kd.C_alloc ?_ _) | (with_reducible refine Kd.C_drewN ?_ _) | (with_reducible refine Kd.C_drew ?_))); (case side2 => exact HC1.out); rintro e w40 ⟨rfl, hb⟩; refine ⟨_, rfl, ?_⟩; replace HB := am (below_step Z1 hb); (try clear hb)) | ((with_reducible refine gate_dst (N := 6) rfl ?_); refine box_event ?hg (N := 6) ?hd (cs := #[.int .u64 0, .bool false]) (t := 118) ?hr ?_; (case hd => rfl); (case hg => rfl); (case hr => first | (go_simp; done) | (go_simp; rfl)); intro gb188 hg w41 hbox hb; have BK188 := am (hbox); have GW188 := am ((Z58 : w.heap.size ≤ gb188)); have GE188 := am ((Z58 : w.heap.size ≤ gb188)); replace HB := am (below_step Z1 hb); clear hb hbox hg; have hcz42_0 : w41.cell? ⟨gb188, 0, none⟩ = some (.int .u64 0) := (blk_cell BK188.out 0).trans rfl; have hcz42_1 : w41.cell? ⟨gb188, 1, none⟩ = some (.bool false) := (blk_cell BK188.out 1).trans rfl; have hfz42_0 := blk_frozen BK188.out 0; have hfz42_1 := blk_frozen BK188.out 1))
  go_ret2; exact ⟨_, Z3, Z50, Z19⟩
end Go.Proofs.Ytfkikfapbdlnjaa.P
end
section
namespace Go.Proofs.Ytfkikfapbdlnjaa.P
open Go.RowKit Go.Proofs.YtfkikfapbdlnjaaW.PrintWords Go.Proofs.YtfkikfapbdlnjaaW.PrintLast Go.Proofs.YtfkikfapbdlnjaaW.PrintMore
attribute [local go_sem] max2_int min2_int max_two min_two max_three min_three max_four min_four
set_option linter.unusedVariables false
set_option linter.unusedSimpArgs false
mutual
def interp_weights.l0 : Nat → Int → List Int → List Int → List Int → Int → Int → Int → Option (List Int × Int)
 | 0, _, _, _, _, _, _, _ => none
 | k + 1, x0, x1, x7, x18, x19, x20, x202000 => if x20 < x19 then (if 0 ≤ x20 then (if x20 < (x18.length : Int) then (interp_weights.l1 k x0 x1 x7 x20 (rd x18 x20) 1 x18 x19 x20 x1 (x1.length : Int) 0 x202000) else (none)) else (none)) else ((field_Batch.f k x0 x7).bind fun bt205 => (some (bt205.1, bt205.2)))
def interp_weights.l1 : Nat → Int → List Int → List Int → Int → Int → Int → List Int → Int → Int → List Int → Int → Int → Int → Option (List Int × Int)
 | 0, _, _, _, _, _, _, _, _, _, _, _, _, _ => none
 | k + 1, x0, x1, x7, x8, x9, x10, x18, x19, x20, x25, x26, x27, x202000 => if x27 < x26 then (if 0 ≤ x27 then (if x27 < (x25.length : Int) then (if x27 = x8 then (interp_weights.l1 k x0 x1 x7 x8 x9 x10 x18 x19 x20 x25 x26 (wrap64 (x27 + 1)) x202000) else ((interp_reckoner_sub.f k x202000 x9 (rd x25 x27)).bind fun t212 => ((interp_reckoner_mul.f k x202000 x10 t212).bind fun t213 => (interp_weights.l1 k x0 x1 x7 x8 x9 t213 x18 x19 x20 x25 x26 (wrap64 (x27 + 1)) x202000)))) else (none)) else (none)) else (if 0 ≤ x8 then (if x8 < (x7.length : Int) then (interp_weights.l0 k x0 x1 (x7.set (x8 : Int).toNat x10) x18 x19 (wrap64 (x20 + 1)) x202000) else (none)) else (none))
end
def interp_weights.f (k : Nat) (a0 : Int) (l1 : List Int) : Option (List Int × Int) := if 0 ≤ (l1.length : Int) then (if ((l1.length : Int) : Int).toNat ≤ 35184372088832 then (interp_weights.l0 k a0 l1 (List.replicate ((l1.length : Int) : Int).toNat 0) l1 (l1.length : Int) 0 a0) else (none)) else (none)
def interp_weights.T11 : Bool × List (List Nat × List Nat) := (true, [([], []), ([], []), ([], []), ([], []), ([], []), ([2, 3, 4], [2, 3, 4]), ([0, 1, 5, 5], [0, 1, 5]), ([6, 6, 0, 1, 2, 3, 4, 5, 6], [1, 6])])
def interp_weights.B11 : List Nat := [0, 0, 0, 0, 0, 28, 63, 127]
theorem interp_weights.tab11 : rtab .any (opsOf Try.f68 11) = interp_weights.T11 := by kernel_rfl
theorem interp_weights.bits11 : waitsOk interp_weights.T11.2 interp_weights.B11 = true := by kernel_rfl
set_option maxHeartbeats 8000000 in
set_option maxRecDepth 100000 in
theorem interp_weights.calls (k : Nat) (a0 : Int) (A1 : Option Addr) (c1 : Nat) (l1 : List Int) (r1 : List Int) (r2 : Int) (w : World) (hr1 : Kd.C (Kd.int .u64) w A1 l1.length l1) (hc1 : l1.length ≤ c1) (h : interp_weights.f k a0 l1 = some (r1, r2)) :
  Calls Try.prog 68 #[.int .u8 a0, .slice A1 l1.length c1] w fun e w' => ∃ v0_ : Value, e = .returned (.tuple #[v0_, .int .i64 r2]) ∧ Kd.R (Kd.int .u64) 36 w' w.heap.size (fun _ => True) v0_ r1 ∧ Below w.heap.size w w' := by
 have hu127 := Try.underlying127; have HR1 := am hr1; have HC1 := am hc1; clear hr1 hc1; have HB := am (Below.refl w.heap.size w); have H : (if 0 ≤ (l1.length : Int) then (if ((l1.length : Int) : Int).toNat ≤ 35184372088832 then (interp_weights.l0 k a0 l1 (List.replicate ((l1.length : Int) : Int).toNat 0) l1 (l1.length : Int) 0 a0) else (none)) else (none)) = some (r1, r2) := h; clear h; by_cases c3 : 0 ≤ (l1.length : Int)
 ·rw [if_pos c3] at H; have c3b0 := eq_true c3; have c3b1 : decide (0 ≤ (l1.length : Int)) = true := decide_eq_true c3; clear c3; by_cases c4 : ((l1.length : Int) : Int).toNat ≤ 35184372088832
  ·rw [if_pos c4] at H; have c4b0 := eq_true c4; have c4b1 : decide (((l1.length : Int) : Int).toNat ≤ 35184372088832) = true := decide_eq_true c4; clear c4; obtain ⟨y202, hy202⟩ : ∃ y_ : List Int, y_ = (List.replicate ((l1.length : Int) : Int).toNat 0) := ⟨_, rfl⟩; replace H : (interp_weights.l0 k a0 l1 y202 l1 (l1.length : Int) 0 a0) = some (r1, r2) := by first | (rw [hy202]; with_reducible exact H) | (have H2_ := (Option.bind_some _ _).symm.trans H; rw [hy202]; with_reducible exact H2_) | (have H2_ := (Option.bind_some _ _).symm.trans H; with_reducible exact H2_) | with_reducible exact H | (rw [hy202]; exact H) | exact H
   have Ny202 := am hy202; clear hy202; have H' := am H; clear H; go_enter Try.func68, Try.ntmps68
   go_wp2_with (first | ((with_reducible refine gate_dst (N := 6) rfl ?_); refine box_event ?hg (N := 6) ?hd (cs := #[.int .u8 0]) (t := 127) ?hr ?_; (case hd => rfl); (case hg => rfl); (case hr => first | (go_simp; done) | (go_simp; rfl)); intro gb201 hg w5 hbox hb; have BK201 := am (hbox); have GW201 := am ((Z58 : w.heap.size ≤ gb201)); have GE201 := am ((Z58 : w.heap.size ≤ gb201)); replace HB := am (below_step Z1 hb); clear hb hbox hg; have hcz6_0 : w5.cell? ⟨gb201, 0, none⟩ = some (.int .u8 0) := (blk_cell BK201.out 0).trans rfl; have hfz6_0 := blk_frozen BK201.out 0) | ((with_reducible refine gate_dst (N := 17) rfl ?_); refine Kd.R_make (Kd.int .u64) _ 36 rfl (N := 17) rfl 38 _ _ rfl (l1.length : Int) rfl rfl Try.underlying38 (.int .u64 0) 8 info36 rfl Z117 Z121 0 (ok := fun _ => True) (okp := fun _ => True) rfl (fun _ hk => hk) trivial (of_decide_eq_true Z4) (Nat.le_trans (Nat.mul_le_mul_right _ (of_decide_eq_true Z4 : (l1.length : Int).toNat ≤ 35184372088832)) Z121) (Below.refl _ _) (Nat.le_refl _) ?_; intro v203 w7 ho8 hb hg_ hnew_; clear hg_ hnew_; (first | rw [← Ny202.out] at ho8 | (simp only [Int.reduceToNat] at ho8; rw [← Ny202.out] at ho8)); have HO204 := am (Kd.R_lower ho8 (below_size Z22)); replace BK201 := am (blk_below (g := gb201) (o := .cells #[.int .u8 a0] 127 (0, 0)) (by (with_reducible repeat (first | refine blk_drewN ?_ _ | refine blk_drew ?_ | refine blk_alloc ?_ _)); refine blk_put (cs := #[.int .u8 0]) ?_ 0 _ rfl; (with_reducible repeat (first | refine blk_drewN ?_ _ | refine blk_drew ?_ | refine blk_alloc ?_ _)); exact BK201.out) hb); replace HB := am (below_step Z22 hb); clear hb ho8))
   go_loopg [20] k (fun kq v20 w' => ∃ (x7_1 : List Int) (x20_1 : Int), v20 = .int .i64 x20_1 ∧ Aside0 (interp_weights.l0 kq a0 l1 x7_1 l1 (l1.length : Int) x20_1 a0 = some (r1, r2)) ∧ Aside0 (kq ≤ k) ∧ Aside0 (Kd.R (Kd.int .u64) 36 w' w.heap.size (fun _ => True) v203 x7_1) ∧ Aside0 (w'.heap[gb201]? = some (.cells #[.int .u8 a0] 127 (0, 0))) ∧ Aside0 (Below w.heap.size w w'))
   case atStart => exact ⟨(y202), (0), Z5, H', ⟨Nat.le_refl _⟩, ⟨by (with_reducible repeat (first | apply Kd.R_alloc | apply Kd.R_drewN | apply Kd.R_drew)); exact HO204.out⟩, ⟨Z46⟩, ⟨Z22⟩⟩
   case round =>
    clear H'; (try clear c1); (try clear p2); (try clear c3); (try clear c3b0); (try clear c3b1); (try clear c4); (try clear c4b0); (try clear c4b1); (try clear c6); (try clear hcz6_0); (try clear hfz6_0); obtain ⟨x7_1, x20_1, rfl, HA, HK1, HO_7, BK201, HB⟩ := hrel; cases gk with
    | zero => exact absurd HA.out (by simp [interp_weights.l0])
    | succ k1 =>
     have H := HA.out; clear HA; simp only [interp_weights.l0] at H; by_cases c9 : x20_1 < (l1.length : Int)
     ·rw [if_pos c9] at H; have c9b0 : decide (x20_1 < (l1.length : Int)) = true := decide_eq_true c9; clear c9; by_cases c10 : 0 ≤ x20_1
      ·rw [if_pos c10] at H; have c10b0 : decide (0 ≤ x20_1) = true := decide_eq_true c10; clear c10; by_cases c11 : x20_1 < (l1.length : Int)
       ·rw [if_pos c11] at H; have c11b0 : decide (x20_1 < (l1.length : Int)) = true := decide_eq_true c11; clear c11; have H' := am H; clear H; have p209 : 0 ≤ (x20_1 : Int) := of_decide_eq_true Z4; have q209 : x20_1 < (l1.length : Int) := of_decide_eq_true Z4; obtain ⟨ad209, e209, hx209_0⟩ := Kd.at_int HR1.out x20_1 p209 q209; cases e209; replace hx209_0 := (HB.out.cell (World.block_lt_of_cell? w _ hx209_0)).trans hx209_0; replace p209 := eq_true p209; replace q209 := eq_true q209; go_wp2; go_loopg [10, 27] k1 (fun kq v10 v27 w' => ∃ (x10_2 : Int) (x27_2 : Int), v10 = .int .u64 x10_2 ∧ v27 = .int .i64 x27_2 ∧ Aside0 (interp_weights.l1 kq a0 l1 x7_1 x20_1 (rd l1 x20_1) x10_2 l1 (l1.length : Int) x20_1 l1 (l1.length : Int) x27_2 a0 = some (r1, r2)) ∧ Aside0 (kq ≤ k1) ∧ Aside0 (Kd.R (Kd.int .u64) 36 w' w.heap.size (fun _ => True) v203 x7_1) ∧ Aside0 (w'.heap[gb201]? = some (.cells #[.int .u8 a0] 127 (0, 0))) ∧ Aside0 (Below w.heap.size w w'))
        case atStart => exact ⟨(1), (0), Z5, Z5, H', ⟨Nat.le_refl _⟩, ⟨Z56⟩, ⟨Z46⟩, ⟨Z22⟩⟩
        case round =>
         clear H'; (try clear c1); (try clear p2); (try clear q2); (try clear hx2); (try clear c3); (try clear c3b0); (try clear c3b1); (try clear c4); (try clear c4b0); (try clear c4b1); (try clear c6); (try clear c9); (try clear c9b0); (try clear c10); (try clear c10b0); (try clear c11); (try clear c11b0); (try clear hcz6_0); (try clear hfz6_0); (try clear hx209_0); (try clear p2); (try clear p209); (try clear q209); obtain ⟨x10_2, x27_2, rfl, rfl, HA, HK2, HO_7, BK201, HB⟩ := hrel; cases gk with
         | zero => exact absurd HA.out (by simp [interp_weights.l1])
         | succ k2 =>
          have H := HA.out; clear HA; simp only [interp_weights.l1] at H; by_cases c12 : x27_2 < (l1.length : Int)
          ·rw [if_pos c12] at H; have c12b0 : decide (x27_2 < (l1.length : Int)) = true := decide_eq_true c12; clear c12; by_cases c13 : 0 ≤ x27_2
           ·rw [if_pos c13] at H; have c13b0 : decide (0 ≤ x27_2) = true := decide_eq_true c13; clear c13; by_cases c14 : x27_2 < (l1.length : Int)
            ·rw [if_pos c14] at H; have c14b0 : decide (x27_2 < (l1.length : Int)) = true := decide_eq_true c14; clear c14; by_cases c15 : x27_2 = x20_1
             ·rw [if_pos c15] at H; have c15b0 : (x27_2 == x20_1) = true := beq_iff_eq.mpr c15; have c15b1 : (x27_2 != x20_1) = false := bne_eq_false_iff_eq.mpr c15; clear c15; have H' := am H; clear H; have p211 : 0 ≤ (x27_2 : Int) := of_decide_eq_true Z4; have q211 : x27_2 < (l1.length : Int) := of_decide_eq_true Z4; obtain ⟨ad211, e211, hx211_0⟩ := Kd.at_int HR1.out x27_2 p211 q211; obtain rfl : ad209 = ad211 := (by injection e211); replace hx211_0 := (HB.out.cell (World.block_lt_of_cell? w _ hx211_0)).trans hx211_0; replace p211 := eq_true p211; replace q211 := eq_true q211; go_wp2; go_roundg k2
              case measure => have := HK1.out; have := HK2.out; omega
              case rel => exact ⟨(x10_2), (wrap64 (x27_2 + 1)), Z5, Z5, H', ⟨Z64⟩, ⟨Z56⟩, ⟨Z46⟩, ⟨Z22⟩⟩
             ·rw [if_neg c15] at H; have c15b0 : (x27_2 == x20_1) = false := beq_eq_false_iff_ne.mpr c15; have c15b1 : (x27_2 != x20_1) = true := bne_iff_ne.mpr c15; replace H := Option.bind_eq_some_iff.mp H; obtain ⟨t212, A160, H⟩ := H; replace H : ((interp_reckoner_mul.f k2 a0 x10_2 t212).bind fun t213 => (interp_weights.l1 k2 a0 l1 x7_1 x20_1 (rd l1 x20_1) t213 l1 (l1.length : Int) x20_1 l1 (l1.length : Int) (wrap64 (x27_2 + 1)) a0)) = some (r1, r2) := H; have A16 := am A160; clear A160; replace H := Option.bind_eq_some_iff.mp H; obtain ⟨t213, A170, H⟩ := H; replace H : (interp_weights.l1 k2 a0 l1 x7_1 x20_1 (rd l1 x20_1) t213 l1 (l1.length : Int) x20_1 l1 (l1.length : Int) (wrap64 (x27_2 + 1)) a0) = some (r1, r2) := H; have A17 := am A170; clear A170; have H' := am H; clear H; have p211 : 0 ≤ (x27_2 : Int) := of_decide_eq_true Z4; have q211 : x27_2 < (l1.length : Int) := of_decide_eq_true Z4; obtain ⟨ad211, e211, hx211_0⟩ := Kd.at_int HR1.out x27_2 p211 q211; obtain rfl : ad209 = ad211 := (by injection e211); replace hx211_0 := (HB.out.cell (World.block_lt_of_cell? w _ hx211_0)).trans hx211_0; replace p211 := eq_true p211; replace q211 := eq_true q211; (try go_wp2); replace HO_7 := am (Kd.R_drew HO_7.out); replace BK201 := am (blk_drew BK201.out); replace HB := am (below_drew1 HB.out); refine start_ (n := 8) (S := fun w' => w'.cell? ⟨gb201, 0, none⟩ = some (.int .u8 a0)) (ds := []) #[false, false, false, false, false, false, false, false] Z12 rfl rfl ((blk_cell BK201.out 0).trans rfl) (fun hHeld => ?_); refine with_tabW interp_weights.tab11 interp_weights.bits11 (fun HT_ HW_ => ?_)
              generalize wr.drew = w18 at HO_7 BK201 HB hHeld ⊢
              refine pure_ (i := 1) (N := some 36) (v := ?_) (a' := ?_) #[false, true, false, false, false, false, false, false] rfl rfl (any_of HT_.out Z12) (fun _ _ _ h => h) (Or.inl ⟨by rfl, ?_⟩) ?_ ?_; rotate_left
              ·intro w'; go_simp; with_reducible rfl
              rotate_left
              ·simp only [Act.put, List.setIfInBounds_toArray, List.set_cons_zero, List.set_cons_succ, i64_w, i32_w]; rfl
              refine pure_ (i := 3) (N := some 38) (v := ?_) (a' := ?_) #[false, true, false, true, false, false, false, false] rfl rfl (any_of HT_.out Z12) (fun _ _ _ h => h) (Or.inl ⟨by rfl, ?_⟩) ?_ ?_; rotate_left
              ·intro w'; go_simp; with_reducible rfl
              rotate_left
              ·simp only [Act.put, List.setIfInBounds_toArray, List.set_cons_zero, List.set_cons_succ, i64_w, i32_w]; rfl
              refine pure_ (i := 4) (N := some 39) (v := ?_) (a' := ?_) #[false, true, false, true, true, false, false, false] rfl rfl (any_of HT_.out Z12) (fun _ _ _ h => h) (Or.inl ⟨by rfl, ?_⟩) ?_ ?_; rotate_left
              ·intro w'; go_simp; with_reducible rfl
              rotate_left
              ·simp only [Act.put, List.setIfInBounds_toArray, List.set_cons_zero, List.set_cons_succ, i64_w, i32_w]; rfl
              refine take_ (i := 0) (N := some 35) (v := ?_) (a' := ?_) #[true, true, false, true, true, false, false, false] rfl rfl (take_ofW HT_.out HW_.out Z12) (fun _ _ _ h => h) (Or.inl ⟨by rfl, ?_⟩) hHeld ?_ ?_; rotate_left
              ·intro w' s0; go_simp; with_reducible rfl
              rotate_left
              ·simp only [Act.put, List.setIfInBounds_toArray, List.set_cons_zero, List.set_cons_succ, i64_w, i32_w]; rfl
              refine take_ (i := 2) (N := some 37) (v := ?_) (a' := ?_) #[true, true, true, true, true, false, false, false] rfl rfl (take_ofW HT_.out HW_.out Z12) (fun _ _ _ h => h) (Or.inl ⟨by rfl, ?_⟩) hHeld ?_ ?_; rotate_left
              ·intro w' s0; go_simp; with_reducible rfl
              rotate_left
              ·simp only [Act.put, List.setIfInBounds_toArray, List.set_cons_zero, List.set_cons_succ, i64_w, i32_w]; rfl
              refine one_ (i := 5) (N := some 40) #[true, true, true, true, true, true, false, false] rfl rfl (one_of HT_.out Z12) Z117 (fun K hK => ?_); refine goes_ Try.func94 Z12 rfl #[.agg #[.int .u8 a0], .int .u64 (rd l1 x20_1), .int .u64 (rd l1 x27_2)] (by rfl) rfl rfl Z2 ?_; (with_reducible refine (interp_reckoner_sub.calls k2 a0 (rd l1 x20_1) (rd l1 x27_2) t212 _ A16.out).mono ?_); rintro e w19 ⟨rfl, hb⟩; refine ⟨_, rfl, ?_⟩; replace HO_7 := am (Kd.R_below Z56 hb); replace BK201 := am (blk_below (g := gb201) (o := .cells #[.int .u8 a0] 127 (0, 0)) Z46 hb); replace HB := am (below_step Z22 hb); (try clear hb)
              (try clear hb2)
              (try clear hk)
              (try clear hi)
              refine hK.out _ _ ((blk_cell BK201.out 0).trans rfl) (fun hHeld => ?_); clear hK K; refine norm_ (a' := ?_) ?_ ?_; rotate_left
              ·show Act.put _ (some 40) _ = _
               simp only [Act.put, List.setIfInBounds_toArray, List.set_cons_zero, List.set_cons_succ, i64_w, i32_w]; rfl
              refine one_ (i := 6) (N := some 41) #[true, true, true, true, true, true, true, false] rfl rfl (one_of HT_.out Z12) Z117 (fun K hK => ?_); refine goes_ Try.func93 Z12 rfl #[.agg #[.int .u8 a0], .int .u64 x10_2, .int .u64 t212] (by rfl) rfl rfl Z2 ?_; (with_reducible refine (interp_reckoner_mul.calls k2 a0 x10_2 t212 t213 _ A17.out).mono ?_); rintro e w20 ⟨rfl, hb⟩; refine ⟨_, rfl, ?_⟩; replace HO_7 := am (Kd.R_below Z56 hb); replace BK201 := am (blk_below (g := gb201) (o := .cells #[.int .u8 a0] 127 (0, 0)) Z46 hb); replace HB := am (below_step Z22 hb); (try clear hb)
              (try clear hb2)
              (try clear hk)
              (try clear hi)
              refine hK.out _ _ ((blk_cell BK201.out 0).trans rfl) (fun hHeld => ?_); clear hK K; refine norm_ (a' := ?_) ?_ ?_; rotate_left
              ·show Act.put _ (some 41) _ = _
               simp only [Act.put, List.setIfInBounds_toArray, List.set_cons_zero, List.set_cons_succ, i64_w, i32_w]; rfl
              refine pure_ (i := 7) (N := some 10) (v := ?_) (a' := ?_) #[true, true, true, true, true, true, true, true] rfl rfl (any_of HT_.out Z12) (fun _ _ _ h => h) (Or.inl ⟨by rfl, ?_⟩) ?_ ?_; rotate_left
              ·intro w'; go_simp; with_reducible rfl
              rotate_left
              ·simp only [Act.put, List.setIfInBounds_toArray, List.set_cons_zero, List.set_cons_succ, i64_w, i32_w]; rfl
              refine done_ (done_of HT_.out Z12) ?_; (try go_wp2); go_roundg k2
              case measure => have := HK1.out; have := HK2.out; omega
              case rel => exact ⟨(t213), (wrap64 (x27_2 + 1)), Z5, Z5, H', ⟨Z64⟩, ⟨Z56⟩, ⟨Z46⟩, ⟨Z22⟩⟩
            ·rw [if_neg c14] at H; exact absurd H (by simp)
           ·rw [if_neg c13] at H; exact absurd H (by simp)
          ·rw [if_neg c12] at H; have c12b0 : decide (x27_2 < (l1.length : Int)) = false := decide_eq_false c12; clear c12; by_cases c21 : 0 ≤ x20_1
           ·rw [if_pos c21] at H; have c21b0 : decide (0 ≤ x20_1) = true := decide_eq_true c21; clear c21; by_cases c22 : x20_1 < (x7_1.length : Int)
            ·rw [if_pos c22] at H; have c22b0 : decide (x20_1 < (x7_1.length : Int)) = true := decide_eq_true c22; clear c22; obtain ⟨y210, hy210⟩ : ∃ y_ : List Int, y_ = (x7_1.set (x20_1 : Int).toNat x10_2) := ⟨_, rfl⟩; replace H : (interp_weights.l0 k2 a0 l1 y210 l1 (l1.length : Int) (wrap64 (x20_1 + 1)) a0) = some (r1, r2) := by first | (rw [hy210]; with_reducible exact H) | (have H2_ := (Option.bind_some _ _).symm.trans H; rw [hy210]; with_reducible exact H2_) | (have H2_ := (Option.bind_some _ _).symm.trans H; with_reducible exact H2_) | with_reducible exact H | (rw [hy210]; exact H) | exact H
             have Ny210 := am hy210; clear hy210; have H' := am H; clear H; have p23 : 0 ≤ (x20_1 : Int) := of_decide_eq_true Z4; have q23 : (x20_1 : Int) < ((x7_1.length : Int) : Int) := of_decide_eq_true Z4; obtain ⟨go23, co23, eo23, gb23, gl23, cl23, HG23⟩ := Kd.R_form HO_7.out Z121; (first | cases eo23 | (injection eo23 with ea_ en_ ec_; (first | subst ea_ | (injection ea_ with ea_; subst ea_)); subst ec_; clear en_))
             have GB23 := am gb23; have GG23 := am HG23; clear gb23 gl23 HG23; obtain ⟨hx23_0, hf23_0⟩ := Kd.R_celln 0 HO_7.out (x20_1 : Int) p23 q23; replace p23 := eq_true p23; replace q23 := eq_true q23; have HP24 := Kd.R_putg HO_7.out (x20_1 : Int) x10_2; go_wp2_with (first | ((with_reducible refine gate_store (t := 36) (p := 46) rfl ?_); refine store_event (t := 36) (p := 46) (v := ?vo_w25) (w1 := (wr.setCell ⟨go23, (x20_1 : Int).toNat, none⟩ (.int .u64 x10_2))) ?hg ?ho ?hn ?hr ?_; (case ho => rfl); (case hg => rfl); (case hn => rfl); (case hr => first | (go_simp; done) | (go_simp; rfl)); intro w25 hw; have hg : wr.grownBy w25 (some go23) := (by rw [hw]; exact HP24.2); have hp_ : Kd.R (Kd.int .u64) 36 w25 w.heap.size (fun _ => True) (.slice (some ⟨go23, 0, none⟩) x7_1.length co23) y210 := (by rw [hw, Ny210.out]; exact HP24.1); clear HP24; replace BK201 := am (blk_grown (g := gb201) (o := .cells #[.int .u8 a0] 127 (0, 0)) Z46 hg (Kd.R_ne HO_7.out BK201.out Z117)); replace HO_7 := am (hp_); replace HB := am ((by rw [hw]; exact below_set (HB.out) GB23.out : Below w.heap.size w w25)); clear hg hw hp_))
             go_roundg k2
             case measure => have := HK1.out; have := HK2.out; omega
             case rel => exact ⟨(y210), (wrap64 (x20_1 + 1)), Z5, H', ⟨Z64⟩, ⟨Z56⟩, ⟨Z46⟩, ⟨Z22⟩⟩
            ·rw [if_neg c22] at H; exact absurd H (by simp)
           ·rw [if_neg c21] at H; exact absurd H (by simp)
       ·rw [if_neg c11] at H; exact absurd H (by simp)
      ·rw [if_neg c10] at H; exact absurd H (by simp)
     ·rw [if_neg c9] at H; have c9b0 : decide (x20_1 < (l1.length : Int)) = false := decide_eq_false c9; clear c9; replace H := Option.bind_eq_some_iff.mp H; obtain ⟨⟨t205, t206⟩, A260, H⟩ := H; replace H : (some (t205, t206)) = some (r1, r2) := H; have A26 := am A260; clear A260; simp only [Option.some.injEq, Prod.mk.injEq] at H; obtain ⟨rfl, rfl⟩ := H; obtain ⟨Ao27, co27, eo27⟩ := Kd.R_slice HO_7.out; subst eo27; go_wp2_with (first | ((with_reducible refine gate_callee (f := 95) rfl ?_); refine goesL_ (some 50) rfl rfl Try.func95 Z12 rfl #[.int .u8 a0, .slice Ao27 x7_1.length co27] rfl Z2 ?_; (with_reducible refine (field_Batch.calls k1 a0 _ _ x7_1 t205 t206 _ ?side1 ?side2 A26.out).mono ?_); (case side1 => repeat (first | exact (Kd.R_reads' HO_7.out).2.2 | (with_reducible refine Kd.C_alloc ?_ _) | (with_reducible refine Kd.C_drewN ?_ _) | (with_reducible refine Kd.C_drew ?_))); (case side2 => exact (Kd.R_reads' HO_7.out).2.1); rintro e w28 ⟨v207, rfl, ho0, hb⟩; refine ⟨_, rfl, ?_⟩; have HO208 := am (Kd.R_lower (Kd.R_new' ho0 (Kd.R_lt Z56)) (below_size Z22)); replace HO_7 := am (Kd.R_elder' Z56 (Kd.R_base ho0) hb); replace BK201 := am (blk_below (g := gb201) (o := .cells #[.int .u8 a0] 127 (0, 0)) Z46 hb); replace HB := am (below_step Z22 hb); (try clear hb); (try clear ho0)))
      go_ret2; exact ⟨_, Z3, by (with_reducible repeat (first | apply Kd.R_alloc | apply Kd.R_drewN | apply Kd.R_drew)); exact Kd.R_mono HO208.out (fun _ hk => trivial), Z22⟩
  ·rw [if_neg c4] at H; exact absurd H (by simp)
 ·rw [if_neg c3] at H; exact absurd H (by simp)
end Go.Proofs.Ytfkikfapbdlnjaa.P
end
