import Derived.Test.YtdafolenaibccaaSInterpChainZ
import Derived.Test.YtdafolenaibccaaSInterpChain18
import Derived.Test.YtdafolenaibccaaSInterpChain19
section
namespace Go.Proofs.Ytdafolenaibccaa.P
open Go.RowKit Go.Proofs.YtdafolenaibccaaW.PrintWords Go.Proofs.YtdafolenaibccaaW.PrintLast Go.Proofs.YtdafolenaibccaaW.PrintMore
attribute [local go_sem] max2_int min2_int max_two min_two max_three min_three max_four min_four
set_option linter.unusedVariables false
set_option linter.unusedSimpArgs false
def tree_may.l0 : Nat → Int → Int → List (List Int) → Int → Int → Option (Int)
 | 0, _, _, _, _, _ => none
 | k + 1, x0, x5, x11, x12, x13 => if x13 < x12 then (if 0 ≤ x13 then (if x13 < (x11.length : Int) then ((field_In.f k x0 (rd_L1 x11 x13)).bind fun t445 => (if t445 = true then (if ((rd_L1 x11 x13).length : Int) > 2048 then (tree_may.l0 k x0 4 x11 x12 (wrap64 (x13 + 1))) else (tree_may.l0 k x0 x5 x11 x12 (wrap64 (x13 + 1)))) else (some 2))) else (none)) else (none)) else (some x5)
def tree_may.f (k : Nat) (a0 : Int) (l1 : List (List Int)) : Option (Int) := (field_In.f k a0 ([] : List Int)).bind fun t443 => (if t443 = true then (tree_may.l0 k a0 0 l1 (l1.length : Int) 0) else (some 2))
theorem tree_may.mono_l : ∀ k, (∀ y0 y1 y2 y3 y4, LeO (tree_may.l0 k y0 y1 y2 y3 y4) (tree_may.l0 (k + 1) y0 y1 y2 y3 y4))
 | 0 => fun _ _ _ _ _ r h => by simp [tree_may.l0] at h
 | k + 1 => by
  have ih0 := tree_may.mono_l k
  ·intro y0 y1 y2 y3 y4; unfold tree_may.l0; repeat' first
   | (with_reducible exact ih0 _ _ _ _ _)
   | (with_reducible exact field_In.mono _ _ _)
   | (with_reducible exact LeO.refl _)
   | (with_reducible exact LeO.none _)
   | (with_reducible refine LeO.ite ?_ ?_)
   | (with_reducible refine LeO.bind ?_ (fun _ => ?_))
   | exact ih0 _ _ _ _ _
   | exact field_In.mono _ _ _
   | exact LeO.none _
   | refine LeO.ite ?_ ?_
   | refine LeO.bind ?_ (fun _ => ?_)
theorem tree_may.mono : ∀ a0 a1 k, LeO (tree_may.f k a0 a1) (tree_may.f (k + 1) a0 a1) := by
 intro a0 a1 k; have ih0 := tree_may.mono_l k; unfold tree_may.f; repeat' first
   | (with_reducible exact ih0 _ _ _ _ _)
   | (with_reducible exact field_In.mono _ _ _)
   | (with_reducible exact LeO.refl _)
   | (with_reducible exact LeO.none _)
   | (with_reducible refine LeO.ite ?_ ?_)
   | (with_reducible refine LeO.bind ?_ (fun _ => ?_))
   | exact ih0 _ _ _ _ _
   | exact field_In.mono _ _ _
   | exact LeO.none _
   | refine LeO.ite ?_ ?_
   | refine LeO.bind ?_ (fun _ => ?_)
set_option maxHeartbeats 8000000 in
set_option maxRecDepth 100000 in
theorem tree_may.calls (k : Nat) (a0 : Int) (A1 : Option Addr) (c1 : Nat) (l1 : List (List Int)) (r : Int) (w : World) (hr1 : Kd.C (Kd.slice 24 (Kd.int .u64)) w A1 l1.length l1) (hc1 : l1.length ≤ c1) (h : tree_may.f k a0 l1 = some r) :
  Calls Try.prog 76 #[.int .u8 a0, .slice A1 l1.length c1] w fun e w' => e = .returned (.int .i64 r) ∧ Below w.heap.size w w' := by
 have HR1 := am hr1; have HC1 := am hc1; clear hr1 hc1; have HB := am (Below.refl w.heap.size w); have H : ((field_In.f k a0 ([] : List Int)).bind fun t443 => (if t443 = true then (tree_may.l0 k a0 0 l1 (l1.length : Int) 0) else (some 2))) = some r := h; clear h; replace H := Option.bind_eq_some_iff.mp H; obtain ⟨t443, A30, H⟩ := H; replace H : (if t443 = true then (tree_may.l0 k a0 0 l1 (l1.length : Int) 0) else (some 2)) = some r := H; have A3 := am A30; clear A30; by_cases c4 : t443 = true
 ·subst c4; have H1 : (tree_may.l0 k a0 0 l1 (l1.length : Int) 0) = some r := by rw [if_pos rfl] at H; exact H
  clear H; have H := H1; clear H1; have H' := am H; clear H; go_enter Try.func76, Try.ntmps76
  go_wp2_with (first | ((with_reducible refine gate_callee (f := 51) rfl ?_); refine goesL_ (some 9) rfl rfl Try.func51 Z12 rfl #[.int .u8 a0, .slice none 0 0] rfl Z2 ?_; (refine (field_In.calls k a0 _ _ ([] : List Int) true _ ?side1 ?side2 A3.out).mono ?_); (case side1 => exact Kd.C_nil _ _); (case side2 => exact Nat.le_refl _); rintro e w5 ⟨rfl, hb⟩; refine ⟨_, rfl, ?_⟩; replace HB := am (below_step Z1 hb); (try clear hb)))
  go_loopg [5, 13] k (fun kq v5 v13 w' => ∃ (x5_1 : Int) (x13_1 : Int), v5 = .int .i64 x5_1 ∧ v13 = .int .i64 x13_1 ∧ Aside0 (tree_may.l0 kq a0 x5_1 l1 (l1.length : Int) x13_1 = some r) ∧ Aside0 (kq ≤ k) ∧ Aside0 (Below w.heap.size w w'))
  case atStart => exact ⟨(0), (0), Z7, Z7, H', ⟨Nat.le_refl _⟩, ⟨Z1⟩⟩
  case round =>
   clear H'; (try clear c1); (try clear p2); (try clear c4); (try clear c5); obtain ⟨x5_1, x13_1, rfl, rfl, HA, HK1, HB⟩ := hrel; cases gk with
   | zero => exact absurd HA.out (by simp [tree_may.l0])
   | succ k1 =>
    have H := HA.out; clear HA; simp only [tree_may.l0] at H; by_cases c6 : x13_1 < (l1.length : Int)
    ·rw [if_pos c6] at H; have c6b0 : decide (x13_1 < (l1.length : Int)) = true := decide_eq_true c6; clear c6; by_cases c7 : 0 ≤ x13_1
     ·rw [if_pos c7] at H; have c7b0 : decide (0 ≤ x13_1) = true := decide_eq_true c7; clear c7; by_cases c8 : x13_1 < (l1.length : Int)
      ·rw [if_pos c8] at H; have c8b0 : decide (x13_1 < (l1.length : Int)) = true := decide_eq_true c8; clear c8; replace H := Option.bind_eq_some_iff.mp H; obtain ⟨t445, A90, H⟩ := H; replace H : (if t445 = true then (if ((rd_L1 l1 x13_1).length : Int) > 2048 then (tree_may.l0 k1 a0 4 l1 (l1.length : Int) (wrap64 (x13_1 + 1))) else (tree_may.l0 k1 a0 x5_1 l1 (l1.length : Int) (wrap64 (x13_1 + 1)))) else (some 2)) = some r := H; have A9 := am A90; clear A90; by_cases c10 : t445 = true
       ·subst c10; have H1 : (if ((rd_L1 l1 x13_1).length : Int) > 2048 then (tree_may.l0 k1 a0 4 l1 (l1.length : Int) (wrap64 (x13_1 + 1))) else (tree_may.l0 k1 a0 x5_1 l1 (l1.length : Int) (wrap64 (x13_1 + 1)))) = some r := by rw [if_pos rfl] at H; exact H
        clear H; have H := H1; clear H1; by_cases c11 : ((rd_L1 l1 x13_1).length : Int) > 2048
        ·rw [if_pos c11] at H; have c11b0 : decide (2048 < ((rd_L1 l1 x13_1).length : Int)) = true := decide_eq_true c11; have c11b1 : decide (2048 < (rd_L1 l1 x13_1).length) = true := decide_eq_true (by omega); clear c11; have H' := am H; clear H; have p444 : 0 ≤ (x13_1 : Int) := of_decide_eq_true Z3; have q444 : x13_1 < (l1.length : Int) := of_decide_eq_true Z3; obtain ⟨ad444, A444_0, c444_0, e444, hx444_0, hl444_0, hi444_0⟩ := at_L1 HR1.out x13_1 p444 q444; cases e444; replace hx444_0 := (HB.out.cell (World.block_lt_of_cell? w _ hx444_0)).trans hx444_0; have HR444_0 := am hi444_0; have HC444_0 := am hl444_0; clear hi444_0 hl444_0; replace p444 := eq_true p444; replace q444 := eq_true q444; go_wp2_with (first | ((with_reducible refine gate_callee (f := 51) rfl ?_); refine goesL_ (some 19) rfl rfl Try.func51 Z12 rfl #[.int .u8 a0, .slice A444_0 (rd_L1 l1 x13_1).length c444_0] rfl Z2 ?_; (with_reducible refine (field_In.calls k1 a0 _ _ (rd_L1 l1 x13_1) true _ ?side1 ?side2 A9.out).mono ?_); (case side1 => repeat (first | exact (Kd.C_below HR444_0.out HB.out) | (with_reducible refine Kd.C_alloc ?_ _) | (with_reducible refine Kd.C_drewN ?_ _) | (with_reducible refine Kd.C_drew ?_))); (case side2 => exact HC444_0.out); rintro e w12 ⟨rfl, hb⟩; refine ⟨_, rfl, ?_⟩; replace HB := am (below_step Z1 hb); (try clear hb)))
         go_roundg k1
         case measure => have := HK1.out; omega
         case rel => exact ⟨(4), (wrap64 (x13_1 + 1)), Z7, Z7, H', ⟨Z75⟩, ⟨Z1⟩⟩
        ·rw [if_neg c11] at H; have c11b0 : decide (2048 < ((rd_L1 l1 x13_1).length : Int)) = false := decide_eq_false c11; have c11b1 : decide (2048 < (rd_L1 l1 x13_1).length) = false := decide_eq_false (by omega); clear c11; have H' := am H; clear H; have p444 : 0 ≤ (x13_1 : Int) := of_decide_eq_true Z3; have q444 : x13_1 < (l1.length : Int) := of_decide_eq_true Z3; obtain ⟨ad444, A444_0, c444_0, e444, hx444_0, hl444_0, hi444_0⟩ := at_L1 HR1.out x13_1 p444 q444; cases e444; replace hx444_0 := (HB.out.cell (World.block_lt_of_cell? w _ hx444_0)).trans hx444_0; have HR444_0 := am hi444_0; have HC444_0 := am hl444_0; clear hi444_0 hl444_0; replace p444 := eq_true p444; replace q444 := eq_true q444; go_wp2_with (first | ((with_reducible refine gate_callee (f := 51) rfl ?_); refine goesL_ (some 19) rfl rfl Try.func51 Z12 rfl #[.int .u8 a0, .slice A444_0 (rd_L1 l1 x13_1).length c444_0] rfl Z2 ?_; (with_reducible refine (field_In.calls k1 a0 _ _ (rd_L1 l1 x13_1) true _ ?side1 ?side2 A9.out).mono ?_); (case side1 => repeat (first | exact (Kd.C_below HR444_0.out HB.out) | (with_reducible refine Kd.C_alloc ?_ _) | (with_reducible refine Kd.C_drewN ?_ _) | (with_reducible refine Kd.C_drew ?_))); (case side2 => exact HC444_0.out); rintro e w13 ⟨rfl, hb⟩; refine ⟨_, rfl, ?_⟩; replace HB := am (below_step Z1 hb); (try clear hb)))
         go_roundg k1
         case measure => have := HK1.out; omega
         case rel => exact ⟨(x5_1), (wrap64 (x13_1 + 1)), Z7, Z7, H', ⟨Z75⟩, ⟨Z1⟩⟩
       ·replace c10 := Bool.eq_false_iff.mpr c10; subst c10; have H1 : (some 2) = some r := by rw [if_neg (show ¬ (false = true) by decide)] at H; exact H
        clear H; have H := H1; clear H1; obtain rfl := Option.some.inj H; have p444 : 0 ≤ (x13_1 : Int) := of_decide_eq_true Z3; have q444 : x13_1 < (l1.length : Int) := of_decide_eq_true Z3; obtain ⟨ad444, A444_0, c444_0, e444, hx444_0, hl444_0, hi444_0⟩ := at_L1 HR1.out x13_1 p444 q444; cases e444; replace hx444_0 := (HB.out.cell (World.block_lt_of_cell? w _ hx444_0)).trans hx444_0; have HR444_0 := am hi444_0; have HC444_0 := am hl444_0; clear hi444_0 hl444_0; replace p444 := eq_true p444; replace q444 := eq_true q444; go_wp2_with (first | ((with_reducible refine gate_callee (f := 51) rfl ?_); refine goesL_ (some 19) rfl rfl Try.func51 Z12 rfl #[.int .u8 a0, .slice A444_0 (rd_L1 l1 x13_1).length c444_0] rfl Z2 ?_; (with_reducible refine (field_In.calls k1 a0 _ _ (rd_L1 l1 x13_1) false _ ?side1 ?side2 A9.out).mono ?_); (case side1 => repeat (first | exact (Kd.C_below HR444_0.out HB.out) | (with_reducible refine Kd.C_alloc ?_ _) | (with_reducible refine Kd.C_drewN ?_ _) | (with_reducible refine Kd.C_drew ?_))); (case side2 => exact HC444_0.out); rintro e w14 ⟨rfl, hb⟩; refine ⟨_, rfl, ?_⟩; replace HB := am (below_step Z1 hb); (try clear hb)))
        go_ret; exact ⟨Z5, Z1⟩
      ·rw [if_neg c8] at H; exact absurd H (by simp)
     ·rw [if_neg c7] at H; exact absurd H (by simp)
    ·rw [if_neg c6] at H; have c6b0 : decide (x13_1 < (l1.length : Int)) = false := decide_eq_false c6; clear c6; obtain rfl := Option.some.inj H; go_wp2; go_ret; exact ⟨Z5, Z1⟩
 ·replace c4 := Bool.eq_false_iff.mpr c4; subst c4; have H1 : (some 2) = some r := by rw [if_neg (show ¬ (false = true) by decide)] at H; exact H
  clear H; have H := H1; clear H1; obtain rfl := Option.some.inj H; go_enter Try.func76, Try.ntmps76
  go_wp2_with (first | ((with_reducible refine gate_callee (f := 51) rfl ?_); refine goesL_ (some 9) rfl rfl Try.func51 Z12 rfl #[.int .u8 a0, .slice none 0 0] rfl Z2 ?_; (refine (field_In.calls k a0 _ _ ([] : List Int) false _ ?side1 ?side2 A3.out).mono ?_); (case side1 => exact Kd.C_nil _ _); (case side2 => exact Nat.le_refl _); rintro e w15 ⟨rfl, hb⟩; refine ⟨_, rfl, ?_⟩; replace HB := am (below_step Z1 hb); (try clear hb)))
  go_ret; exact ⟨Z5, Z1⟩
def slices_Clone_uint64_uint64.f (l0 : List Int) : Option (List Int) := (some (([] : List Int) : List Int)).bind fun y446 => (if y446.length + l0.length < 17592186044416 then (some (y446 ++ l0)) else (none))
set_option maxHeartbeats 8000000 in
set_option maxRecDepth 100000 in
theorem slices_Clone_uint64_uint64.calls (A0 : Option Addr) (c0 : Nat) (l0 : List Int) (r : List Int) (w : World) (hr0 : Kd.C (Kd.int .u64) w A0 l0.length l0) (hc0 : l0.length ≤ c0) (h : slices_Clone_uint64_uint64.f l0 = some r) :
  Calls Try.prog 62 #[.slice A0 l0.length c0] w fun e w' => ∃ v0_ : Value, e = .returned (v0_) ∧ Kd.R (Kd.int .u64) 24 w' w.heap.size (fun _ => True) v0_ r ∧ Below w.heap.size w w' := by
 by_cases hA0 : A0 = none
 ·subst hA0; have h00 : l0 = [] := by
   rcases l0 with _ | ⟨x_, xs_⟩
   ·rfl
   ·obtain ⟨ad_, h_, _⟩ := hr0.2.2 (by simp); cases h_
  subst h00; have hr_ : r = [] := by
   have h_ := h; unfold slices_Clone_uint64_uint64.f at h_; simpa using h_.symm
  subst hr_; have kq_ := fun (W : World) (n c n' c' : Nat) => Lib.run_eql_slice_nil (P := Try.prog) W 22 _ none n c n' c' Try.underlying22
  go_enter Try.func62, Try.ntmps62
  go_wp2; go_ret; exact ⟨_, rfl, Kd.R_nil _ _ _ _ _, Below.refl _ _⟩
 have kq_ : ∀ (W : World) (n c n' c' : Nat), (Go.binOp .eql 22 (.slice A0 n c) (.slice none n' c')).run Try.prog W = .ok (.bool false) W := fun W n c n' c' => by
  rw [Lib.run_eql_slice_nil W 22 _ A0 n c n' c' Try.underlying22]; cases A0
  ·exact absurd rfl hA0
  ·rfl
 clear hA0; have HR0 := am hr0; have HC0 := am hc0; clear hr0 hc0; have HB := am (Below.refl w.heap.size w); have H : ((some (([] : List Int) : List Int)).bind fun y446 => (if y446.length + l0.length < 17592186044416 then (some (y446 ++ l0)) else (none))) = some r := h; clear h; obtain ⟨y446, hy446⟩ : ∃ y_ : List Int, y_ = (([] : List Int)) := ⟨_, rfl⟩; replace H : (if y446.length + l0.length < 17592186044416 then (some (y446 ++ l0)) else (none)) = some r := by first | (rw [hy446]; with_reducible exact H) | (have H2_ := (Option.bind_some _ _).symm.trans H; rw [hy446]; with_reducible exact H2_) | (have H2_ := (Option.bind_some _ _).symm.trans H; with_reducible exact H2_) | with_reducible exact H | (rw [hy446]; exact H) | exact H
 have Ny446 := am hy446; clear hy446; by_cases c2 : y446.length + l0.length < 17592186044416
 ·rw [if_pos c2] at H; have LMc2 := am c2; clear c2; obtain ⟨y449, hy449⟩ : ∃ y_ : List Int, y_ = (y446 ++ l0) := ⟨_, rfl⟩; replace H : (some y449) = some r := by first | (rw [hy449]; with_reducible exact H) | (have H2_ := (Option.bind_some _ _).symm.trans H; rw [hy449]; with_reducible exact H2_) | (have H2_ := (Option.bind_some _ _).symm.trans H; with_reducible exact H2_) | with_reducible exact H | (rw [hy449]; exact H) | exact H
  have Ny449 := am hy449; clear hy449; obtain rfl := Option.some.inj H; go_enter Try.func62, Try.ntmps62
  go_wp2_with (first | ((with_reducible refine gate_dst (N := 5) rfl ?_); refine Kd.R_lit (Kd.int .u64) _ 24 ?hg (N := 5) ?hd (xs := ([] : List Int)) (inner := []) (ok := fun _ => True) (okp := fun _ => True) ?hr ?hp (fun _ hk => hk) trivial (Below.refl _ _) (Nat.le_refl _) (by simp) ?_; (case hd => rfl); (case hg => rfl); (case hr => first | (go_simp; done) | (go_simp; rfl)); (case hp => exact (Reps.none _ _)); intro v447 w3 ho4 hb hg_ hnew_; clear hg_ hnew_; (first | rw [← Ny446.out] at ho4 | (simp only [Int.reduceToNat] at ho4; rw [← Ny446.out] at ho4)); have HO448 := am (Kd.R_lower ho4 (below_size Z1)); replace HB := am (below_step Z1 hb); clear hb ho4) | ((with_reducible refine gate_builtin (b := .append) (xs := #[.tmp 5, .tmp 6]) rfl ?_); at_builtin; refine Kd.R_append_rows (Kd.int .u64) (w0 := w) w.heap.size rfl (.tmp 5) (.tmp 6) 22 24 (.int .u64 0) 8 rfl Try.underlying22 info24 rfl Z101 (by omega) v447 y446 l0 _ _ _ (fun _ => True) (fun _ => False) rfl rfl ?aO ?aR (fun _ _ h => h) (fun _ h => h.elim) ?aF ?aB ?aS ?aL ?_; (case aR => repeat (first | exact (Kd.C_below HR0.out HB.out) | (with_reducible refine Kd.C_alloc ?_ _) | (with_reducible refine Kd.C_drewN ?_ _) | (with_reducible refine Kd.C_drew ?_))); (case aB => exact Z1); (case aF => exact (fun _ _ => trivial)); (case aO => exact (by (with_reducible repeat (first | apply Kd.R_alloc | apply Kd.R_drewN | apply Kd.R_drew)); exact HO448.out)); (case aS => exact (below_size Z1)); (case aL => have := LMc2.out; omega); intro v450 w5 ho hb hg hat; rw [← Ny449.out] at ho; replace HB := am (hb); have HO451 := am (ho); clear HO448; clear ho hb hg hat))
  go_ret; exact ⟨_, Z5, by (with_reducible repeat (first | apply Kd.R_alloc | apply Kd.R_drewN | apply Kd.R_drew)); exact HO451.out, Z1⟩
 ·rw [if_neg c2] at H; exact absurd H (by simp)
def poly_trimN.l0 : Nat → List Int → Int → Option (Int)
 | 0, _, _ => none
 | k + 1, x0, x3 => if x3 > 0 then (if 0 ≤ (wrap64 (x3 - 1)) then (if (wrap64 (x3 - 1)) < (x0.length : Int) then (if (rd x0 (wrap64 (x3 - 1))) = 0 then (poly_trimN.l0 k x0 (wrap64 (x3 - 1))) else (some x3)) else (none)) else (none)) else (some x3)
def poly_trimN.f (k : Nat) (l0 : List Int) : Option (Int) := poly_trimN.l0 k l0 (l0.length : Int)
theorem poly_trimN.mono_l : ∀ k, (∀ y0 y1, LeO (poly_trimN.l0 k y0 y1) (poly_trimN.l0 (k + 1) y0 y1))
 | 0 => fun _ _ r h => by simp [poly_trimN.l0] at h
 | k + 1 => by
  have ih0 := poly_trimN.mono_l k
  ·intro y0 y1; unfold poly_trimN.l0; repeat' first
   | (with_reducible exact ih0 _ _)
   | (with_reducible exact LeO.refl _)
   | (with_reducible exact LeO.none _)
   | (with_reducible refine LeO.ite ?_ ?_)
   | (with_reducible refine LeO.bind ?_ (fun _ => ?_))
   | exact ih0 _ _
   | exact LeO.none _
   | refine LeO.ite ?_ ?_
   | refine LeO.bind ?_ (fun _ => ?_)
theorem poly_trimN.mono : ∀ a0 k, LeO (poly_trimN.f k a0) (poly_trimN.f (k + 1) a0) := by
 intro a0 k; have ih0 := poly_trimN.mono_l k; unfold poly_trimN.f; repeat' first
   | (with_reducible exact ih0 _ _)
   | (with_reducible exact LeO.refl _)
   | (with_reducible exact LeO.none _)
   | (with_reducible refine LeO.ite ?_ ?_)
   | (with_reducible refine LeO.bind ?_ (fun _ => ?_))
   | exact ih0 _ _
   | exact LeO.none _
   | refine LeO.ite ?_ ?_
   | refine LeO.bind ?_ (fun _ => ?_)
theorem poly_trimN_le (k : Nat) : ∀ (l : List Int) (i r : Int), i ≤ l.length → l.length ≤ 9223372036854775807 → 0 ≤ i → poly_trimN.l0 k l i = some r → 0 ≤ r ∧ r ≤ l.length := by
 induction k with
 | zero => intro l i r _ _ _ h; simp [poly_trimN.l0] at h
 | succ k ih =>
  intro l i r h1 h2 h3 h; simp only [poly_trimN.l0] at h; by_cases c : i > 0
  ·rw [if_pos c, show wrap64 (i - 1) = i - 1 from by unfold wrap64; omega, if_pos (by omega), if_pos (by omega)] at h; split at h
   ·exact ih l (i - 1) r (by omega) h2 (by omega) h
   ·obtain rfl := Option.some.inj h; omega
  ·rw [if_neg c] at h; obtain rfl := Option.some.inj h; omega
set_option maxHeartbeats 8000000 in
set_option maxRecDepth 100000 in
theorem poly_trimmed_is (k : Nat) (A0 : Option Addr) (c0 : Nat) (l0 : List Int) (r : Int) (y : List Int) (w : World) (hr0 : Kd.C (Kd.int .u64) w A0 l0.length l0) (hc0 : l0.length ≤ c0) (h : poly_trimN.f k l0 = some r) (hy : y = l0.take (r : Int).toNat) :
  Calls Try.prog 63 #[.slice A0 l0.length c0] w fun e w' => e = .returned (.slice A0 y.length c0) ∧ Drawn0 w w' := by
 subst hy; obtain ⟨b1, b2⟩ := poly_trimN_le k l0 _ r (Int.le_refl _) (by have := hr0.2.1; omega) (by omega) h; obtain ⟨i06, hi06, _, hsz6, _⟩ := info_parts info24; obtain ⟨hcut6, _, _⟩ := print_take_of (P := Try.prog) (Value.int .u64) 0 22 24 .i64 Try.underlying22 hi06 hsz6 A0 c0 l0 r b1 b2 hc0; have HCUT := am hcut6; clear hcut6 hi06 hsz6 b1 b2; have HR0 := am hr0; have HC0 := am hc0; clear hr0 hc0; have H : (poly_trimN.l0 k l0 (l0.length : Int)) = some r := h; clear h; have H' := am H; clear H; go_enter Try.func63, Try.ntmps63
 go_wp2; go_loopg [3] k (fun kq v3 w' => ∃ (x3_1 : Int), v3 = .int .i64 x3_1 ∧ Aside0 (poly_trimN.l0 kq l0 x3_1 = some r) ∧ Aside0 (kq ≤ k) ∧ Drawn0 w w')
 case atStart => exact ⟨((l0.length : Int)), Z7, H', ⟨Nat.le_refl _⟩, Z17⟩
 case round =>
  clear H'; (try clear c1); obtain ⟨x3_1, rfl, HA, HK1, ⟨m1, rfl⟩⟩ := hrel; cases gk with
  | zero => exact absurd HA.out (by simp [poly_trimN.l0])
  | succ k1 =>
   have H := HA.out; clear HA; simp only [poly_trimN.l0] at H; by_cases c2 : x3_1 > 0
   ·rw [if_pos c2] at H; have c2b0 : decide (0 < x3_1) = true := decide_eq_true c2; clear c2; obtain ⟨ji3, hji3⟩ : ∃ j_ : Int, (wrap64 (x3_1 - 1)) = j_ := ⟨_, rfl⟩; replace H : (if 0 ≤ (ji3) then (if (ji3) < (l0.length : Int) then (if (rd l0 (ji3)) = 0 then (poly_trimN.l0 k1 l0 ji3) else (some x3_1)) else (none)) else (none)) = some r := by first | (rw [hji3] at H; exact H) | (simp only [hji3] at H ⊢; exact H)
    have hji3w : (IntKind.i64.wrap (x3_1 - 1)) = ji3 := (i64_w _).trans hji3; by_cases c4 : 0 ≤ (ji3)
    ·rw [if_pos c4] at H; have c4b0 : decide (0 ≤ (ji3)) = true := decide_eq_true c4; clear c4; by_cases c5 : (ji3) < (l0.length : Int)
     ·rw [if_pos c5] at H; have c5b0 : decide ((ji3) < (l0.length : Int)) = true := decide_eq_true c5; clear c5; by_cases c6 : (rd l0 (ji3)) = 0
      ·rw [if_pos c6] at H; have c6b0 : ((rd l0 (ji3)) == 0) = true := beq_iff_eq.mpr c6; have c6b1 : ((rd l0 (ji3)) != 0) = false := bne_eq_false_iff_eq.mpr c6; clear c6; have H' := am H; clear H; have p452 : 0 ≤ ((ji3) : Int) := of_decide_eq_true Z3; have q452 : (ji3) < (l0.length : Int) := of_decide_eq_true Z3; obtain ⟨ad452, e452, hx452_0⟩ := Kd.at_int HR0.out (ji3) p452 q452; cases e452; replace p452 := eq_true p452; replace q452 := eq_true q452; go_wp2; go_roundg k1
       case measure => have := HK1.out; omega
       case rel => exact ⟨(ji3), (by first | rfl | (simp; done) | (simp only [← hji3] <;> (first | rfl | simp)) | (simp [*]; done)), H', ⟨Z75⟩, Z17⟩
      ·rw [if_neg c6] at H; have c6b0 : ((rd l0 (ji3)) == 0) = false := beq_eq_false_iff_ne.mpr c6; have c6b1 : ((rd l0 (ji3)) != 0) = true := bne_iff_ne.mpr c6; obtain rfl := Option.some.inj H; have p452 : 0 ≤ ((ji3) : Int) := of_decide_eq_true Z3; have q452 : (ji3) < (l0.length : Int) := of_decide_eq_true Z3; obtain ⟨ad452, e452, hx452_0⟩ := Kd.at_int HR0.out (ji3) p452 q452; cases e452; replace p452 := eq_true p452; replace q452 := eq_true q452; have hcut_ := HCUT.out; go_wp2; go_ret; exact ⟨by first | rfl | (simp; done) | (simp only [← hji3] <;> (first | rfl | simp)) | (simp [*]; done), Z17⟩
     ·rw [if_neg c5] at H; exact absurd H (by simp)
    ·rw [if_neg c4] at H; exact absurd H (by simp)
   ·rw [if_neg c2] at H; have c2b0 : decide (0 < x3_1) = false := decide_eq_false c2; clear c2; obtain rfl := Option.some.inj H; have hcut_ := HCUT.out; go_wp2; go_ret; exact ⟨Z7, Z17⟩
def poly_Trim.f (k : Nat) (l0 : List Int) : Option (List Int) := (poly_trimN.f k l0).bind fun t453 => (if 0 ≤ t453 then (if t453 ≤ (l0.length : Int) then ((slices_Clone_uint64_uint64.f (l0.take (t453 : Int).toNat)).bind fun t455 => (some t455)) else (none)) else (none))
theorem poly_Trim.mono : ∀ a0 k, LeO (poly_Trim.f k a0) (poly_Trim.f (k + 1) a0) := by
 intro a0 k; unfold poly_Trim.f; repeat' first
   | (with_reducible exact poly_trimN.mono _ _)
   | (with_reducible exact LeO.refl _)
   | (with_reducible exact LeO.none _)
   | (with_reducible refine LeO.ite ?_ ?_)
   | (with_reducible refine LeO.bind ?_ (fun _ => ?_))
   | exact poly_trimN.mono _ _
   | exact LeO.none _
   | refine LeO.ite ?_ ?_
   | refine LeO.bind ?_ (fun _ => ?_)
set_option maxHeartbeats 8000000 in
set_option maxRecDepth 100000 in
theorem poly_Trim.calls (k : Nat) (A0 : Option Addr) (c0 : Nat) (l0 : List Int) (r : List Int) (w : World) (hr0 : Kd.C (Kd.int .u64) w A0 l0.length l0) (hc0 : l0.length ≤ c0) (h : poly_Trim.f k l0 = some r) :
  Calls Try.prog 44 #[.slice A0 l0.length c0] w fun e w' => ∃ v0_ : Value, e = .returned (v0_) ∧ Kd.R (Kd.int .u64) 24 w' w.heap.size (fun _ => True) v0_ r ∧ Below w.heap.size w w' := by
 have HR0 := am hr0; have HC0 := am hc0; clear hr0 hc0; have HB := am (Below.refl w.heap.size w); have H : ((poly_trimN.f k l0).bind fun t453 => (if 0 ≤ t453 then (if t453 ≤ (l0.length : Int) then ((slices_Clone_uint64_uint64.f (l0.take (t453 : Int).toNat)).bind fun t455 => (some t455)) else (none)) else (none))) = some r := h; clear h; replace H := Option.bind_eq_some_iff.mp H; obtain ⟨t453, A20, H⟩ := H; replace H : (if 0 ≤ t453 then (if t453 ≤ (l0.length : Int) then ((slices_Clone_uint64_uint64.f (l0.take (t453 : Int).toNat)).bind fun t455 => (some t455)) else (none)) else (none)) = some r := H; have A2 := am A20; clear A20; by_cases c3 : 0 ≤ t453
 ·rw [if_pos c3] at H; have c3b0 := eq_true c3; have c3b1 : decide (0 ≤ t453) = true := decide_eq_true c3; clear c3; by_cases c4 : t453 ≤ (l0.length : Int)
  ·rw [if_pos c4] at H; have c4b0 := eq_true c4; have c4b1 : decide (t453 ≤ (l0.length : Int)) = true := decide_eq_true c4; clear c4; replace H := Option.bind_eq_some_iff.mp H; obtain ⟨t455, A50, H⟩ := H; replace H : (some t455) = some r := H; have A5 := am A50; clear A50; obtain rfl := Option.some.inj H; go_enter Try.func44, Try.ntmps44
   go_wp2_with (first | ((with_reducible refine gate_callee (f := 63) rfl ?_); refine goesL_ (some 4) rfl rfl Try.func63 Z12 rfl #[.slice A0 l0.length c0] rfl Z2 ?_; (with_reducible refine (poly_trimmed_is k _ _ l0 t453 (l0.take (t453 : Int).toNat) _ ?side1 ?side2 A2.out rfl).mono ?_); (case side1 => repeat (first | exact HR0.out | (with_reducible refine Kd.C_alloc ?_ _) | (with_reducible refine Kd.C_drewN ?_ _) | (with_reducible refine Kd.C_drew ?_))); (case side2 => exact HC0.out); rintro e w' ⟨rfl, ⟨nd, rfl⟩⟩; refine ⟨_, rfl, ?_⟩; obtain ⟨i06, hi06, _, hsz6, _⟩ := info_parts info24; obtain ⟨hcut6, hA6, hC6⟩ := print_take_of (P := Try.prog) (Value.int .u64) 0 22 24 .i64 Try.underlying22 hi06 hsz6 A0 c0 l0 t453 (of_decide_eq_true Z3) (of_decide_eq_true Z3) HC0.out; have HR454 := am (Kd.C_of_reads (h1 := fun _ => rfl) (hA6 _ (Kd.reads_of_C HR0.out))); have HC454 := am hC6; clear hA6 hC6 hi06 hsz6) | ((with_reducible refine gate_callee (f := 62) rfl ?_); refine goesL_ (some 5) rfl rfl Try.func62 Z12 rfl #[.slice A0 (l0.take (t453 : Int).toNat).length c0] rfl (by (try simp only [List.map_toArray, List.map_cons, List.map_nil]); first | done | (rw [show (l0.take (t453 : Int).toNat).length = t453.toNat from (by rw [List.length_take]; have h_ : (t453 : Int) ≤ (l0.length : Int) := of_decide_eq_true Z3; omega)] <;> rfl) | rfl | (simp only [List.length_drop, List.length_take]; rfl)) ?_; (with_reducible refine (slices_Clone_uint64_uint64.calls _ _ (l0.take (t453 : Int).toNat) t455 _ ?side1 ?side2 A5.out).mono ?_); (case side1 => repeat (first | exact HR454.out | (with_reducible refine Kd.C_alloc ?_ _) | (with_reducible refine Kd.C_drewN ?_ _) | (with_reducible refine Kd.C_drew ?_))); (case side2 => exact HC454.out); rintro e w7 ⟨v456, rfl, ho0, hb⟩; refine ⟨_, rfl, ?_⟩; have HO457 := am (Kd.R_lower ho0 (below_size Z1)); replace HB := am (below_step Z1 hb); (try clear hb); (try clear ho0)))
   go_ret; exact ⟨_, Z5, by (with_reducible repeat (first | apply Kd.R_alloc | apply Kd.R_drewN | apply Kd.R_drew)); exact HO457.out, Z1⟩
  ·rw [if_neg c4] at H; exact absurd H (by simp)
 ·rw [if_neg c3] at H; exact absurd H (by simp)
end Go.Proofs.Ytdafolenaibccaa.P
end
section
namespace Go.Proofs.Ytdafolenaibccaa.P
open Go.RowKit Go.Proofs.YtdafolenaibccaaW.PrintWords Go.Proofs.YtdafolenaibccaaW.PrintLast Go.Proofs.YtdafolenaibccaaW.PrintMore
attribute [local go_sem] max2_int min2_int max_two min_two max_three min_three max_four min_four
set_option linter.unusedVariables false
set_option linter.unusedSimpArgs false
def poly_may.l0 : Nat → Int → Int → List (List Int) → Int → Int → Option (Int)
 | 0, _, _, _, _, _ => none
 | k + 1, x0, x5, x11, x12, x13 => if x13 < x12 then (if 0 ≤ x13 then (if x13 < (x11.length : Int) then ((field_In.f k x0 (rd_L1 x11 x13)).bind fun t460 => (if t460 = true then (if ((rd_L1 x11 x13).length : Int) > 4096 then (poly_may.l0 k x0 4 x11 x12 (wrap64 (x13 + 1))) else (poly_may.l0 k x0 x5 x11 x12 (wrap64 (x13 + 1)))) else (some 2))) else (none)) else (none)) else (some x5)
def poly_may.f (k : Nat) (a0 : Int) (l1 : List (List Int)) : Option (Int) := (field_In.f k a0 ([] : List Int)).bind fun t458 => (if t458 = true then (poly_may.l0 k a0 0 l1 (l1.length : Int) 0) else (some 2))
theorem poly_may.mono_l : ∀ k, (∀ y0 y1 y2 y3 y4, LeO (poly_may.l0 k y0 y1 y2 y3 y4) (poly_may.l0 (k + 1) y0 y1 y2 y3 y4))
 | 0 => fun _ _ _ _ _ r h => by simp [poly_may.l0] at h
 | k + 1 => by
  have ih0 := poly_may.mono_l k
  ·intro y0 y1 y2 y3 y4; unfold poly_may.l0; repeat' first
   | (with_reducible exact ih0 _ _ _ _ _)
   | (with_reducible exact field_In.mono _ _ _)
   | (with_reducible exact LeO.refl _)
   | (with_reducible exact LeO.none _)
   | (with_reducible refine LeO.ite ?_ ?_)
   | (with_reducible refine LeO.bind ?_ (fun _ => ?_))
   | exact ih0 _ _ _ _ _
   | exact field_In.mono _ _ _
   | exact LeO.none _
   | refine LeO.ite ?_ ?_
   | refine LeO.bind ?_ (fun _ => ?_)
theorem poly_may.mono : ∀ a0 a1 k, LeO (poly_may.f k a0 a1) (poly_may.f (k + 1) a0 a1) := by
 intro a0 a1 k; have ih0 := poly_may.mono_l k; unfold poly_may.f; repeat' first
   | (with_reducible exact ih0 _ _ _ _ _)
   | (with_reducible exact field_In.mono _ _ _)
   | (with_reducible exact LeO.refl _)
   | (with_reducible exact LeO.none _)
   | (with_reducible refine LeO.ite ?_ ?_)
   | (with_reducible refine LeO.bind ?_ (fun _ => ?_))
   | exact ih0 _ _ _ _ _
   | exact field_In.mono _ _ _
   | exact LeO.none _
   | refine LeO.ite ?_ ?_
   | refine LeO.bind ?_ (fun _ => ?_)
set_option maxHeartbeats 8000000 in
set_option maxRecDepth 100000 in
theorem poly_may.calls (k : Nat) (a0 : Int) (A1 : Option Addr) (c1 : Nat) (l1 : List (List Int)) (r : Int) (w : World) (hr1 : Kd.C (Kd.slice 24 (Kd.int .u64)) w A1 l1.length l1) (hc1 : l1.length ≤ c1) (h : poly_may.f k a0 l1 = some r) :
  Calls Try.prog 84 #[.int .u8 a0, .slice A1 l1.length c1] w fun e w' => e = .returned (.int .i64 r) ∧ Below w.heap.size w w' := by
 have HR1 := am hr1; have HC1 := am hc1; clear hr1 hc1; have HB := am (Below.refl w.heap.size w); have H : ((field_In.f k a0 ([] : List Int)).bind fun t458 => (if t458 = true then (poly_may.l0 k a0 0 l1 (l1.length : Int) 0) else (some 2))) = some r := h; clear h; replace H := Option.bind_eq_some_iff.mp H; obtain ⟨t458, A30, H⟩ := H; replace H : (if t458 = true then (poly_may.l0 k a0 0 l1 (l1.length : Int) 0) else (some 2)) = some r := H; have A3 := am A30; clear A30; by_cases c4 : t458 = true
 ·subst c4; have H1 : (poly_may.l0 k a0 0 l1 (l1.length : Int) 0) = some r := by rw [if_pos rfl] at H; exact H
  clear H; have H := H1; clear H1; have H' := am H; clear H; go_enter Try.func84, Try.ntmps84
  go_wp2_with (first | ((with_reducible refine gate_callee (f := 51) rfl ?_); refine goesL_ (some 9) rfl rfl Try.func51 Z12 rfl #[.int .u8 a0, .slice none 0 0] rfl Z2 ?_; (refine (field_In.calls k a0 _ _ ([] : List Int) true _ ?side1 ?side2 A3.out).mono ?_); (case side1 => exact Kd.C_nil _ _); (case side2 => exact Nat.le_refl _); rintro e w5 ⟨rfl, hb⟩; refine ⟨_, rfl, ?_⟩; replace HB := am (below_step Z1 hb); (try clear hb)))
  go_loopg [5, 13] k (fun kq v5 v13 w' => ∃ (x5_1 : Int) (x13_1 : Int), v5 = .int .i64 x5_1 ∧ v13 = .int .i64 x13_1 ∧ Aside0 (poly_may.l0 kq a0 x5_1 l1 (l1.length : Int) x13_1 = some r) ∧ Aside0 (kq ≤ k) ∧ Aside0 (Below w.heap.size w w'))
  case atStart => exact ⟨(0), (0), Z7, Z7, H', ⟨Nat.le_refl _⟩, ⟨Z1⟩⟩
  case round =>
   clear H'; (try clear c1); (try clear p2); (try clear c4); (try clear c5); obtain ⟨x5_1, x13_1, rfl, rfl, HA, HK1, HB⟩ := hrel; cases gk with
   | zero => exact absurd HA.out (by simp [poly_may.l0])
   | succ k1 =>
    have H := HA.out; clear HA; simp only [poly_may.l0] at H; by_cases c6 : x13_1 < (l1.length : Int)
    ·rw [if_pos c6] at H; have c6b0 : decide (x13_1 < (l1.length : Int)) = true := decide_eq_true c6; clear c6; by_cases c7 : 0 ≤ x13_1
     ·rw [if_pos c7] at H; have c7b0 : decide (0 ≤ x13_1) = true := decide_eq_true c7; clear c7; by_cases c8 : x13_1 < (l1.length : Int)
      ·rw [if_pos c8] at H; have c8b0 : decide (x13_1 < (l1.length : Int)) = true := decide_eq_true c8; clear c8; replace H := Option.bind_eq_some_iff.mp H; obtain ⟨t460, A90, H⟩ := H; replace H : (if t460 = true then (if ((rd_L1 l1 x13_1).length : Int) > 4096 then (poly_may.l0 k1 a0 4 l1 (l1.length : Int) (wrap64 (x13_1 + 1))) else (poly_may.l0 k1 a0 x5_1 l1 (l1.length : Int) (wrap64 (x13_1 + 1)))) else (some 2)) = some r := H; have A9 := am A90; clear A90; by_cases c10 : t460 = true
       ·subst c10; have H1 : (if ((rd_L1 l1 x13_1).length : Int) > 4096 then (poly_may.l0 k1 a0 4 l1 (l1.length : Int) (wrap64 (x13_1 + 1))) else (poly_may.l0 k1 a0 x5_1 l1 (l1.length : Int) (wrap64 (x13_1 + 1)))) = some r := by rw [if_pos rfl] at H; exact H
        clear H; have H := H1; clear H1; by_cases c11 : ((rd_L1 l1 x13_1).length : Int) > 4096
        ·rw [if_pos c11] at H; have c11b0 : decide (4096 < ((rd_L1 l1 x13_1).length : Int)) = true := decide_eq_true c11; have c11b1 : decide (4096 < (rd_L1 l1 x13_1).length) = true := decide_eq_true (by omega); clear c11; have H' := am H; clear H; have p459 : 0 ≤ (x13_1 : Int) := of_decide_eq_true Z3; have q459 : x13_1 < (l1.length : Int) := of_decide_eq_true Z3; obtain ⟨ad459, A459_0, c459_0, e459, hx459_0, hl459_0, hi459_0⟩ := at_L1 HR1.out x13_1 p459 q459; cases e459; replace hx459_0 := (HB.out.cell (World.block_lt_of_cell? w _ hx459_0)).trans hx459_0; have HR459_0 := am hi459_0; have HC459_0 := am hl459_0; clear hi459_0 hl459_0; replace p459 := eq_true p459; replace q459 := eq_true q459; go_wp2_with (first | ((with_reducible refine gate_callee (f := 51) rfl ?_); refine goesL_ (some 19) rfl rfl Try.func51 Z12 rfl #[.int .u8 a0, .slice A459_0 (rd_L1 l1 x13_1).length c459_0] rfl Z2 ?_; (with_reducible refine (field_In.calls k1 a0 _ _ (rd_L1 l1 x13_1) true _ ?side1 ?side2 A9.out).mono ?_); (case side1 => repeat (first | exact (Kd.C_below HR459_0.out HB.out) | (with_reducible refine Kd.C_alloc ?_ _) | (with_reducible refine Kd.C_drewN ?_ _) | (with_reducible refine Kd.C_drew ?_))); (case side2 => exact HC459_0.out); rintro e w12 ⟨rfl, hb⟩; refine ⟨_, rfl, ?_⟩; replace HB := am (below_step Z1 hb); (try clear hb)))
         go_roundg k1
         case measure => have := HK1.out; omega
         case rel => exact ⟨(4), (wrap64 (x13_1 + 1)), Z7, Z7, H', ⟨Z75⟩, ⟨Z1⟩⟩
        ·rw [if_neg c11] at H; have c11b0 : decide (4096 < ((rd_L1 l1 x13_1).length : Int)) = false := decide_eq_false c11; have c11b1 : decide (4096 < (rd_L1 l1 x13_1).length) = false := decide_eq_false (by omega); clear c11; have H' := am H; clear H; have p459 : 0 ≤ (x13_1 : Int) := of_decide_eq_true Z3; have q459 : x13_1 < (l1.length : Int) := of_decide_eq_true Z3; obtain ⟨ad459, A459_0, c459_0, e459, hx459_0, hl459_0, hi459_0⟩ := at_L1 HR1.out x13_1 p459 q459; cases e459; replace hx459_0 := (HB.out.cell (World.block_lt_of_cell? w _ hx459_0)).trans hx459_0; have HR459_0 := am hi459_0; have HC459_0 := am hl459_0; clear hi459_0 hl459_0; replace p459 := eq_true p459; replace q459 := eq_true q459; go_wp2_with (first | ((with_reducible refine gate_callee (f := 51) rfl ?_); refine goesL_ (some 19) rfl rfl Try.func51 Z12 rfl #[.int .u8 a0, .slice A459_0 (rd_L1 l1 x13_1).length c459_0] rfl Z2 ?_; (with_reducible refine (field_In.calls k1 a0 _ _ (rd_L1 l1 x13_1) true _ ?side1 ?side2 A9.out).mono ?_); (case side1 => repeat (first | exact (Kd.C_below HR459_0.out HB.out) | (with_reducible refine Kd.C_alloc ?_ _) | (with_reducible refine Kd.C_drewN ?_ _) | (with_reducible refine Kd.C_drew ?_))); (case side2 => exact HC459_0.out); rintro e w13 ⟨rfl, hb⟩; refine ⟨_, rfl, ?_⟩; replace HB := am (below_step Z1 hb); (try clear hb)))
         go_roundg k1
         case measure => have := HK1.out; omega
         case rel => exact ⟨(x5_1), (wrap64 (x13_1 + 1)), Z7, Z7, H', ⟨Z75⟩, ⟨Z1⟩⟩
       ·replace c10 := Bool.eq_false_iff.mpr c10; subst c10; have H1 : (some 2) = some r := by rw [if_neg (show ¬ (false = true) by decide)] at H; exact H
        clear H; have H := H1; clear H1; obtain rfl := Option.some.inj H; have p459 : 0 ≤ (x13_1 : Int) := of_decide_eq_true Z3; have q459 : x13_1 < (l1.length : Int) := of_decide_eq_true Z3; obtain ⟨ad459, A459_0, c459_0, e459, hx459_0, hl459_0, hi459_0⟩ := at_L1 HR1.out x13_1 p459 q459; cases e459; replace hx459_0 := (HB.out.cell (World.block_lt_of_cell? w _ hx459_0)).trans hx459_0; have HR459_0 := am hi459_0; have HC459_0 := am hl459_0; clear hi459_0 hl459_0; replace p459 := eq_true p459; replace q459 := eq_true q459; go_wp2_with (first | ((with_reducible refine gate_callee (f := 51) rfl ?_); refine goesL_ (some 19) rfl rfl Try.func51 Z12 rfl #[.int .u8 a0, .slice A459_0 (rd_L1 l1 x13_1).length c459_0] rfl Z2 ?_; (with_reducible refine (field_In.calls k1 a0 _ _ (rd_L1 l1 x13_1) false _ ?side1 ?side2 A9.out).mono ?_); (case side1 => repeat (first | exact (Kd.C_below HR459_0.out HB.out) | (with_reducible refine Kd.C_alloc ?_ _) | (with_reducible refine Kd.C_drewN ?_ _) | (with_reducible refine Kd.C_drew ?_))); (case side2 => exact HC459_0.out); rintro e w14 ⟨rfl, hb⟩; refine ⟨_, rfl, ?_⟩; replace HB := am (below_step Z1 hb); (try clear hb)))
        go_ret; exact ⟨Z5, Z1⟩
      ·rw [if_neg c8] at H; exact absurd H (by simp)
     ·rw [if_neg c7] at H; exact absurd H (by simp)
    ·rw [if_neg c6] at H; have c6b0 : decide (x13_1 < (l1.length : Int)) = false := decide_eq_false c6; clear c6; obtain rfl := Option.some.inj H; go_wp2; go_ret; exact ⟨Z5, Z1⟩
 ·replace c4 := Bool.eq_false_iff.mpr c4; subst c4; have H1 : (some 2) = some r := by rw [if_neg (show ¬ (false = true) by decide)] at H; exact H
  clear H; have H := H1; clear H1; obtain rfl := Option.some.inj H; go_enter Try.func84, Try.ntmps84
  go_wp2_with (first | ((with_reducible refine gate_callee (f := 51) rfl ?_); refine goesL_ (some 9) rfl rfl Try.func51 Z12 rfl #[.int .u8 a0, .slice none 0 0] rfl Z2 ?_; (refine (field_In.calls k a0 _ _ ([] : List Int) false _ ?side1 ?side2 A3.out).mono ?_); (case side1 => exact Kd.C_nil _ _); (case side2 => exact Nat.le_refl _); rintro e w15 ⟨rfl, hb⟩; refine ⟨_, rfl, ?_⟩; replace HB := am (below_step Z1 hb); (try clear hb)))
  go_ret; exact ⟨Z5, Z1⟩
def field_Add.f (k : Nat) (a0 : Int) (a1 : Int) (a2 : Int) : Option (Int × Int) := (field_asked.f k a0 (([a1, a2] : List Int))).bind fun bt464 => (if bt464.2.2 = 0 then ((field_reckoner_add.f bt464.1 bt464.2.1 a1 a2).bind fun t468 => (some (t468, 0))) else (some (0, bt464.2.2)))
theorem field_Add.mono : ∀ a0 a1 a2 k, LeO (field_Add.f k a0 a1 a2) (field_Add.f (k + 1) a0 a1 a2) := by
 intro a0 a1 a2 k; unfold field_Add.f; repeat' first
   | (with_reducible exact field_asked.mono _ _ _)
   | (with_reducible exact LeO.refl _)
   | (with_reducible exact LeO.none _)
   | (with_reducible refine LeO.ite ?_ ?_)
   | (with_reducible refine LeO.bind ?_ (fun _ => ?_))
   | exact field_asked.mono _ _ _
   | exact LeO.none _
   | refine LeO.ite ?_ ?_
   | refine LeO.bind ?_ (fun _ => ?_)
set_option maxHeartbeats 8000000 in
set_option maxRecDepth 100000 in
theorem field_Add.calls (k : Nat) (a0 : Int) (a1 : Int) (a2 : Int) (r1 : Int) (r2 : Int) (w : World) (h : field_Add.f k a0 a1 a2 = some (r1, r2)) :
  Calls Try.prog 61 #[.int .u8 a0, .int .u64 a1, .int .u64 a2] w fun e w' => e = .returned (.tuple #[.int .u64 r1, .int .i64 r2]) ∧ Below w.heap.size w w' := by
 have hu78 := Try.underlying78; have HB := am (Below.refl w.heap.size w); have H : ((field_asked.f k a0 (([a1, a2] : List Int))).bind fun bt464 => (if bt464.2.2 = 0 then ((field_reckoner_add.f bt464.1 bt464.2.1 a1 a2).bind fun t468 => (some (t468, 0))) else (some (0, bt464.2.2)))) = some (r1, r2) := h; clear h; obtain ⟨y461, hy461⟩ : ∃ y_ : List Int, y_ = (([a1, a2] : List Int)) := ⟨_, rfl⟩; replace H : ((field_asked.f k a0 y461).bind fun bt464 => (if bt464.2.2 = 0 then ((field_reckoner_add.f bt464.1 bt464.2.1 a1 a2).bind fun t468 => (some (t468, 0))) else (some (0, bt464.2.2)))) = some (r1, r2) := by first | (rw [hy461]; with_reducible exact H) | (have H2_ := (Option.bind_some _ _).symm.trans H; rw [hy461]; with_reducible exact H2_) | (have H2_ := (Option.bind_some _ _).symm.trans H; with_reducible exact H2_) | with_reducible exact H | (rw [hy461]; exact H) | exact H
 have Ny461 := am hy461; clear hy461; replace H := Option.bind_eq_some_iff.mp H; obtain ⟨⟨t464, t465, t466⟩, A40, H⟩ := H; replace H : (if t466 = 0 then ((field_reckoner_add.f t464 t465 a1 a2).bind fun t468 => (some (t468, 0))) else (some (0, t466))) = some (r1, r2) := H; have A4 := am A40; clear A40; by_cases c5 : t466 = 0
 ·rw [if_pos c5] at H; have c5b0 : (t466 == 0) = true := beq_iff_eq.mpr c5; have c5b1 : (t466 != 0) = false := bne_eq_false_iff_eq.mpr c5; clear c5; replace H := Option.bind_eq_some_iff.mp H; obtain ⟨t468, A60, H⟩ := H; replace H : (some (t468, 0)) = some (r1, r2) := H; have A6 := am A60; clear A60; simp only [Option.some.injEq, Prod.mk.injEq] at H; obtain ⟨rfl, rfl⟩ := H; go_enter Try.func61, Try.ntmps61
  go_wp2_with (first | ((with_reducible refine gate_dst (N := 14) rfl ?_); refine Kd.R_lit (Kd.int .u64) _ 24 ?hg (N := 14) ?hd (xs := ([a1, a2] : List Int)) (inner := [.int .u64 a1, .int .u64 a2]) (ok := fun _ => True) (okp := fun _ => True) ?hr ?hp (fun _ hk => hk) trivial (Below.refl _ _) (Nat.le_refl _) (by simp) ?_; (case hd => rfl); (case hg => rfl); (case hr => first | (go_simp; done) | (go_simp; rfl)); (case hp => exact (Reps.one (show Kd.M (Kd.int .u64) _ _ _ a1 [.int .u64 a1] from rfl) (Reps.one (show Kd.M (Kd.int .u64) _ _ _ a2 [.int .u64 a2] from rfl) (Reps.none _ _)))); intro v462 w7 ho8 hb hg_ hnew_; clear hg_ hnew_; (first | rw [← Ny461.out] at ho8 | (simp only [Int.reduceToNat] at ho8; rw [← Ny461.out] at ho8)); have HO463 := am (Kd.R_lower ho8 (below_size Z1)); replace HB := am (below_step Z1 hb); clear hb ho8; obtain ⟨Ao9, co9, eo9⟩ := Kd.R_slice HO463.out; subst eo9) | ((with_reducible refine gate_callee (f := 52) rfl ?_); refine goesL_ (some 15) rfl rfl Try.func52 Z12 rfl #[.int .u8 a0, .slice Ao9 y461.length co9] rfl Z2 ?_; (with_reducible refine (field_asked.calls k a0 _ _ y461 t464 t465 t466 _ ?side1 ?side2 A4.out).mono ?_); (case side1 => repeat (first | exact (Kd.R_reads' HO463.out).2.2 | (with_reducible refine Kd.C_alloc ?_ _) | (with_reducible refine Kd.C_drewN ?_ _) | (with_reducible refine Kd.C_drew ?_))); (case side2 => exact (Kd.R_reads' HO463.out).2.1); rintro e w10 ⟨rfl, hb⟩; refine ⟨_, rfl, ?_⟩; replace HO463 := am (Kd.R_below Z70 hb); replace HB := am (below_step Z1 hb); (try clear hb)) | ((with_reducible refine gate_dst (N := 8) rfl ?_); refine box_event ?hg (N := 8) ?hd (cs := #[.int .u64 0, .bool false]) (t := 78) ?hr ?_; (case hd => rfl); (case hg => rfl); (case hr => first | (go_simp; done) | (go_simp; rfl)); intro gb467 hg w11 hbox hb; replace HO463 := am (Kd.R_below Z70 hb); have BK467 := am (hbox); have GW467 := am ((Z57 : w.heap.size ≤ gb467)); have GE467 := am ((Z57 : w.heap.size ≤ gb467)); replace HB := am (below_step Z1 hb); clear hb hbox hg; have hcz12_0 : w11.cell? ⟨gb467, 0, none⟩ = some (.int .u64 0) := (blk_cell BK467.out 0).trans rfl; have hcz12_1 : w11.cell? ⟨gb467, 1, none⟩ = some (.bool false) := (blk_cell BK467.out 1).trans rfl; have hfz12_0 := blk_frozen BK467.out 0; have hfz12_1 := blk_frozen BK467.out 1) | ((with_reducible refine gate_callee (f := 54) rfl ?_); refine goesL_ (some 24) rfl rfl Try.func54 Z12 rfl #[.agg #[.int .u64 t464, .bool t465], .int .u64 a1, .int .u64 a2] rfl Z2 ?_; (with_reducible refine (field_reckoner_add.calls t464 t465 a1 a2 t468 _ A6.out).mono ?_); rintro e w13 ⟨rfl, hb⟩; refine ⟨_, rfl, ?_⟩; replace HO463 := am (Kd.R_below (by (with_reducible repeat (first | apply Kd.R_alloc | apply Kd.R_drewN | apply Kd.R_drew)); exact (Kd.R_mono (Kd.R_far (p := ⟨gb467, 1, none⟩) (Kd.R_far (p := ⟨gb467, 0, none⟩) (Kd.R_types HO463.out BK467.out Z101) (fun _ hk => hk.2) (.int .u64 t464)) (fun _ hk => hk.2) (.bool t465)) (fun _ h_ => h_.1))) hb); replace BK467 := am (blk_below (g := gb467) (o := .cells #[.int .u64 t464, .bool t465] 78 (0, 0)) (by (with_reducible repeat (first | refine blk_drewN ?_ _ | refine blk_drew ?_ | refine blk_alloc ?_ _)); refine blk_put (cs := #[.int .u64 t464, .bool false]) ?_ 1 _ rfl; (with_reducible repeat (first | refine blk_drewN ?_ _ | refine blk_drew ?_ | refine blk_alloc ?_ _)); refine blk_put (cs := #[.int .u64 0, .bool false]) ?_ 0 _ rfl; (with_reducible repeat (first | refine blk_drewN ?_ _ | refine blk_drew ?_ | refine blk_alloc ?_ _)); exact BK467.out) hb); replace HB := am (below_step Z65 hb); (try clear hb); (try clear hk)))
  go_ret2; exact ⟨Z5, Z65⟩
 ·rw [if_neg c5] at H; have c5b0 : (t466 == 0) = false := beq_eq_false_iff_ne.mpr c5; have c5b1 : (t466 != 0) = true := bne_iff_ne.mpr c5; simp only [Option.some.injEq, Prod.mk.injEq] at H; obtain ⟨rfl, rfl⟩ := H; go_enter Try.func61, Try.ntmps61
  go_wp2_with (first | ((with_reducible refine gate_dst (N := 14) rfl ?_); refine Kd.R_lit (Kd.int .u64) _ 24 ?hg (N := 14) ?hd (xs := ([a1, a2] : List Int)) (inner := [.int .u64 a1, .int .u64 a2]) (ok := fun _ => True) (okp := fun _ => True) ?hr ?hp (fun _ hk => hk) trivial (Below.refl _ _) (Nat.le_refl _) (by simp) ?_; (case hd => rfl); (case hg => rfl); (case hr => first | (go_simp; done) | (go_simp; rfl)); (case hp => exact (Reps.one (show Kd.M (Kd.int .u64) _ _ _ a1 [.int .u64 a1] from rfl) (Reps.one (show Kd.M (Kd.int .u64) _ _ _ a2 [.int .u64 a2] from rfl) (Reps.none _ _)))); intro v462 w14 ho15 hb hg_ hnew_; clear hg_ hnew_; (first | rw [← Ny461.out] at ho15 | (simp only [Int.reduceToNat] at ho15; rw [← Ny461.out] at ho15)); have HO463 := am (Kd.R_lower ho15 (below_size Z1)); replace HB := am (below_step Z1 hb); clear hb ho15; obtain ⟨Ao16, co16, eo16⟩ := Kd.R_slice HO463.out; subst eo16) | ((with_reducible refine gate_callee (f := 52) rfl ?_); refine goesL_ (some 15) rfl rfl Try.func52 Z12 rfl #[.int .u8 a0, .slice Ao16 y461.length co16] rfl Z2 ?_; (with_reducible refine (field_asked.calls k a0 _ _ y461 t464 t465 t466 _ ?side1 ?side2 A4.out).mono ?_); (case side1 => repeat (first | exact (Kd.R_reads' HO463.out).2.2 | (with_reducible refine Kd.C_alloc ?_ _) | (with_reducible refine Kd.C_drewN ?_ _) | (with_reducible refine Kd.C_drew ?_))); (case side2 => exact (Kd.R_reads' HO463.out).2.1); rintro e w17 ⟨rfl, hb⟩; refine ⟨_, rfl, ?_⟩; replace HO463 := am (Kd.R_below Z70 hb); replace HB := am (below_step Z1 hb); (try clear hb)) | ((with_reducible refine gate_dst (N := 8) rfl ?_); refine box_event ?hg (N := 8) ?hd (cs := #[.int .u64 0, .bool false]) (t := 78) ?hr ?_; (case hd => rfl); (case hg => rfl); (case hr => first | (go_simp; done) | (go_simp; rfl)); intro gb467 hg w18 hbox hb; replace HO463 := am (Kd.R_below Z70 hb); have BK467 := am (hbox); have GW467 := am ((Z57 : w.heap.size ≤ gb467)); have GE467 := am ((Z57 : w.heap.size ≤ gb467)); replace HB := am (below_step Z1 hb); clear hb hbox hg; have hcz19_0 : w18.cell? ⟨gb467, 0, none⟩ = some (.int .u64 0) := (blk_cell BK467.out 0).trans rfl; have hcz19_1 : w18.cell? ⟨gb467, 1, none⟩ = some (.bool false) := (blk_cell BK467.out 1).trans rfl; have hfz19_0 := blk_frozen BK467.out 0; have hfz19_1 := blk_frozen BK467.out 1))
  go_ret2; exact ⟨Z5, Z65⟩
def poly_reckoner_add.f (k : Nat) (a0_0 : Int) (a1 : Int) (a2 : Int) : Option (Int) := (field_Add.f k a0_0 a1 a2).bind fun bt470 => (some bt470.1)
theorem poly_reckoner_add.mono : ∀ a0 a1 a2 k, LeO (poly_reckoner_add.f k a0 a1 a2) (poly_reckoner_add.f (k + 1) a0 a1 a2) := by
 intro a0 a1 a2 k; unfold poly_reckoner_add.f; repeat' first
   | (with_reducible exact field_Add.mono _ _ _ _)
   | (with_reducible exact LeO.refl _)
   | (with_reducible exact LeO.none _)
   | (with_reducible refine LeO.ite ?_ ?_)
   | (with_reducible refine LeO.bind ?_ (fun _ => ?_))
   | exact field_Add.mono _ _ _ _
   | exact LeO.none _
   | refine LeO.ite ?_ ?_
   | refine LeO.bind ?_ (fun _ => ?_)
set_option maxHeartbeats 8000000 in
set_option maxRecDepth 100000 in
theorem poly_reckoner_add.calls (k : Nat) (a0_0 : Int) (a1 : Int) (a2 : Int) (r : Int) (w : World) (h : poly_reckoner_add.f k a0_0 a1 a2 = some r) :
  Calls Try.prog 87 #[.agg #[.int .u8 a0_0], .int .u64 a1, .int .u64 a2] w fun e w' => e = .returned (.int .u64 r) ∧ Below w.heap.size w w' := by
 have hu100 := Try.underlying100; have HB := am (Below.refl w.heap.size w); have H : ((field_Add.f k a0_0 a1 a2).bind fun bt470 => (some bt470.1)) = some r := h; clear h; replace H := Option.bind_eq_some_iff.mp H; obtain ⟨⟨t470, t471⟩, A40, H⟩ := H; replace H : (some t470) = some r := H; have A4 := am A40; clear A40; obtain rfl := Option.some.inj H; go_enter Try.func87, Try.ntmps87
 go_wp2_with (first | ((with_reducible refine gate_dst (N := 3) rfl ?_); refine box_event ?hg (N := 3) ?hd (cs := #[.int .u8 a0_0]) (t := 100) ?hr ?_; (case hd => rfl); (case hg => rfl); (case hr => first | (go_simp; done) | (go_simp; rfl)); intro gb469 hg w5 hbox hb; have BK469 := am (hbox); have GW469 := am ((Z57 : w.heap.size ≤ gb469)); have GE469 := am ((Z57 : w.heap.size ≤ gb469)); replace HB := am (below_step Z1 hb); clear hb hbox hg; have hcz6_0 : w5.cell? ⟨gb469, 0, none⟩ = some (.int .u8 a0_0) := (blk_cell BK469.out 0).trans rfl; have hfz6_0 := blk_frozen BK469.out 0) | ((with_reducible refine gate_callee (f := 61) rfl ?_); refine goesL_ (some 14) rfl rfl Try.func61 Z12 rfl #[.int .u8 a0_0, .int .u64 a1, .int .u64 a2] rfl Z2 ?_; (with_reducible refine (field_Add.calls k a0_0 a1 a2 t470 t471 _ A4.out).mono ?_); rintro e w7 ⟨rfl, hb⟩; refine ⟨_, rfl, ?_⟩; replace BK469 := am (blk_below (g := gb469) (o := .cells #[.int .u8 a0_0] 100 (0, 0)) (by (with_reducible repeat (first | refine blk_drewN ?_ _ | refine blk_drew ?_ | refine blk_alloc ?_ _)); exact BK469.out) hb); replace HB := am (below_step Z91 hb); (try clear hb)))
 go_ret; exact ⟨Z5, Z91⟩
def poly_reckoner_mul.f (k : Nat) (a0_0 : Int) (a1 : Int) (a2 : Int) : Option (Int) := (field_Mul.f k a0_0 a1 a2).bind fun bt473 => (some bt473.1)
theorem poly_reckoner_mul.mono : ∀ a0 a1 a2 k, LeO (poly_reckoner_mul.f k a0 a1 a2) (poly_reckoner_mul.f (k + 1) a0 a1 a2) := by
 intro a0 a1 a2 k; unfold poly_reckoner_mul.f; repeat' first
   | (with_reducible exact field_Mul.mono _ _ _ _)
   | (with_reducible exact LeO.refl _)
   | (with_reducible exact LeO.none _)
   | (with_reducible refine LeO.ite ?_ ?_)
   | (with_reducible refine LeO.bind ?_ (fun _ => ?_))
   | exact field_Mul.mono _ _ _ _
   | exact LeO.none _
   | refine LeO.ite ?_ ?_
   | refine LeO.bind ?_ (fun _ => ?_)
set_option maxHeartbeats 8000000 in
set_option maxRecDepth 100000 in
theorem poly_reckoner_mul.calls (k : Nat) (a0_0 : Int) (a1 : Int) (a2 : Int) (r : Int) (w : World) (h : poly_reckoner_mul.f k a0_0 a1 a2 = some r) :
  Calls Try.prog 88 #[.agg #[.int .u8 a0_0], .int .u64 a1, .int .u64 a2] w fun e w' => e = .returned (.int .u64 r) ∧ Below w.heap.size w w' := by
 have hu100 := Try.underlying100; have HB := am (Below.refl w.heap.size w); have H : ((field_Mul.f k a0_0 a1 a2).bind fun bt473 => (some bt473.1)) = some r := h; clear h; replace H := Option.bind_eq_some_iff.mp H; obtain ⟨⟨t473, t474⟩, A40, H⟩ := H; replace H : (some t473) = some r := H; have A4 := am A40; clear A40; obtain rfl := Option.some.inj H; go_enter Try.func88, Try.ntmps88
 go_wp2_with (first | ((with_reducible refine gate_dst (N := 3) rfl ?_); refine box_event ?hg (N := 3) ?hd (cs := #[.int .u8 a0_0]) (t := 100) ?hr ?_; (case hd => rfl); (case hg => rfl); (case hr => first | (go_simp; done) | (go_simp; rfl)); intro gb472 hg w5 hbox hb; have BK472 := am (hbox); have GW472 := am ((Z57 : w.heap.size ≤ gb472)); have GE472 := am ((Z57 : w.heap.size ≤ gb472)); replace HB := am (below_step Z1 hb); clear hb hbox hg; have hcz6_0 : w5.cell? ⟨gb472, 0, none⟩ = some (.int .u8 a0_0) := (blk_cell BK472.out 0).trans rfl; have hfz6_0 := blk_frozen BK472.out 0) | ((with_reducible refine gate_callee (f := 60) rfl ?_); refine goesL_ (some 14) rfl rfl Try.func60 Z12 rfl #[.int .u8 a0_0, .int .u64 a1, .int .u64 a2] rfl Z2 ?_; (with_reducible refine (field_Mul.calls k a0_0 a1 a2 t473 t474 _ A4.out).mono ?_); rintro e w7 ⟨rfl, hb⟩; refine ⟨_, rfl, ?_⟩; replace BK472 := am (blk_below (g := gb472) (o := .cells #[.int .u8 a0_0] 100 (0, 0)) (by (with_reducible repeat (first | refine blk_drewN ?_ _ | refine blk_drew ?_ | refine blk_alloc ?_ _)); exact BK472.out) hb); replace HB := am (below_step Z90 hb); (try clear hb)))
 go_ret; exact ⟨Z5, Z90⟩
end Go.Proofs.Ytdafolenaibccaa.P
end
section
namespace Go.Proofs.Ytdafolenaibccaa.P
open Go.RowKit Go.Proofs.YtdafolenaibccaaW.PrintWords Go.Proofs.YtdafolenaibccaaW.PrintLast Go.Proofs.YtdafolenaibccaaW.PrintMore
attribute [local go_sem] max2_int min2_int max_two min_two max_three min_three max_four min_four
set_option linter.unusedVariables false
set_option linter.unusedSimpArgs false
mutual
def poly_reckoner_product.j0 : Nat → List Int → List Int → Bool → Int → Option (List Int)
 | 0, _, _, _, _ => none
 | k + 1, x1, x2, x19, x476000 => if x19 = true then (some ([] : List Int)) else (if 0 ≤ (wrap64 ((wrap64 ((x1.length : Int) + (x2.length : Int))) - 1)) then (if (wrap64 ((wrap64 ((x1.length : Int) + (x2.length : Int))) - 1) : Int).toNat ≤ 35184372088832 then (poly_reckoner_product.l0 k x2 (List.replicate (wrap64 ((wrap64 ((x1.length : Int) + (x2.length : Int))) - 1) : Int).toNat 0) x1 (x1.length : Int) 0 x476000) else (none)) else (none))
def poly_reckoner_product.l0 : Nat → List Int → List Int → List Int → Int → Int → Int → Option (List Int)
 | 0, _, _, _, _, _, _ => none
 | k + 1, x2, x7, x27, x28, x29, x476000 => if x29 < x28 then (if 0 ≤ x29 then (if x29 < (x27.length : Int) then (poly_reckoner_product.l1 k x2 x7 x29 (rd x27 x29) x27 x28 x29 x2 (x2.length : Int) 0 x476000) else (none)) else (none)) else (some x7)
def poly_reckoner_product.l1 : Nat → List Int → List Int → Int → Int → List Int → Int → Int → List Int → Int → Int → Int → Option (List Int)
 | 0, _, _, _, _, _, _, _, _, _, _, _ => none
 | k + 1, x2, x7, x8, x9, x27, x28, x29, x34, x35, x36, x476000 => if x36 < x35 then (if 0 ≤ x36 then (if x36 < (x34.length : Int) then (if 0 ≤ (wrap64 (x8 + x36)) then (if (wrap64 (x8 + x36)) < (x7.length : Int) then ((poly_reckoner_mul.f k x476000 x9 (rd x34 x36)).bind fun t482 => ((poly_reckoner_add.f k x476000 (rd x7 (wrap64 (x8 + x36))) t482).bind fun t483 => (poly_reckoner_product.l1 k x2 (x7.set ((wrap64 (x8 + x36)) : Int).toNat t483) x8 x9 x27 x28 x29 x34 x35 (wrap64 (x36 + 1)) x476000))) else (none)) else (none)) else (none)) else (none)) else (poly_reckoner_product.l0 k x2 x7 x27 x28 (wrap64 (x29 + 1)) x476000)
end
def poly_reckoner_product.f (k : Nat) (a0_0 : Int) (l1 : List Int) (l2 : List Int) : Option (List Int) := if (l1.length : Int) = 0 then (poly_reckoner_product.j0 k l1 l2 true a0_0) else (poly_reckoner_product.j0 k l1 l2 ((l2.length : Int) == 0) a0_0)
theorem poly_reckoner_product.mono_l : ∀ k, (∀ y0 y1 y2 y3, LeO (poly_reckoner_product.j0 k y0 y1 y2 y3) (poly_reckoner_product.j0 (k + 1) y0 y1 y2 y3)) ∧ (∀ y0 y1 y2 y3 y4 y5, LeO (poly_reckoner_product.l0 k y0 y1 y2 y3 y4 y5) (poly_reckoner_product.l0 (k + 1) y0 y1 y2 y3 y4 y5)) ∧ (∀ y0 y1 y2 y3 y4 y5 y6 y7 y8 y9 y10, LeO (poly_reckoner_product.l1 k y0 y1 y2 y3 y4 y5 y6 y7 y8 y9 y10) (poly_reckoner_product.l1 (k + 1) y0 y1 y2 y3 y4 y5 y6 y7 y8 y9 y10))
 | 0 => ⟨fun _ _ _ _ r h => by simp [poly_reckoner_product.j0] at h, fun _ _ _ _ _ _ r h => by simp [poly_reckoner_product.l0] at h, fun _ _ _ _ _ _ _ _ _ _ _ r h => by simp [poly_reckoner_product.l1] at h⟩
 | k + 1 => by
  obtain ⟨ih0, ih1, ih2⟩ := poly_reckoner_product.mono_l k; refine ⟨?_, ?_, ?_⟩
  ·intro y0 y1 y2 y3; unfold poly_reckoner_product.j0; repeat' first
   | (with_reducible exact ih0 _ _ _ _)
   | (with_reducible exact ih1 _ _ _ _ _ _)
   | (with_reducible exact ih2 _ _ _ _ _ _ _ _ _ _ _)
   | (with_reducible exact poly_reckoner_add.mono _ _ _ _)
   | (with_reducible exact poly_reckoner_mul.mono _ _ _ _)
   | (with_reducible exact LeO.refl _)
   | (with_reducible exact LeO.none _)
   | (with_reducible refine LeO.ite ?_ ?_)
   | (with_reducible refine LeO.bind ?_ (fun _ => ?_))
   | exact ih0 _ _ _ _
   | exact ih1 _ _ _ _ _ _
   | exact ih2 _ _ _ _ _ _ _ _ _ _ _
   | exact poly_reckoner_add.mono _ _ _ _
   | exact poly_reckoner_mul.mono _ _ _ _
   | exact LeO.none _
   | refine LeO.ite ?_ ?_
   | refine LeO.bind ?_ (fun _ => ?_)
  ·intro y0 y1 y2 y3 y4 y5; unfold poly_reckoner_product.l0; repeat' first
   | (with_reducible exact ih0 _ _ _ _)
   | (with_reducible exact ih1 _ _ _ _ _ _)
   | (with_reducible exact ih2 _ _ _ _ _ _ _ _ _ _ _)
   | (with_reducible exact poly_reckoner_add.mono _ _ _ _)
   | (with_reducible exact poly_reckoner_mul.mono _ _ _ _)
   | (with_reducible exact LeO.refl _)
   | (with_reducible exact LeO.none _)
   | (with_reducible refine LeO.ite ?_ ?_)
   | (with_reducible refine LeO.bind ?_ (fun _ => ?_))
   | exact ih0 _ _ _ _
   | exact ih1 _ _ _ _ _ _
   | exact ih2 _ _ _ _ _ _ _ _ _ _ _
   | exact poly_reckoner_add.mono _ _ _ _
   | exact poly_reckoner_mul.mono _ _ _ _
   | exact LeO.none _
   | refine LeO.ite ?_ ?_
   | refine LeO.bind ?_ (fun _ => ?_)
  ·intro y0 y1 y2 y3 y4 y5 y6 y7 y8 y9 y10; unfold poly_reckoner_product.l1; repeat' first
   | (with_reducible exact ih0 _ _ _ _)
   | (with_reducible exact ih1 _ _ _ _ _ _)
   | (with_reducible exact ih2 _ _ _ _ _ _ _ _ _ _ _)
   | (with_reducible exact poly_reckoner_add.mono _ _ _ _)
   | (with_reducible exact poly_reckoner_mul.mono _ _ _ _)
   | (with_reducible exact LeO.refl _)
   | (with_reducible exact LeO.none _)
   | (with_reducible refine LeO.ite ?_ ?_)
   | (with_reducible refine LeO.bind ?_ (fun _ => ?_))
   | exact ih0 _ _ _ _
   | exact ih1 _ _ _ _ _ _
   | exact ih2 _ _ _ _ _ _ _ _ _ _ _
   | exact poly_reckoner_add.mono _ _ _ _
   | exact poly_reckoner_mul.mono _ _ _ _
   | exact LeO.none _
   | refine LeO.ite ?_ ?_
   | refine LeO.bind ?_ (fun _ => ?_)
theorem poly_reckoner_product.mono : ∀ a0 a1 a2 k, LeO (poly_reckoner_product.f k a0 a1 a2) (poly_reckoner_product.f (k + 1) a0 a1 a2) := by
 intro a0 a1 a2 k; obtain ⟨ih0, ih1, ih2⟩ := poly_reckoner_product.mono_l k; unfold poly_reckoner_product.f; repeat' first
   | (with_reducible exact ih0 _ _ _ _)
   | (with_reducible exact ih1 _ _ _ _ _ _)
   | (with_reducible exact ih2 _ _ _ _ _ _ _ _ _ _ _)
   | (with_reducible exact poly_reckoner_add.mono _ _ _ _)
   | (with_reducible exact poly_reckoner_mul.mono _ _ _ _)
   | (with_reducible exact LeO.refl _)
   | (with_reducible exact LeO.none _)
   | (with_reducible refine LeO.ite ?_ ?_)
   | (with_reducible refine LeO.bind ?_ (fun _ => ?_))
   | exact ih0 _ _ _ _
   | exact ih1 _ _ _ _ _ _
   | exact ih2 _ _ _ _ _ _ _ _ _ _ _
   | exact poly_reckoner_add.mono _ _ _ _
   | exact poly_reckoner_mul.mono _ _ _ _
   | exact LeO.none _
   | refine LeO.ite ?_ ?_
   | refine LeO.bind ?_ (fun _ => ?_)
def poly_reckoner_product.T10 : Bool × List (List Nat × List Nat) := (true, [([], []), ([], []), ([], []), ([1, 2], [1, 2]), ([], []), ([], []), ([], []), ([], []), ([6, 7], [6, 7]), ([5, 8], [5, 8]), ([9], [9]), ([], []), ([], []), ([], []), ([11, 12, 13], [11, 12, 13]), ([4, 10, 14, 14], [4, 10, 14]), ([0, 3, 0, 1, 2, 3, 4, 5, 6, 7, 8, 9, 10, 11, 12, 13, 14, 15], [0, 3]), ([16, 15, 15, 0, 1, 2, 3, 4, 5, 6, 7, 8, 9, 10, 11, 12, 13, 14, 15], [15, 16])])
def poly_reckoner_product.B10 : List Nat := [0, 0, 0, 6, 0, 0, 0, 0, 192, 480, 992, 0, 0, 0, 14336, 32752, 65535, 131071]
theorem poly_reckoner_product.tab10 : rtab .any (opsOf Try.f85 10) = poly_reckoner_product.T10 := by kernel_rfl
theorem poly_reckoner_product.bits10 : waitsOk poly_reckoner_product.T10.2 poly_reckoner_product.B10 = true := by kernel_rfl
set_option maxHeartbeats 8000000 in
set_option maxRecDepth 100000 in
theorem poly_reckoner_product.calls (k : Nat) (a0_0 : Int) (A1 : Option Addr) (c1 : Nat) (l1 : List Int) (A2 : Option Addr) (c2 : Nat) (l2 : List Int) (r : List Int) (w : World) (hr1 : Kd.C (Kd.int .u64) w A1 l1.length l1) (hc1 : l1.length ≤ c1) (hr2 : Kd.C (Kd.int .u64) w A2 l2.length l2) (hc2 : l2.length ≤ c2) (h : poly_reckoner_product.f k a0_0 l1 l2 = some r) :
  Calls Try.prog 85 #[.agg #[.int .u8 a0_0], .slice A1 l1.length c1, .slice A2 l2.length c2] w fun e w' => ∃ v0_ : Value, e = .returned (v0_) ∧ Kd.R (Kd.int .u64) 24 w' w.heap.size (fun _ => True) v0_ r ∧ Below w.heap.size w w' := by
 have hu100 := Try.underlying100; have HR1 := am hr1; have HC1 := am hc1; clear hr1 hc1; have HR2 := am hr2; have HC2 := am hc2; clear hr2 hc2; have HB := am (Below.refl w.heap.size w); have H : (if (l1.length : Int) = 0 then (poly_reckoner_product.j0 k l1 l2 true a0_0) else (poly_reckoner_product.j0 k l1 l2 ((l2.length : Int) == 0) a0_0)) = some r := h; clear h; have HC4 := am H; clear H; go_enter Try.func85, Try.ntmps85
 go_upto_region 1 with (first | ((with_reducible refine gate_dst (N := 3) rfl ?_); (try (refine gate_guard (by rfl) ?_; dsimp only)); refine box_event ?hg (N := 3) ?hd (cs := #[.int .u8 a0_0]) (t := 100) ?hr ?_; (case hd => rfl); (case hg => rfl); (case hr => first | (go_simp; done) | (go_simp; rfl)); intro gb475 hg w5 hbox hb; have BK475 := am (hbox); have GW475 := am ((Z57 : w.heap.size ≤ gb475)); have GE475 := am ((Z57 : w.heap.size ≤ gb475)); replace HB := am (below_step Z1 hb); clear hb hbox hg))
 (try simp only [Act.put, List.setIfInBounds_toArray, List.set_cons_zero, List.set_cons_succ])
 go_cut [19] (fun v19 wc => ∃ (kq : Nat) (x19_3 : Bool), v19 = .bool x19_3 ∧ Aside0 (poly_reckoner_product.j0 kq l1 l2 x19_3 a0_0 = some r) ∧ Aside0 (kq ≤ k) ∧ Aside0 (wc.heap[gb475]? = some (.cells #[.int .u8 a0_0] 100 (0, 0))) ∧ Aside0 (Below w.heap.size w wc))
 case first =>
  have H := HC4.out; clear HC4; by_cases c6 : (l1.length : Int) = 0
  ·rw [if_pos c6] at H; have c6b0 : ((l1.length : Int) == 0) = true := beq_iff_eq.mpr c6; have c6b1 : ((l1.length : Int) != 0) = false := bne_eq_false_iff_eq.mpr c6; clear c6; (first | rw [c6b0] | (simp only [i64_w, i32_w]; rw [c6b0]) | skip)
   have H' := am H; clear H; go_wp2; go_meet
   case rel => exact ⟨_, (true), Z7, H', ⟨Z74⟩, ⟨Z38⟩, ⟨Z21⟩⟩
  ·rw [if_neg c6] at H; have c6b0 : ((l1.length : Int) == 0) = false := beq_eq_false_iff_ne.mpr c6; have c6b1 : ((l1.length : Int) != 0) = true := bne_iff_ne.mpr c6; have c6b2 : ¬ (l1 = []) := fun h_ => c6 (by rw [h_]; rfl)
   (first | rw [c6b0] | (simp only [i64_w, i32_w]; rw [c6b0]) | skip)
   have H' := am H; clear H; go_wp2; go_meet
   case rel => exact ⟨_, (((l2.length : Int) == 0)), Z7, H', ⟨Z74⟩, ⟨Z38⟩, ⟨Z21⟩⟩
 case rest =>
  clear HC4; (try clear c1); (try clear c2); (try clear p2); (try clear c6); (try clear c6b0); (try clear c6b1); (try clear c6b2); obtain ⟨kq, x19_3, rfl, HA, HJ3, BK475, HB⟩ := hcut; cases kq with
  | zero => exact absurd HA.out (by simp [poly_reckoner_product.j0])
  | succ kj3 =>
   have H := HA.out; clear HA; simp only [poly_reckoner_product.j0] at H; by_cases c7 : x19_3 = true
   ·subst c7; have H1 : (some ([] : List Int)) = some r := by rw [if_pos rfl] at H; exact H
    clear H; have H := H1; clear H1; obtain rfl := Option.some.inj H; go_wp2; go_ret; exact ⟨_, Z5, Z20, Z21⟩
   ·replace c7 := Bool.eq_false_iff.mpr c7; subst c7; have H1 : (if 0 ≤ (wrap64 ((wrap64 ((l1.length : Int) + (l2.length : Int))) - 1)) then (if (wrap64 ((wrap64 ((l1.length : Int) + (l2.length : Int))) - 1) : Int).toNat ≤ 35184372088832 then (poly_reckoner_product.l0 kj3 l2 (List.replicate (wrap64 ((wrap64 ((l1.length : Int) + (l2.length : Int))) - 1) : Int).toNat 0) l1 (l1.length : Int) 0 a0_0) else (none)) else (none)) = some r := by rw [if_neg (show ¬ (false = true) by decide)] at H; exact H
    clear H; have H := H1; clear H1; obtain ⟨ji8, hji8⟩ : ∃ j_ : Int, (wrap64 ((wrap64 ((l1.length : Int) + (l2.length : Int))) - 1)) = j_ := ⟨_, rfl⟩; replace H : (if 0 ≤ (ji8) then (if (ji8 : Int).toNat ≤ 35184372088832 then (poly_reckoner_product.l0 kj3 l2 (List.replicate (ji8 : Int).toNat 0) l1 (l1.length : Int) 0 a0_0) else (none)) else (none)) = some r := by first | (rw [hji8] at H; exact H) | (simp only [hji8] at H ⊢; exact H)
    have hji8w : (IntKind.i64.wrap ((wrap64 ((l1.length : Int) + (l2.length : Int))) - 1)) = ji8 := (i64_w _).trans hji8; by_cases c9 : 0 ≤ (ji8)
    ·rw [if_pos c9] at H; have c9b0 := eq_true c9; have c9b1 : decide (0 ≤ (ji8)) = true := decide_eq_true c9; clear c9; by_cases c10 : (ji8 : Int).toNat ≤ 35184372088832
     ·rw [if_pos c10] at H; have c10b0 := eq_true c10; have c10b1 : decide ((ji8 : Int).toNat ≤ 35184372088832) = true := decide_eq_true c10; clear c10; obtain ⟨y476, hy476⟩ : ∃ y_ : List Int, y_ = (List.replicate (ji8 : Int).toNat 0) := ⟨_, rfl⟩; replace H : (poly_reckoner_product.l0 kj3 l2 y476 l1 (l1.length : Int) 0 a0_0) = some r := by first | (rw [hy476]; with_reducible exact H) | (have H2_ := (Option.bind_some _ _).symm.trans H; rw [hy476]; with_reducible exact H2_) | (have H2_ := (Option.bind_some _ _).symm.trans H; with_reducible exact H2_) | with_reducible exact H | (rw [hy476]; exact H) | exact H
      have Ny476 := am hy476; clear hy476; have H' := am H; clear H; go_wp2_with (first | ((with_reducible refine gate_dst (N := 26) rfl ?_); (try (refine gate_guard (by rfl) ?_; dsimp only)); refine Kd.R_make (Kd.int .u64) _ 24 rfl (N := 26) rfl 22 _ _ rfl ji8 rfl rfl Try.underlying22 (.int .u64 0) 8 info24 rfl Z101 (by omega) 0 (ok := fun _ => True) (okp := fun _ => True) rfl (fun _ hk => hk) trivial (of_decide_eq_true Z3) (Nat.le_trans (Nat.mul_le_mul_right _ (of_decide_eq_true Z3 : ji8.toNat ≤ 35184372088832)) (by omega)) (Below.refl _ _) (Nat.le_refl _) ?_; intro v477 w11 ho12 hb hg_ hnew_; clear hg_ hnew_; (first | rw [← Ny476.out] at ho12 | (simp only [Int.reduceToNat] at ho12; rw [← Ny476.out] at ho12)); have HO478 := am (Kd.R_lower ho12 (below_size Z21)); replace BK475 := am (blk_below (g := gb475) (o := .cells #[.int .u8 a0_0] 100 (0, 0)) Z38 hb); replace HB := am (below_step Z21 hb); clear hb ho12))
      go_loopg [29] kj3 (fun kq v29 w' => ∃ (x7_2 : List Int) (x29_2 : Int), v29 = .int .i64 x29_2 ∧ Aside0 (poly_reckoner_product.l0 kq l2 x7_2 l1 (l1.length : Int) x29_2 a0_0 = some r) ∧ Aside0 (kq ≤ kj3) ∧ Aside0 (Kd.R (Kd.int .u64) 24 w' w.heap.size (fun _ => True) v477 x7_2) ∧ Aside0 (w'.heap[gb475]? = some (.cells #[.int .u8 a0_0] 100 (0, 0))) ∧ Aside0 (Below w.heap.size w w'))
      case atStart => exact ⟨(y476), (0), Z7, H', ⟨Nat.le_refl _⟩, ⟨by (with_reducible repeat (first | apply Kd.R_alloc | apply Kd.R_drewN | apply Kd.R_drew)); exact HO478.out⟩, ⟨Z38⟩, ⟨Z21⟩⟩
      case round =>
       clear H'; (try clear c1); (try clear c2); (try clear p2); (try clear c6); (try clear c6b0); (try clear c6b1); (try clear c6b2); (try clear p6); (try clear c7); (try clear c8); (try clear c9); (try clear c9b0); (try clear c9b1); (try clear c10); (try clear c10b0); (try clear c10b1); (try clear p2); obtain ⟨x7_2, x29_2, rfl, HA, HK2, HO_7, BK475, HB⟩ := hrel; cases gk with
       | zero => exact absurd HA.out (by simp [poly_reckoner_product.l0])
       | succ k2 =>
        have H := HA.out; clear HA; simp only [poly_reckoner_product.l0] at H; by_cases c13 : x29_2 < (l1.length : Int)
        ·rw [if_pos c13] at H; have c13b0 : decide (x29_2 < (l1.length : Int)) = true := decide_eq_true c13; clear c13; by_cases c14 : 0 ≤ x29_2
         ·rw [if_pos c14] at H; have c14b0 : decide (0 ≤ x29_2) = true := decide_eq_true c14; clear c14; by_cases c15 : x29_2 < (l1.length : Int)
          ·rw [if_pos c15] at H; have c15b0 : decide (x29_2 < (l1.length : Int)) = true := decide_eq_true c15; clear c15; have H' := am H; clear H; have p479 : 0 ≤ (x29_2 : Int) := of_decide_eq_true Z3; have q479 : x29_2 < (l1.length : Int) := of_decide_eq_true Z3; obtain ⟨ad479, e479, hx479_0⟩ := Kd.at_int HR1.out x29_2 p479 q479; cases e479; replace hx479_0 := (HB.out.cell (World.block_lt_of_cell? w _ hx479_0)).trans hx479_0; replace p479 := eq_true p479; replace q479 := eq_true q479; go_wp2; go_loopg [36] k2 (fun kq v36 w' => ∃ (x7_3 : List Int) (x36_3 : Int), v36 = .int .i64 x36_3 ∧ Aside0 (poly_reckoner_product.l1 kq l2 x7_3 x29_2 (rd l1 x29_2) l1 (l1.length : Int) x29_2 l2 (l2.length : Int) x36_3 a0_0 = some r) ∧ Aside0 (kq ≤ k2) ∧ Aside0 (Kd.R (Kd.int .u64) 24 w' w.heap.size (fun _ => True) v477 x7_3) ∧ Aside0 (w'.heap[gb475]? = some (.cells #[.int .u8 a0_0] 100 (0, 0))) ∧ Aside0 (Below w.heap.size w w'))
           case atStart => exact ⟨(x7_2), (0), Z7, H', ⟨Nat.le_refl _⟩, ⟨Z25⟩, ⟨Z38⟩, ⟨Z21⟩⟩
           case round =>
            clear H'; (try clear c1); (try clear c2); (try clear p2); (try clear p4); (try clear q4); (try clear hx4); (try clear c6); (try clear c6b0); (try clear c6b1); (try clear c6b2); (try clear p6); (try clear c7); (try clear c8); (try clear c9); (try clear c9b0); (try clear c9b1); (try clear c10); (try clear c10b0); (try clear c10b1); (try clear c13); (try clear c13b0); (try clear c14); (try clear c14b0); (try clear c15); (try clear c15b0); (try clear hx479_0); (try clear p2); (try clear p479); (try clear p6); (try clear q479); obtain ⟨x7_3, x36_3, rfl, HA, HK3, HO_7, BK475, HB⟩ := hrel; cases gk with
            | zero => exact absurd HA.out (by simp [poly_reckoner_product.l1])
            | succ k3 =>
             have H := HA.out; clear HA; simp only [poly_reckoner_product.l1] at H; by_cases c16 : x36_3 < (l2.length : Int)
             ·rw [if_pos c16] at H; have c16b0 : decide (x36_3 < (l2.length : Int)) = true := decide_eq_true c16; clear c16; by_cases c17 : 0 ≤ x36_3
              ·rw [if_pos c17] at H; have c17b0 : decide (0 ≤ x36_3) = true := decide_eq_true c17; clear c17; by_cases c18 : x36_3 < (l2.length : Int)
               ·rw [if_pos c18] at H; have c18b0 : decide (x36_3 < (l2.length : Int)) = true := decide_eq_true c18; clear c18; obtain ⟨ji19, hji19⟩ : ∃ j_ : Int, (wrap64 (x29_2 + x36_3)) = j_ := ⟨_, rfl⟩; replace H : (if 0 ≤ (ji19) then (if (ji19) < (x7_3.length : Int) then ((poly_reckoner_mul.f k3 a0_0 (rd l1 x29_2) (rd l2 x36_3)).bind fun t482 => ((poly_reckoner_add.f k3 a0_0 (rd x7_3 (ji19)) t482).bind fun t483 => (poly_reckoner_product.l1 k3 l2 (x7_3.set ((ji19) : Int).toNat t483) x29_2 (rd l1 x29_2) l1 (l1.length : Int) x29_2 l2 (l2.length : Int) (wrap64 (x36_3 + 1)) a0_0))) else (none)) else (none)) = some r := by first | (rw [hji19] at H; exact H) | (simp only [hji19] at H ⊢; exact H)
                have hji19w : (IntKind.i64.wrap (x29_2 + x36_3)) = ji19 := (i64_w _).trans hji19; by_cases c20 : 0 ≤ (ji19)
                ·rw [if_pos c20] at H; have c20b0 : decide (0 ≤ (ji19)) = true := decide_eq_true c20; clear c20; by_cases c21 : (ji19) < (x7_3.length : Int)
                 ·rw [if_pos c21] at H; have c21b0 : decide ((ji19) < (x7_3.length : Int)) = true := decide_eq_true c21; clear c21; replace H := Option.bind_eq_some_iff.mp H; obtain ⟨t482, A220, H⟩ := H; replace H : ((poly_reckoner_add.f k3 a0_0 (rd x7_3 (ji19)) t482).bind fun t483 => (poly_reckoner_product.l1 k3 l2 (x7_3.set ((ji19) : Int).toNat t483) x29_2 (rd l1 x29_2) l1 (l1.length : Int) x29_2 l2 (l2.length : Int) (wrap64 (x36_3 + 1)) a0_0)) = some r := H; have A22 := am A220; clear A220; replace H := Option.bind_eq_some_iff.mp H; obtain ⟨t483, A230, H⟩ := H; replace H : (poly_reckoner_product.l1 k3 l2 (x7_3.set ((ji19) : Int).toNat t483) x29_2 (rd l1 x29_2) l1 (l1.length : Int) x29_2 l2 (l2.length : Int) (wrap64 (x36_3 + 1)) a0_0) = some r := H; have A23 := am A230; clear A230; obtain ⟨y484, hy484⟩ : ∃ y_ : List Int, y_ = (x7_3.set ((ji19) : Int).toNat t483) := ⟨_, rfl⟩; replace H : (poly_reckoner_product.l1 k3 l2 y484 x29_2 (rd l1 x29_2) l1 (l1.length : Int) x29_2 l2 (l2.length : Int) (wrap64 (x36_3 + 1)) a0_0) = some r := by first | (rw [hy484]; with_reducible exact H) | (have H2_ := (Option.bind_some _ _).symm.trans H; rw [hy484]; with_reducible exact H2_) | (have H2_ := (Option.bind_some _ _).symm.trans H; with_reducible exact H2_) | with_reducible exact H | (rw [hy484]; exact H) | exact H
                  have Ny484 := am hy484; clear hy484; have H' := am H; clear H; have p480 : 0 ≤ (x36_3 : Int) := of_decide_eq_true Z3; have q480 : x36_3 < (l2.length : Int) := of_decide_eq_true Z3; obtain ⟨ad480, e480, hx480_0⟩ := Kd.at_int HR2.out x36_3 p480 q480; cases e480; replace hx480_0 := (HB.out.cell (World.block_lt_of_cell? w _ hx480_0)).trans hx480_0; replace p480 := eq_true p480; replace q480 := eq_true q480; (try go_wp2); replace HO_7 := am (Kd.R_drew HO_7.out); replace BK475 := am (blk_drew BK475.out); replace HB := am (below_drew1 HB.out); obtain ⟨Ao26, co26, eo26⟩ := Kd.R_slice HO_7.out; (first | subst eo26 | (injection eo26 with f1_ f2_ f3_; have f4_ := f1_.symm; have f5_ := f3_.symm; clear f1_ f2_ f3_; subst f4_; subst f5_))
                  have p481 : 0 ≤ ((ji19) : Int) := of_decide_eq_true Z3; have q481 : (ji19) < (x7_3.length : Int) := of_decide_eq_true Z3; obtain ⟨ad481, e481, hx481_0⟩ := Kd.at_int (Kd.R_reads' HO_7.out).2.2 (ji19) p481 q481; cases e481; replace p481 := eq_true p481; replace q481 := eq_true q481; refine start_ (n := 18) (S := fun w' => w'.cell? ⟨gb475, 0, none⟩ = some (.int .u8 a0_0) ∧ w'.cell? (ad481.add ((ji19)).toNat) = some (.int .u64 (rd x7_3 (ji19)))) (ds := [17]) #[false, false, false, false, false, false, false, false, false, false, false, false, false, false, false, false, false, false] Z12 rfl rfl ⟨(blk_cell BK475.out 0).trans rfl, hx481_0⟩ (fun hHeld => ?_); refine with_tabW poly_reckoner_product.tab10 poly_reckoner_product.bits10 (fun HT_ HW_ => ?_)
                  generalize wr.drew = w25 at HO_7 BK475 HB hx481_0 hHeld ⊢
                  refine pure_ (i := 0) (N := some 41) (v := ?_) (a' := ?_) #[true, false, false, false, false, false, false, false, false, false, false, false, false, false, false, false, false, false] rfl rfl (any_of HT_.out Z12) (fun _ _ _ h => h) (Or.inl ⟨by rfl, ?_⟩) ?_ ?_; rotate_left
                  ·intro w'; go_simp; with_reducible rfl
                  rotate_left
                  ·simp only [Act.put, List.setIfInBounds_toArray, List.set_cons_zero, List.set_cons_succ, i64_w, i32_w]; rfl
                  refine pure_ (i := 1) (N := some 42) (v := ?_) (a' := ?_) #[true, true, false, false, false, false, false, false, false, false, false, false, false, false, false, false, false, false] rfl rfl (any_of HT_.out Z12) (fun _ _ _ h => h) (Or.inl ⟨by rfl, ?_⟩) ?_ ?_; rotate_left
                  ·intro w'; go_simp; with_reducible rfl
                  rotate_left
                  ·simp only [Act.put, List.setIfInBounds_toArray, List.set_cons_zero, List.set_cons_succ, i64_w, i32_w]; rfl
                  refine pure_ (i := 2) (N := some 43) (v := ?_) (a' := ?_) #[true, true, true, false, false, false, false, false, false, false, false, false, false, false, false, false, false, false] rfl rfl (any_of HT_.out Z12) (fun _ _ _ h => h) (Or.inl ⟨by rfl, ?_⟩) ?_ ?_; rotate_left
                  ·intro w'; go_simp; with_reducible rfl
                  rotate_left
                  ·simp only [Act.put, List.setIfInBounds_toArray, List.set_cons_zero, List.set_cons_succ, i64_w, i32_w]; rfl
                  refine pure_ (i := 3) (N := some 44) (v := ?_) (a' := ?_) #[true, true, true, true, false, false, false, false, false, false, false, false, false, false, false, false, false, false] rfl rfl (any_of HT_.out Z12) (fun _ _ _ h => h) (Or.inl ⟨by rfl, ?_⟩) ?_ ?_; rotate_left
                  ·intro w'; go_simp; with_reducible rfl
                  rotate_left
                  ·simp only [Act.put, List.setIfInBounds_toArray, List.set_cons_zero, List.set_cons_succ, i64_w, i32_w]; rfl
                  refine pure_ (i := 5) (N := some 46) (v := ?_) (a' := ?_) #[true, true, true, true, false, true, false, false, false, false, false, false, false, false, false, false, false, false] rfl rfl (any_of HT_.out Z12) (fun _ _ _ h => h) (Or.inl ⟨by rfl, ?_⟩) ?_ ?_; rotate_left
                  ·intro w'; go_simp; with_reducible rfl
                  rotate_left
                  ·simp only [Act.put, List.setIfInBounds_toArray, List.set_cons_zero, List.set_cons_succ, i64_w, i32_w]; rfl
                  refine pure_ (i := 6) (N := some 47) (v := ?_) (a' := ?_) #[true, true, true, true, false, true, true, false, false, false, false, false, false, false, false, false, false, false] rfl rfl (any_of HT_.out Z12) (fun _ _ _ h => h) (Or.inl ⟨by rfl, ?_⟩) ?_ ?_; rotate_left
                  ·intro w'; go_simp; with_reducible rfl
                  rotate_left
                  ·simp only [Act.put, List.setIfInBounds_toArray, List.set_cons_zero, List.set_cons_succ, i64_w, i32_w]; rfl
                  refine pure_ (i := 7) (N := some 48) (v := ?_) (a' := ?_) #[true, true, true, true, false, true, true, true, false, false, false, false, false, false, false, false, false, false] rfl rfl (any_of HT_.out Z12) (fun _ _ _ h => h) (Or.inl ⟨by rfl, ?_⟩) ?_ ?_; rotate_left
                  ·intro w'; go_simp; with_reducible rfl
                  rotate_left
                  ·simp only [Act.put, List.setIfInBounds_toArray, List.set_cons_zero, List.set_cons_succ, i64_w, i32_w]; rfl
                  refine pure_ (i := 8) (N := some 49) (v := ?_) (a' := ?_) #[true, true, true, true, false, true, true, true, true, false, false, false, false, false, false, false, false, false] rfl rfl (any_of HT_.out Z12) (fun _ _ _ h => h) (Or.inl ⟨by rfl, ?_⟩) ?_ ?_; rotate_left
                  ·intro w'; go_simp; with_reducible rfl
                  rotate_left
                  ·simp only [Act.put, List.setIfInBounds_toArray, List.set_cons_zero, List.set_cons_succ, i64_w, i32_w]; rfl
                  refine pure_ (i := 9) (N := some 50) (v := ?_) (a' := ?_) #[true, true, true, true, false, true, true, true, true, true, false, false, false, false, false, false, false, false] rfl rfl (any_of HT_.out Z12) (fun _ _ _ h => h) (Or.inl ⟨by rfl, ?_⟩) ?_ ?_; rotate_left
                  ·intro w'; go_simp; with_reducible rfl
                  rotate_left
                  ·simp only [Act.put, List.setIfInBounds_toArray, List.set_cons_zero, List.set_cons_succ, i64_w, i32_w]; rfl
                  refine pure_ (i := 12) (N := some 53) (v := ?_) (a' := ?_) #[true, true, true, true, false, true, true, true, true, true, false, false, true, false, false, false, false, false] rfl rfl (any_of HT_.out Z12) (fun _ _ _ h => h) (Or.inl ⟨by rfl, ?_⟩) ?_ ?_; rotate_left
                  ·intro w'; go_simp; with_reducible rfl
                  rotate_left
                  ·simp only [Act.put, List.setIfInBounds_toArray, List.set_cons_zero, List.set_cons_succ, i64_w, i32_w]; rfl
                  refine pure_ (i := 13) (N := some 54) (v := ?_) (a' := ?_) #[true, true, true, true, false, true, true, true, true, true, false, false, true, true, false, false, false, false] rfl rfl (any_of HT_.out Z12) (fun _ _ _ h => h) (Or.inl ⟨by rfl, ?_⟩) ?_ ?_; rotate_left
                  ·intro w'; go_simp; with_reducible rfl
                  rotate_left
                  ·simp only [Act.put, List.setIfInBounds_toArray, List.set_cons_zero, List.set_cons_succ, i64_w, i32_w]; rfl
                  refine take_ (i := 4) (N := some 45) (v := ?_) (a' := ?_) #[true, true, true, true, true, true, true, true, true, true, false, false, true, true, false, false, false, false] rfl rfl (take_ofW HT_.out HW_.out Z12) (fun _ _ _ h => h) (Or.inl ⟨by rfl, ?_⟩) hHeld ?_ ?_; rotate_left
                  ·rintro w' ⟨s0, s1⟩; go_simp; with_reducible rfl
                  rotate_left
                  ·simp only [Act.put, List.setIfInBounds_toArray, List.set_cons_zero, List.set_cons_succ, i64_w, i32_w]; rfl
                  refine take_ (i := 10) (N := some 51) (v := ?_) (a' := ?_) #[true, true, true, true, true, true, true, true, true, true, true, false, true, true, false, false, false, false] rfl rfl (take_ofW HT_.out HW_.out Z12) (fun _ _ _ h => h) (Or.inl ⟨by rfl, ?_⟩) hHeld ?_ ?_; rotate_left
                  ·rintro w' ⟨s0, s1⟩; go_simp; with_reducible rfl
                  rotate_left
                  ·simp only [Act.put, List.setIfInBounds_toArray, List.set_cons_zero, List.set_cons_succ, i64_w, i32_w]; rfl
                  refine take_ (i := 11) (N := some 52) (v := ?_) (a' := ?_) #[true, true, true, true, true, true, true, true, true, true, true, true, true, true, false, false, false, false] rfl rfl (take_ofW HT_.out HW_.out Z12) (fun _ _ _ h => h) (Or.inl ⟨by rfl, ?_⟩) hHeld ?_ ?_; rotate_left
                  ·rintro w' ⟨s0, s1⟩; go_simp; with_reducible rfl
                  rotate_left
                  ·simp only [Act.put, List.setIfInBounds_toArray, List.set_cons_zero, List.set_cons_succ, i64_w, i32_w]; rfl
                  refine one_ (i := 14) (N := some 55) #[true, true, true, true, true, true, true, true, true, true, true, true, true, true, true, false, false, false] rfl rfl (one_of HT_.out Z12) Z101 (fun K hK => ?_); refine goes_ Try.func88 Z12 rfl #[.agg #[.int .u8 a0_0], .int .u64 (rd l1 x29_2), .int .u64 (rd l2 x36_3)] (by rfl) rfl rfl Z2 ?_; (with_reducible refine (poly_reckoner_mul.calls k3 a0_0 (rd l1 x29_2) (rd l2 x36_3) t482 _ A22.out).mono ?_); rintro e w27 ⟨rfl, hb⟩; have HS1_ := (hb.cell (World.block_lt_of_cell? _ _ (hHeld.2))).trans (hHeld.2); refine ⟨_, rfl, ?_⟩; replace HO_7 := am (Kd.R_below Z25 hb); replace BK475 := am (blk_below (g := gb475) (o := .cells #[.int .u8 a0_0] 100 (0, 0)) Z38 hb); replace HB := am (below_step Z21 hb); (try clear hb)
                  (try clear hb2)
                  (try clear hk)
                  (try clear hi)
                  refine hK.out _ _ ⟨(blk_cell BK475.out 0).trans rfl, HS1_⟩ (fun hHeld => ?_); clear hK K; refine norm_ (a' := ?_) ?_ ?_; rotate_left
                  ·show Act.put _ (some 55) _ = _
                   simp only [Act.put, List.setIfInBounds_toArray, List.set_cons_zero, List.set_cons_succ, i64_w, i32_w]; rfl
                  refine one_ (i := 15) (N := some 56) #[true, true, true, true, true, true, true, true, true, true, true, true, true, true, true, true, false, false] rfl rfl (one_of HT_.out Z12) Z101 (fun K hK => ?_); refine goes_ Try.func87 Z12 rfl #[.agg #[.int .u8 a0_0], .int .u64 (rd x7_3 (ji19)), .int .u64 t482] (by rfl) rfl rfl (by (try simp only [List.map_toArray, List.map_cons, List.map_nil]); first | done | (simp only [hji19]; rfl) | rfl | (simp only [List.length_drop, List.length_take]; rfl)) ?_; (with_reducible refine (poly_reckoner_add.calls k3 a0_0 (rd x7_3 (ji19)) t482 t483 _ A23.out).mono ?_); rintro e w28 ⟨rfl, hb⟩; have HS1_ := (hb.cell (World.block_lt_of_cell? _ _ (hHeld.2))).trans (hHeld.2); refine ⟨_, rfl, ?_⟩; replace HO_7 := am (Kd.R_below Z25 hb); replace BK475 := am (blk_below (g := gb475) (o := .cells #[.int .u8 a0_0] 100 (0, 0)) Z38 hb); replace HB := am (below_step Z21 hb); (try clear hb)
                  (try clear hb2)
                  (try clear hk)
                  (try clear hi)
                  have p24 : 0 ≤ ((ji19) : Int) := of_decide_eq_true Z3; have q24 : ((ji19) : Int) < ((x7_3.length : Int) : Int) := of_decide_eq_true Z3; obtain ⟨go24, co24, eo24, gb24, gl24, cl24, HG24⟩ := Kd.R_form HO_7.out (by omega); (first | cases eo24 | (injection eo24 with ea_ en_ ec_; (first | subst ea_ | (injection ea_ with ea_; subst ea_)); subst ec_; clear en_))
                  have GB24 := am gb24; have GG24 := am HG24; clear gb24 gl24 HG24; (first | simp only [add_plain] at hx481_0 | skip)
                  obtain ⟨hx24_0, hf24_0⟩ := Kd.R_celln 0 HO_7.out ((ji19) : Int) p24 q24; replace p24 := eq_true p24; replace q24 := eq_true q24; have HP29 := Kd.R_putn HO_7.out ((ji19) : Int) t483; rw [← Ny484.out] at HP29; have HQ29 := am HP29; clear HP29; refine hK.out _ _ ⟨(blk_cell BK475.out 0).trans rfl, HS1_⟩ (fun hHeld => ?_); clear hK K; refine norm_ (a' := ?_) ?_ ?_; rotate_left
                  ·show Act.put _ (some 56) _ = _
                   simp only [Act.put, List.setIfInBounds_toArray, List.set_cons_zero, List.set_cons_succ, i64_w, i32_w]; rfl
                  refine pure_ (i := 16) (N := some 57) (v := ?_) (a' := ?_) #[true, true, true, true, true, true, true, true, true, true, true, true, true, true, true, true, true, false] rfl rfl (any_of HT_.out Z12) (fun _ _ _ h => h) (Or.inl ⟨by rfl, ?_⟩) ?_ ?_; rotate_left
                  ·intro w'; go_simp; with_reducible rfl
                  rotate_left
                  ·simp only [Act.put, List.setIfInBounds_toArray, List.set_cons_zero, List.set_cons_succ, i64_w, i32_w]; rfl
                  refine last_ (i := 17) (N := none) #[true, true, true, true, true, true, true, true, true, true, true, true, true, true, true, true, true, true] rfl rfl (one_of HT_.out Z12) Z101 (fun K hK => ?_); refine skip_ (w1 := ?_) (by rfl) rfl ?_ ?_; rotate_left
                  ·go_simp; rfl
                  refine hK.out _ _ ?_; clear hK K; refine done_ (done_of HT_.out Z12) ?_; (try go_wp2); go_roundg k3
                  case measure => have := HJ3.out; have := HK2.out; have := HK3.out; omega
                  case rel => exact ⟨(y484), (wrap64 (x36_3 + 1)), Z7, H', ⟨by have := HJ3.out; have := HK2.out; have := HK3.out; omega⟩, ⟨by (with_reducible repeat (first | apply Kd.R_alloc | apply Kd.R_drewN | apply Kd.R_drew)); exact HQ29.out⟩, ⟨by (with_reducible repeat (first | refine blk_drewN ?_ _ | refine blk_drew ?_ | refine blk_alloc ?_ _)); refine blk_far ?_ (by have h_ := Kd.R_ne HO_7.out BK475.out Z101; intro e_; exact h_ (by rw [e_]; rfl)) _; (with_reducible repeat (first | refine blk_drewN ?_ _ | refine blk_drew ?_ | refine blk_alloc ?_ _)); exact BK475.out⟩, ⟨by repeat (first | (with_reducible first | exact HB.out | apply below_alloc | apply pw_below_drewN | apply below_drew1 | refine below_set ?_ GB24.out | refine below_set ?_ GE475.out) | exact HB.out)⟩⟩
                 ·rw [if_neg c21] at H; exact absurd H (by simp)
                ·rw [if_neg c20] at H; exact absurd H (by simp)
               ·rw [if_neg c18] at H; exact absurd H (by simp)
              ·rw [if_neg c17] at H; exact absurd H (by simp)
             ·rw [if_neg c16] at H; have c16b0 : decide (x36_3 < (l2.length : Int)) = false := decide_eq_false c16; clear c16; have H' := am H; clear H; go_wp2; go_roundg k3
              case measure => have := HJ3.out; have := HK2.out; have := HK3.out; omega
              case rel => exact ⟨(x7_3), (wrap64 (x29_2 + 1)), Z7, H', ⟨by have := HJ3.out; have := HK2.out; have := HK3.out; omega⟩, ⟨Z25⟩, ⟨Z38⟩, ⟨Z21⟩⟩
          ·rw [if_neg c15] at H; exact absurd H (by simp)
         ·rw [if_neg c14] at H; exact absurd H (by simp)
        ·rw [if_neg c13] at H; have c13b0 : decide (x29_2 < (l1.length : Int)) = false := decide_eq_false c13; clear c13; obtain rfl := Option.some.inj H; go_wp2; go_ret; exact ⟨_, by first | rfl | (simp [errW_none, errW_some] <;> rfl) | (simp only [← hji8]; first | rfl | (simp [errW_none, errW_some] <;> rfl)) | (simp [*, errW_none, errW_some] <;> rfl), Z25, Z21⟩
     ·rw [if_neg c10] at H; exact absurd H (by simp)
    ·rw [if_neg c9] at H; exact absurd H (by simp)
end Go.Proofs.Ytdafolenaibccaa.P
end
