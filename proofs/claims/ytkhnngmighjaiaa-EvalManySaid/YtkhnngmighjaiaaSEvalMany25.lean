import Derived.Test.YtkhnngmighjaiaaSEvalManyZ
import Derived.Test.YtkhnngmighjaiaaSEvalMany17
import Derived.Test.YtkhnngmighjaiaaSEvalMany22
import Derived.Test.YtkhnngmighjaiaaSEvalMany24
section
namespace Go.Proofs.Ytkhnngmighjaiaa.P
open Go.RowKit Go.Proofs.YtkhnngmighjaiaaW.PrintWords Go.Proofs.YtkhnngmighjaiaaW.PrintLast Go.Proofs.YtkhnngmighjaiaaW.PrintMore
attribute [local go_sem] max2_int min2_int max_two min_two max_three min_three max_four min_four
set_option linter.unusedVariables false
set_option linter.unusedSimpArgs false
mutual
def conclaveref11_Many.j0 : Nat → Int → List (List Int) → Int → Bool → Int → List (S70) → List Int → Option ((List (List Int)) × Int)
 | 0, _, _, _, _, _, _, _ => none
 | k + 1, x0, x2, x8, x21, x463000, x463001, x463002 => if x21 = true then (conclaveref11_Many.j1 k x0 x2 2 x463000 x463001 x463002) else (conclaveref11_Many.j1 k x0 x2 x8 x463000 x463001 x463002)
def conclaveref11_Many.j1 : Nat → Int → List (List Int) → Int → Int → List (S70) → List Int → Option ((List (List Int)) × Int)
 | 0, _, _, _, _, _, _ => none
 | k + 1, x0, x2, x8, x463000, x463001, x463002 => conclaveref11_Many.l0 k x0 x2 x8 0 x463000 x463001 x463002
def conclaveref11_Many.l0 : Nat → Int → List (List Int) → Int → Int → Int → List (S70) → List Int → Option ((List (List Int)) × Int)
 | 0, _, _, _, _, _, _, _ => none
 | k + 1, x0, x2, x8, x9, x463000, x463001, x463002 => if x9 < (x2.length : Int) then (if 0 ≤ x9 then ((conclaveref01_In.f k x0 (rd_L4 x2 x9)).bind fun t466 => (if t466 = true then (if x8 = 0 then (if ((rd_L4 x2 x9).length : Int) = x463000 then (conclaveref11_Many.l0 k x0 x2 x8 (wrap64 (x9 + 1)) x463000 x463001 x463002) else (conclaveref11_Many.l0 k x0 x2 3 (wrap64 (x9 + 1)) x463000 x463001 x463002)) else (conclaveref11_Many.l0 k x0 x2 x8 (wrap64 (x9 + 1)) x463000 x463001 x463002)) else (if 2 = 0 then (if ((rd_L4 x2 x9).length : Int) = x463000 then (conclaveref11_Many.l0 k x0 x2 2 (wrap64 (x9 + 1)) x463000 x463001 x463002) else (conclaveref11_Many.l0 k x0 x2 3 (wrap64 (x9 + 1)) x463000 x463001 x463002)) else (conclaveref11_Many.l0 k x0 x2 2 (wrap64 (x9 + 1)) x463000 x463001 x463002)))) else (none)) else (if x8 = 0 then (conclaveref11_Many.j3 k x0 x2 x8 (decide ((x2.length : Int) > 4096)) x463000 x463001 x463002) else (conclaveref11_Many.j3 k x0 x2 x8 false x463000 x463001 x463002))
def conclaveref11_Many.j3 : Nat → Int → List (List Int) → Int → Bool → Int → List (S70) → List Int → Option ((List (List Int)) × Int)
 | 0, _, _, _, _, _, _, _ => none
 | k + 1, x0, x2, x8, x53, x463000, x463001, x463002 => if x53 = true then (conclaveref11_Many.j4 k x0 x2 4 x463000 x463001 x463002) else (conclaveref11_Many.j4 k x0 x2 x8 x463000 x463001 x463002)
def conclaveref11_Many.j4 : Nat → Int → List (List Int) → Int → Int → List (S70) → List Int → Option ((List (List Int)) × Int)
 | 0, _, _, _, _, _, _ => none
 | k + 1, x0, x2, x8, x463000, x463001, x463002 => conclaveref11_Many.l1 k x0 x2 x8 ([] : List (List Int)) 0 x463000 x463001 x463002
def conclaveref11_Many.l1 : Nat → Int → List (List Int) → Int → List (List Int) → Int → Int → List (S70) → List Int → Option ((List (List Int)) × Int)
 | 0, _, _, _, _, _, _, _, _ => none
 | k + 1, x0, x2, x8, x10, x11, x463000, x463001, x463002 => if x11 < (x2.length : Int) then (if x8 = 0 then (if 0 ≤ x11 then ((conclaveref11_Run.f k x0 x463000 x463001 x463002 (rd_L4 x2 x11)).bind fun bt470 => (if x10.length < 5864062014805 then (conclaveref11_Many.l1 k x0 x2 x8 (x10 ++ [bt470.1]) (wrap64 (x11 + 1)) x463000 x463001 x463002) else (none))) else (none)) else (some (x10, x8))) else (some (x10, x8))
end
def conclaveref11_Many.f (k : Nat) (a0 : Int) (a1_0 : Int) (l1_1 : List (S70)) (l1_2 : List Int) (l2 : List (List Int)) : Option ((List (List Int)) × Int) := (conclaveref09_May.f k a1_0 l1_1 l1_2).bind fun t463 => (if t463 = true then ((conclaveref01_In.f k a0 ([] : List Int)).bind fun t464 => (conclaveref11_Many.j0 k a0 l2 0 (!t464) a1_0 l1_1 l1_2)) else (conclaveref11_Many.j0 k a0 l2 0 true a1_0 l1_1 l1_2))
def conclaveref11_Many.T9 : Bool × List (List Nat × List Nat) := (true, [([], []), ([0], [0]), ([1], [1]), ([2], [2]), ([2], [2]), ([3, 4, 2], [2, 3, 4]), ([5, 2], [2, 5]), ([6, 2], [2, 6]), ([2], [2]), ([8, 2], [2, 8]), ([7, 9, 2], [2, 7, 9]), ([2, 10], [2, 10])])
def conclaveref11_Many.B9 : List Nat := [0, 1, 3, 7, 7, 31, 63, 127, 7, 263, 1023, 2047]
theorem conclaveref11_Many.tab9 : rtab .any (opsOf Try.f19 9) = conclaveref11_Many.T9 := by kernel_rfl
theorem conclaveref11_Many.bits9 : waitsOk conclaveref11_Many.T9.2 conclaveref11_Many.B9 = true := by kernel_rfl
def conclaveref11_Many.T17 : Bool × List (List Nat × List Nat) := (true, [([], []), ([], []), ([], []), ([], []), ([2, 3], [2, 3]), ([4], [4]), ([0, 1, 5], [0, 1, 5]), ([6], [6]), ([7], [7]), ([7], [7]), ([8, 6, 0, 1, 2, 3, 4, 5, 6, 7, 8], [8]), ([9, 10, 0, 1, 2, 3, 4, 5, 6, 7, 8, 9, 10], [9])])
def conclaveref11_Many.B17 : List Nat := [0, 0, 0, 0, 12, 28, 63, 127, 255, 255, 511, 2047]
theorem conclaveref11_Many.tab17 : rtab .any (opsOf Try.f19 17) = conclaveref11_Many.T17 := by kernel_rfl
theorem conclaveref11_Many.bits17 : waitsOk conclaveref11_Many.T17.2 conclaveref11_Many.B17 = true := by kernel_rfl
set_option maxHeartbeats 8000000 in
set_option maxRecDepth 100000 in
theorem conclaveref11_Many.calls (k : Nat) (a0 : Int) (a1_0 : Int) (A1_1 : Option Addr) (c1_1 : Nat) (l1_1 : List (S70)) (A1_2 : Option Addr) (c1_2 : Nat) (l1_2 : List Int) (A2 : Option Addr) (c2 : Nat) (l2 : List (List Int)) (r1 : List (List Int)) (r2 : Int) (w : World) (hr1_1 : Kd.C k70 w A1_1 l1_1.length l1_1) (hc1_1 : l1_1.length ≤ c1_1) (hr1_2 : Kd.C (Kd.int .i64) w A1_2 l1_2.length l1_2) (hc1_2 : l1_2.length ≤ c1_2) (hr2 : Kd.C (Kd.slice 54 (Kd.int .u64)) w A2 l2.length l2) (hc2 : l2.length ≤ c2) (h : conclaveref11_Many.f k a0 a1_0 l1_1 l1_2 l2 = some (r1, r2)) :
  Calls Try.prog 19 #[.int .u8 a0, .agg #[.int .i64 a1_0, .slice A1_1 l1_1.length c1_1, .slice A1_2 l1_2.length c1_2], .slice A2 l2.length c2] w fun e w' => ∃ v0_ : Value, e = .returned (.tuple #[v0_, .int .i64 r2]) ∧ Kd.S (Kd.slice 54 (Kd.int .u64)) 26 w' w.heap.size (fun _ => True) v0_ r1 ∧ Below w.heap.size w w' := by
 have hu25 := Try.underlying25; have HR1_1 := am hr1_1; have HC1_1 := am hc1_1; clear hr1_1 hc1_1; have HR1_2 := am hr1_2; have HC1_2 := am hc1_2; clear hr1_2 hc1_2; have HR2 := am hr2; have HC2 := am hc2; clear hr2 hc2; have HB := am (Below.refl w.heap.size w); have H : ((conclaveref09_May.f k a1_0 l1_1 l1_2).bind fun t463 => (if t463 = true then ((conclaveref01_In.f k a0 ([] : List Int)).bind fun t464 => (conclaveref11_Many.j0 k a0 l2 0 (!t464) a1_0 l1_1 l1_2)) else (conclaveref11_Many.j0 k a0 l2 0 true a1_0 l1_1 l1_2))) = some (r1, r2) := h; clear h; have HC4 := am H; clear H; go_enter Try.func19, Try.ntmps19
 go_upto_region 2 with (first | ((with_reducible refine gate_dst (N := 4) rfl ?_); (try (refine gate_guard (by rfl) ?_; dsimp only)); refine box_event ?hg (N := 4) ?hd (cs := #[.int .i64 a1_0, .slice A1_1 l1_1.length c1_1, .slice A1_2 l1_2.length c1_2]) (t := 25) ?hr ?_; (case hd => rfl); (case hg => rfl); (case hr => first | (go_simp; done) | (go_simp; rfl)); intro gb462 hg w5 hbox hb; have BK462 := am (hbox); have GW462 := am ((Z53 : w.heap.size ≤ gb462)); have GE462 := am ((Z53 : w.heap.size ≤ gb462)); replace HB := am (below_step Z1 hb); clear hb hbox hg))
 (try simp only [Act.put, List.setIfInBounds_toArray, List.set_cons_zero, List.set_cons_succ])
 go_cut [21] (fun v21 wc => ∃ (kq : Nat) (x21_3 : Bool), v21 = .bool x21_3 ∧ Aside0 (conclaveref11_Many.j0 kq a0 l2 0 x21_3 a1_0 l1_1 l1_2 = some (r1, r2)) ∧ Aside0 (kq ≤ k) ∧ Aside0 (wc.heap[gb462]? = some (.cells #[.int .i64 a1_0, (.slice A1_1 l1_1.length c1_1), (.slice A1_2 l1_2.length c1_2)] 25 (0, 0))) ∧ Aside0 (Below w.heap.size w wc))
 case first =>
  have H := HC4.out; clear HC4; replace H := Option.bind_eq_some_iff.mp H; obtain ⟨t463, A60, H⟩ := H; replace H : (if t463 = true then ((conclaveref01_In.f k a0 ([] : List Int)).bind fun t464 => (conclaveref11_Many.j0 k a0 l2 0 (!t464) a1_0 l1_1 l1_2)) else (conclaveref11_Many.j0 k a0 l2 0 true a1_0 l1_1 l1_2)) = some (r1, r2) := H; have A6 := am A60; clear A60; by_cases c7 : t463 = true
  ·subst c7; have H1 : ((conclaveref01_In.f k a0 ([] : List Int)).bind fun t464 => (conclaveref11_Many.j0 k a0 l2 0 (!t464) a1_0 l1_1 l1_2)) = some (r1, r2) := by rw [if_pos rfl] at H; exact H
   clear H; have H := H1; clear H1; replace H := Option.bind_eq_some_iff.mp H; obtain ⟨t464, A80, H⟩ := H; replace H : (conclaveref11_Many.j0 k a0 l2 0 (!t464) a1_0 l1_1 l1_2) = some (r1, r2) := H; have A8 := am A80; clear A80; have H' := am H; clear H; have hcz9_0 : w5.cell? ⟨gb462, 0, none⟩ = some (.int .i64 a1_0) := (blk_cell BK462.out 0).trans rfl; have hcz9_1 : w5.cell? ⟨gb462, 1, none⟩ = some (.slice A1_1 l1_1.length c1_1) := (blk_cell BK462.out 1).trans rfl; have hcz9_2 : w5.cell? ⟨gb462, 2, none⟩ = some (.slice A1_2 l1_2.length c1_2) := (blk_cell BK462.out 2).trans rfl; have hfz9_0 := blk_frozen BK462.out 0; have hfz9_1 := blk_frozen BK462.out 1; have hfz9_2 := blk_frozen BK462.out 2; go_wp2_with (first | ((with_reducible refine gate_callee (f := 23) rfl ?_); refine goesL_ (some 15) rfl rfl Try.func23 Z21 rfl #[.agg #[.int .i64 a1_0, .slice A1_1 l1_1.length c1_1, .slice A1_2 l1_2.length c1_2]] rfl Z4 ?_; (with_reducible refine (conclaveref09_May.calls k a1_0 _ _ l1_1 _ _ l1_2 true _ ?side1 ?side2 ?side3 ?side4 A6.out).mono ?_); (case side1 => repeat (first | exact (Kd.C_below HR1_1.out HB.out) | (with_reducible refine Kd.C_alloc ?_ _) | (with_reducible refine Kd.C_drewN ?_ _) | (with_reducible refine Kd.C_drew ?_))); (case side2 => exact HC1_1.out); (case side3 => repeat (first | exact (Kd.C_below HR1_2.out HB.out) | (with_reducible refine Kd.C_alloc ?_ _) | (with_reducible refine Kd.C_drewN ?_ _) | (with_reducible refine Kd.C_drew ?_))); (case side4 => exact HC1_2.out); rintro e w10 ⟨rfl, hb⟩; refine ⟨_, rfl, ?_⟩; replace BK462 := am (blk_below (g := gb462) (o := .cells #[.int .i64 a1_0, .slice A1_1 l1_1.length c1_1, .slice A1_2 l1_2.length c1_2] 25 (0, 0)) Z20 hb); replace HB := am (below_step Z14 hb); (try clear hb)) | (go_at_call 34; (refine (conclaveref01_In.calls k a0 _ _ ([] : List Int) t464 _ ?side1 ?side2 A8.out).mono ?_); (case side1 => exact Kd.C_nil _ _); (case side2 => exact Nat.le_refl _); rintro e w' ⟨rfl, ⟨nd, rfl⟩⟩))
   go_meet
   case rel => exact ⟨_, (!t464), Z15, H', ⟨Z60⟩, ⟨Z20⟩, ⟨Z14⟩⟩
  ·replace c7 := Bool.eq_false_iff.mpr c7; subst c7; have H1 : (conclaveref11_Many.j0 k a0 l2 0 true a1_0 l1_1 l1_2) = some (r1, r2) := by rw [if_neg (show ¬ (false = true) by decide)] at H; exact H
   clear H; have H := H1; clear H1; have H' := am H; clear H; have hcz11_0 : w5.cell? ⟨gb462, 0, none⟩ = some (.int .i64 a1_0) := (blk_cell BK462.out 0).trans rfl; have hcz11_1 : w5.cell? ⟨gb462, 1, none⟩ = some (.slice A1_1 l1_1.length c1_1) := (blk_cell BK462.out 1).trans rfl; have hcz11_2 : w5.cell? ⟨gb462, 2, none⟩ = some (.slice A1_2 l1_2.length c1_2) := (blk_cell BK462.out 2).trans rfl; have hfz11_0 := blk_frozen BK462.out 0; have hfz11_1 := blk_frozen BK462.out 1; have hfz11_2 := blk_frozen BK462.out 2; go_wp2_with (first | ((with_reducible refine gate_callee (f := 23) rfl ?_); refine goesL_ (some 15) rfl rfl Try.func23 Z21 rfl #[.agg #[.int .i64 a1_0, .slice A1_1 l1_1.length c1_1, .slice A1_2 l1_2.length c1_2]] rfl Z4 ?_; (with_reducible refine (conclaveref09_May.calls k a1_0 _ _ l1_1 _ _ l1_2 false _ ?side1 ?side2 ?side3 ?side4 A6.out).mono ?_); (case side1 => repeat (first | exact (Kd.C_below HR1_1.out HB.out) | (with_reducible refine Kd.C_alloc ?_ _) | (with_reducible refine Kd.C_drewN ?_ _) | (with_reducible refine Kd.C_drew ?_))); (case side2 => exact HC1_1.out); (case side3 => repeat (first | exact (Kd.C_below HR1_2.out HB.out) | (with_reducible refine Kd.C_alloc ?_ _) | (with_reducible refine Kd.C_drewN ?_ _) | (with_reducible refine Kd.C_drew ?_))); (case side4 => exact HC1_2.out); rintro e w12 ⟨rfl, hb⟩; refine ⟨_, rfl, ?_⟩; replace BK462 := am (blk_below (g := gb462) (o := .cells #[.int .i64 a1_0, .slice A1_1 l1_1.length c1_1, .slice A1_2 l1_2.length c1_2] 25 (0, 0)) Z20 hb); replace HB := am (below_step Z14 hb); (try clear hb)))
   go_meet
   case rel => exact ⟨_, (true), Z15, H', ⟨Z60⟩, ⟨Z20⟩, ⟨Z14⟩⟩
 case rest =>
  clear HC4; (try clear c1); (try clear c2); (try clear p2); (try clear c7); (try clear hcz11_0); (try clear hcz11_1); (try clear hcz11_2); (try clear hcz9_0); (try clear hcz9_1); (try clear hcz9_2); (try clear hfz11_0); (try clear hfz11_1); (try clear hfz11_2); (try clear hfz9_0); (try clear hfz9_1); (try clear hfz9_2); obtain ⟨kq, x21_3, rfl, HA, HJ3, BK462, HB⟩ := hcut; cases kq with
  | zero => exact absurd HA.out (by simp [conclaveref11_Many.j0])
  | succ kj3 =>
   have H := HA.out; clear HA; simp only [conclaveref11_Many.j0] at H; have HC13 := am H; clear H; go_upto_if 21 with (fail)
   go_cut [8] (fun v8 wc => ∃ (kq : Nat) (x8_12 : Int), v8 = .int .i64 x8_12 ∧ Aside0 (conclaveref11_Many.j1 kq a0 l2 x8_12 a1_0 l1_1 l1_2 = some (r1, r2)) ∧ Aside0 (kq ≤ kj3) ∧ Aside0 (wc.heap[gb462]? = some (.cells #[.int .i64 a1_0, (.slice A1_1 l1_1.length c1_1), (.slice A1_2 l1_2.length c1_2)] 25 (0, 0))) ∧ Aside0 (Below w.heap.size w wc))
   case first =>
    have H := HC13.out; clear HC13; by_cases c14 : x21_3 = true
    ·subst c14; have H1 : (conclaveref11_Many.j1 kj3 a0 l2 2 a1_0 l1_1 l1_2) = some (r1, r2) := by rw [if_pos rfl] at H; exact H
     clear H; have H := H1; clear H1; have H' := am H; clear H; go_wp2; go_meet
     case rel => exact ⟨_, (2), Z15, H', ⟨by have := HJ3.out; first | omega | exact Nat.le_refl _⟩, ⟨Z20⟩, ⟨Z14⟩⟩
    ·replace c14 := Bool.eq_false_iff.mpr c14; subst c14; have H1 : (conclaveref11_Many.j1 kj3 a0 l2 0 a1_0 l1_1 l1_2) = some (r1, r2) := by rw [if_neg (show ¬ (false = true) by decide)] at H; exact H
     clear H; have H := H1; clear H1; have H' := am H; clear H; go_wp2; go_meet
     case rel => exact ⟨_, (0), Z15, H', ⟨by have := HJ3.out; first | omega | exact Nat.le_refl _⟩, ⟨Z20⟩, ⟨Z14⟩⟩
   case rest =>
    clear HC13; (try clear c1); (try clear c2); (try clear p2); (try clear c7); (try clear c14); (try clear hcz11_0); (try clear hcz11_1); (try clear hcz11_2); (try clear hcz9_0); (try clear hcz9_1); (try clear hcz9_2); (try clear hfz11_0); (try clear hfz11_1); (try clear hfz11_2); (try clear hfz9_0); (try clear hfz9_1); (try clear hfz9_2); (try clear p2); obtain ⟨kq, x8_12, rfl, HA, HJ12, BK462, HB⟩ := hcut; cases kq with
    | zero => exact absurd HA.out (by simp [conclaveref11_Many.j1])
    | succ kj12 =>
     have H := HA.out; clear HA; simp only [conclaveref11_Many.j1] at H; have H' := am H; clear H; go_wp2; go_loopg [8, 9] kj12 (fun kq v8 v9 w' => ∃ (x8_3 : Int) (x9_3 : Int), v8 = .int .i64 x8_3 ∧ v9 = .int .i64 x9_3 ∧ Aside0 (conclaveref11_Many.l0 kq a0 l2 x8_3 x9_3 a1_0 l1_1 l1_2 = some (r1, r2)) ∧ Aside0 (kq ≤ kj12) ∧ Aside0 (w'.heap[gb462]? = some (.cells #[.int .i64 a1_0, (.slice A1_1 l1_1.length c1_1), (.slice A1_2 l1_2.length c1_2)] 25 (0, 0))) ∧ Aside0 (Below w.heap.size w w'))
     case atStart => exact ⟨(x8_12), (0), Z15, Z15, H', ⟨Nat.le_refl _⟩, ⟨Z20⟩, ⟨Z14⟩⟩
     case round =>
      clear H'; (try clear c1); (try clear c2); (try clear p2); (try clear c7); (try clear c14); (try clear hcz11_0); (try clear hcz11_1); (try clear hcz11_2); (try clear hcz9_0); (try clear hcz9_1); (try clear hcz9_2); (try clear hfz11_0); (try clear hfz11_1); (try clear hfz11_2); (try clear hfz9_0); (try clear hfz9_1); (try clear hfz9_2); (try clear p2); obtain ⟨x8_3, x9_3, rfl, rfl, HA, HK3, BK462, HB⟩ := hrel; cases gk with
      | zero => exact absurd HA.out (by simp [conclaveref11_Many.l0])
      | succ k3 =>
       have H := HA.out; clear HA; simp only [conclaveref11_Many.l0] at H; by_cases c15 : x9_3 < (l2.length : Int)
       ·rw [if_pos c15] at H; have c15b0 : decide (x9_3 < (l2.length : Int)) = true := decide_eq_true c15; clear c15; by_cases c16 : 0 ≤ x9_3
        ·rw [if_pos c16] at H; have c16b0 : decide (0 ≤ x9_3) = true := decide_eq_true c16; clear c16; replace H := Option.bind_eq_some_iff.mp H; obtain ⟨t466, A170, H⟩ := H; replace H : (if t466 = true then (if x8_3 = 0 then (if ((rd_L4 l2 x9_3).length : Int) = a1_0 then (conclaveref11_Many.l0 k3 a0 l2 x8_3 (wrap64 (x9_3 + 1)) a1_0 l1_1 l1_2) else (conclaveref11_Many.l0 k3 a0 l2 3 (wrap64 (x9_3 + 1)) a1_0 l1_1 l1_2)) else (conclaveref11_Many.l0 k3 a0 l2 x8_3 (wrap64 (x9_3 + 1)) a1_0 l1_1 l1_2)) else (if 2 = 0 then (if ((rd_L4 l2 x9_3).length : Int) = a1_0 then (conclaveref11_Many.l0 k3 a0 l2 2 (wrap64 (x9_3 + 1)) a1_0 l1_1 l1_2) else (conclaveref11_Many.l0 k3 a0 l2 3 (wrap64 (x9_3 + 1)) a1_0 l1_1 l1_2)) else (conclaveref11_Many.l0 k3 a0 l2 2 (wrap64 (x9_3 + 1)) a1_0 l1_1 l1_2))) = some (r1, r2) := H; have A17 := am A170; clear A170; by_cases c18 : t466 = true
         ·subst c18; have H1 : (if x8_3 = 0 then (if ((rd_L4 l2 x9_3).length : Int) = a1_0 then (conclaveref11_Many.l0 k3 a0 l2 x8_3 (wrap64 (x9_3 + 1)) a1_0 l1_1 l1_2) else (conclaveref11_Many.l0 k3 a0 l2 3 (wrap64 (x9_3 + 1)) a1_0 l1_1 l1_2)) else (conclaveref11_Many.l0 k3 a0 l2 x8_3 (wrap64 (x9_3 + 1)) a1_0 l1_1 l1_2)) = some (r1, r2) := by rw [if_pos rfl] at H; exact H
          clear H; have H := H1; clear H1; by_cases c19 : x8_3 = 0
          ·rw [if_pos c19] at H; have c19b0 : (x8_3 == 0) = true := beq_iff_eq.mpr c19; have c19b1 : (x8_3 != 0) = false := bne_eq_false_iff_eq.mpr c19; clear c19; by_cases c20 : ((rd_L4 l2 x9_3).length : Int) = a1_0
           ·rw [if_pos c20] at H; have c20b0 : (((rd_L4 l2 x9_3).length : Int) == a1_0) = true := beq_iff_eq.mpr c20; have c20b1 : (((rd_L4 l2 x9_3).length : Int) != a1_0) = false := bne_eq_false_iff_eq.mpr c20; clear c20; have H' := am H; clear H; have p465 : 0 ≤ (x9_3 : Int) := of_decide_eq_true Z6; have q465 : x9_3 < (l2.length : Int) := of_decide_eq_true Z6; obtain ⟨ad465, A465_0, c465_0, e465, hx465_0, hl465_0, hi465_0⟩ := at_L4 HR2.out x9_3 p465 q465; cases e465; replace hx465_0 := (HB.out.cell (World.block_lt_of_cell? w _ hx465_0)).trans hx465_0; have HR465_0 := am hi465_0; have HC465_0 := am hl465_0; clear hi465_0 hl465_0; replace p465 := eq_true p465; replace q465 := eq_true q465; (try go_wp2_with (first | ((with_reducible refine gate_callee (f := 34) rfl ?_); refine goesL_ (some 33) rfl rfl Try.func34 Z21 rfl #[.int .u8 a0, .slice A465_0 (rd_L4 l2 x9_3).length c465_0] rfl Z4 ?_; (with_reducible refine (conclaveref01_In.calls k3 a0 _ _ (rd_L4 l2 x9_3) true _ ?side1 ?side2 A17.out).mono ?_); (case side1 => repeat (first | exact (Kd.C_below HR465_0.out HB.out) | (with_reducible refine Kd.C_alloc ?_ _) | (with_reducible refine Kd.C_drewN ?_ _) | (with_reducible refine Kd.C_drew ?_))); (case side2 => exact HC465_0.out); rintro e w' ⟨rfl, ⟨nd, rfl⟩⟩; refine ⟨_, rfl, ?_⟩))); (try (rw [drewN_self wr]; generalize hq_ : World.drewN wr _ = wr; replace BK462 : Aside0 (wr.heap[gb462]? = some (.cells #[.int .i64 a1_0, .slice A1_1 l1_1.length c1_1, .slice A1_2 l1_2.length c1_2] 25 (0, 0))) := ⟨by rw [← hq_]; exact Z20⟩; replace HB : Aside0 (Below w.heap.size w wr) := ⟨by rw [← hq_]; exact Z14⟩; clear hq_))
            replace BK462 := am (blk_drew BK462.out); replace HB := am (below_drew1 HB.out); have p467 : 0 ≤ (x9_3 : Int) := of_decide_eq_true Z6; have q467 : x9_3 < (l2.length : Int) := of_decide_eq_true Z6; obtain ⟨ad467, A467_0, c467_0, e467, hx467_0, hl467_0, hi467_0⟩ := at_L4 HR2.out x9_3 p467 q467; have hw467_0 := hx467_0; obtain rfl : ad465 = ad467 := (by injection e467); replace hx467_0 := (HB.out.cell (World.block_lt_of_cell? w _ hx467_0)).trans hx467_0; have HR467_0 := am hi467_0; have HC467_0 := am hl467_0; clear hi467_0 hl467_0; replace p467 := eq_true p467; replace q467 := eq_true q467; refine start_ (n := 12) (S := fun w' => w'.cell? ⟨gb462, 0, none⟩ = some (.int .i64 a1_0) ∧ w'.cell? ⟨gb462, 1, none⟩ = some (.slice A1_1 l1_1.length c1_1) ∧ w'.cell? ⟨gb462, 2, none⟩ = some (.slice A1_2 l1_2.length c1_2) ∧ w'.cell? (ad465.add (x9_3).toNat) = some (.slice A467_0 (rd_L4 l2 x9_3).length c467_0)) (ds := []) #[false, false, false, false, false, false, false, false, false, false, false, false] Z21 rfl rfl ⟨(blk_cell BK462.out 0).trans rfl, (blk_cell BK462.out 1).trans rfl, (blk_cell BK462.out 2).trans rfl, ((HB.out.cell (World.block_lt_of_cell? w _ hw467_0)).trans hw467_0)⟩ (fun hHeld => ?_); refine with_tabW conclaveref11_Many.tab9 conclaveref11_Many.bits9 (fun HT_ HW_ => ?_)
            generalize wr.drew = w21 at BK462 HB HR467_0 hx467_0 hHeld ⊢
            refine pure_ (i := 0) (N := some 35) (v := ?_) (a' := ?_) #[true, false, false, false, false, false, false, false, false, false, false, false] rfl rfl (any_of HT_.out Z21) (fun _ _ _ h => h) (Or.inl ⟨by rfl, ?_⟩) ?_ ?_; rotate_left
            ·intro w'; go_simp; with_reducible rfl
            rotate_left
            ·simp only [Act.put, List.setIfInBounds_toArray, List.set_cons_zero, List.set_cons_succ, i64_w, i32_w]; rfl
            refine pure_ (i := 1) (N := some 36) (v := ?_) (a' := ?_) #[true, true, false, false, false, false, false, false, false, false, false, false] rfl rfl (any_of HT_.out Z21) (fun _ _ _ h => h) (Or.inl ⟨by rfl, ?_⟩) ?_ ?_; rotate_left
            ·intro w'; go_simp; with_reducible rfl
            rotate_left
            ·simp only [Act.put, List.setIfInBounds_toArray, List.set_cons_zero, List.set_cons_succ, i64_w, i32_w]; rfl
            refine pure_ (i := 2) (N := some 37) (v := ?_) (a' := ?_) #[true, true, true, false, false, false, false, false, false, false, false, false] rfl rfl (any_of HT_.out Z21) (fun _ _ _ h => h) (Or.inl ⟨by rfl, ?_⟩) ?_ ?_; rotate_left
            ·intro w'; go_simp; with_reducible rfl
            rotate_left
            ·simp only [Act.put, List.setIfInBounds_toArray, List.set_cons_zero, List.set_cons_succ, i64_w, i32_w]; rfl
            refine pure_ (i := 3) (N := some 38) (v := ?_) (a' := ?_) #[true, true, true, true, false, false, false, false, false, false, false, false] rfl rfl (any_of HT_.out Z21) (fun _ _ _ h => h) (Or.inl ⟨by rfl, ?_⟩) ?_ ?_; rotate_left
            ·intro w'; go_simp; with_reducible rfl
            rotate_left
            ·simp only [Act.put, List.setIfInBounds_toArray, List.set_cons_zero, List.set_cons_succ, i64_w, i32_w]; rfl
            refine pure_ (i := 4) (N := some 39) (v := ?_) (a' := ?_) #[true, true, true, true, true, false, false, false, false, false, false, false] rfl rfl (any_of HT_.out Z21) (fun _ _ _ h => h) (Or.inl ⟨by rfl, ?_⟩) ?_ ?_; rotate_left
            ·intro w'; go_simp; with_reducible rfl
            rotate_left
            ·simp only [Act.put, List.setIfInBounds_toArray, List.set_cons_zero, List.set_cons_succ, i64_w, i32_w]; rfl
            refine pure_ (i := 5) (N := some 40) (v := ?_) (a' := ?_) #[true, true, true, true, true, true, false, false, false, false, false, false] rfl rfl (any_of HT_.out Z21) (fun _ _ _ h => h) (Or.inl ⟨by rfl, ?_⟩) ?_ ?_; rotate_left
            ·intro w'; go_simp; with_reducible rfl
            rotate_left
            ·simp only [Act.put, List.setIfInBounds_toArray, List.set_cons_zero, List.set_cons_succ, i64_w, i32_w]; rfl
            refine pure_ (i := 8) (N := some 43) (v := ?_) (a' := ?_) #[true, true, true, true, true, true, false, false, true, false, false, false] rfl rfl (any_of HT_.out Z21) (fun _ _ _ h => h) (Or.inl ⟨by rfl, ?_⟩) ?_ ?_; rotate_left
            ·intro w'; go_simp; with_reducible rfl
            rotate_left
            ·simp only [Act.put, List.setIfInBounds_toArray, List.set_cons_zero, List.set_cons_succ, i64_w, i32_w]; rfl
            refine take_ (i := 6) (N := some 41) (v := ?_) (a' := ?_) #[true, true, true, true, true, true, true, false, true, false, false, false] rfl rfl (take_ofW HT_.out HW_.out Z21) (fun _ _ _ h => h) (Or.inl ⟨by rfl, ?_⟩) hHeld ?_ ?_; rotate_left
            ·rintro w' ⟨s0, s1, s2, s3⟩; go_simp; with_reducible rfl
            rotate_left
            ·simp only [Act.put, List.setIfInBounds_toArray, List.set_cons_zero, List.set_cons_succ, i64_w, i32_w]; rfl
            refine pure_ (i := 7) (N := some 42) (v := ?_) (a' := ?_) #[true, true, true, true, true, true, true, true, true, false, false, false] rfl rfl (any_of HT_.out Z21) (fun _ _ _ h => h) (Or.inl ⟨by rfl, ?_⟩) ?_ ?_; rotate_left
            ·intro w'; go_simp; with_reducible rfl
            rotate_left
            ·simp only [Act.put, List.setIfInBounds_toArray, List.set_cons_zero, List.set_cons_succ, i64_w, i32_w]; rfl
            refine take_ (i := 9) (N := some 44) (v := ?_) (a' := ?_) #[true, true, true, true, true, true, true, true, true, true, false, false] rfl rfl (take_ofW HT_.out HW_.out Z21) (fun _ _ _ h => h) (Or.inl ⟨by rfl, ?_⟩) hHeld ?_ ?_; rotate_left
            ·rintro w' ⟨s0, s1, s2, s3⟩; go_simp; with_reducible rfl
            rotate_left
            ·simp only [Act.put, List.setIfInBounds_toArray, List.set_cons_zero, List.set_cons_succ, i64_w, i32_w]; rfl
            refine pure_ (i := 10) (N := some 45) (v := ?_) (a' := ?_) #[true, true, true, true, true, true, true, true, true, true, true, false] rfl rfl (any_of HT_.out Z21) (fun _ _ _ h => h) (Or.inl ⟨by rfl, ?_⟩) ?_ ?_; rotate_left
            ·intro w'; go_simp; with_reducible rfl
            rotate_left
            ·simp only [Act.put, List.setIfInBounds_toArray, List.set_cons_zero, List.set_cons_succ, i64_w, i32_w]; rfl
            refine pure_ (i := 11) (N := some 46) (v := ?_) (a' := ?_) #[true, true, true, true, true, true, true, true, true, true, true, true] rfl rfl (any_of HT_.out Z21) (fun _ _ _ h => h) (Or.inl ⟨by rfl, ?_⟩) ?_ ?_; rotate_left
            ·intro w'; go_simp; with_reducible rfl
            rotate_left
            ·simp only [Act.put, List.setIfInBounds_toArray, List.set_cons_zero, List.set_cons_succ, i64_w, i32_w]; rfl
            refine done_ (done_of HT_.out Z21) ?_; (try go_wp2); go_roundg k3
            case measure => have := HJ3.out; have := HJ12.out; have := HK3.out; omega
            case rel => exact ⟨(x8_3), (wrap64 (x9_3 + 1)), Z15, Z15, H', ⟨Z114⟩, ⟨Z20⟩, ⟨Z14⟩⟩
           ·rw [if_neg c20] at H; have c20b0 : (((rd_L4 l2 x9_3).length : Int) == a1_0) = false := beq_eq_false_iff_ne.mpr c20; have c20b1 : (((rd_L4 l2 x9_3).length : Int) != a1_0) = true := bne_iff_ne.mpr c20; have H' := am H; clear H; have p465 : 0 ≤ (x9_3 : Int) := of_decide_eq_true Z6; have q465 : x9_3 < (l2.length : Int) := of_decide_eq_true Z6; obtain ⟨ad465, A465_0, c465_0, e465, hx465_0, hl465_0, hi465_0⟩ := at_L4 HR2.out x9_3 p465 q465; cases e465; replace hx465_0 := (HB.out.cell (World.block_lt_of_cell? w _ hx465_0)).trans hx465_0; have HR465_0 := am hi465_0; have HC465_0 := am hl465_0; clear hi465_0 hl465_0; replace p465 := eq_true p465; replace q465 := eq_true q465; (try go_wp2_with (first | ((with_reducible refine gate_callee (f := 34) rfl ?_); refine goesL_ (some 33) rfl rfl Try.func34 Z21 rfl #[.int .u8 a0, .slice A465_0 (rd_L4 l2 x9_3).length c465_0] rfl Z4 ?_; (with_reducible refine (conclaveref01_In.calls k3 a0 _ _ (rd_L4 l2 x9_3) true _ ?side1 ?side2 A17.out).mono ?_); (case side1 => repeat (first | exact (Kd.C_below HR465_0.out HB.out) | (with_reducible refine Kd.C_alloc ?_ _) | (with_reducible refine Kd.C_drewN ?_ _) | (with_reducible refine Kd.C_drew ?_))); (case side2 => exact HC465_0.out); rintro e w' ⟨rfl, ⟨nd, rfl⟩⟩; refine ⟨_, rfl, ?_⟩))); (try (rw [drewN_self wr]; generalize hq_ : World.drewN wr _ = wr; replace BK462 : Aside0 (wr.heap[gb462]? = some (.cells #[.int .i64 a1_0, .slice A1_1 l1_1.length c1_1, .slice A1_2 l1_2.length c1_2] 25 (0, 0))) := ⟨by rw [← hq_]; exact Z20⟩; replace HB : Aside0 (Below w.heap.size w wr) := ⟨by rw [← hq_]; exact Z14⟩; clear hq_))
            replace BK462 := am (blk_drew BK462.out); replace HB := am (below_drew1 HB.out); have p467 : 0 ≤ (x9_3 : Int) := of_decide_eq_true Z6; have q467 : x9_3 < (l2.length : Int) := of_decide_eq_true Z6; obtain ⟨ad467, A467_0, c467_0, e467, hx467_0, hl467_0, hi467_0⟩ := at_L4 HR2.out x9_3 p467 q467; have hw467_0 := hx467_0; obtain rfl : ad465 = ad467 := (by injection e467); replace hx467_0 := (HB.out.cell (World.block_lt_of_cell? w _ hx467_0)).trans hx467_0; have HR467_0 := am hi467_0; have HC467_0 := am hl467_0; clear hi467_0 hl467_0; replace p467 := eq_true p467; replace q467 := eq_true q467; refine start_ (n := 12) (S := fun w' => w'.cell? ⟨gb462, 0, none⟩ = some (.int .i64 a1_0) ∧ w'.cell? ⟨gb462, 1, none⟩ = some (.slice A1_1 l1_1.length c1_1) ∧ w'.cell? ⟨gb462, 2, none⟩ = some (.slice A1_2 l1_2.length c1_2) ∧ w'.cell? (ad465.add (x9_3).toNat) = some (.slice A467_0 (rd_L4 l2 x9_3).length c467_0)) (ds := []) #[false, false, false, false, false, false, false, false, false, false, false, false] Z21 rfl rfl ⟨(blk_cell BK462.out 0).trans rfl, (blk_cell BK462.out 1).trans rfl, (blk_cell BK462.out 2).trans rfl, ((HB.out.cell (World.block_lt_of_cell? w _ hw467_0)).trans hw467_0)⟩ (fun hHeld => ?_); refine with_tabW conclaveref11_Many.tab9 conclaveref11_Many.bits9 (fun HT_ HW_ => ?_)
            generalize wr.drew = w22 at BK462 HB HR467_0 hx467_0 hHeld ⊢
            refine pure_ (i := 0) (N := some 35) (v := ?_) (a' := ?_) #[true, false, false, false, false, false, false, false, false, false, false, false] rfl rfl (any_of HT_.out Z21) (fun _ _ _ h => h) (Or.inl ⟨by rfl, ?_⟩) ?_ ?_; rotate_left
            ·intro w'; go_simp; with_reducible rfl
            rotate_left
            ·simp only [Act.put, List.setIfInBounds_toArray, List.set_cons_zero, List.set_cons_succ, i64_w, i32_w]; rfl
            refine pure_ (i := 1) (N := some 36) (v := ?_) (a' := ?_) #[true, true, false, false, false, false, false, false, false, false, false, false] rfl rfl (any_of HT_.out Z21) (fun _ _ _ h => h) (Or.inl ⟨by rfl, ?_⟩) ?_ ?_; rotate_left
            ·intro w'; go_simp; with_reducible rfl
            rotate_left
            ·simp only [Act.put, List.setIfInBounds_toArray, List.set_cons_zero, List.set_cons_succ, i64_w, i32_w]; rfl
            refine pure_ (i := 2) (N := some 37) (v := ?_) (a' := ?_) #[true, true, true, false, false, false, false, false, false, false, false, false] rfl rfl (any_of HT_.out Z21) (fun _ _ _ h => h) (Or.inl ⟨by rfl, ?_⟩) ?_ ?_; rotate_left
            ·intro w'; go_simp; with_reducible rfl
            rotate_left
            ·simp only [Act.put, List.setIfInBounds_toArray, List.set_cons_zero, List.set_cons_succ, i64_w, i32_w]; rfl
            refine pure_ (i := 3) (N := some 38) (v := ?_) (a' := ?_) #[true, true, true, true, false, false, false, false, false, false, false, false] rfl rfl (any_of HT_.out Z21) (fun _ _ _ h => h) (Or.inl ⟨by rfl, ?_⟩) ?_ ?_; rotate_left
            ·intro w'; go_simp; with_reducible rfl
            rotate_left
            ·simp only [Act.put, List.setIfInBounds_toArray, List.set_cons_zero, List.set_cons_succ, i64_w, i32_w]; rfl
            refine pure_ (i := 4) (N := some 39) (v := ?_) (a' := ?_) #[true, true, true, true, true, false, false, false, false, false, false, false] rfl rfl (any_of HT_.out Z21) (fun _ _ _ h => h) (Or.inl ⟨by rfl, ?_⟩) ?_ ?_; rotate_left
            ·intro w'; go_simp; with_reducible rfl
            rotate_left
            ·simp only [Act.put, List.setIfInBounds_toArray, List.set_cons_zero, List.set_cons_succ, i64_w, i32_w]; rfl
            refine pure_ (i := 5) (N := some 40) (v := ?_) (a' := ?_) #[true, true, true, true, true, true, false, false, false, false, false, false] rfl rfl (any_of HT_.out Z21) (fun _ _ _ h => h) (Or.inl ⟨by rfl, ?_⟩) ?_ ?_; rotate_left
            ·intro w'; go_simp; with_reducible rfl
            rotate_left
            ·simp only [Act.put, List.setIfInBounds_toArray, List.set_cons_zero, List.set_cons_succ, i64_w, i32_w]; rfl
            refine pure_ (i := 8) (N := some 43) (v := ?_) (a' := ?_) #[true, true, true, true, true, true, false, false, true, false, false, false] rfl rfl (any_of HT_.out Z21) (fun _ _ _ h => h) (Or.inl ⟨by rfl, ?_⟩) ?_ ?_; rotate_left
            ·intro w'; go_simp; with_reducible rfl
            rotate_left
            ·simp only [Act.put, List.setIfInBounds_toArray, List.set_cons_zero, List.set_cons_succ, i64_w, i32_w]; rfl
            refine take_ (i := 6) (N := some 41) (v := ?_) (a' := ?_) #[true, true, true, true, true, true, true, false, true, false, false, false] rfl rfl (take_ofW HT_.out HW_.out Z21) (fun _ _ _ h => h) (Or.inl ⟨by rfl, ?_⟩) hHeld ?_ ?_; rotate_left
            ·rintro w' ⟨s0, s1, s2, s3⟩; go_simp; with_reducible rfl
            rotate_left
            ·simp only [Act.put, List.setIfInBounds_toArray, List.set_cons_zero, List.set_cons_succ, i64_w, i32_w]; rfl
            refine pure_ (i := 7) (N := some 42) (v := ?_) (a' := ?_) #[true, true, true, true, true, true, true, true, true, false, false, false] rfl rfl (any_of HT_.out Z21) (fun _ _ _ h => h) (Or.inl ⟨by rfl, ?_⟩) ?_ ?_; rotate_left
            ·intro w'; go_simp; with_reducible rfl
            rotate_left
            ·simp only [Act.put, List.setIfInBounds_toArray, List.set_cons_zero, List.set_cons_succ, i64_w, i32_w]; rfl
            refine take_ (i := 9) (N := some 44) (v := ?_) (a' := ?_) #[true, true, true, true, true, true, true, true, true, true, false, false] rfl rfl (take_ofW HT_.out HW_.out Z21) (fun _ _ _ h => h) (Or.inl ⟨by rfl, ?_⟩) hHeld ?_ ?_; rotate_left
            ·rintro w' ⟨s0, s1, s2, s3⟩; go_simp; with_reducible rfl
            rotate_left
            ·simp only [Act.put, List.setIfInBounds_toArray, List.set_cons_zero, List.set_cons_succ, i64_w, i32_w]; rfl
            refine pure_ (i := 10) (N := some 45) (v := ?_) (a' := ?_) #[true, true, true, true, true, true, true, true, true, true, true, false] rfl rfl (any_of HT_.out Z21) (fun _ _ _ h => h) (Or.inl ⟨by rfl, ?_⟩) ?_ ?_; rotate_left
            ·intro w'; go_simp; with_reducible rfl
            rotate_left
            ·simp only [Act.put, List.setIfInBounds_toArray, List.set_cons_zero, List.set_cons_succ, i64_w, i32_w]; rfl
            refine pure_ (i := 11) (N := some 46) (v := ?_) (a' := ?_) #[true, true, true, true, true, true, true, true, true, true, true, true] rfl rfl (any_of HT_.out Z21) (fun _ _ _ h => h) (Or.inl ⟨by rfl, ?_⟩) ?_ ?_; rotate_left
            ·intro w'; go_simp; with_reducible rfl
            rotate_left
            ·simp only [Act.put, List.setIfInBounds_toArray, List.set_cons_zero, List.set_cons_succ, i64_w, i32_w]; rfl
            refine done_ (done_of HT_.out Z21) ?_; (try go_wp2); go_roundg k3
            case measure => have := HJ3.out; have := HJ12.out; have := HK3.out; omega
            case rel => exact ⟨(3), (wrap64 (x9_3 + 1)), Z15, Z15, H', ⟨Z114⟩, ⟨Z20⟩, ⟨Z14⟩⟩
          ·rw [if_neg c19] at H; have c19b0 : (x8_3 == 0) = false := beq_eq_false_iff_ne.mpr c19; have c19b1 : (x8_3 != 0) = true := bne_iff_ne.mpr c19; have H' := am H; clear H; have p465 : 0 ≤ (x9_3 : Int) := of_decide_eq_true Z6; have q465 : x9_3 < (l2.length : Int) := of_decide_eq_true Z6; obtain ⟨ad465, A465_0, c465_0, e465, hx465_0, hl465_0, hi465_0⟩ := at_L4 HR2.out x9_3 p465 q465; cases e465; replace hx465_0 := (HB.out.cell (World.block_lt_of_cell? w _ hx465_0)).trans hx465_0; have HR465_0 := am hi465_0; have HC465_0 := am hl465_0; clear hi465_0 hl465_0; replace p465 := eq_true p465; replace q465 := eq_true q465; (try go_wp2_with (first | ((with_reducible refine gate_callee (f := 34) rfl ?_); refine goesL_ (some 33) rfl rfl Try.func34 Z21 rfl #[.int .u8 a0, .slice A465_0 (rd_L4 l2 x9_3).length c465_0] rfl Z4 ?_; (with_reducible refine (conclaveref01_In.calls k3 a0 _ _ (rd_L4 l2 x9_3) true _ ?side1 ?side2 A17.out).mono ?_); (case side1 => repeat (first | exact (Kd.C_below HR465_0.out HB.out) | (with_reducible refine Kd.C_alloc ?_ _) | (with_reducible refine Kd.C_drewN ?_ _) | (with_reducible refine Kd.C_drew ?_))); (case side2 => exact HC465_0.out); rintro e w' ⟨rfl, ⟨nd, rfl⟩⟩; refine ⟨_, rfl, ?_⟩))); (try (rw [drewN_self wr]; generalize hq_ : World.drewN wr _ = wr; replace BK462 : Aside0 (wr.heap[gb462]? = some (.cells #[.int .i64 a1_0, .slice A1_1 l1_1.length c1_1, .slice A1_2 l1_2.length c1_2] 25 (0, 0))) := ⟨by rw [← hq_]; exact Z20⟩; replace HB : Aside0 (Below w.heap.size w wr) := ⟨by rw [← hq_]; exact Z14⟩; clear hq_))
           replace BK462 := am (blk_drew BK462.out); replace HB := am (below_drew1 HB.out); refine start_ (n := 12) (S := fun w' => True) (ds := []) #[false, false, false, false, false, false, false, false, false, false, false, false] Z21 rfl rfl trivial (fun hHeld => ?_); refine with_tabW conclaveref11_Many.tab9 conclaveref11_Many.bits9 (fun HT_ HW_ => ?_)
           generalize wr.drew = w23 at BK462 HB hHeld ⊢
           refine pure_ (i := 0) (N := some 35) (v := ?_) (a' := ?_) #[true, false, false, false, false, false, false, false, false, false, false, false] rfl rfl (any_of HT_.out Z21) (fun _ _ _ h => h) (Or.inl ⟨by rfl, ?_⟩) ?_ ?_; rotate_left
           ·intro w'; go_simp; with_reducible rfl
           rotate_left
           ·simp only [Act.put, List.setIfInBounds_toArray, List.set_cons_zero, List.set_cons_succ, i64_w, i32_w]; rfl
           refine pure_ (i := 1) (N := some 36) (v := ?_) (a' := ?_) #[true, true, false, false, false, false, false, false, false, false, false, false] rfl rfl (any_of HT_.out Z21) (fun _ _ _ h => h) (Or.inl ⟨by rfl, ?_⟩) ?_ ?_; rotate_left
           ·intro w'; go_simp; with_reducible rfl
           rotate_left
           ·simp only [Act.put, List.setIfInBounds_toArray, List.set_cons_zero, List.set_cons_succ, i64_w, i32_w]; rfl
           refine pure_ (i := 2) (N := some 37) (v := ?_) (a' := ?_) #[true, true, true, false, false, false, false, false, false, false, false, false] rfl rfl (any_of HT_.out Z21) (fun _ _ _ h => h) (Or.inl ⟨by rfl, ?_⟩) ?_ ?_; rotate_left
           ·intro w'; go_simp; with_reducible rfl
           rotate_left
           ·simp only [Act.put, List.setIfInBounds_toArray, List.set_cons_zero, List.set_cons_succ, i64_w, i32_w]; rfl
           refine pure_ (i := 3) (N := some 38) (v := undef) (a' := ?_) #[true, true, true, true, false, false, false, false, false, false, false, false] rfl rfl (any_of HT_.out Z21) (fun _ _ _ h => h) (Or.inr ⟨by rfl, rfl⟩) ?_ ?_; rotate_left
           ·simp only [Act.put, List.setIfInBounds_toArray, List.set_cons_zero, List.set_cons_succ, i64_w, i32_w]; rfl
           refine pure_ (i := 4) (N := some 39) (v := undef) (a' := ?_) #[true, true, true, true, true, false, false, false, false, false, false, false] rfl rfl (any_of HT_.out Z21) (fun _ _ _ h => h) (Or.inr ⟨by rfl, rfl⟩) ?_ ?_; rotate_left
           ·simp only [Act.put, List.setIfInBounds_toArray, List.set_cons_zero, List.set_cons_succ, i64_w, i32_w]; rfl
           refine pure_ (i := 5) (N := some 40) (v := undef) (a' := ?_) #[true, true, true, true, true, true, false, false, false, false, false, false] rfl rfl (any_of HT_.out Z21) (fun _ _ _ h => h) (Or.inr ⟨by rfl, rfl⟩) ?_ ?_; rotate_left
           ·simp only [Act.put, List.setIfInBounds_toArray, List.set_cons_zero, List.set_cons_succ, i64_w, i32_w]; rfl
           refine pure_ (i := 6) (N := some 41) (v := undef) (a' := ?_) #[true, true, true, true, true, true, true, false, false, false, false, false] rfl rfl (any_of HT_.out Z21) (fun _ _ _ h => h) (Or.inr ⟨by rfl, rfl⟩) ?_ ?_; rotate_left
           ·simp only [Act.put, List.setIfInBounds_toArray, List.set_cons_zero, List.set_cons_succ, i64_w, i32_w]; rfl
           refine pure_ (i := 7) (N := some 42) (v := undef) (a' := ?_) #[true, true, true, true, true, true, true, true, false, false, false, false] rfl rfl (any_of HT_.out Z21) (fun _ _ _ h => h) (Or.inr ⟨by rfl, rfl⟩) ?_ ?_; rotate_left
           ·simp only [Act.put, List.setIfInBounds_toArray, List.set_cons_zero, List.set_cons_succ, i64_w, i32_w]; rfl
           refine pure_ (i := 8) (N := some 43) (v := undef) (a' := ?_) #[true, true, true, true, true, true, true, true, true, false, false, false] rfl rfl (any_of HT_.out Z21) (fun _ _ _ h => h) (Or.inr ⟨by rfl, rfl⟩) ?_ ?_; rotate_left
           ·simp only [Act.put, List.setIfInBounds_toArray, List.set_cons_zero, List.set_cons_succ, i64_w, i32_w]; rfl
           refine pure_ (i := 9) (N := some 44) (v := undef) (a' := ?_) #[true, true, true, true, true, true, true, true, true, true, false, false] rfl rfl (any_of HT_.out Z21) (fun _ _ _ h => h) (Or.inr ⟨by rfl, rfl⟩) ?_ ?_; rotate_left
           ·simp only [Act.put, List.setIfInBounds_toArray, List.set_cons_zero, List.set_cons_succ, i64_w, i32_w]; rfl
           refine pure_ (i := 10) (N := some 45) (v := undef) (a' := ?_) #[true, true, true, true, true, true, true, true, true, true, true, false] rfl rfl (any_of HT_.out Z21) (fun _ _ _ h => h) (Or.inr ⟨by rfl, rfl⟩) ?_ ?_; rotate_left
           ·simp only [Act.put, List.setIfInBounds_toArray, List.set_cons_zero, List.set_cons_succ, i64_w, i32_w]; rfl
           refine pure_ (i := 11) (N := some 46) (v := ?_) (a' := ?_) #[true, true, true, true, true, true, true, true, true, true, true, true] rfl rfl (any_of HT_.out Z21) (fun _ _ _ h => h) (Or.inl ⟨by rfl, ?_⟩) ?_ ?_; rotate_left
           ·intro w'; go_simp; with_reducible rfl
           rotate_left
           ·simp only [Act.put, List.setIfInBounds_toArray, List.set_cons_zero, List.set_cons_succ, i64_w, i32_w]; rfl
           refine done_ (done_of HT_.out Z21) ?_; (try go_wp2); go_roundg k3
           case measure => have := HJ3.out; have := HJ12.out; have := HK3.out; omega
           case rel => exact ⟨(x8_3), (wrap64 (x9_3 + 1)), Z15, Z15, H', ⟨Z114⟩, ⟨Z20⟩, ⟨Z14⟩⟩
         ·replace c18 := Bool.eq_false_iff.mpr c18; subst c18; have H1 : (if 2 = 0 then (if ((rd_L4 l2 x9_3).length : Int) = a1_0 then (conclaveref11_Many.l0 k3 a0 l2 2 (wrap64 (x9_3 + 1)) a1_0 l1_1 l1_2) else (conclaveref11_Many.l0 k3 a0 l2 3 (wrap64 (x9_3 + 1)) a1_0 l1_1 l1_2)) else (conclaveref11_Many.l0 k3 a0 l2 2 (wrap64 (x9_3 + 1)) a1_0 l1_1 l1_2)) = some (r1, r2) := by rw [if_neg (show ¬ (false = true) by decide)] at H; exact H
          clear H; have H := H1; clear H1; by_cases c24 : 2 = 0
          ·exact absurd c24 Z66
          ·rw [if_neg c24] at H; have c24b0 : (2 == 0) = false := beq_eq_false_iff_ne.mpr c24; have c24b1 : (2 != 0) = true := bne_iff_ne.mpr c24; have H' := am H; clear H; have p465 : 0 ≤ (x9_3 : Int) := of_decide_eq_true Z6; have q465 : x9_3 < (l2.length : Int) := of_decide_eq_true Z6; obtain ⟨ad465, A465_0, c465_0, e465, hx465_0, hl465_0, hi465_0⟩ := at_L4 HR2.out x9_3 p465 q465; cases e465; replace hx465_0 := (HB.out.cell (World.block_lt_of_cell? w _ hx465_0)).trans hx465_0; have HR465_0 := am hi465_0; have HC465_0 := am hl465_0; clear hi465_0 hl465_0; replace p465 := eq_true p465; replace q465 := eq_true q465; (try go_wp2_with (first | ((with_reducible refine gate_callee (f := 34) rfl ?_); refine goesL_ (some 33) rfl rfl Try.func34 Z21 rfl #[.int .u8 a0, .slice A465_0 (rd_L4 l2 x9_3).length c465_0] rfl Z4 ?_; (with_reducible refine (conclaveref01_In.calls k3 a0 _ _ (rd_L4 l2 x9_3) false _ ?side1 ?side2 A17.out).mono ?_); (case side1 => repeat (first | exact (Kd.C_below HR465_0.out HB.out) | (with_reducible refine Kd.C_alloc ?_ _) | (with_reducible refine Kd.C_drewN ?_ _) | (with_reducible refine Kd.C_drew ?_))); (case side2 => exact HC465_0.out); rintro e w' ⟨rfl, ⟨nd, rfl⟩⟩; refine ⟨_, rfl, ?_⟩))); (try (rw [drewN_self wr]; generalize hq_ : World.drewN wr _ = wr; replace BK462 : Aside0 (wr.heap[gb462]? = some (.cells #[.int .i64 a1_0, .slice A1_1 l1_1.length c1_1, .slice A1_2 l1_2.length c1_2] 25 (0, 0))) := ⟨by rw [← hq_]; exact Z20⟩; replace HB : Aside0 (Below w.heap.size w wr) := ⟨by rw [← hq_]; exact Z14⟩; clear hq_))
           replace BK462 := am (blk_drew BK462.out); replace HB := am (below_drew1 HB.out); refine start_ (n := 12) (S := fun w' => True) (ds := []) #[false, false, false, false, false, false, false, false, false, false, false, false] Z21 rfl rfl trivial (fun hHeld => ?_); refine with_tabW conclaveref11_Many.tab9 conclaveref11_Many.bits9 (fun HT_ HW_ => ?_)
           generalize wr.drew = w28 at BK462 HB hHeld ⊢
           refine pure_ (i := 0) (N := some 35) (v := ?_) (a' := ?_) #[true, false, false, false, false, false, false, false, false, false, false, false] rfl rfl (any_of HT_.out Z21) (fun _ _ _ h => h) (Or.inl ⟨by rfl, ?_⟩) ?_ ?_; rotate_left
           ·intro w'; go_simp; with_reducible rfl
           rotate_left
           ·simp only [Act.put, List.setIfInBounds_toArray, List.set_cons_zero, List.set_cons_succ, i64_w, i32_w]; rfl
           refine pure_ (i := 1) (N := some 36) (v := ?_) (a' := ?_) #[true, true, false, false, false, false, false, false, false, false, false, false] rfl rfl (any_of HT_.out Z21) (fun _ _ _ h => h) (Or.inl ⟨by rfl, ?_⟩) ?_ ?_; rotate_left
           ·intro w'; go_simp; with_reducible rfl
           rotate_left
           ·simp only [Act.put, List.setIfInBounds_toArray, List.set_cons_zero, List.set_cons_succ, i64_w, i32_w]; rfl
           refine pure_ (i := 2) (N := some 37) (v := ?_) (a' := ?_) #[true, true, true, false, false, false, false, false, false, false, false, false] rfl rfl (any_of HT_.out Z21) (fun _ _ _ h => h) (Or.inl ⟨by rfl, ?_⟩) ?_ ?_; rotate_left
           ·intro w'; go_simp; with_reducible rfl
           rotate_left
           ·simp only [Act.put, List.setIfInBounds_toArray, List.set_cons_zero, List.set_cons_succ, i64_w, i32_w]; rfl
           refine pure_ (i := 3) (N := some 38) (v := undef) (a' := ?_) #[true, true, true, true, false, false, false, false, false, false, false, false] rfl rfl (any_of HT_.out Z21) (fun _ _ _ h => h) (Or.inr ⟨by rfl, rfl⟩) ?_ ?_; rotate_left
           ·simp only [Act.put, List.setIfInBounds_toArray, List.set_cons_zero, List.set_cons_succ, i64_w, i32_w]; rfl
           refine pure_ (i := 4) (N := some 39) (v := undef) (a' := ?_) #[true, true, true, true, true, false, false, false, false, false, false, false] rfl rfl (any_of HT_.out Z21) (fun _ _ _ h => h) (Or.inr ⟨by rfl, rfl⟩) ?_ ?_; rotate_left
           ·simp only [Act.put, List.setIfInBounds_toArray, List.set_cons_zero, List.set_cons_succ, i64_w, i32_w]; rfl
           refine pure_ (i := 5) (N := some 40) (v := undef) (a' := ?_) #[true, true, true, true, true, true, false, false, false, false, false, false] rfl rfl (any_of HT_.out Z21) (fun _ _ _ h => h) (Or.inr ⟨by rfl, rfl⟩) ?_ ?_; rotate_left
           ·simp only [Act.put, List.setIfInBounds_toArray, List.set_cons_zero, List.set_cons_succ, i64_w, i32_w]; rfl
           refine pure_ (i := 6) (N := some 41) (v := undef) (a' := ?_) #[true, true, true, true, true, true, true, false, false, false, false, false] rfl rfl (any_of HT_.out Z21) (fun _ _ _ h => h) (Or.inr ⟨by rfl, rfl⟩) ?_ ?_; rotate_left
           ·simp only [Act.put, List.setIfInBounds_toArray, List.set_cons_zero, List.set_cons_succ, i64_w, i32_w]; rfl
           refine pure_ (i := 7) (N := some 42) (v := undef) (a' := ?_) #[true, true, true, true, true, true, true, true, false, false, false, false] rfl rfl (any_of HT_.out Z21) (fun _ _ _ h => h) (Or.inr ⟨by rfl, rfl⟩) ?_ ?_; rotate_left
           ·simp only [Act.put, List.setIfInBounds_toArray, List.set_cons_zero, List.set_cons_succ, i64_w, i32_w]; rfl
           refine pure_ (i := 8) (N := some 43) (v := undef) (a' := ?_) #[true, true, true, true, true, true, true, true, true, false, false, false] rfl rfl (any_of HT_.out Z21) (fun _ _ _ h => h) (Or.inr ⟨by rfl, rfl⟩) ?_ ?_; rotate_left
           ·simp only [Act.put, List.setIfInBounds_toArray, List.set_cons_zero, List.set_cons_succ, i64_w, i32_w]; rfl
           refine pure_ (i := 9) (N := some 44) (v := undef) (a' := ?_) #[true, true, true, true, true, true, true, true, true, true, false, false] rfl rfl (any_of HT_.out Z21) (fun _ _ _ h => h) (Or.inr ⟨by rfl, rfl⟩) ?_ ?_; rotate_left
           ·simp only [Act.put, List.setIfInBounds_toArray, List.set_cons_zero, List.set_cons_succ, i64_w, i32_w]; rfl
           refine pure_ (i := 10) (N := some 45) (v := undef) (a' := ?_) #[true, true, true, true, true, true, true, true, true, true, true, false] rfl rfl (any_of HT_.out Z21) (fun _ _ _ h => h) (Or.inr ⟨by rfl, rfl⟩) ?_ ?_; rotate_left
           ·simp only [Act.put, List.setIfInBounds_toArray, List.set_cons_zero, List.set_cons_succ, i64_w, i32_w]; rfl
           refine pure_ (i := 11) (N := some 46) (v := ?_) (a' := ?_) #[true, true, true, true, true, true, true, true, true, true, true, true] rfl rfl (any_of HT_.out Z21) (fun _ _ _ h => h) (Or.inl ⟨by rfl, ?_⟩) ?_ ?_; rotate_left
           ·intro w'; go_simp; with_reducible rfl
           rotate_left
           ·simp only [Act.put, List.setIfInBounds_toArray, List.set_cons_zero, List.set_cons_succ, i64_w, i32_w]; rfl
           refine done_ (done_of HT_.out Z21) ?_; (try go_wp2); go_roundg k3
           case measure => have := HJ3.out; have := HJ12.out; have := HK3.out; omega
           case rel => exact ⟨(2), (wrap64 (x9_3 + 1)), Z15, Z15, H', ⟨Z114⟩, ⟨Z20⟩, ⟨Z14⟩⟩
        ·rw [if_neg c16] at H; exact absurd H (by simp)
       ·rw [if_neg c15] at H; have c15b0 : decide (x9_3 < (l2.length : Int)) = false := decide_eq_false c15; clear c15; have HC29 := am H; clear H; go_upto_region 11 with (fail)
        go_cut [53] (fun v53 wc => ∃ (kq : Nat) (x53_28 : Bool), v53 = .bool x53_28 ∧ Aside0 (conclaveref11_Many.j3 kq a0 l2 x8_3 x53_28 a1_0 l1_1 l1_2 = some (r1, r2)) ∧ Aside0 (kq ≤ k3) ∧ Aside0 (wc.heap[gb462]? = some (.cells #[.int .i64 a1_0, (.slice A1_1 l1_1.length c1_1), (.slice A1_2 l1_2.length c1_2)] 25 (0, 0))) ∧ Aside0 (Below w.heap.size w wc))
        case first =>
         have H := HC29.out; clear HC29; by_cases c30 : x8_3 = 0
         ·rw [if_pos c30] at H; have c30b0 : (x8_3 == 0) = true := beq_iff_eq.mpr c30; have c30b1 : (x8_3 != 0) = false := bne_eq_false_iff_eq.mpr c30; clear c30; (first | rw [c30b0] | (simp only [i64_w, i32_w]; rw [c30b0]) | skip)
          have H' := am H; clear H; go_wp2; go_meet
          case rel => exact ⟨_, (decide ((l2.length : Int) > 4096)), Z15, H', ⟨by have := HJ3.out; have := HJ12.out; have := HK3.out; first | omega | exact Nat.le_refl _⟩, ⟨Z20⟩, ⟨Z14⟩⟩
         ·rw [if_neg c30] at H; have c30b0 : (x8_3 == 0) = false := beq_eq_false_iff_ne.mpr c30; have c30b1 : (x8_3 != 0) = true := bne_iff_ne.mpr c30; (first | rw [c30b0] | (simp only [i64_w, i32_w]; rw [c30b0]) | skip)
          have H' := am H; clear H; go_wp2; go_meet
          case rel => exact ⟨_, (false), Z15, H', ⟨by have := HJ3.out; have := HJ12.out; have := HK3.out; first | omega | exact Nat.le_refl _⟩, ⟨Z20⟩, ⟨Z14⟩⟩
        case rest =>
         clear HC29; (try clear c1); (try clear c2); (try clear p2); (try clear c3); (try clear c4); (try clear p4); (try clear q4); (try clear hx4); (try clear p6); (try clear c15); (try clear c15b0); (try clear c16); (try clear c18); (try clear c19); (try clear c19b0); (try clear c19b1); (try clear c24); (try clear c24b0); (try clear c24b1); (try clear c25); (try clear c25b0); (try clear c25b1); (try clear c30); (try clear c30b0); (try clear c30b1); (try clear hx465_0); (try clear hx468_0); (try clear p465); (try clear p468); (try clear q465); (try clear q468); obtain ⟨kq, x53_28, rfl, HA, HJ28, BK462, HB⟩ := hcut; cases kq with
         | zero => exact absurd HA.out (by simp [conclaveref11_Many.j3])
         | succ kj28 =>
          have H := HA.out; clear HA; simp only [conclaveref11_Many.j3] at H; have HC31 := am H; clear H; go_upto_if 53 with (fail)
          go_cut [8] (fun v8 wc => ∃ (kq : Nat) (x8_30 : Int), v8 = .int .i64 x8_30 ∧ Aside0 (conclaveref11_Many.j4 kq a0 l2 x8_30 a1_0 l1_1 l1_2 = some (r1, r2)) ∧ Aside0 (kq ≤ kj28) ∧ Aside0 (wc.heap[gb462]? = some (.cells #[.int .i64 a1_0, (.slice A1_1 l1_1.length c1_1), (.slice A1_2 l1_2.length c1_2)] 25 (0, 0))) ∧ Aside0 (Below w.heap.size w wc))
          case first =>
           have H := HC31.out; clear HC31; by_cases c32 : x53_28 = true
           ·subst c32; have H1 : (conclaveref11_Many.j4 kj28 a0 l2 4 a1_0 l1_1 l1_2) = some (r1, r2) := by rw [if_pos rfl] at H; exact H
            clear H; have H := H1; clear H1; have H' := am H; clear H; go_wp2; go_meet
            case rel => exact ⟨_, (4), Z15, H', ⟨by have := HJ3.out; have := HJ12.out; have := HK3.out; have := HJ28.out; first | omega | exact Nat.le_refl _⟩, ⟨Z20⟩, ⟨Z14⟩⟩
           ·replace c32 := Bool.eq_false_iff.mpr c32; subst c32; have H1 : (conclaveref11_Many.j4 kj28 a0 l2 x8_3 a1_0 l1_1 l1_2) = some (r1, r2) := by rw [if_neg (show ¬ (false = true) by decide)] at H; exact H
            clear H; have H := H1; clear H1; have H' := am H; clear H; go_wp2; go_meet
            case rel => exact ⟨_, (x8_3), Z15, H', ⟨by have := HJ3.out; have := HJ12.out; have := HK3.out; have := HJ28.out; first | omega | exact Nat.le_refl _⟩, ⟨Z20⟩, ⟨Z14⟩⟩
          case rest =>
           clear HC31; (try clear c1); (try clear c2); (try clear p2); (try clear c3); (try clear c4); (try clear p4); (try clear q4); (try clear hx4); (try clear p6); (try clear c15); (try clear c15b0); (try clear c16); (try clear c18); (try clear c19); (try clear c19b0); (try clear c19b1); (try clear c24); (try clear c24b0); (try clear c24b1); (try clear c25); (try clear c25b0); (try clear c25b1); (try clear c30); (try clear c30b0); (try clear c30b1); (try clear c32); (try clear hx465_0); (try clear hx468_0); (try clear p2); (try clear p4); (try clear p465); (try clear p468); (try clear p6); (try clear q4); (try clear q465); (try clear q468); obtain ⟨kq, x8_30, rfl, HA, HJ30, BK462, HB⟩ := hcut; cases kq with
           | zero => exact absurd HA.out (by simp [conclaveref11_Many.j4])
           | succ kj30 =>
            have H := HA.out; clear HA; simp only [conclaveref11_Many.j4] at H; have H' := am H; clear H; go_wp2; go_loopg [10, 11] kj30 (fun kq v10 v11 w' => ∃ (x10_6 : List (List Int)) (x11_6 : Int), v11 = .int .i64 x11_6 ∧ Aside0 (conclaveref11_Many.l1 kq a0 l2 x8_30 x10_6 x11_6 a1_0 l1_1 l1_2 = some (r1, r2)) ∧ Aside0 (kq ≤ kj30) ∧ Aside0 (Kd.S (Kd.slice 54 (Kd.int .u64)) 26 w' w.heap.size (fun _ => True) v10 x10_6) ∧ Aside0 (w'.heap[gb462]? = some (.cells #[.int .i64 a1_0, (.slice A1_1 l1_1.length c1_1), (.slice A1_2 l1_2.length c1_2)] 25 (0, 0))) ∧ Aside0 (Below w.heap.size w w'))
            case atStart => exact ⟨(([] : List (List Int))), (0), Z15, H', ⟨Nat.le_refl _⟩, ⟨by first | exact Kd.S_nil _ _ _ _ _ | exact Kd.N_nil _ _ _ _ _ | exact Kd.V_nil _ _ _ _ _ | exact Kd.Q_nil _ _ _ _ _ | exact Kd.R_nil _ _ _ _ _⟩, ⟨Z20⟩, ⟨Z14⟩⟩
            case round =>
             clear H'; (try clear c1); (try clear c2); (try clear p2); (try clear c3); (try clear c4); (try clear p4); (try clear q4); (try clear hx4); (try clear p6); (try clear c15); (try clear c15b0); (try clear c16); (try clear c18); (try clear c19); (try clear c19b0); (try clear c19b1); (try clear c24); (try clear c24b0); (try clear c24b1); (try clear c25); (try clear c25b0); (try clear c25b1); (try clear c30); (try clear c30b0); (try clear c30b1); (try clear c32); (try clear hx465_0); (try clear hx468_0); (try clear p2); (try clear p4); (try clear p465); (try clear p468); (try clear p6); (try clear q4); (try clear q465); (try clear q468); obtain ⟨x10_6, x11_6, rfl, HA, HK6, HO_10, BK462, HB⟩ := hrel; cases gk with
             | zero => exact absurd HA.out (by simp [conclaveref11_Many.l1])
             | succ k6 =>
              have H := HA.out; clear HA; simp only [conclaveref11_Many.l1] at H; by_cases c33 : x11_6 < (l2.length : Int)
              ·rw [if_pos c33] at H; have c33b0 : decide (x11_6 < (l2.length : Int)) = true := decide_eq_true c33; clear c33; by_cases c34 : x8_30 = 0
               ·rw [if_pos c34] at H; have c34b0 : (x8_30 == 0) = true := beq_iff_eq.mpr c34; have c34b1 : (x8_30 != 0) = false := bne_eq_false_iff_eq.mpr c34; clear c34; by_cases c35 : 0 ≤ x11_6
                ·rw [if_pos c35] at H; have c35b0 : decide (0 ≤ x11_6) = true := decide_eq_true c35; clear c35; replace H := Option.bind_eq_some_iff.mp H; obtain ⟨⟨t470, t473⟩, A360, H⟩ := H; replace H : (if x10_6.length < 5864062014805 then (conclaveref11_Many.l1 k6 a0 l2 x8_30 (x10_6 ++ [t470]) (wrap64 (x11_6 + 1)) a1_0 l1_1 l1_2) else (none)) = some (r1, r2) := H; have A36 := am A360; clear A360; by_cases c37 : x10_6.length < 5864062014805
                 ·rw [if_pos c37] at H; have LMc37 := am c37; clear c37; obtain ⟨y474, hy474⟩ : ∃ y_ : List (List Int), y_ = (x10_6 ++ [t470]) := ⟨_, rfl⟩; replace H : (conclaveref11_Many.l1 k6 a0 l2 x8_30 y474 (wrap64 (x11_6 + 1)) a1_0 l1_1 l1_2) = some (r1, r2) := by first | (rw [hy474]; with_reducible exact H) | (have H2_ := (Option.bind_some _ _).symm.trans H; rw [hy474]; with_reducible exact H2_) | (have H2_ := (Option.bind_some _ _).symm.trans H; with_reducible exact H2_) | with_reducible exact H | (rw [hy474]; exact H) | exact H
                  have Ny474 := am hy474; clear hy474; have H' := am H; clear H; (try go_wp2); replace HO_10 := am (Kd.S_drew HO_10.out); replace BK462 := am (blk_drew BK462.out); replace HB := am (below_drew1 HB.out); have p469 : 0 ≤ (x11_6 : Int) := of_decide_eq_true Z6; have q469 : x11_6 < (l2.length : Int) := of_decide_eq_true Z6; obtain ⟨ad469, A469_0, c469_0, e469, hx469_0, hl469_0, hi469_0⟩ := at_L4 HR2.out x11_6 p469 q469; have hw469_0 := hx469_0; cases e469; replace hx469_0 := (HB.out.cell (World.block_lt_of_cell? w _ hx469_0)).trans hx469_0; have HR469_0 := am hi469_0; have HC469_0 := am hl469_0; clear hi469_0 hl469_0; replace p469 := eq_true p469; replace q469 := eq_true q469; refine start_ (n := 12) (S := fun w' => w'.cell? ⟨gb462, 0, none⟩ = some (.int .i64 a1_0) ∧ w'.cell? ⟨gb462, 1, none⟩ = some (.slice A1_1 l1_1.length c1_1) ∧ w'.cell? ⟨gb462, 2, none⟩ = some (.slice A1_2 l1_2.length c1_2) ∧ w'.cell? (ad469.add (x11_6).toNat) = some (.slice A469_0 (rd_L4 l2 x11_6).length c469_0)) (ds := []) #[false, false, false, false, false, false, false, false, false, false, false, false] Z21 rfl rfl ⟨(blk_cell BK462.out 0).trans rfl, (blk_cell BK462.out 1).trans rfl, (blk_cell BK462.out 2).trans rfl, ((HB.out.cell (World.block_lt_of_cell? w _ hw469_0)).trans hw469_0)⟩ (fun hHeld => ?_); refine with_tabW conclaveref11_Many.tab17 conclaveref11_Many.bits17 (fun HT_ HW_ => ?_)
                  generalize wr.drew = w38 at HO_10 BK462 HB HR469_0 hx469_0 hHeld ⊢
                  refine pure_ (i := 0) (N := some 65) (v := ?_) (a' := ?_) #[true, false, false, false, false, false, false, false, false, false, false, false] rfl rfl (any_of HT_.out Z21) (fun _ _ _ h => h) (Or.inl ⟨by rfl, ?_⟩) ?_ ?_; rotate_left
                  ·intro w'; go_simp; with_reducible rfl
                  rotate_left
                  ·simp only [Act.put, List.setIfInBounds_toArray, List.set_cons_zero, List.set_cons_succ, i64_w, i32_w]; rfl
                  refine pure_ (i := 2) (N := some 67) (v := ?_) (a' := ?_) #[true, false, true, false, false, false, false, false, false, false, false, false] rfl rfl (any_of HT_.out Z21) (fun _ _ _ h => h) (Or.inl ⟨by rfl, ?_⟩) ?_ ?_; rotate_left
                  ·intro w'; go_simp; with_reducible rfl
                  rotate_left
                  ·simp only [Act.put, List.setIfInBounds_toArray, List.set_cons_zero, List.set_cons_succ, i64_w, i32_w]; rfl
                  refine pure_ (i := 3) (N := some 68) (v := ?_) (a' := ?_) #[true, false, true, true, false, false, false, false, false, false, false, false] rfl rfl (any_of HT_.out Z21) (fun _ _ _ h => h) (Or.inl ⟨by rfl, ?_⟩) ?_ ?_; rotate_left
                  ·intro w'; go_simp; with_reducible rfl
                  rotate_left
                  ·simp only [Act.put, List.setIfInBounds_toArray, List.set_cons_zero, List.set_cons_succ, i64_w, i32_w]; rfl
                  refine pure_ (i := 4) (N := some 69) (v := ?_) (a' := ?_) #[true, false, true, true, true, false, false, false, false, false, false, false] rfl rfl (any_of HT_.out Z21) (fun _ _ _ h => h) (Or.inl ⟨by rfl, ?_⟩) ?_ ?_; rotate_left
                  ·intro w'; go_simp; with_reducible rfl
                  rotate_left
                  ·simp only [Act.put, List.setIfInBounds_toArray, List.set_cons_zero, List.set_cons_succ, i64_w, i32_w]; rfl
                  refine take_ (i := 1) (N := some 66) (v := ?_) (a' := ?_) #[true, true, true, true, true, false, false, false, false, false, false, false] rfl rfl (take_ofW HT_.out HW_.out Z21) (fun _ _ _ h => h) (Or.inl ⟨by rfl, ?_⟩) hHeld ?_ ?_; rotate_left
                  ·rintro w' ⟨s0, s1, s2, s3⟩; go_simp; with_reducible rfl
                  rotate_left
                  ·simp only [Act.put, List.setIfInBounds_toArray, List.set_cons_zero, List.set_cons_succ, i64_w, i32_w]; rfl
                  refine take_ (i := 5) (N := some 70) (v := ?_) (a' := ?_) #[true, true, true, true, true, true, false, false, false, false, false, false] rfl rfl (take_ofW HT_.out HW_.out Z21) (fun _ _ _ h => h) (Or.inl ⟨by rfl, ?_⟩) hHeld ?_ ?_; rotate_left
                  ·rintro w' ⟨s0, s1, s2, s3⟩; go_simp; with_reducible rfl
                  rotate_left
                  ·simp only [Act.put, List.setIfInBounds_toArray, List.set_cons_zero, List.set_cons_succ, i64_w, i32_w]; rfl
                  refine one_ (i := 6) (N := some 71) #[true, true, true, true, true, true, true, false, false, false, false, false] rfl rfl (one_of HT_.out Z21) Z66 (fun K hK => ?_); refine goes_ Try.func11 Z21 rfl #[.int .u8 a0, .agg #[.int .i64 a1_0, .slice A1_1 l1_1.length c1_1, .slice A1_2 l1_2.length c1_2], .slice A469_0 (rd_L4 l2 x11_6).length c469_0] (by rfl) rfl rfl Z4 ?_; with_reducible refine (conclaveref11_Run.calls k6 a0 a1_0 _ _ l1_1 _ _ l1_2 _ _ (rd_L4 l2 x11_6) t470 t473 _ ?side1 ?side2 ?side3 ?side4 ?side5 ?side6 A36.out).mono ?_; (case side1 => repeat (first | exact (Kd.C_below HR1_1.out HB.out) | (with_reducible refine Kd.C_alloc ?_ _) | (with_reducible refine Kd.C_drewN ?_ _) | (with_reducible refine Kd.C_drew ?_)))
                  (case side2 => exact HC1_1.out)
                  (case side3 => repeat (first | exact (Kd.C_below HR1_2.out HB.out) | (with_reducible refine Kd.C_alloc ?_ _) | (with_reducible refine Kd.C_drewN ?_ _) | (with_reducible refine Kd.C_drew ?_)))
                  (case side4 => exact HC1_2.out)
                  (case side5 => repeat (first | exact (Kd.C_below HR469_0.out HB.out) | (with_reducible refine Kd.C_alloc ?_ _) | (with_reducible refine Kd.C_drewN ?_ _) | (with_reducible refine Kd.C_drew ?_)))
                  (case side6 => exact HC469_0.out)
                  rintro e w39 ⟨v471, rfl, ho0, hb⟩; refine ⟨_, rfl, ?_⟩; replace HO_10 := am (Kd.S_elder' Z106 (Kd.R_base ho0) hb); have HO472 := am (Kd.R_lower ho0 (below_size Z14)); replace BK462 := am (blk_below (g := gb462) (o := .cells #[.int .i64 a1_0, .slice A1_1 l1_1.length c1_1, .slice A1_2 l1_2.length c1_2] 25 (0, 0)) Z20 hb); replace HB := am (below_step Z14 hb); (try clear hb)
                  (try clear hb2)
                  (try clear hk)
                  (try clear hi)
                  (try clear ho0)
                  refine hK.out _ _ ⟨(blk_cell BK462.out 0).trans rfl, (blk_cell BK462.out 1).trans rfl, (blk_cell BK462.out 2).trans rfl, ((HB.out.cell (World.block_lt_of_cell? w _ hw469_0)).trans hw469_0)⟩ (fun hHeld => ?_); clear hK K; refine norm_ (a' := ?_) ?_ ?_; rotate_left
                  ·show Act.put _ (some 71) _ = _
                   simp only [Act.put, List.setIfInBounds_toArray, List.set_cons_zero, List.set_cons_succ, i64_w, i32_w]; rfl
                  refine pure_ (i := 7) (N := some 64) (v := ?_) (a' := ?_) #[true, true, true, true, true, true, true, true, false, false, false, false] rfl rfl (any_of HT_.out Z21) (fun _ _ _ h => h) (Or.inl ⟨by rfl, ?_⟩) ?_ ?_; rotate_left
                  ·intro w'; go_simp; with_reducible rfl
                  rotate_left
                  ·simp only [Act.put, List.setIfInBounds_toArray, List.set_cons_zero, List.set_cons_succ, i64_w, i32_w]; rfl
                  refine pure_ (i := 8) (N := some 72) (v := ?_) (a' := ?_) #[true, true, true, true, true, true, true, true, true, false, false, false] rfl rfl (any_of HT_.out Z21) (fun _ _ _ h => h) (Or.inl ⟨by rfl, ?_⟩) ?_ ?_; rotate_left
                  ·intro w'; go_simp; with_reducible rfl
                  rotate_left
                  ·simp only [Act.put, List.setIfInBounds_toArray, List.set_cons_zero, List.set_cons_succ, i64_w, i32_w]; rfl
                  refine pure_ (i := 9) (N := some 73) (v := ?_) (a' := ?_) #[true, true, true, true, true, true, true, true, true, true, false, false] rfl rfl (any_of HT_.out Z21) (fun _ _ _ h => h) (Or.inl ⟨by rfl, ?_⟩) ?_ ?_; rotate_left
                  ·intro w'; go_simp; with_reducible rfl
                  rotate_left
                  ·simp only [Act.put, List.setIfInBounds_toArray, List.set_cons_zero, List.set_cons_succ, i64_w, i32_w]; rfl
                  refine pure_ (i := 10) (N := some 12) (v := ?_) (a' := ?_) #[true, true, true, true, true, true, true, true, true, true, true, false] rfl rfl (any_of HT_.out Z21) (fun _ _ _ h => h) (Or.inl ⟨by rfl, ?_⟩) ?_ ?_; rotate_left
                  ·intro w'; go_simp; with_reducible rfl
                  rotate_left
                  ·simp only [Act.put, List.setIfInBounds_toArray, List.set_cons_zero, List.set_cons_succ, i64_w, i32_w]; rfl
                  refine pure_ (i := 11) (N := some 13) (v := ?_) (a' := ?_) #[true, true, true, true, true, true, true, true, true, true, true, true] rfl rfl (any_of HT_.out Z21) (fun _ _ _ h => h) (Or.inl ⟨by rfl, ?_⟩) ?_ ?_; rotate_left
                  ·intro w'; go_simp; with_reducible rfl
                  rotate_left
                  ·simp only [Act.put, List.setIfInBounds_toArray, List.set_cons_zero, List.set_cons_succ, i64_w, i32_w]; rfl
                  refine done_ (done_of HT_.out Z21) ?_; obtain ⟨Ao41, co41, eo41⟩ := Kd.R_slice HO472.out; subst eo41; (try go_wp2_with (first | ((with_reducible refine gate_builtin (b := .append) (xs := #[.tmp 74, .tmp 76]) rfl ?_); (try (refine gate_guard (by rfl) ?_; dsimp only)); at_builtin; refine Kd.S_append (Kd.slice 54 (Kd.int .u64)) (w0 := w) w.heap.size rfl (.tmp 74) (.tmp 76) 41 26 (.slice none 0 0) 24 rfl Try.underlying41 info26 rfl Z66 (by omega) u10 x10_6 t470 [.slice Ao41 t470.length co41] (fun _ => True) (fun k_ => some k_ = (.slice Ao41 t470.length co41 : Value).ownBlock) rfl rfl ?aP (fun k_ hk_ => ((Kd.R_mono (ok' := fun k_ => ((fun _ => True)) k_ ∧ some k_ ≠ (u10 : Value).ownBlock) (Kd.R_apart' (HO472.out) (Kd.S_typed HO_10.out) Z66) (fun k_ hk => ⟨trivial, hk.2⟩))).1 k_ hk_.symm) ?aF ?aO ?aB ?aS ?aL ?_; (case aP => exact Kd.M_row (Kd.R_mono (Kd.R_tight rfl (Kd.R_mono (ok' := fun k_ => ((fun _ => True)) k_ ∧ some k_ ≠ (u10 : Value).ownBlock) (Kd.R_apart' (HO472.out) (Kd.S_typed HO_10.out) Z66) (fun k_ hk => ⟨trivial, hk.2⟩))) (fun _ h_ => h_))); (case aB => exact Z14); (case aF => exact (fun _ _ => trivial)); (case aO => exact (by (with_reducible repeat (first | apply Kd.S_alloc | apply Kd.S_drewN | apply Kd.S_drew)); exact Kd.S_mono HO_10.out (fun k_ hk => ⟨trivial, fun e_ => hk.2 e_⟩))); (case aS => exact (below_size Z14)); (case aL => have := LMc37.out; omega); intro v475 w40 ho hb hg hat; rw [← Ny474.out] at ho; replace BK462 := am (blk_grown (g := gb462) (o := .cells #[.int .i64 a1_0, .slice A1_1 l1_1.length c1_1, .slice A1_2 l1_2.length c1_2] 25 (0, 0)) Z20 hg (Kd.S_ne HO_10.out BK462.out Z66)); replace HB := am (hb); have HO476 := am (ho); clear HO_10 HO472; clear ho hb hg hat))); go_roundg k6
                  case measure => have := HJ3.out; have := HJ12.out; have := HK3.out; have := HJ28.out; have := HJ30.out; have := HK6.out; omega
                  case rel => exact ⟨(y474), (wrap64 (x11_6 + 1)), Z15, H', ⟨by have := HJ3.out; have := HJ12.out; have := HK3.out; have := HJ28.out; have := HJ30.out; have := HK6.out; omega⟩, ⟨by (with_reducible repeat (first | apply Kd.S_alloc | apply Kd.S_drewN | apply Kd.S_drew)); exact HO476.out⟩, ⟨Z20⟩, ⟨Z14⟩⟩
                 ·rw [if_neg c37] at H; exact absurd H (by simp)
                ·rw [if_neg c35] at H; exact absurd H (by simp)
               ·rw [if_neg c34] at H; have c34b0 : (x8_30 == 0) = false := beq_eq_false_iff_ne.mpr c34; have c34b1 : (x8_30 != 0) = true := bne_iff_ne.mpr c34; simp only [Option.some.injEq, Prod.mk.injEq] at H; obtain ⟨rfl, rfl⟩ := H; go_wp2; go_ret2; exact ⟨_, Z7, Z106, Z14⟩
              ·rw [if_neg c33] at H; have c33b0 : decide (x11_6 < (l2.length : Int)) = false := decide_eq_false c33; clear c33; simp only [Option.some.injEq, Prod.mk.injEq] at H; obtain ⟨rfl, rfl⟩ := H; go_wp2; go_ret2; exact ⟨_, Z7, Z106, Z14⟩
end Go.Proofs.Ytkhnngmighjaiaa.P
end
section
namespace Go.Proofs.Ytkhnngmighjaiaa.P
open Go.RowKit Go.Proofs.YtkhnngmighjaiaaW.PrintWords Go.Proofs.YtkhnngmighjaiaaW.PrintLast Go.Proofs.YtkhnngmighjaiaaW.PrintMore
attribute [local go_sem] max2_int min2_int max_two min_two max_three min_three max_four min_four
set_option linter.unusedVariables false
set_option linter.unusedSimpArgs false
def conclaveref01_Rows.l0 : Nat → List (List Int) → List (List Int) → Int → Option (Bool)
 | 0, _, _, _ => none
 | k + 1, x0, x1, x5 => if x5 < (x0.length : Int) then (if 0 ≤ x5 then (if x5 < (x1.length : Int) then ((conclaveref01_Same.f k (rd_L4 x0 x5) (rd_L4 x1 x5)).bind fun t479 => (if t479 = true then (conclaveref01_Rows.l0 k x0 x1 (wrap64 (x5 + 1))) else (some false))) else (none)) else (none)) else (some true)
def conclaveref01_Rows.f (k : Nat) (l0 : List (List Int)) (l1 : List (List Int)) : Option (Bool) := if (l0.length : Int) = (l1.length : Int) then (conclaveref01_Rows.l0 k l0 l1 0) else (some false)
set_option maxHeartbeats 8000000 in
set_option maxRecDepth 100000 in
theorem conclaveref01_Rows.calls (k : Nat) (A0 : Option Addr) (c0 : Nat) (l0 : List (List Int)) (A1 : Option Addr) (c1 : Nat) (l1 : List (List Int)) (r : Bool) (w : World) (hr0 : Kd.C (Kd.slice 54 (Kd.int .u64)) w A0 l0.length l0) (hc0 : l0.length ≤ c0) (hr1 : Kd.C (Kd.slice 54 (Kd.int .u64)) w A1 l1.length l1) (hc1 : l1.length ≤ c1) (h : conclaveref01_Rows.f k l0 l1 = some r) :
  Calls Try.prog 20 #[.slice A0 l0.length c0, .slice A1 l1.length c1] w fun e w' => e = .returned (.bool r) ∧ Drawn0 w w' := by
 have HR0 := am hr0; have HC0 := am hc0; clear hr0 hc0; have HR1 := am hr1; have HC1 := am hc1; clear hr1 hc1; have H : (if (l0.length : Int) = (l1.length : Int) then (conclaveref01_Rows.l0 k l0 l1 0) else (some false)) = some r := h; clear h; by_cases c3 : (l0.length : Int) = (l1.length : Int)
 ·rw [if_pos c3] at H; have c3b0 : ((l0.length : Int) == (l1.length : Int)) = true := beq_iff_eq.mpr c3; have c3b1 : ((l0.length : Int) != (l1.length : Int)) = false := bne_eq_false_iff_eq.mpr c3; have c3b2 : (l0.length == l1.length) = true := by first | simpa using c3 | (simp at c3 ⊢; omega)
  clear c3; have H' := am H; clear H; go_enter Try.func20, Try.ntmps20
  go_wp2; repeat (go_quiet (fail); try go_wp2)
  go_loopg [5] k (fun kq v5 w' => ∃ (x5_1 : Int), v5 = .int .i64 x5_1 ∧ Aside0 (conclaveref01_Rows.l0 kq l0 l1 x5_1 = some r) ∧ Aside0 (kq ≤ k) ∧ Drawn0 w w')
  case atStart => exact ⟨(0), Z15, H', ⟨Nat.le_refl _⟩, Z31⟩
  case round =>
   clear H'; (try clear c1); (try clear c2); (try clear p2); (try clear c3); (try clear c3b0); (try clear c3b1); (try clear c3b2); obtain ⟨x5_1, rfl, HA, HK1, ⟨m1, rfl⟩⟩ := hrel; cases gk with
   | zero => exact absurd HA.out (by simp [conclaveref01_Rows.l0])
   | succ k1 =>
    have H := HA.out; clear HA; simp only [conclaveref01_Rows.l0] at H; by_cases c4 : x5_1 < (l0.length : Int)
    ·rw [if_pos c4] at H; have c4b0 : decide (x5_1 < (l0.length : Int)) = true := decide_eq_true c4; clear c4; by_cases c5 : 0 ≤ x5_1
     ·rw [if_pos c5] at H; have c5b0 : decide (0 ≤ x5_1) = true := decide_eq_true c5; clear c5; by_cases c6 : x5_1 < (l1.length : Int)
      ·rw [if_pos c6] at H; have c6b0 : decide (x5_1 < (l1.length : Int)) = true := decide_eq_true c6; clear c6; replace H := Option.bind_eq_some_iff.mp H; obtain ⟨t479, A70, H⟩ := H; replace H : (if t479 = true then (conclaveref01_Rows.l0 k1 l0 l1 (wrap64 (x5_1 + 1))) else (some false)) = some r := H; have A7 := am A70; clear A70; by_cases c8 : t479 = true
       ·subst c8; have H1 : (conclaveref01_Rows.l0 k1 l0 l1 (wrap64 (x5_1 + 1))) = some r := by rw [if_pos rfl] at H; exact H
        clear H; have H := H1; clear H1; have H' := am H; clear H; have p477 : 0 ≤ (x5_1 : Int) := of_decide_eq_true Z6; have q477 : x5_1 < (l0.length : Int) := of_decide_eq_true Z6; obtain ⟨ad477, A477_0, c477_0, e477, hx477_0, hl477_0, hi477_0⟩ := at_L4 HR0.out x5_1 p477 q477; cases e477; have HR477_0 := am hi477_0; have HC477_0 := am hl477_0; clear hi477_0 hl477_0; replace p477 := eq_true p477; replace q477 := eq_true q477; have p478 : 0 ≤ (x5_1 : Int) := of_decide_eq_true Z6; have q478 : x5_1 < (l1.length : Int) := of_decide_eq_true Z6; obtain ⟨ad478, A478_0, c478_0, e478, hx478_0, hl478_0, hi478_0⟩ := at_L4 HR1.out x5_1 p478 q478; cases e478; have HR478_0 := am hi478_0; have HC478_0 := am hl478_0; clear hi478_0 hl478_0; replace p478 := eq_true p478; replace q478 := eq_true q478; go_wp2_with (first | (go_at_call 14; (with_reducible refine (conclaveref01_Same.calls k1 _ _ (rd_L4 l0 x5_1) _ _ (rd_L4 l1 x5_1) true _ ?side1 ?side2 ?side3 ?side4 A7.out).mono ?_); (case side1 => repeat (first | exact HR477_0.out | (with_reducible refine Kd.C_alloc ?_ _) | (with_reducible refine Kd.C_drewN ?_ _) | (with_reducible refine Kd.C_drew ?_))); (case side2 => exact HC477_0.out); (case side3 => repeat (first | exact HR478_0.out | (with_reducible refine Kd.C_alloc ?_ _) | (with_reducible refine Kd.C_drewN ?_ _) | (with_reducible refine Kd.C_drew ?_))); (case side4 => exact HC478_0.out); rintro e w' ⟨rfl, ⟨nd, rfl⟩⟩; (try first | exact ⟨rfl, _, World.drewN_drewN _ _ _⟩ | exact ⟨rfl, _, Eq.trans (World.drewN_drewN _ _ _) (congrArg (World.drewN _) (Nat.add_assoc _ _ _))⟩)))
        repeat (go_quiet (first | (go_at_call 14; (with_reducible refine (conclaveref01_Same.calls k1 _ _ (rd_L4 l0 x5_1) _ _ (rd_L4 l1 x5_1) true _ ?side1 ?side2 ?side3 ?side4 A7.out).mono ?_); (case side1 => repeat (first | exact HR477_0.out | (with_reducible refine Kd.C_alloc ?_ _) | (with_reducible refine Kd.C_drewN ?_ _) | (with_reducible refine Kd.C_drew ?_))); (case side2 => exact HC477_0.out); (case side3 => repeat (first | exact HR478_0.out | (with_reducible refine Kd.C_alloc ?_ _) | (with_reducible refine Kd.C_drewN ?_ _) | (with_reducible refine Kd.C_drew ?_))); (case side4 => exact HC478_0.out); rintro e w' ⟨rfl, ⟨nd, rfl⟩⟩; (try first | exact ⟨rfl, _, World.drewN_drewN _ _ _⟩ | exact ⟨rfl, _, Eq.trans (World.drewN_drewN _ _ _) (congrArg (World.drewN _) (Nat.add_assoc _ _ _))⟩))); try go_wp2_with (first | (go_at_call 14; (with_reducible refine (conclaveref01_Same.calls k1 _ _ (rd_L4 l0 x5_1) _ _ (rd_L4 l1 x5_1) true _ ?side1 ?side2 ?side3 ?side4 A7.out).mono ?_); (case side1 => repeat (first | exact HR477_0.out | (with_reducible refine Kd.C_alloc ?_ _) | (with_reducible refine Kd.C_drewN ?_ _) | (with_reducible refine Kd.C_drew ?_))); (case side2 => exact HC477_0.out); (case side3 => repeat (first | exact HR478_0.out | (with_reducible refine Kd.C_alloc ?_ _) | (with_reducible refine Kd.C_drewN ?_ _) | (with_reducible refine Kd.C_drew ?_))); (case side4 => exact HC478_0.out); rintro e w' ⟨rfl, ⟨nd, rfl⟩⟩; (try first | exact ⟨rfl, _, World.drewN_drewN _ _ _⟩ | exact ⟨rfl, _, Eq.trans (World.drewN_drewN _ _ _) (congrArg (World.drewN _) (Nat.add_assoc _ _ _))⟩))))
        go_roundg k1
        case measure => have := HK1.out; omega
        case rel => exact ⟨(wrap64 (x5_1 + 1)), Z15, H', ⟨Z103⟩, Z31⟩
       ·replace c8 := Bool.eq_false_iff.mpr c8; subst c8; have H1 : (some false) = some r := by rw [if_neg (show ¬ (false = true) by decide)] at H; exact H
        clear H; have H := H1; clear H1; obtain rfl := Option.some.inj H; have p477 : 0 ≤ (x5_1 : Int) := of_decide_eq_true Z6; have q477 : x5_1 < (l0.length : Int) := of_decide_eq_true Z6; obtain ⟨ad477, A477_0, c477_0, e477, hx477_0, hl477_0, hi477_0⟩ := at_L4 HR0.out x5_1 p477 q477; cases e477; have HR477_0 := am hi477_0; have HC477_0 := am hl477_0; clear hi477_0 hl477_0; replace p477 := eq_true p477; replace q477 := eq_true q477; have p478 : 0 ≤ (x5_1 : Int) := of_decide_eq_true Z6; have q478 : x5_1 < (l1.length : Int) := of_decide_eq_true Z6; obtain ⟨ad478, A478_0, c478_0, e478, hx478_0, hl478_0, hi478_0⟩ := at_L4 HR1.out x5_1 p478 q478; cases e478; have HR478_0 := am hi478_0; have HC478_0 := am hl478_0; clear hi478_0 hl478_0; replace p478 := eq_true p478; replace q478 := eq_true q478; go_wp2_with (first | (go_at_call 14; (with_reducible refine (conclaveref01_Same.calls k1 _ _ (rd_L4 l0 x5_1) _ _ (rd_L4 l1 x5_1) false _ ?side1 ?side2 ?side3 ?side4 A7.out).mono ?_); (case side1 => repeat (first | exact HR477_0.out | (with_reducible refine Kd.C_alloc ?_ _) | (with_reducible refine Kd.C_drewN ?_ _) | (with_reducible refine Kd.C_drew ?_))); (case side2 => exact HC477_0.out); (case side3 => repeat (first | exact HR478_0.out | (with_reducible refine Kd.C_alloc ?_ _) | (with_reducible refine Kd.C_drewN ?_ _) | (with_reducible refine Kd.C_drew ?_))); (case side4 => exact HC478_0.out); rintro e w' ⟨rfl, ⟨nd, rfl⟩⟩; (try first | exact ⟨rfl, _, World.drewN_drewN _ _ _⟩ | exact ⟨rfl, _, Eq.trans (World.drewN_drewN _ _ _) (congrArg (World.drewN _) (Nat.add_assoc _ _ _))⟩)))
        repeat (go_quiet (first | (go_at_call 14; (with_reducible refine (conclaveref01_Same.calls k1 _ _ (rd_L4 l0 x5_1) _ _ (rd_L4 l1 x5_1) false _ ?side1 ?side2 ?side3 ?side4 A7.out).mono ?_); (case side1 => repeat (first | exact HR477_0.out | (with_reducible refine Kd.C_alloc ?_ _) | (with_reducible refine Kd.C_drewN ?_ _) | (with_reducible refine Kd.C_drew ?_))); (case side2 => exact HC477_0.out); (case side3 => repeat (first | exact HR478_0.out | (with_reducible refine Kd.C_alloc ?_ _) | (with_reducible refine Kd.C_drewN ?_ _) | (with_reducible refine Kd.C_drew ?_))); (case side4 => exact HC478_0.out); rintro e w' ⟨rfl, ⟨nd, rfl⟩⟩; (try first | exact ⟨rfl, _, World.drewN_drewN _ _ _⟩ | exact ⟨rfl, _, Eq.trans (World.drewN_drewN _ _ _) (congrArg (World.drewN _) (Nat.add_assoc _ _ _))⟩))); try go_wp2_with (first | (go_at_call 14; (with_reducible refine (conclaveref01_Same.calls k1 _ _ (rd_L4 l0 x5_1) _ _ (rd_L4 l1 x5_1) false _ ?side1 ?side2 ?side3 ?side4 A7.out).mono ?_); (case side1 => repeat (first | exact HR477_0.out | (with_reducible refine Kd.C_alloc ?_ _) | (with_reducible refine Kd.C_drewN ?_ _) | (with_reducible refine Kd.C_drew ?_))); (case side2 => exact HC477_0.out); (case side3 => repeat (first | exact HR478_0.out | (with_reducible refine Kd.C_alloc ?_ _) | (with_reducible refine Kd.C_drewN ?_ _) | (with_reducible refine Kd.C_drew ?_))); (case side4 => exact HC478_0.out); rintro e w' ⟨rfl, ⟨nd, rfl⟩⟩; (try first | exact ⟨rfl, _, World.drewN_drewN _ _ _⟩ | exact ⟨rfl, _, Eq.trans (World.drewN_drewN _ _ _) (congrArg (World.drewN _) (Nat.add_assoc _ _ _))⟩))))
        go_ret; exact ⟨Z15, Z31⟩
      ·rw [if_neg c6] at H; exact absurd H (by simp)
     ·rw [if_neg c5] at H; exact absurd H (by simp)
    ·rw [if_neg c4] at H; have c4b0 : decide (x5_1 < (l0.length : Int)) = false := decide_eq_false c4; clear c4; obtain rfl := Option.some.inj H; go_wp2; repeat (go_quiet (fail); try go_wp2)
     go_ret; exact ⟨Z15, Z31⟩
 ·rw [if_neg c3] at H; have c3b0 : ((l0.length : Int) == (l1.length : Int)) = false := beq_eq_false_iff_ne.mpr c3; have c3b1 : ((l0.length : Int) != (l1.length : Int)) = true := bne_iff_ne.mpr c3; have c3b2 : (l0.length == l1.length) = false := by first | simpa using c3 | (simp at c3 ⊢; omega)
  obtain rfl := Option.some.inj H; go_enter Try.func20, Try.ntmps20
  go_wp2; repeat (go_quiet (fail); try go_wp2)
  go_ret; exact ⟨Z15, Z31⟩
end Go.Proofs.Ytkhnngmighjaiaa.P
end
