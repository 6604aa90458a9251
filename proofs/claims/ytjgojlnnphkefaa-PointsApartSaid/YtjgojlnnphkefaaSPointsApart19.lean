import Derived.Test.YtjgojlnnphkefaaSPointsApart16
import Derived.Test.YtjgojlnnphkefaaSPointsApart18
section
namespace Go.Proofs.Ytjgojlnnphkefaa.P
open Go.RowKit Go.Proofs.YtjgojlnnphkefaaW.PrintWords Go.Proofs.YtjgojlnnphkefaaW.PrintLast Go.Proofs.YtjgojlnnphkefaaW.PrintMore
attribute [local go_sem] max2_int min2_int max_two min_two max_three min_three max_four min_four
set_option linter.unusedVariables false
set_option linter.unusedSimpArgs false
mutual
def conclavelaw13_PointsApart.j0 : Nat → List Int → List Int → List Int → Bool → Int → Int → Int → Int → Int → Int → Int → Int → Option (Bool)
  | 0, _, _, _, _, _, _, _, _, _, _, _, _ => none
  | k + 1, x3, x5, x7, x76, x1088000, x1088001, x1088002, x1088003, x1088004, x1088005, x1088006, x1088007 => if x76 = true then (some false) else ((conclaveref01_Copy.f x3).bind fun t1102 => (if t1102.length + x5.length < 17592186044416 then ((some (t1102 ++ x5 : List Int)).bind fun y1105 => (if y1105.length + x7.length < 17592186044416 then (conclavelaw13_PointsApart.l0 k (y1105 ++ x7) 0 x1088000 x1088001 x1088002 x1088003 x1088004 x1088005 x1088006 x1088007) else (none))) else (none)))
def conclavelaw13_PointsApart.l0 : Nat → List Int → Int → Int → Int → Int → Int → Int → Int → Int → Int → Option (Bool)
  | 0, _, _, _, _, _, _, _, _, _, _ => none
  | k + 1, x9, x10, x1088000, x1088001, x1088002, x1088003, x1088004, x1088005, x1088006, x1088007 => if x10 < (x9.length : Int) then (conclavelaw13_PointsApart.l1 k x9 x10 0 x1088000 x1088001 x1088002 x1088003 x1088004 x1088005 x1088006 x1088007) else ((conclavelaw13_anchored.f k).bind fun t1111 => (if t1111 = true then ((conclaveref01_In.f k x1088000 x9).bind fun t1112 => (some t1112)) else (some false)))
def conclavelaw13_PointsApart.l1 : Nat → List Int → Int → Int → Int → Int → Int → Int → Int → Int → Int → Int → Option (Bool)
  | 0, _, _, _, _, _, _, _, _, _, _, _ => none
  | k + 1, x9, x10, x11, x1088000, x1088001, x1088002, x1088003, x1088004, x1088005, x1088006, x1088007 => if x11 < x10 then (if 0 ≤ x10 then (if x10 < (x9.length : Int) then (if 0 ≤ x11 then (if x11 < (x9.length : Int) then (if (rd x9 x10) = (rd x9 x11) then (some false) else (conclavelaw13_PointsApart.l1 k x9 x10 (wrap64 (x11 + 1)) x1088000 x1088001 x1088002 x1088003 x1088004 x1088005 x1088006 x1088007)) else (none)) else (none)) else (none)) else (none)) else (if 0 ≤ x10 then (if x10 < (x9.length : Int) then ((points_Worker.f k x1088000 x1088001 x1088002 x1088003 x1088004 x1088005 x1088006 x1088007 (rd x9 x10)).bind fun bt1116 => (if bt1116.2.2 = 0 then (if (bt1116.2.1 != (decide (x10 ≥ (wrap64 (x1088002 + x1088003))))) = true then (some false) else (if bt1116.2.1 = true then (if bt1116.1 = (wrap64 ((wrap64 (x10 - x1088002)) - x1088003)) then (conclavelaw13_PointsApart.l0 k x9 (wrap64 (x10 + 1)) x1088000 x1088001 x1088002 x1088003 x1088004 x1088005 x1088006 x1088007) else (some false)) else (conclavelaw13_PointsApart.l0 k x9 (wrap64 (x10 + 1)) x1088000 x1088001 x1088002 x1088003 x1088004 x1088005 x1088006 x1088007))) else (some false))) else (none)) else (none))
end
def conclavelaw13_PointsApart.f (k : Nat) (a0_0 : Int) (a0_1 : Int) (a0_2 : Int) (a0_3 : Int) (a0_4 : Int) (a0_5 : Int) (a0_6 : Int) (a0_7 : Int) : Option (Bool) := (points_Data.f k a0_0 a0_1 a0_2 a0_3 a0_4 a0_5 a0_6 a0_7).bind fun bt1088 => ((points_Pads.f k a0_0 a0_1 a0_2 a0_3 a0_4 a0_5 a0_6 a0_7).bind fun bt1092 => ((points_Workers.f k a0_0 a0_1 a0_2 a0_3 a0_4 a0_5 a0_6 a0_7).bind fun bt1096 => ((conclaveref12_May.f a0_0 a0_1 a0_2 a0_3 a0_4 a0_5 a0_6 a0_7).bind fun t1100 => (if t1100 = true then (if bt1088.2 = 0 then (if bt1092.2 = 0 then (if bt1096.2 = 0 then (if (bt1088.1.length : Int) = a0_2 then (if (bt1092.1.length : Int) = a0_3 then (conclavelaw13_PointsApart.j0 k bt1088.1 bt1092.1 bt1096.1 ((bt1096.1.length : Int) != a0_1) a0_0 a0_1 a0_2 a0_3 a0_4 a0_5 a0_6 a0_7) else (conclavelaw13_PointsApart.j0 k bt1088.1 bt1092.1 bt1096.1 true a0_0 a0_1 a0_2 a0_3 a0_4 a0_5 a0_6 a0_7)) else (conclavelaw13_PointsApart.j0 k bt1088.1 bt1092.1 bt1096.1 true a0_0 a0_1 a0_2 a0_3 a0_4 a0_5 a0_6 a0_7)) else (conclavelaw13_PointsApart.j0 k bt1088.1 bt1092.1 bt1096.1 true a0_0 a0_1 a0_2 a0_3 a0_4 a0_5 a0_6 a0_7)) else (conclavelaw13_PointsApart.j0 k bt1088.1 bt1092.1 bt1096.1 true a0_0 a0_1 a0_2 a0_3 a0_4 a0_5 a0_6 a0_7)) else (conclavelaw13_PointsApart.j0 k bt1088.1 bt1092.1 bt1096.1 true a0_0 a0_1 a0_2 a0_3 a0_4 a0_5 a0_6 a0_7)) else ((conclavelaw13_anchored.f k).bind fun t1101 => (if t1101 = true then (if bt1088.2 = 2 then (if bt1092.2 = 2 then (some (bt1096.2 == 2)) else (some false)) else (some false)) else (some false)))))))
def conclavelaw13_PointsApart.T15 : Bool × List (List Nat × List Nat) := (true, [([], []), ([], []), ([0, 1], [0, 1]), ([2], [2]), ([], []), ([], []), ([4, 5], [4, 5]), ([6], [6]), ([3, 7], [3, 7])])
def conclavelaw13_PointsApart.B15 : List Nat := [0, 0, 3, 7, 0, 0, 48, 112, 255]
theorem conclavelaw13_PointsApart.tab15 : rtab .any (opsOf Try.f14 15) = conclavelaw13_PointsApart.T15 := by kernel_rfl
theorem conclavelaw13_PointsApart.bits15 : waitsOk conclavelaw13_PointsApart.T15.2 conclavelaw13_PointsApart.B15 = true := by kernel_rfl
def conclavelaw13_PointsApart.T17 : Bool × List (List Nat × List Nat) := (true, [([], []), ([], []), ([], []), ([1, 2], [1, 2]), ([3], [3]), ([0, 4], [0, 4]), ([5], [5]), ([6], [6]), ([6], [6]), ([6], [6]), ([7, 5, 0, 1, 2, 3, 4, 5, 6, 7], [7]), ([8, 10, 0, 1, 2, 3, 4, 5, 6, 7, 8, 10], [8]), ([9, 11, 0, 1, 2, 3, 4, 5, 6, 7, 8, 9, 10, 11], [9])])
def conclavelaw13_PointsApart.B17 : List Nat := [0, 0, 0, 6, 14, 31, 63, 127, 127, 127, 255, 1535, 4095]
theorem conclavelaw13_PointsApart.tab17 : rtab .any (opsOf Try.f14 17) = conclavelaw13_PointsApart.T17 := by kernel_rfl
theorem conclavelaw13_PointsApart.bits17 : waitsOk conclavelaw13_PointsApart.T17.2 conclavelaw13_PointsApart.B17 = true := by kernel_rfl
set_option maxHeartbeats 8000000 in
set_option maxRecDepth 100000 in
theorem conclavelaw13_PointsApart.calls (k : Nat) (a0_0 : Int) (a0_1 : Int) (a0_2 : Int) (a0_3 : Int) (a0_4 : Int) (a0_5 : Int) (a0_6 : Int) (a0_7 : Int) (r : Bool) (w : World) (h : conclavelaw13_PointsApart.f k a0_0 a0_1 a0_2 a0_3 a0_4 a0_5 a0_6 a0_7 = some r) (hrt : r = true) :
    Calls Try.prog 14 #[.agg #[.int .u8 a0_0, .int .i64 a0_1, .int .i64 a0_2, .int .i64 a0_3, .int .i64 a0_4, .int .i64 a0_5, .int .i64 a0_6, .int .i64 a0_7]] w fun e w' => e = .returned (.bool r) ∧ Below w.heap.size w w' := by
  have hu40 := Try.underlying40
  have HB := Aside0.mk (Below.refl w.heap.size w)
  have H : ((points_Data.f k a0_0 a0_1 a0_2 a0_3 a0_4 a0_5 a0_6 a0_7).bind fun bt1088 => ((points_Pads.f k a0_0 a0_1 a0_2 a0_3 a0_4 a0_5 a0_6 a0_7).bind fun bt1092 => ((points_Workers.f k a0_0 a0_1 a0_2 a0_3 a0_4 a0_5 a0_6 a0_7).bind fun bt1096 => ((conclaveref12_May.f a0_0 a0_1 a0_2 a0_3 a0_4 a0_5 a0_6 a0_7).bind fun t1100 => (if t1100 = true then (if bt1088.2 = 0 then (if bt1092.2 = 0 then (if bt1096.2 = 0 then (if (bt1088.1.length : Int) = a0_2 then (if (bt1092.1.length : Int) = a0_3 then (conclavelaw13_PointsApart.j0 k bt1088.1 bt1092.1 bt1096.1 ((bt1096.1.length : Int) != a0_1) a0_0 a0_1 a0_2 a0_3 a0_4 a0_5 a0_6 a0_7) else (conclavelaw13_PointsApart.j0 k bt1088.1 bt1092.1 bt1096.1 true a0_0 a0_1 a0_2 a0_3 a0_4 a0_5 a0_6 a0_7)) else (conclavelaw13_PointsApart.j0 k bt1088.1 bt1092.1 bt1096.1 true a0_0 a0_1 a0_2 a0_3 a0_4 a0_5 a0_6 a0_7)) else (conclavelaw13_PointsApart.j0 k bt1088.1 bt1092.1 bt1096.1 true a0_0 a0_1 a0_2 a0_3 a0_4 a0_5 a0_6 a0_7)) else (conclavelaw13_PointsApart.j0 k bt1088.1 bt1092.1 bt1096.1 true a0_0 a0_1 a0_2 a0_3 a0_4 a0_5 a0_6 a0_7)) else (conclavelaw13_PointsApart.j0 k bt1088.1 bt1092.1 bt1096.1 true a0_0 a0_1 a0_2 a0_3 a0_4 a0_5 a0_6 a0_7)) else ((conclavelaw13_anchored.f k).bind fun t1101 => (if t1101 = true then (if bt1088.2 = 2 then (if bt1092.2 = 2 then (some (bt1096.2 == 2)) else (some false)) else (some false)) else (some false)))))))) = some r := h
  clear h
  replace H := Option.bind_eq_some_iff.mp H
  obtain ⟨⟨t1088, t1091⟩, A20, H⟩ := H
  replace H : ((points_Pads.f k a0_0 a0_1 a0_2 a0_3 a0_4 a0_5 a0_6 a0_7).bind fun bt1092 => ((points_Workers.f k a0_0 a0_1 a0_2 a0_3 a0_4 a0_5 a0_6 a0_7).bind fun bt1096 => ((conclaveref12_May.f a0_0 a0_1 a0_2 a0_3 a0_4 a0_5 a0_6 a0_7).bind fun t1100 => (if t1100 = true then (if t1091 = 0 then (if bt1092.2 = 0 then (if bt1096.2 = 0 then (if (t1088.length : Int) = a0_2 then (if (bt1092.1.length : Int) = a0_3 then (conclavelaw13_PointsApart.j0 k t1088 bt1092.1 bt1096.1 ((bt1096.1.length : Int) != a0_1) a0_0 a0_1 a0_2 a0_3 a0_4 a0_5 a0_6 a0_7) else (conclavelaw13_PointsApart.j0 k t1088 bt1092.1 bt1096.1 true a0_0 a0_1 a0_2 a0_3 a0_4 a0_5 a0_6 a0_7)) else (conclavelaw13_PointsApart.j0 k t1088 bt1092.1 bt1096.1 true a0_0 a0_1 a0_2 a0_3 a0_4 a0_5 a0_6 a0_7)) else (conclavelaw13_PointsApart.j0 k t1088 bt1092.1 bt1096.1 true a0_0 a0_1 a0_2 a0_3 a0_4 a0_5 a0_6 a0_7)) else (conclavelaw13_PointsApart.j0 k t1088 bt1092.1 bt1096.1 true a0_0 a0_1 a0_2 a0_3 a0_4 a0_5 a0_6 a0_7)) else (conclavelaw13_PointsApart.j0 k t1088 bt1092.1 bt1096.1 true a0_0 a0_1 a0_2 a0_3 a0_4 a0_5 a0_6 a0_7)) else ((conclavelaw13_anchored.f k).bind fun t1101 => (if t1101 = true then (if t1091 = 2 then (if bt1092.2 = 2 then (some (bt1096.2 == 2)) else (some false)) else (some false)) else (some false))))))) = some r := H
  have A2 := Aside0.mk A20
  clear A20
  replace H := Option.bind_eq_some_iff.mp H
  obtain ⟨⟨t1092, t1095⟩, A30, H⟩ := H
  replace H : ((points_Workers.f k a0_0 a0_1 a0_2 a0_3 a0_4 a0_5 a0_6 a0_7).bind fun bt1096 => ((conclaveref12_May.f a0_0 a0_1 a0_2 a0_3 a0_4 a0_5 a0_6 a0_7).bind fun t1100 => (if t1100 = true then (if t1091 = 0 then (if t1095 = 0 then (if bt1096.2 = 0 then (if (t1088.length : Int) = a0_2 then (if (t1092.length : Int) = a0_3 then (conclavelaw13_PointsApart.j0 k t1088 t1092 bt1096.1 ((bt1096.1.length : Int) != a0_1) a0_0 a0_1 a0_2 a0_3 a0_4 a0_5 a0_6 a0_7) else (conclavelaw13_PointsApart.j0 k t1088 t1092 bt1096.1 true a0_0 a0_1 a0_2 a0_3 a0_4 a0_5 a0_6 a0_7)) else (conclavelaw13_PointsApart.j0 k t1088 t1092 bt1096.1 true a0_0 a0_1 a0_2 a0_3 a0_4 a0_5 a0_6 a0_7)) else (conclavelaw13_PointsApart.j0 k t1088 t1092 bt1096.1 true a0_0 a0_1 a0_2 a0_3 a0_4 a0_5 a0_6 a0_7)) else (conclavelaw13_PointsApart.j0 k t1088 t1092 bt1096.1 true a0_0 a0_1 a0_2 a0_3 a0_4 a0_5 a0_6 a0_7)) else (conclavelaw13_PointsApart.j0 k t1088 t1092 bt1096.1 true a0_0 a0_1 a0_2 a0_3 a0_4 a0_5 a0_6 a0_7)) else ((conclavelaw13_anchored.f k).bind fun t1101 => (if t1101 = true then (if t1091 = 2 then (if t1095 = 2 then (some (bt1096.2 == 2)) else (some false)) else (some false)) else (some false)))))) = some r := H
  have A3 := Aside0.mk A30
  clear A30
  replace H := Option.bind_eq_some_iff.mp H
  obtain ⟨⟨t1096, t1099⟩, A40, H⟩ := H
  replace H : ((conclaveref12_May.f a0_0 a0_1 a0_2 a0_3 a0_4 a0_5 a0_6 a0_7).bind fun t1100 => (if t1100 = true then (if t1091 = 0 then (if t1095 = 0 then (if t1099 = 0 then (if (t1088.length : Int) = a0_2 then (if (t1092.length : Int) = a0_3 then (conclavelaw13_PointsApart.j0 k t1088 t1092 t1096 ((t1096.length : Int) != a0_1) a0_0 a0_1 a0_2 a0_3 a0_4 a0_5 a0_6 a0_7) else (conclavelaw13_PointsApart.j0 k t1088 t1092 t1096 true a0_0 a0_1 a0_2 a0_3 a0_4 a0_5 a0_6 a0_7)) else (conclavelaw13_PointsApart.j0 k t1088 t1092 t1096 true a0_0 a0_1 a0_2 a0_3 a0_4 a0_5 a0_6 a0_7)) else (conclavelaw13_PointsApart.j0 k t1088 t1092 t1096 true a0_0 a0_1 a0_2 a0_3 a0_4 a0_5 a0_6 a0_7)) else (conclavelaw13_PointsApart.j0 k t1088 t1092 t1096 true a0_0 a0_1 a0_2 a0_3 a0_4 a0_5 a0_6 a0_7)) else (conclavelaw13_PointsApart.j0 k t1088 t1092 t1096 true a0_0 a0_1 a0_2 a0_3 a0_4 a0_5 a0_6 a0_7)) else ((conclavelaw13_anchored.f k).bind fun t1101 => (if t1101 = true then (if t1091 = 2 then (if t1095 = 2 then (some (t1099 == 2)) else (some false)) else (some false)) else (some false))))) = some r := H
  have A4 := Aside0.mk A40
  clear A40
  replace H := Option.bind_eq_some_iff.mp H
  obtain ⟨t1100, A50, H⟩ := H
  replace H : (if t1100 = true then (if t1091 = 0 then (if t1095 = 0 then (if t1099 = 0 then (if (t1088.length : Int) = a0_2 then (if (t1092.length : Int) = a0_3 then (conclavelaw13_PointsApart.j0 k t1088 t1092 t1096 ((t1096.length : Int) != a0_1) a0_0 a0_1 a0_2 a0_3 a0_4 a0_5 a0_6 a0_7) else (conclavelaw13_PointsApart.j0 k t1088 t1092 t1096 true a0_0 a0_1 a0_2 a0_3 a0_4 a0_5 a0_6 a0_7)) else (conclavelaw13_PointsApart.j0 k t1088 t1092 t1096 true a0_0 a0_1 a0_2 a0_3 a0_4 a0_5 a0_6 a0_7)) else (conclavelaw13_PointsApart.j0 k t1088 t1092 t1096 true a0_0 a0_1 a0_2 a0_3 a0_4 a0_5 a0_6 a0_7)) else (conclavelaw13_PointsApart.j0 k t1088 t1092 t1096 true a0_0 a0_1 a0_2 a0_3 a0_4 a0_5 a0_6 a0_7)) else (conclavelaw13_PointsApart.j0 k t1088 t1092 t1096 true a0_0 a0_1 a0_2 a0_3 a0_4 a0_5 a0_6 a0_7)) else ((conclavelaw13_anchored.f k).bind fun t1101 => (if t1101 = true then (if t1091 = 2 then (if t1095 = 2 then (some (t1099 == 2)) else (some false)) else (some false)) else (some false)))) = some r := H
  have A5 := Aside0.mk A50
  clear A50
  by_cases c6 : t1100 = true
  · subst c6
    have H1 : (if t1091 = 0 then (if t1095 = 0 then (if t1099 = 0 then (if (t1088.length : Int) = a0_2 then (if (t1092.length : Int) = a0_3 then (conclavelaw13_PointsApart.j0 k t1088 t1092 t1096 ((t1096.length : Int) != a0_1) a0_0 a0_1 a0_2 a0_3 a0_4 a0_5 a0_6 a0_7) else (conclavelaw13_PointsApart.j0 k t1088 t1092 t1096 true a0_0 a0_1 a0_2 a0_3 a0_4 a0_5 a0_6 a0_7)) else (conclavelaw13_PointsApart.j0 k t1088 t1092 t1096 true a0_0 a0_1 a0_2 a0_3 a0_4 a0_5 a0_6 a0_7)) else (conclavelaw13_PointsApart.j0 k t1088 t1092 t1096 true a0_0 a0_1 a0_2 a0_3 a0_4 a0_5 a0_6 a0_7)) else (conclavelaw13_PointsApart.j0 k t1088 t1092 t1096 true a0_0 a0_1 a0_2 a0_3 a0_4 a0_5 a0_6 a0_7)) else (conclavelaw13_PointsApart.j0 k t1088 t1092 t1096 true a0_0 a0_1 a0_2 a0_3 a0_4 a0_5 a0_6 a0_7)) = some r := by rw [if_pos rfl] at H; exact H
    clear H
    have H := H1
    clear H1
    have HC7 := Aside0.mk H
    clear H
    go_enter Try.func14, Try.ntmps14
    go_upto_region 6 with (first | ((with_reducible refine gate_dst (N := 1) rfl ?_); (try (refine gate_guard (by rfl) ?_; dsimp only)); refine box_event ?hg (N := 1) ?hd (cs := #[.int .u8 a0_0, .int .i64 a0_1, .int .i64 a0_2, .int .i64 a0_3, .int .i64 a0_4, .int .i64 a0_5, .int .i64 a0_6, .int .i64 a0_7]) (t := 40) ?hr ?_; (case hd => rfl); (case hg => rfl); (case hr => first | (go_simp; done) | (go_simp; rfl)); intro gb1087 hg w8 hbox hb; have n0_ := Aside0.mk (below_step (by repeat (first | (with_reducible first | exact HB.out | apply below_alloc | apply pw_below_drewN | apply below_drew1) | exact HB.out)) hb); have n1_ := Aside0.mk (hbox); have n2_ := Aside0.mk ((by rw [hg]; exact (below_size (by repeat (first | (with_reducible first | exact HB.out | apply below_alloc | apply pw_below_drewN | apply below_drew1) | exact HB.out))) : w.heap.size ≤ gb1087)); have n3_ := Aside0.mk ((by rw [hg]; exact (below_size (by repeat (first | (with_reducible first | exact HB.out | apply below_alloc | apply pw_below_drewN | apply below_drew1) | exact HB.out))) : w.heap.size ≤ gb1087)); clear HB; have HB := n0_; have BK1087 := n1_; have GW1087 := n2_; have GE1087 := n3_; clear n0_ n1_ n2_ n3_; clear hb hbox hg; have hcz9_0 : w8.cell? ⟨gb1087, 0, none⟩ = some (.int .u8 a0_0) := (blk_cell BK1087.out 0).trans rfl; have hcz9_1 : w8.cell? ⟨gb1087, 1, none⟩ = some (.int .i64 a0_1) := (blk_cell BK1087.out 1).trans rfl; have hcz9_2 : w8.cell? ⟨gb1087, 2, none⟩ = some (.int .i64 a0_2) := (blk_cell BK1087.out 2).trans rfl; have hcz9_3 : w8.cell? ⟨gb1087, 3, none⟩ = some (.int .i64 a0_3) := (blk_cell BK1087.out 3).trans rfl; have hcz9_4 : w8.cell? ⟨gb1087, 4, none⟩ = some (.int .i64 a0_4) := (blk_cell BK1087.out 4).trans rfl; have hcz9_5 : w8.cell? ⟨gb1087, 5, none⟩ = some (.int .i64 a0_5) := (blk_cell BK1087.out 5).trans rfl; have hcz9_6 : w8.cell? ⟨gb1087, 6, none⟩ = some (.int .i64 a0_6) := (blk_cell BK1087.out 6).trans rfl; have hcz9_7 : w8.cell? ⟨gb1087, 7, none⟩ = some (.int .i64 a0_7) := (blk_cell BK1087.out 7).trans rfl; have hfz9_0 := blk_frozen BK1087.out 0; have hfz9_1 := blk_frozen BK1087.out 1; have hfz9_2 := blk_frozen BK1087.out 2; have hfz9_3 := blk_frozen BK1087.out 3; have hfz9_4 := blk_frozen BK1087.out 4; have hfz9_5 := blk_frozen BK1087.out 5; have hfz9_6 := blk_frozen BK1087.out 6; have hfz9_7 := blk_frozen BK1087.out 7) | ((with_reducible refine gate_callee (f := 45) rfl ?_); refine goesL_ (some 17) rfl rfl Try.func45 (by kernel_rfl) rfl #[.agg #[.int .u8 a0_0, .int .i64 a0_1, .int .i64 a0_2, .int .i64 a0_3, .int .i64 a0_4, .int .i64 a0_5, .int .i64 a0_6, .int .i64 a0_7]] rfl (by (try simp only [List.map_toArray, List.map_cons, List.map_nil]); first | done | rfl | (simp only [List.length_drop, List.length_take]; rfl)) ?_; (with_reducible refine (points_Data.calls k a0_0 a0_1 a0_2 a0_3 a0_4 a0_5 a0_6 a0_7 t1088 t1091 _ A2.out).mono ?_); rintro e w10 ⟨v1089, rfl, ho0, hb⟩; refine ⟨_, rfl, ?_⟩; have n0_ := Aside0.mk (Kd.R_lower ho0 (below_size (by repeat (first | (with_reducible first | exact HB.out | apply below_alloc | apply pw_below_drewN | apply below_drew1 | refine below_set ?_ GE1087.out) | exact HB.out)))); have n1_ := Aside0.mk (blk_below (g := gb1087) (o := .cells #[.int .u8 a0_0, .int .i64 a0_1, .int .i64 a0_2, .int .i64 a0_3, .int .i64 a0_4, .int .i64 a0_5, .int .i64 a0_6, .int .i64 a0_7] 40 (0, 0)) (by (with_reducible repeat (first | refine blk_drewN ?_ _ | refine blk_drew ?_ | refine blk_alloc ?_ _)); exact BK1087.out) hb); have n2_ := Aside0.mk (below_step (by repeat (first | (with_reducible first | exact HB.out | apply below_alloc | apply pw_below_drewN | apply below_drew1 | refine below_set ?_ GE1087.out) | exact HB.out)) hb); clear BK1087; clear HB; have HO1090 := n0_; have BK1087 := n1_; have HB := n2_; clear n0_ n1_ n2_; (try clear hb); (try clear hb2); (try clear hk); (try clear hi); (try clear ho0); have hcz11_0 : w10.cell? ⟨gb1087, 0, none⟩ = some (.int .u8 a0_0) := (blk_cell BK1087.out 0).trans rfl; have hcz11_1 : w10.cell? ⟨gb1087, 1, none⟩ = some (.int .i64 a0_1) := (blk_cell BK1087.out 1).trans rfl; have hcz11_2 : w10.cell? ⟨gb1087, 2, none⟩ = some (.int .i64 a0_2) := (blk_cell BK1087.out 2).trans rfl; have hcz11_3 : w10.cell? ⟨gb1087, 3, none⟩ = some (.int .i64 a0_3) := (blk_cell BK1087.out 3).trans rfl; have hcz11_4 : w10.cell? ⟨gb1087, 4, none⟩ = some (.int .i64 a0_4) := (blk_cell BK1087.out 4).trans rfl; have hcz11_5 : w10.cell? ⟨gb1087, 5, none⟩ = some (.int .i64 a0_5) := (blk_cell BK1087.out 5).trans rfl; have hcz11_6 : w10.cell? ⟨gb1087, 6, none⟩ = some (.int .i64 a0_6) := (blk_cell BK1087.out 6).trans rfl; have hcz11_7 : w10.cell? ⟨gb1087, 7, none⟩ = some (.int .i64 a0_7) := (blk_cell BK1087.out 7).trans rfl; have hfz11_0 := blk_frozen BK1087.out 0; have hfz11_1 := blk_frozen BK1087.out 1; have hfz11_2 := blk_frozen BK1087.out 2; have hfz11_3 := blk_frozen BK1087.out 3; have hfz11_4 := blk_frozen BK1087.out 4; have hfz11_5 := blk_frozen BK1087.out 5; have hfz11_6 := blk_frozen BK1087.out 6; have hfz11_7 := blk_frozen BK1087.out 7) | ((with_reducible refine gate_callee (f := 47) rfl ?_); refine goesL_ (some 22) rfl rfl Try.func47 (by kernel_rfl) rfl #[.agg #[.int .u8 a0_0, .int .i64 a0_1, .int .i64 a0_2, .int .i64 a0_3, .int .i64 a0_4, .int .i64 a0_5, .int .i64 a0_6, .int .i64 a0_7]] rfl (by (try simp only [List.map_toArray, List.map_cons, List.map_nil]); first | done | rfl | (simp only [List.length_drop, List.length_take]; rfl)) ?_; (with_reducible refine (points_Pads.calls k a0_0 a0_1 a0_2 a0_3 a0_4 a0_5 a0_6 a0_7 t1092 t1095 _ A3.out).mono ?_); rintro e w12 ⟨v1093, rfl, ho0, hb⟩; refine ⟨_, rfl, ?_⟩; have n0_ := Aside0.mk (Kd.R_elder' (by (with_reducible repeat (first | apply Kd.R_alloc | apply Kd.R_drewN | apply Kd.R_drew)); exact HO1090.out) (Kd.R_base ho0) hb); have n1_ := Aside0.mk (Kd.R_lower (Kd.R_new' ho0 (Kd.R_lt (by (with_reducible repeat (first | apply Kd.R_alloc | apply Kd.R_drewN | apply Kd.R_drew)); exact HO1090.out))) (below_size (by repeat (first | (with_reducible first | exact HB.out | apply below_alloc | apply pw_below_drewN | apply below_drew1 | refine below_set ?_ GE1087.out) | exact HB.out)))); have n2_ := Aside0.mk (blk_below (g := gb1087) (o := .cells #[.int .u8 a0_0, .int .i64 a0_1, .int .i64 a0_2, .int .i64 a0_3, .int .i64 a0_4, .int .i64 a0_5, .int .i64 a0_6, .int .i64 a0_7] 40 (0, 0)) (by (with_reducible repeat (first | refine blk_drewN ?_ _ | refine blk_drew ?_ | refine blk_alloc ?_ _)); exact BK1087.out) hb); have n3_ := Aside0.mk (below_step (by repeat (first | (with_reducible first | exact HB.out | apply below_alloc | apply pw_below_drewN | apply below_drew1 | refine below_set ?_ GE1087.out) | exact HB.out)) hb); clear HO1090; clear BK1087; clear HB; have HO1090 := n0_; have HO1094 := n1_; have BK1087 := n2_; have HB := n3_; clear n0_ n1_ n2_ n3_; (try clear hb); (try clear hb2); (try clear hk); (try clear hi); (try clear ho0); have hcz13_0 : w12.cell? ⟨gb1087, 0, none⟩ = some (.int .u8 a0_0) := (blk_cell BK1087.out 0).trans rfl; have hcz13_1 : w12.cell? ⟨gb1087, 1, none⟩ = some (.int .i64 a0_1) := (blk_cell BK1087.out 1).trans rfl; have hcz13_2 : w12.cell? ⟨gb1087, 2, none⟩ = some (.int .i64 a0_2) := (blk_cell BK1087.out 2).trans rfl; have hcz13_3 : w12.cell? ⟨gb1087, 3, none⟩ = some (.int .i64 a0_3) := (blk_cell BK1087.out 3).trans rfl; have hcz13_4 : w12.cell? ⟨gb1087, 4, none⟩ = some (.int .i64 a0_4) := (blk_cell BK1087.out 4).trans rfl; have hcz13_5 : w12.cell? ⟨gb1087, 5, none⟩ = some (.int .i64 a0_5) := (blk_cell BK1087.out 5).trans rfl; have hcz13_6 : w12.cell? ⟨gb1087, 6, none⟩ = some (.int .i64 a0_6) := (blk_cell BK1087.out 6).trans rfl; have hcz13_7 : w12.cell? ⟨gb1087, 7, none⟩ = some (.int .i64 a0_7) := (blk_cell BK1087.out 7).trans rfl; have hfz13_0 := blk_frozen BK1087.out 0; have hfz13_1 := blk_frozen BK1087.out 1; have hfz13_2 := blk_frozen BK1087.out 2; have hfz13_3 := blk_frozen BK1087.out 3; have hfz13_4 := blk_frozen BK1087.out 4; have hfz13_5 := blk_frozen BK1087.out 5; have hfz13_6 := blk_frozen BK1087.out 6; have hfz13_7 := blk_frozen BK1087.out 7) | ((with_reducible refine gate_callee (f := 48) rfl ?_); refine goesL_ (some 27) rfl rfl Try.func48 (by kernel_rfl) rfl #[.agg #[.int .u8 a0_0, .int .i64 a0_1, .int .i64 a0_2, .int .i64 a0_3, .int .i64 a0_4, .int .i64 a0_5, .int .i64 a0_6, .int .i64 a0_7]] rfl (by (try simp only [List.map_toArray, List.map_cons, List.map_nil]); first | done | rfl | (simp only [List.length_drop, List.length_take]; rfl)) ?_; (with_reducible refine (points_Workers.calls k a0_0 a0_1 a0_2 a0_3 a0_4 a0_5 a0_6 a0_7 t1096 t1099 _ A4.out).mono ?_); rintro e w14 ⟨v1097, rfl, ho0, hb⟩; refine ⟨_, rfl, ?_⟩; have n0_ := Aside0.mk (Kd.R_elder' (by (with_reducible repeat (first | apply Kd.R_alloc | apply Kd.R_drewN | apply Kd.R_drew)); exact HO1090.out) (Kd.R_base ho0) hb); have n1_ := Aside0.mk (Kd.R_elder' (by (with_reducible repeat (first | apply Kd.R_alloc | apply Kd.R_drewN | apply Kd.R_drew)); exact HO1094.out) (Kd.R_base ho0) hb); have n2_ := Aside0.mk (Kd.R_lower (Kd.R_new' (Kd.R_new' ho0 (Kd.R_lt (by (with_reducible repeat (first | apply Kd.R_alloc | apply Kd.R_drewN | apply Kd.R_drew)); exact HO1090.out))) (Kd.R_lt (by (with_reducible repeat (first | apply Kd.R_alloc | apply Kd.R_drewN | apply Kd.R_drew)); exact HO1094.out))) (below_size (by repeat (first | (with_reducible first | exact HB.out | apply below_alloc | apply pw_below_drewN | apply below_drew1 | refine below_set ?_ GE1087.out) | exact HB.out)))); have n3_ := Aside0.mk (blk_below (g := gb1087) (o := .cells #[.int .u8 a0_0, .int .i64 a0_1, .int .i64 a0_2, .int .i64 a0_3, .int .i64 a0_4, .int .i64 a0_5, .int .i64 a0_6, .int .i64 a0_7] 40 (0, 0)) (by (with_reducible repeat (first | refine blk_drewN ?_ _ | refine blk_drew ?_ | refine blk_alloc ?_ _)); exact BK1087.out) hb); have n4_ := Aside0.mk (below_step (by repeat (first | (with_reducible first | exact HB.out | apply below_alloc | apply pw_below_drewN | apply below_drew1 | refine below_set ?_ GE1087.out) | exact HB.out)) hb); clear HO1090; clear HO1094; clear BK1087; clear HB; have HO1090 := n0_; have HO1094 := n1_; have HO1098 := n2_; have BK1087 := n3_; have HB := n4_; clear n0_ n1_ n2_ n3_ n4_; (try clear hb); (try clear hb2); (try clear hk); (try clear hi); (try clear ho0); have hcz15_0 : w14.cell? ⟨gb1087, 0, none⟩ = some (.int .u8 a0_0) := (blk_cell BK1087.out 0).trans rfl; have hcz15_1 : w14.cell? ⟨gb1087, 1, none⟩ = some (.int .i64 a0_1) := (blk_cell BK1087.out 1).trans rfl; have hcz15_2 : w14.cell? ⟨gb1087, 2, none⟩ = some (.int .i64 a0_2) := (blk_cell BK1087.out 2).trans rfl; have hcz15_3 : w14.cell? ⟨gb1087, 3, none⟩ = some (.int .i64 a0_3) := (blk_cell BK1087.out 3).trans rfl; have hcz15_4 : w14.cell? ⟨gb1087, 4, none⟩ = some (.int .i64 a0_4) := (blk_cell BK1087.out 4).trans rfl; have hcz15_5 : w14.cell? ⟨gb1087, 5, none⟩ = some (.int .i64 a0_5) := (blk_cell BK1087.out 5).trans rfl; have hcz15_6 : w14.cell? ⟨gb1087, 6, none⟩ = some (.int .i64 a0_6) := (blk_cell BK1087.out 6).trans rfl; have hcz15_7 : w14.cell? ⟨gb1087, 7, none⟩ = some (.int .i64 a0_7) := (blk_cell BK1087.out 7).trans rfl; have hfz15_0 := blk_frozen BK1087.out 0; have hfz15_1 := blk_frozen BK1087.out 1; have hfz15_2 := blk_frozen BK1087.out 2; have hfz15_3 := blk_frozen BK1087.out 3; have hfz15_4 := blk_frozen BK1087.out 4; have hfz15_5 := blk_frozen BK1087.out 5; have hfz15_6 := blk_frozen BK1087.out 6; have hfz15_7 := blk_frozen BK1087.out 7) | ((with_reducible refine gate_callee (f := 30) rfl ?_); refine goesL_ (some 31) rfl rfl Try.func30 (by kernel_rfl) rfl #[.agg #[.int .u8 a0_0, .int .i64 a0_1, .int .i64 a0_2, .int .i64 a0_3, .int .i64 a0_4, .int .i64 a0_5, .int .i64 a0_6, .int .i64 a0_7]] rfl (by (try simp only [List.map_toArray, List.map_cons, List.map_nil]); first | done | rfl | (simp only [List.length_drop, List.length_take]; rfl)) ?_; (with_reducible refine (conclaveref12_May.calls a0_0 a0_1 a0_2 a0_3 a0_4 a0_5 a0_6 a0_7 true _ A5.out).mono ?_); rintro e w16 ⟨rfl, hb⟩; refine ⟨_, rfl, ?_⟩; have n0_ := Aside0.mk (Kd.R_below (by (with_reducible repeat (first | apply Kd.R_alloc | apply Kd.R_drewN | apply Kd.R_drew)); exact HO1090.out) hb); have n1_ := Aside0.mk (Kd.R_below (by (with_reducible repeat (first | apply Kd.R_alloc | apply Kd.R_drewN | apply Kd.R_drew)); exact HO1094.out) hb); have n2_ := Aside0.mk (Kd.R_below (by (with_reducible repeat (first | apply Kd.R_alloc | apply Kd.R_drewN | apply Kd.R_drew)); exact HO1098.out) hb); have n3_ := Aside0.mk (blk_below (g := gb1087) (o := .cells #[.int .u8 a0_0, .int .i64 a0_1, .int .i64 a0_2, .int .i64 a0_3, .int .i64 a0_4, .int .i64 a0_5, .int .i64 a0_6, .int .i64 a0_7] 40 (0, 0)) (by (with_reducible repeat (first | refine blk_drewN ?_ _ | refine blk_drew ?_ | refine blk_alloc ?_ _)); exact BK1087.out) hb); have n4_ := Aside0.mk (below_step (by repeat (first | (with_reducible first | exact HB.out | apply below_alloc | apply pw_below_drewN | apply below_drew1 | refine below_set ?_ GE1087.out) | exact HB.out)) hb); clear HO1090; clear HO1094; clear HO1098; clear BK1087; clear HB; have HO1090 := n0_; have HO1094 := n1_; have HO1098 := n2_; have BK1087 := n3_; have HB := n4_; clear n0_ n1_ n2_ n3_ n4_; (try clear hb); (try clear hb2); (try clear hk); (try clear hi)))
    (try simp only [Act.put, List.setIfInBounds_toArray, List.set_cons_zero, List.set_cons_succ])
    go_cut [76] (fun v76 wc => ∃ (kq : Nat) (x76_6 : Bool), v76 = .bool x76_6 ∧ Aside0 (conclavelaw13_PointsApart.j0 kq t1088 t1092 t1096 x76_6 a0_0 a0_1 a0_2 a0_3 a0_4 a0_5 a0_6 a0_7 = some r) ∧ Aside0 (kq ≤ k) ∧ Aside0 (Kd.R (Kd.int .u64) 65 wc w.heap.size (fun k_ => some k_ ≠ (v1093 : Value).ownBlock ∧ some k_ ≠ (v1097 : Value).ownBlock) v1089 t1088) ∧ Aside0 (Kd.R (Kd.int .u64) 65 wc w.heap.size (fun k_ => some k_ ≠ (v1089 : Value).ownBlock ∧ some k_ ≠ (v1097 : Value).ownBlock) v1093 t1092) ∧ Aside0 (Kd.R (Kd.int .u64) 65 wc w.heap.size (fun k_ => some k_ ≠ (v1089 : Value).ownBlock ∧ some k_ ≠ (v1093 : Value).ownBlock) v1097 t1096) ∧ Aside0 (wc.heap[gb1087]? = some (.cells #[.int .u8 a0_0, .int .i64 a0_1, .int .i64 a0_2, .int .i64 a0_3, .int .i64 a0_4, .int .i64 a0_5, .int .i64 a0_6, .int .i64 a0_7] 40 (0, 0))) ∧ Aside0 (Below w.heap.size w wc))
    case first =>
      have H := HC7.out
      clear HC7
      by_cases c17 : t1091 = 0
      · rw [if_pos c17] at H
        have c17b0 : (t1091 == 0) = true := beq_iff_eq.mpr c17
        have c17b1 : (t1091 != 0) = false := bne_eq_false_iff_eq.mpr c17
        clear c17
        (first | rw [c17b0] | (simp only [i64_w, i32_w]; rw [c17b0]) | skip)
        by_cases c18 : t1095 = 0
        · rw [if_pos c18] at H
          have c18b0 : (t1095 == 0) = true := beq_iff_eq.mpr c18
          have c18b1 : (t1095 != 0) = false := bne_eq_false_iff_eq.mpr c18
          clear c18
          by_cases c19 : t1099 = 0
          · rw [if_pos c19] at H
            have c19b0 : (t1099 == 0) = true := beq_iff_eq.mpr c19
            have c19b1 : (t1099 != 0) = false := bne_eq_false_iff_eq.mpr c19
            clear c19
            by_cases c20 : (t1088.length : Int) = a0_2
            · rw [if_pos c20] at H
              have c20b0 : ((t1088.length : Int) == a0_2) = true := beq_iff_eq.mpr c20
              have c20b1 : ((t1088.length : Int) != a0_2) = false := bne_eq_false_iff_eq.mpr c20
              clear c20
              by_cases c21 : (t1092.length : Int) = a0_3
              · rw [if_pos c21] at H
                have c21b0 : ((t1092.length : Int) == a0_3) = true := beq_iff_eq.mpr c21
                have c21b1 : ((t1092.length : Int) != a0_3) = false := bne_eq_false_iff_eq.mpr c21
                clear c21
                have H' := Aside0.mk H
                clear H
                obtain ⟨Ao22, co22, eo22⟩ := Kd.R_slice HO1090.out
                subst eo22
                have hcz23_0 : w16.cell? ⟨gb1087, 0, none⟩ = some (.int .u8 a0_0) := (blk_cell BK1087.out 0).trans rfl
                have hcz23_1 : w16.cell? ⟨gb1087, 1, none⟩ = some (.int .i64 a0_1) := (blk_cell BK1087.out 1).trans rfl
                have hcz23_2 : w16.cell? ⟨gb1087, 2, none⟩ = some (.int .i64 a0_2) := (blk_cell BK1087.out 2).trans rfl
                have hcz23_3 : w16.cell? ⟨gb1087, 3, none⟩ = some (.int .i64 a0_3) := (blk_cell BK1087.out 3).trans rfl
                have hcz23_4 : w16.cell? ⟨gb1087, 4, none⟩ = some (.int .i64 a0_4) := (blk_cell BK1087.out 4).trans rfl
                have hcz23_5 : w16.cell? ⟨gb1087, 5, none⟩ = some (.int .i64 a0_5) := (blk_cell BK1087.out 5).trans rfl
                have hcz23_6 : w16.cell? ⟨gb1087, 6, none⟩ = some (.int .i64 a0_6) := (blk_cell BK1087.out 6).trans rfl
                have hcz23_7 : w16.cell? ⟨gb1087, 7, none⟩ = some (.int .i64 a0_7) := (blk_cell BK1087.out 7).trans rfl
                have hfz23_0 := blk_frozen BK1087.out 0
                have hfz23_1 := blk_frozen BK1087.out 1
                have hfz23_2 := blk_frozen BK1087.out 2
                have hfz23_3 := blk_frozen BK1087.out 3
                have hfz23_4 := blk_frozen BK1087.out 4
                have hfz23_5 := blk_frozen BK1087.out 5
                have hfz23_6 := blk_frozen BK1087.out 6
                have hfz23_7 := blk_frozen BK1087.out 7
                obtain ⟨Ao24, co24, eo24⟩ := Kd.R_slice HO1094.out
                subst eo24
                obtain ⟨Ao25, co25, eo25⟩ := Kd.R_slice HO1098.out
                subst eo25
                go_wp2
                go_meet
                case rel => exact ⟨_, (((t1096.length : Int) != a0_1)), (by first | rfl | (simp; done) | (simp [*]; done)), H', ⟨by first | omega | exact Nat.le_refl _⟩, ⟨by (with_reducible repeat (first | apply Kd.R_alloc | apply Kd.R_drewN | apply Kd.R_drew)); exact Kd.R_mono HO1090.out (fun _ hk => ⟨hk.1.2, hk.2⟩)⟩, ⟨by (with_reducible repeat (first | apply Kd.R_alloc | apply Kd.R_drewN | apply Kd.R_drew)); exact Kd.R_mono HO1094.out (fun _ hk => ⟨hk.1.2, hk.2⟩)⟩, ⟨by (with_reducible repeat (first | apply Kd.R_alloc | apply Kd.R_drewN | apply Kd.R_drew)); exact Kd.R_mono HO1098.out (fun _ hk => ⟨hk.1.2, hk.2⟩)⟩, ⟨by (with_reducible repeat (first | refine blk_drewN ?_ _ | refine blk_drew ?_ | refine blk_alloc ?_ _)); exact BK1087.out⟩, ⟨by repeat (first | (with_reducible first | exact HB.out | apply below_alloc | apply pw_below_drewN | apply below_drew1 | refine below_set ?_ GE1087.out) | exact HB.out)⟩⟩
              · rw [if_neg c21] at H
                have c21b0 : ((t1092.length : Int) == a0_3) = false := beq_eq_false_iff_ne.mpr c21
                have c21b1 : ((t1092.length : Int) != a0_3) = true := bne_iff_ne.mpr c21
                have H' := Aside0.mk H
                clear H
                obtain ⟨Ao26, co26, eo26⟩ := Kd.R_slice HO1090.out
                subst eo26
                have hcz27_0 : w16.cell? ⟨gb1087, 0, none⟩ = some (.int .u8 a0_0) := (blk_cell BK1087.out 0).trans rfl
                have hcz27_1 : w16.cell? ⟨gb1087, 1, none⟩ = some (.int .i64 a0_1) := (blk_cell BK1087.out 1).trans rfl
                have hcz27_2 : w16.cell? ⟨gb1087, 2, none⟩ = some (.int .i64 a0_2) := (blk_cell BK1087.out 2).trans rfl
                have hcz27_3 : w16.cell? ⟨gb1087, 3, none⟩ = some (.int .i64 a0_3) := (blk_cell BK1087.out 3).trans rfl
                have hcz27_4 : w16.cell? ⟨gb1087, 4, none⟩ = some (.int .i64 a0_4) := (blk_cell BK1087.out 4).trans rfl
                have hcz27_5 : w16.cell? ⟨gb1087, 5, none⟩ = some (.int .i64 a0_5) := (blk_cell BK1087.out 5).trans rfl
                have hcz27_6 : w16.cell? ⟨gb1087, 6, none⟩ = some (.int .i64 a0_6) := (blk_cell BK1087.out 6).trans rfl
                have hcz27_7 : w16.cell? ⟨gb1087, 7, none⟩ = some (.int .i64 a0_7) := (blk_cell BK1087.out 7).trans rfl
                have hfz27_0 := blk_frozen BK1087.out 0
                have hfz27_1 := blk_frozen BK1087.out 1
                have hfz27_2 := blk_frozen BK1087.out 2
                have hfz27_3 := blk_frozen BK1087.out 3
                have hfz27_4 := blk_frozen BK1087.out 4
                have hfz27_5 := blk_frozen BK1087.out 5
                have hfz27_6 := blk_frozen BK1087.out 6
                have hfz27_7 := blk_frozen BK1087.out 7
                obtain ⟨Ao28, co28, eo28⟩ := Kd.R_slice HO1094.out
                subst eo28
                go_wp2
                go_meet
                case rel => exact ⟨_, (true), (by first | rfl | (simp; done) | (simp [*]; done)), H', ⟨by first | omega | exact Nat.le_refl _⟩, ⟨by (with_reducible repeat (first | apply Kd.R_alloc | apply Kd.R_drewN | apply Kd.R_drew)); exact Kd.R_mono HO1090.out (fun _ hk => ⟨hk.1.2, hk.2⟩)⟩, ⟨by (with_reducible repeat (first | apply Kd.R_alloc | apply Kd.R_drewN | apply Kd.R_drew)); exact Kd.R_mono HO1094.out (fun _ hk => ⟨hk.1.2, hk.2⟩)⟩, ⟨by (with_reducible repeat (first | apply Kd.R_alloc | apply Kd.R_drewN | apply Kd.R_drew)); exact Kd.R_mono HO1098.out (fun _ hk => ⟨hk.1.2, hk.2⟩)⟩, ⟨by (with_reducible repeat (first | refine blk_drewN ?_ _ | refine blk_drew ?_ | refine blk_alloc ?_ _)); exact BK1087.out⟩, ⟨by repeat (first | (with_reducible first | exact HB.out | apply below_alloc | apply pw_below_drewN | apply below_drew1 | refine below_set ?_ GE1087.out) | exact HB.out)⟩⟩
            · rw [if_neg c20] at H
              have c20b0 : ((t1088.length : Int) == a0_2) = false := beq_eq_false_iff_ne.mpr c20
              have c20b1 : ((t1088.length : Int) != a0_2) = true := bne_iff_ne.mpr c20
              have H' := Aside0.mk H
              clear H
              obtain ⟨Ao29, co29, eo29⟩ := Kd.R_slice HO1090.out
              subst eo29
              have hcz30_0 : w16.cell? ⟨gb1087, 0, none⟩ = some (.int .u8 a0_0) := (blk_cell BK1087.out 0).trans rfl
              have hcz30_1 : w16.cell? ⟨gb1087, 1, none⟩ = some (.int .i64 a0_1) := (blk_cell BK1087.out 1).trans rfl
              have hcz30_2 : w16.cell? ⟨gb1087, 2, none⟩ = some (.int .i64 a0_2) := (blk_cell BK1087.out 2).trans rfl
              have hcz30_3 : w16.cell? ⟨gb1087, 3, none⟩ = some (.int .i64 a0_3) := (blk_cell BK1087.out 3).trans rfl
              have hcz30_4 : w16.cell? ⟨gb1087, 4, none⟩ = some (.int .i64 a0_4) := (blk_cell BK1087.out 4).trans rfl
              have hcz30_5 : w16.cell? ⟨gb1087, 5, none⟩ = some (.int .i64 a0_5) := (blk_cell BK1087.out 5).trans rfl
              have hcz30_6 : w16.cell? ⟨gb1087, 6, none⟩ = some (.int .i64 a0_6) := (blk_cell BK1087.out 6).trans rfl
              have hcz30_7 : w16.cell? ⟨gb1087, 7, none⟩ = some (.int .i64 a0_7) := (blk_cell BK1087.out 7).trans rfl
              have hfz30_0 := blk_frozen BK1087.out 0
              have hfz30_1 := blk_frozen BK1087.out 1
              have hfz30_2 := blk_frozen BK1087.out 2
              have hfz30_3 := blk_frozen BK1087.out 3
              have hfz30_4 := blk_frozen BK1087.out 4
              have hfz30_5 := blk_frozen BK1087.out 5
              have hfz30_6 := blk_frozen BK1087.out 6
              have hfz30_7 := blk_frozen BK1087.out 7
              go_wp2
              go_meet
              case rel => exact ⟨_, (true), (by first | rfl | (simp; done) | (simp [*]; done)), H', ⟨by first | omega | exact Nat.le_refl _⟩, ⟨by (with_reducible repeat (first | apply Kd.R_alloc | apply Kd.R_drewN | apply Kd.R_drew)); exact Kd.R_mono HO1090.out (fun _ hk => ⟨hk.1.2, hk.2⟩)⟩, ⟨by (with_reducible repeat (first | apply Kd.R_alloc | apply Kd.R_drewN | apply Kd.R_drew)); exact Kd.R_mono HO1094.out (fun _ hk => ⟨hk.1.2, hk.2⟩)⟩, ⟨by (with_reducible repeat (first | apply Kd.R_alloc | apply Kd.R_drewN | apply Kd.R_drew)); exact Kd.R_mono HO1098.out (fun _ hk => ⟨hk.1.2, hk.2⟩)⟩, ⟨by (with_reducible repeat (first | refine blk_drewN ?_ _ | refine blk_drew ?_ | refine blk_alloc ?_ _)); exact BK1087.out⟩, ⟨by repeat (first | (with_reducible first | exact HB.out | apply below_alloc | apply pw_below_drewN | apply below_drew1 | refine below_set ?_ GE1087.out) | exact HB.out)⟩⟩
          · rw [if_neg c19] at H
            have c19b0 : (t1099 == 0) = false := beq_eq_false_iff_ne.mpr c19
            have c19b1 : (t1099 != 0) = true := bne_iff_ne.mpr c19
            have H' := Aside0.mk H
            clear H
            go_wp2
            go_meet
            case rel => exact ⟨_, (true), (by first | rfl | (simp; done) | (simp [*]; done)), H', ⟨by first | omega | exact Nat.le_refl _⟩, ⟨by (with_reducible repeat (first | apply Kd.R_alloc | apply Kd.R_drewN | apply Kd.R_drew)); exact Kd.R_mono HO1090.out (fun _ hk => ⟨hk.1.2, hk.2⟩)⟩, ⟨by (with_reducible repeat (first | apply Kd.R_alloc | apply Kd.R_drewN | apply Kd.R_drew)); exact Kd.R_mono HO1094.out (fun _ hk => ⟨hk.1.2, hk.2⟩)⟩, ⟨by (with_reducible repeat (first | apply Kd.R_alloc | apply Kd.R_drewN | apply Kd.R_drew)); exact Kd.R_mono HO1098.out (fun _ hk => ⟨hk.1.2, hk.2⟩)⟩, ⟨by (with_reducible repeat (first | refine blk_drewN ?_ _ | refine blk_drew ?_ | refine blk_alloc ?_ _)); exact BK1087.out⟩, ⟨by repeat (first | (with_reducible first | exact HB.out | apply below_alloc | apply pw_below_drewN | apply below_drew1 | refine below_set ?_ GE1087.out) | exact HB.out)⟩⟩
        · rw [if_neg c18] at H
          have c18b0 : (t1095 == 0) = false := beq_eq_false_iff_ne.mpr c18
          have c18b1 : (t1095 != 0) = true := bne_iff_ne.mpr c18
          have H' := Aside0.mk H
          clear H
          go_wp2
          go_meet
          case rel => exact ⟨_, (true), (by first | rfl | (simp; done) | (simp [*]; done)), H', ⟨by first | omega | exact Nat.le_refl _⟩, ⟨by (with_reducible repeat (first | apply Kd.R_alloc | apply Kd.R_drewN | apply Kd.R_drew)); exact Kd.R_mono HO1090.out (fun _ hk => ⟨hk.1.2, hk.2⟩)⟩, ⟨by (with_reducible repeat (first | apply Kd.R_alloc | apply Kd.R_drewN | apply Kd.R_drew)); exact Kd.R_mono HO1094.out (fun _ hk => ⟨hk.1.2, hk.2⟩)⟩, ⟨by (with_reducible repeat (first | apply Kd.R_alloc | apply Kd.R_drewN | apply Kd.R_drew)); exact Kd.R_mono HO1098.out (fun _ hk => ⟨hk.1.2, hk.2⟩)⟩, ⟨by (with_reducible repeat (first | refine blk_drewN ?_ _ | refine blk_drew ?_ | refine blk_alloc ?_ _)); exact BK1087.out⟩, ⟨by repeat (first | (with_reducible first | exact HB.out | apply below_alloc | apply pw_below_drewN | apply below_drew1 | refine below_set ?_ GE1087.out) | exact HB.out)⟩⟩
      · rw [if_neg c17] at H
        have c17b0 : (t1091 == 0) = false := beq_eq_false_iff_ne.mpr c17
        have c17b1 : (t1091 != 0) = true := bne_iff_ne.mpr c17
        (first | rw [c17b0] | (simp only [i64_w, i32_w]; rw [c17b0]) | skip)
        have H' := Aside0.mk H
        clear H
        go_wp2
        go_meet
        case rel => exact ⟨_, (true), (by first | rfl | (simp; done) | (simp [*]; done)), H', ⟨by first | omega | exact Nat.le_refl _⟩, ⟨by (with_reducible repeat (first | apply Kd.R_alloc | apply Kd.R_drewN | apply Kd.R_drew)); exact Kd.R_mono HO1090.out (fun _ hk => ⟨hk.1.2, hk.2⟩)⟩, ⟨by (with_reducible repeat (first | apply Kd.R_alloc | apply Kd.R_drewN | apply Kd.R_drew)); exact Kd.R_mono HO1094.out (fun _ hk => ⟨hk.1.2, hk.2⟩)⟩, ⟨by (with_reducible repeat (first | apply Kd.R_alloc | apply Kd.R_drewN | apply Kd.R_drew)); exact Kd.R_mono HO1098.out (fun _ hk => ⟨hk.1.2, hk.2⟩)⟩, ⟨by (with_reducible repeat (first | refine blk_drewN ?_ _ | refine blk_drew ?_ | refine blk_alloc ?_ _)); exact BK1087.out⟩, ⟨by repeat (first | (with_reducible first | exact HB.out | apply below_alloc | apply pw_below_drewN | apply below_drew1 | refine below_set ?_ GE1087.out) | exact HB.out)⟩⟩
    case rest =>
      clear HC7
      try clear c1
      try clear c2
      try clear p2
      try clear c3
      try clear c4
      try clear c6
      try clear c14
      try clear c17
      try clear c17b0
      try clear c17b1
      try clear c18
      try clear c18b0
      try clear c18b1
      try clear c19
      try clear c19b0
      try clear c19b1
      try clear c20
      try clear c20b0
      try clear c20b1
      try clear c21
      try clear c21b0
      try clear c21b1
      try clear c30
      try clear hcz11_0
      try clear hcz11_1
      try clear hcz11_2
      try clear hcz11_3
      try clear hcz11_4
      try clear hcz11_5
      try clear hcz11_6
      try clear hcz11_7
      try clear hcz13_0
      try clear hcz13_1
      try clear hcz13_2
      try clear hcz13_3
      try clear hcz13_4
      try clear hcz13_5
      try clear hcz13_6
      try clear hcz13_7
      try clear hcz15_0
      try clear hcz15_1
      try clear hcz15_2
      try clear hcz15_3
      try clear hcz15_4
      try clear hcz15_5
      try clear hcz15_6
      try clear hcz15_7
      try clear hcz23_0
      try clear hcz23_1
      try clear hcz23_2
      try clear hcz23_3
      try clear hcz23_4
      try clear hcz23_5
      try clear hcz23_6
      try clear hcz23_7
      try clear hcz27_0
      try clear hcz27_1
      try clear hcz27_2
      try clear hcz27_3
      try clear hcz27_4
      try clear hcz27_5
      try clear hcz27_6
      try clear hcz27_7
      try clear hcz30_0
      try clear hcz30_1
      try clear hcz30_2
      try clear hcz30_3
      try clear hcz30_4
      try clear hcz30_5
      try clear hcz30_6
      try clear hcz30_7
      try clear hcz9_0
      try clear hcz9_1
      try clear hcz9_2
      try clear hcz9_3
      try clear hcz9_4
      try clear hcz9_5
      try clear hcz9_6
      try clear hcz9_7
      try clear hfz11_0
      try clear hfz11_1
      try clear hfz11_2
      try clear hfz11_3
      try clear hfz11_4
      try clear hfz11_5
      try clear hfz11_6
      try clear hfz11_7
      try clear hfz13_0
      try clear hfz13_1
      try clear hfz13_2
      try clear hfz13_3
      try clear hfz13_4
      try clear hfz13_5
      try clear hfz13_6
      try clear hfz13_7
      try clear hfz15_0
      try clear hfz15_1
      try clear hfz15_2
      try clear hfz15_3
      try clear hfz15_4
      try clear hfz15_5
      try clear hfz15_6
      try clear hfz15_7
      try clear hfz23_0
      try clear hfz23_1
      try clear hfz23_2
      try clear hfz23_3
      try clear hfz23_4
      try clear hfz23_5
      try clear hfz23_6
      try clear hfz23_7
      try clear hfz27_0
      try clear hfz27_1
      try clear hfz27_2
      try clear hfz27_3
      try clear hfz27_4
      try clear hfz27_5
      try clear hfz27_6
      try clear hfz27_7
      try clear hfz30_0
      try clear hfz30_1
      try clear hfz30_2
      try clear hfz30_3
      try clear hfz30_4
      try clear hfz30_5
      try clear hfz30_6
      try clear hfz30_7
      try clear hfz9_0
      try clear hfz9_1
      try clear hfz9_2
      try clear hfz9_3
      try clear hfz9_4
      try clear hfz9_5
      try clear hfz9_6
      try clear hfz9_7
      obtain ⟨kq, x76_6, rfl, HA, HJ6, HO_3, HO_5, HO_7, BK1087, HB⟩ := hcut
      cases kq with
      | zero => exact absurd HA.out (by simp [conclavelaw13_PointsApart.j0])
      | succ kj6 =>
        have H := HA.out
        clear HA
        simp only [conclavelaw13_PointsApart.j0] at H
        by_cases c31 : x76_6 = true
        · subst c31
          have H1 : (some false) = some r := by rw [if_pos rfl] at H; exact H
          clear H
          have H := H1
          clear H1
          exact absurd (Option.some.inj H) (by rw [hrt]; decide)
        · replace c31 := Bool.eq_false_iff.mpr c31
          subst c31
          have H1 : ((conclaveref01_Copy.f t1088).bind fun t1102 => (if t1102.length + t1092.length < 17592186044416 then ((some (t1102 ++ t1092 : List Int)).bind fun y1105 => (if y1105.length + t1096.length < 17592186044416 then (conclavelaw13_PointsApart.l0 kj6 (y1105 ++ t1096) 0 a0_0 a0_1 a0_2 a0_3 a0_4 a0_5 a0_6 a0_7) else (none))) else (none))) = some r := by rw [if_neg (show ¬ (false = true) by decide)] at H; exact H
          clear H
          have H := H1
          clear H1
          replace H := Option.bind_eq_some_iff.mp H
          obtain ⟨t1102, A320, H⟩ := H
          replace H : (if t1102.length + t1092.length < 17592186044416 then ((some (t1102 ++ t1092 : List Int)).bind fun y1105 => (if y1105.length + t1096.length < 17592186044416 then (conclavelaw13_PointsApart.l0 kj6 (y1105 ++ t1096) 0 a0_0 a0_1 a0_2 a0_3 a0_4 a0_5 a0_6 a0_7) else (none))) else (none)) = some r := H
          have A32 := Aside0.mk A320
          clear A320
          by_cases c33 : t1102.length + t1092.length < 17592186044416
          · rw [if_pos c33] at H
            have LMc33 := Aside0.mk c33
            clear c33
            obtain ⟨y1105, hy1105⟩ : ∃ y_ : List Int, y_ = (t1102 ++ t1092) := ⟨_, rfl⟩
            replace H : (if y1105.length + t1096.length < 17592186044416 then (conclavelaw13_PointsApart.l0 kj6 (y1105 ++ t1096) 0 a0_0 a0_1 a0_2 a0_3 a0_4 a0_5 a0_6 a0_7) else (none)) = some r := by first | (rw [hy1105]; with_reducible exact H) | (have H2_ := (Option.bind_some _ _).symm.trans H; rw [hy1105]; with_reducible exact H2_) | (have H2_ := (Option.bind_some _ _).symm.trans H; with_reducible exact H2_) | with_reducible exact H | (rw [hy1105]; exact H) | exact H
            have Ny1105 := Aside0.mk hy1105
            clear hy1105
            by_cases c34 : y1105.length + t1096.length < 17592186044416
            · rw [if_pos c34] at H
              have LMc34 := Aside0.mk c34
              clear c34
              obtain ⟨y1108, hy1108⟩ : ∃ y_ : List Int, y_ = (y1105 ++ t1096) := ⟨_, rfl⟩
              replace H : (conclavelaw13_PointsApart.l0 kj6 y1108 0 a0_0 a0_1 a0_2 a0_3 a0_4 a0_5 a0_6 a0_7) = some r := by first | (rw [hy1108]; with_reducible exact H) | (have H2_ := (Option.bind_some _ _).symm.trans H; rw [hy1108]; with_reducible exact H2_) | (have H2_ := (Option.bind_some _ _).symm.trans H; with_reducible exact H2_) | with_reducible exact H | (rw [hy1108]; exact H) | exact H
              have Ny1108 := Aside0.mk hy1108
              clear hy1108
              have H' := Aside0.mk H
              clear H
              obtain ⟨Ao35, co35, eo35⟩ := Kd.R_slice HO_3.out
              subst eo35
              go_wp2_with (first | ((with_reducible refine gate_callee (f := 51) rfl ?_); refine goesL_ (some 78) rfl rfl Try.func51 (by kernel_rfl) rfl #[.slice Ao35 t1088.length co35] rfl (by (try simp only [List.map_toArray, List.map_cons, List.map_nil]); first | done | rfl | (simp only [List.length_drop, List.length_take]; rfl)) ?_; (with_reducible refine (conclaveref01_Copy.calls _ _ t1088 t1102 _ ?side1 ?side2 A32.out).mono ?_); (case side1 => repeat (first | exact (Kd.R_reads' HO_3.out).2.2 | (with_reducible refine Kd.C_alloc ?_ _) | (with_reducible refine Kd.C_drewN ?_ _) | (with_reducible refine Kd.C_drew ?_))); (case side2 => exact (Kd.R_reads' HO_3.out).2.1); rintro e w36 ⟨v1103, rfl, ho0, hb⟩; refine ⟨_, rfl, ?_⟩; have n0_ := Aside0.mk (Kd.R_elder' (by (with_reducible repeat (first | apply Kd.R_alloc | apply Kd.R_drewN | apply Kd.R_drew)); exact HO_3.out) (Kd.R_base ho0) hb); have n1_ := Aside0.mk (Kd.R_elder' (by (with_reducible repeat (first | apply Kd.R_alloc | apply Kd.R_drewN | apply Kd.R_drew)); exact HO_5.out) (Kd.R_base ho0) hb); have n2_ := Aside0.mk (Kd.R_elder' (by (with_reducible repeat (first | apply Kd.R_alloc | apply Kd.R_drewN | apply Kd.R_drew)); exact HO_7.out) (Kd.R_base ho0) hb); have n3_ := Aside0.mk (Kd.R_lower (Kd.R_new' (Kd.R_new' (Kd.R_new' ho0 (Kd.R_lt (by (with_reducible repeat (first | apply Kd.R_alloc | apply Kd.R_drewN | apply Kd.R_drew)); exact HO_3.out))) (Kd.R_lt (by (with_reducible repeat (first | apply Kd.R_alloc | apply Kd.R_drewN | apply Kd.R_drew)); exact HO_5.out))) (Kd.R_lt (by (with_reducible repeat (first | apply Kd.R_alloc | apply Kd.R_drewN | apply Kd.R_drew)); exact HO_7.out))) (below_size (by repeat (first | (with_reducible first | exact HB.out | apply below_alloc | apply pw_below_drewN | apply below_drew1 | refine below_set ?_ GE1087.out) | exact HB.out)))); have n4_ := Aside0.mk (blk_below (g := gb1087) (o := .cells #[.int .u8 a0_0, .int .i64 a0_1, .int .i64 a0_2, .int .i64 a0_3, .int .i64 a0_4, .int .i64 a0_5, .int .i64 a0_6, .int .i64 a0_7] 40 (0, 0)) (by (with_reducible repeat (first | refine blk_drewN ?_ _ | refine blk_drew ?_ | refine blk_alloc ?_ _)); exact BK1087.out) hb); have n5_ := Aside0.mk (below_step (by repeat (first | (with_reducible first | exact HB.out | apply below_alloc | apply pw_below_drewN | apply below_drew1 | refine below_set ?_ GE1087.out) | exact HB.out)) hb); clear HO_3; clear HO_5; clear HO_7; clear BK1087; clear HB; have HO_3 := n0_; have HO_5 := n1_; have HO_7 := n2_; have HO1104 := n3_; have BK1087 := n4_; have HB := n5_; clear n0_ n1_ n2_ n3_ n4_ n5_; (try clear hb); (try clear hb2); (try clear hk); (try clear hi); (try clear ho0); obtain ⟨Ao38, co38, eo38⟩ := Kd.R_slice HO_5.out; subst eo38) | ((with_reducible refine gate_builtin (b := .append) (xs := #[.tmp 78, .tmp 79]) rfl ?_); (try (refine gate_guard (by rfl) ?_; dsimp only)); at_builtin; refine Kd.R_append_rows (Kd.int .u64) (w0 := w) w.heap.size rfl (.tmp 78) (.tmp 79) 64 65 (.int .u64 0) 8 rfl Try.underlying64 info65 rfl (by decide) (by omega) v1103 t1102 t1092 _ _ _ (fun k_ => some k_ ≠ (.slice Ao35 t1088.length co35 : Value).ownBlock ∧ some k_ ≠ (.slice Ao38 t1092.length co38 : Value).ownBlock ∧ some k_ ≠ (v1097 : Value).ownBlock) (fun _ => False) rfl rfl ?aO ?aR (fun _ _ h => h) (fun _ h => h.elim) ?aF ?aB ?aS ?aL ?_; (case aR => repeat (first | exact (Kd.R_reads' HO_5.out).2.2 | (with_reducible refine Kd.C_alloc ?_ _) | (with_reducible refine Kd.C_drewN ?_ _) | (with_reducible refine Kd.C_drew ?_))); (case aB => exact (by repeat (first | (with_reducible first | exact HB.out | apply below_alloc | apply pw_below_drewN | apply below_drew1 | refine below_set ?_ GE1087.out) | exact HB.out))); (case aF => exact (fun k_ hk => ⟨Kd.fresh' (Kd.R_lt (by (with_reducible repeat (first | apply Kd.R_alloc | apply Kd.R_drewN | apply Kd.R_drew)); exact HO_3.out)) k_ hk, Kd.fresh' (Kd.R_lt (by (with_reducible repeat (first | apply Kd.R_alloc | apply Kd.R_drewN | apply Kd.R_drew)); exact HO_5.out)) k_ hk, Kd.fresh' (Kd.R_lt (by (with_reducible repeat (first | apply Kd.R_alloc | apply Kd.R_drewN | apply Kd.R_drew)); exact HO_7.out)) k_ hk⟩)); (case aO => exact (by (with_reducible repeat (first | apply Kd.R_alloc | apply Kd.R_drewN | apply Kd.R_drew)); exact Kd.R_mono HO1104.out (fun _ hk => ⟨hk.1.1.2, ⟨hk.1.2, hk.2⟩⟩))); (case aS => exact (below_size (by repeat (first | (with_reducible first | exact HB.out | apply below_alloc | apply pw_below_drewN | apply below_drew1 | refine below_set ?_ GE1087.out) | exact HB.out)))); (case aL => have := LMc33.out; omega); intro v1106 w37 ho hb hg hat; rw [← Ny1105.out] at ho; have n0_ := Aside0.mk (Kd.R_after (ok := (fun k_ => some k_ ≠ (.slice Ao38 t1092.length co38 : Value).ownBlock ∧ some k_ ≠ (v1097 : Value).ownBlock)) (by (with_reducible repeat (first | apply Kd.R_alloc | apply Kd.R_drewN | apply Kd.R_drew)); exact HO_3.out) hg hat); have n1_ := Aside0.mk (Kd.R_after (ok := (fun k_ => some k_ ≠ (.slice Ao35 t1088.length co35 : Value).ownBlock ∧ some k_ ≠ (v1097 : Value).ownBlock)) (by (with_reducible repeat (first | apply Kd.R_alloc | apply Kd.R_drewN | apply Kd.R_drew)); exact HO_5.out) hg hat); have n2_ := Aside0.mk (Kd.R_after (ok := (fun k_ => some k_ ≠ (.slice Ao35 t1088.length co35 : Value).ownBlock ∧ some k_ ≠ (.slice Ao38 t1092.length co38 : Value).ownBlock)) (by (with_reducible repeat (first | apply Kd.R_alloc | apply Kd.R_drewN | apply Kd.R_drew)); exact HO_7.out) hg hat); have n3_ := Aside0.mk (blk_grown (g := gb1087) (o := .cells #[.int .u8 a0_0, .int .i64 a0_1, .int .i64 a0_2, .int .i64 a0_3, .int .i64 a0_4, .int .i64 a0_5, .int .i64 a0_6, .int .i64 a0_7] 40 (0, 0)) (by (with_reducible repeat (first | refine blk_drewN ?_ _ | refine blk_drew ?_ | refine blk_alloc ?_ _)); exact BK1087.out) hg (Kd.R_ne HO1104.out BK1087.out (by decide))); have n4_ := Aside0.mk (hb); have n5_ := Aside0.mk (ho); clear HO_3; clear HO_5; clear HO_7; clear BK1087; clear HB; clear HO1104; have HO_3 := n0_; have HO_5 := n1_; have HO_7 := n2_; have BK1087 := n3_; have HB := n4_; have HO1107 := n5_; clear n0_ n1_ n2_ n3_ n4_ n5_; clear ho hb hg hat; obtain ⟨Ao40, co40, eo40⟩ := Kd.R_slice HO_7.out; subst eo40) | ((with_reducible refine gate_builtin (b := .append) (xs := #[.tmp 80, .tmp 81]) rfl ?_); (try (refine gate_guard (by rfl) ?_; dsimp only)); at_builtin; refine Kd.R_append_rows (Kd.int .u64) (w0 := w) w.heap.size rfl (.tmp 80) (.tmp 81) 64 65 (.int .u64 0) 8 rfl Try.underlying64 info65 rfl (by decide) (by omega) v1106 y1105 t1096 _ _ _ (fun k_ => some k_ ≠ (.slice Ao35 t1088.length co35 : Value).ownBlock ∧ some k_ ≠ (.slice Ao38 t1092.length co38 : Value).ownBlock ∧ some k_ ≠ (.slice Ao40 t1096.length co40 : Value).ownBlock) (fun _ => False) rfl rfl ?aO ?aR (fun _ _ h => h) (fun _ h => h.elim) ?aF ?aB ?aS ?aL ?_; (case aR => repeat (first | exact (Kd.R_reads' HO_7.out).2.2 | (with_reducible refine Kd.C_alloc ?_ _) | (with_reducible refine Kd.C_drewN ?_ _) | (with_reducible refine Kd.C_drew ?_))); (case aB => exact (by repeat (first | (with_reducible first | exact HB.out | apply below_alloc | apply pw_below_drewN | apply below_drew1 | refine below_set ?_ GE1087.out) | exact HB.out))); (case aF => exact (fun k_ hk => ⟨Kd.fresh' (Kd.R_lt (by (with_reducible repeat (first | apply Kd.R_alloc | apply Kd.R_drewN | apply Kd.R_drew)); exact HO_3.out)) k_ hk, Kd.fresh' (Kd.R_lt (by (with_reducible repeat (first | apply Kd.R_alloc | apply Kd.R_drewN | apply Kd.R_drew)); exact HO_5.out)) k_ hk, Kd.fresh' (Kd.R_lt (by (with_reducible repeat (first | apply Kd.R_alloc | apply Kd.R_drewN | apply Kd.R_drew)); exact HO_7.out)) k_ hk⟩)); (case aO => exact (by (with_reducible repeat (first | apply Kd.R_alloc | apply Kd.R_drewN | apply Kd.R_drew)); exact HO1107.out)); (case aS => exact (below_size (by repeat (first | (with_reducible first | exact HB.out | apply below_alloc | apply pw_below_drewN | apply below_drew1 | refine below_set ?_ GE1087.out) | exact HB.out)))); (case aL => have := LMc34.out; omega); intro v1109 w39 ho hb hg hat; rw [← Ny1108.out] at ho; have n0_ := Aside0.mk (Kd.R_after (ok := (fun k_ => some k_ ≠ (.slice Ao38 t1092.length co38 : Value).ownBlock ∧ some k_ ≠ (.slice Ao40 t1096.length co40 : Value).ownBlock)) (by (with_reducible repeat (first | apply Kd.R_alloc | apply Kd.R_drewN | apply Kd.R_drew)); exact HO_3.out) hg hat); have n1_ := Aside0.mk (Kd.R_after (ok := (fun k_ => some k_ ≠ (.slice Ao35 t1088.length co35 : Value).ownBlock ∧ some k_ ≠ (.slice Ao40 t1096.length co40 : Value).ownBlock)) (by (with_reducible repeat (first | apply Kd.R_alloc | apply Kd.R_drewN | apply Kd.R_drew)); exact HO_5.out) hg hat); have n2_ := Aside0.mk (Kd.R_after (ok := (fun k_ => some k_ ≠ (.slice Ao35 t1088.length co35 : Value).ownBlock ∧ some k_ ≠ (.slice Ao38 t1092.length co38 : Value).ownBlock)) (by (with_reducible repeat (first | apply Kd.R_alloc | apply Kd.R_drewN | apply Kd.R_drew)); exact HO_7.out) hg hat); have n3_ := Aside0.mk (blk_grown (g := gb1087) (o := .cells #[.int .u8 a0_0, .int .i64 a0_1, .int .i64 a0_2, .int .i64 a0_3, .int .i64 a0_4, .int .i64 a0_5, .int .i64 a0_6, .int .i64 a0_7] 40 (0, 0)) (by (with_reducible repeat (first | refine blk_drewN ?_ _ | refine blk_drew ?_ | refine blk_alloc ?_ _)); exact BK1087.out) hg (Kd.R_ne HO1107.out BK1087.out (by decide))); have n4_ := Aside0.mk (hb); have n5_ := Aside0.mk (ho); clear HO_3; clear HO_5; clear HO_7; clear BK1087; clear HB; clear HO1107; have HO_3 := n0_; have HO_5 := n1_; have HO_7 := n2_; have BK1087 := n3_; have HB := n4_; have HO1110 := n5_; clear n0_ n1_ n2_ n3_ n4_ n5_; clear ho hb hg hat))
              go_loopg [10] kj6 (fun kq v10 w' => ∃ (x10_2 : Int), v10 = .int .i64 x10_2 ∧ Aside0 (conclavelaw13_PointsApart.l0 kq y1108 x10_2 a0_0 a0_1 a0_2 a0_3 a0_4 a0_5 a0_6 a0_7 = some r) ∧ Aside0 (kq ≤ kj6) ∧ Aside0 (Kd.R (Kd.int .u64) 65 w' w.heap.size (fun _ => True) v1109 y1108) ∧ Aside0 (w'.heap[gb1087]? = some (.cells #[.int .u8 a0_0, .int .i64 a0_1, .int .i64 a0_2, .int .i64 a0_3, .int .i64 a0_4, .int .i64 a0_5, .int .i64 a0_6, .int .i64 a0_7] 40 (0, 0))) ∧ Aside0 (Below w.heap.size w w'))
              case atStart => exact ⟨(0), (by first | rfl | (simp; done) | (simp [*]; done)), H', ⟨Nat.le_refl _⟩, ⟨by (with_reducible repeat (first | apply Kd.R_alloc | apply Kd.R_drewN | apply Kd.R_drew)); exact Kd.R_mono HO1110.out (fun _ hk => trivial)⟩, ⟨by (with_reducible repeat (first | refine blk_drewN ?_ _ | refine blk_drew ?_ | refine blk_alloc ?_ _)); exact BK1087.out⟩, ⟨by repeat (first | (with_reducible first | exact HB.out | apply below_alloc | apply pw_below_drewN | apply below_drew1 | refine below_set ?_ GE1087.out) | exact HB.out)⟩⟩
              case round =>
                clear H'
                try clear c1
                try clear c2
                try clear p2
                try clear c3
                try clear c4
                try clear c5
                try clear c6
                try clear c14
                try clear c17
                try clear c17b0
                try clear c17b1
                try clear c18
                try clear c18b0
                try clear c18b1
                try clear c19
                try clear c19b0
                try clear c19b1
                try clear c20
                try clear c20b0
                try clear c20b1
                try clear c21
                try clear c21b0
                try clear c21b1
                try clear c30
                try clear c31
                try clear c33
                try clear c34
                try clear hcz11_0
                try clear hcz11_1
                try clear hcz11_2
                try clear hcz11_3
                try clear hcz11_4
                try clear hcz11_5
                try clear hcz11_6
                try clear hcz11_7
                try clear hcz13_0
                try clear hcz13_1
                try clear hcz13_2
                try clear hcz13_3
                try clear hcz13_4
                try clear hcz13_5
                try clear hcz13_6
                try clear hcz13_7
                try clear hcz15_0
                try clear hcz15_1
                try clear hcz15_2
                try clear hcz15_3
                try clear hcz15_4
                try clear hcz15_5
                try clear hcz15_6
                try clear hcz15_7
                try clear hcz23_0
                try clear hcz23_1
                try clear hcz23_2
                try clear hcz23_3
                try clear hcz23_4
                try clear hcz23_5
                try clear hcz23_6
                try clear hcz23_7
                try clear hcz27_0
                try clear hcz27_1
                try clear hcz27_2
                try clear hcz27_3
                try clear hcz27_4
                try clear hcz27_5
                try clear hcz27_6
                try clear hcz27_7
                try clear hcz30_0
                try clear hcz30_1
                try clear hcz30_2
                try clear hcz30_3
                try clear hcz30_4
                try clear hcz30_5
                try clear hcz30_6
                try clear hcz30_7
                try clear hcz9_0
                try clear hcz9_1
                try clear hcz9_2
                try clear hcz9_3
                try clear hcz9_4
                try clear hcz9_5
                try clear hcz9_6
                try clear hcz9_7
                try clear hfz11_0
                try clear hfz11_1
                try clear hfz11_2
                try clear hfz11_3
                try clear hfz11_4
                try clear hfz11_5
                try clear hfz11_6
                try clear hfz11_7
                try clear hfz13_0
                try clear hfz13_1
                try clear hfz13_2
                try clear hfz13_3
                try clear hfz13_4
                try clear hfz13_5
                try clear hfz13_6
                try clear hfz13_7
                try clear hfz15_0
                try clear hfz15_1
                try clear hfz15_2
                try clear hfz15_3
                try clear hfz15_4
                try clear hfz15_5
                try clear hfz15_6
                try clear hfz15_7
                try clear hfz23_0
                try clear hfz23_1
                try clear hfz23_2
                try clear hfz23_3
                try clear hfz23_4
                try clear hfz23_5
                try clear hfz23_6
                try clear hfz23_7
                try clear hfz27_0
                try clear hfz27_1
                try clear hfz27_2
                try clear hfz27_3
                try clear hfz27_4
                try clear hfz27_5
                try clear hfz27_6
                try clear hfz27_7
                try clear hfz30_0
                try clear hfz30_1
                try clear hfz30_2
                try clear hfz30_3
                try clear hfz30_4
                try clear hfz30_5
                try clear hfz30_6
                try clear hfz30_7
                try clear hfz9_0
                try clear hfz9_1
                try clear hfz9_2
                try clear hfz9_3
                try clear hfz9_4
                try clear hfz9_5
                try clear hfz9_6
                try clear hfz9_7
                try clear p2
                obtain ⟨x10_2, rfl, HA, HK2, HO_9, BK1087, HB⟩ := hrel
                cases gk with
                | zero => exact absurd HA.out (by simp [conclavelaw13_PointsApart.l0])
                | succ k2 =>
                  have H := HA.out
                  clear HA
                  simp only [conclavelaw13_PointsApart.l0] at H
                  by_cases c41 : x10_2 < (y1108.length : Int)
                  · rw [if_pos c41] at H
                    have c41b0 : decide (x10_2 < (y1108.length : Int)) = true := decide_eq_true c41
                    clear c41
                    have H' := Aside0.mk H
                    clear H
                    obtain ⟨Ao42, co42, eo42⟩ := Kd.R_slice HO_9.out
                    subst eo42
                    go_wp2
                    go_loopg [11] k2 (fun kq v11 w' => ∃ (x11_3 : Int), v11 = .int .i64 x11_3 ∧ Aside0 (conclavelaw13_PointsApart.l1 kq y1108 x10_2 x11_3 a0_0 a0_1 a0_2 a0_3 a0_4 a0_5 a0_6 a0_7 = some r) ∧ Aside0 (kq ≤ k2) ∧ Aside0 (Kd.R (Kd.int .u64) 65 w' w.heap.size (fun _ => True) (.slice Ao42 y1108.length co42) y1108) ∧ Aside0 (w'.heap[gb1087]? = some (.cells #[.int .u8 a0_0, .int .i64 a0_1, .int .i64 a0_2, .int .i64 a0_3, .int .i64 a0_4, .int .i64 a0_5, .int .i64 a0_6, .int .i64 a0_7] 40 (0, 0))) ∧ Aside0 (Below w.heap.size w w'))
                    case atStart => exact ⟨(0), (by first | rfl | (simp; done) | (simp [*]; done)), H', ⟨Nat.le_refl _⟩, ⟨by (with_reducible repeat (first | apply Kd.R_alloc | apply Kd.R_drewN | apply Kd.R_drew)); exact HO_9.out⟩, ⟨by (with_reducible repeat (first | refine blk_drewN ?_ _ | refine blk_drew ?_ | refine blk_alloc ?_ _)); exact BK1087.out⟩, ⟨by repeat (first | (with_reducible first | exact HB.out | apply below_alloc | apply pw_below_drewN | apply below_drew1 | refine below_set ?_ GE1087.out) | exact HB.out)⟩⟩
                    case round =>
                      clear H'
                      try clear c1
                      try clear c2
                      try clear p2
                      try clear c3
                      try clear c4
                      try clear c5
                      try clear c6
                      try clear c14
                      try clear c17
                      try clear c17b0
                      try clear c17b1
                      try clear c18
                      try clear c18b0
                      try clear c18b1
                      try clear c19
                      try clear c19b0
                      try clear c19b1
                      try clear c20
                      try clear c20b0
                      try clear c20b1
                      try clear c21
                      try clear c21b0
                      try clear c21b1
                      try clear c30
                      try clear c31
                      try clear c33
                      try clear c34
                      try clear c41
                      try clear c41b0
                      try clear hcz11_0
                      try clear hcz11_1
                      try clear hcz11_2
                      try clear hcz11_3
                      try clear hcz11_4
                      try clear hcz11_5
                      try clear hcz11_6
                      try clear hcz11_7
                      try clear hcz13_0
                      try clear hcz13_1
                      try clear hcz13_2
                      try clear hcz13_3
                      try clear hcz13_4
                      try clear hcz13_5
                      try clear hcz13_6
                      try clear hcz13_7
                      try clear hcz15_0
                      try clear hcz15_1
                      try clear hcz15_2
                      try clear hcz15_3
                      try clear hcz15_4
                      try clear hcz15_5
                      try clear hcz15_6
                      try clear hcz15_7
                      try clear hcz23_0
                      try clear hcz23_1
                      try clear hcz23_2
                      try clear hcz23_3
                      try clear hcz23_4
                      try clear hcz23_5
                      try clear hcz23_6
                      try clear hcz23_7
                      try clear hcz27_0
                      try clear hcz27_1
                      try clear hcz27_2
                      try clear hcz27_3
                      try clear hcz27_4
                      try clear hcz27_5
                      try clear hcz27_6
                      try clear hcz27_7
                      try clear hcz30_0
                      try clear hcz30_1
                      try clear hcz30_2
                      try clear hcz30_3
                      try clear hcz30_4
                      try clear hcz30_5
                      try clear hcz30_6
                      try clear hcz30_7
                      try clear hcz9_0
                      try clear hcz9_1
                      try clear hcz9_2
                      try clear hcz9_3
                      try clear hcz9_4
                      try clear hcz9_5
                      try clear hcz9_6
                      try clear hcz9_7
                      try clear hfz11_0
                      try clear hfz11_1
                      try clear hfz11_2
                      try clear hfz11_3
                      try clear hfz11_4
                      try clear hfz11_5
                      try clear hfz11_6
                      try clear hfz11_7
                      try clear hfz13_0
                      try clear hfz13_1
                      try clear hfz13_2
                      try clear hfz13_3
                      try clear hfz13_4
                      try clear hfz13_5
                      try clear hfz13_6
                      try clear hfz13_7
                      try clear hfz15_0
                      try clear hfz15_1
                      try clear hfz15_2
                      try clear hfz15_3
                      try clear hfz15_4
                      try clear hfz15_5
                      try clear hfz15_6
                      try clear hfz15_7
                      try clear hfz23_0
                      try clear hfz23_1
                      try clear hfz23_2
                      try clear hfz23_3
                      try clear hfz23_4
                      try clear hfz23_5
                      try clear hfz23_6
                      try clear hfz23_7
                      try clear hfz27_0
                      try clear hfz27_1
                      try clear hfz27_2
                      try clear hfz27_3
                      try clear hfz27_4
                      try clear hfz27_5
                      try clear hfz27_6
                      try clear hfz27_7
                      try clear hfz30_0
                      try clear hfz30_1
                      try clear hfz30_2
                      try clear hfz30_3
                      try clear hfz30_4
                      try clear hfz30_5
                      try clear hfz30_6
                      try clear hfz30_7
                      try clear hfz9_0
                      try clear hfz9_1
                      try clear hfz9_2
                      try clear hfz9_3
                      try clear hfz9_4
                      try clear hfz9_5
                      try clear hfz9_6
                      try clear hfz9_7
                      try clear p2
                      obtain ⟨x11_3, rfl, HA, HK3, HO_9, BK1087, HB⟩ := hrel
                      cases gk with
                      | zero => exact absurd HA.out (by simp [conclavelaw13_PointsApart.l1])
                      | succ k3 =>
                        have H := HA.out
                        clear HA
                        simp only [conclavelaw13_PointsApart.l1] at H
                        by_cases c43 : x11_3 < x10_2
                        · rw [if_pos c43] at H
                          have c43b0 : decide (x11_3 < x10_2) = true := decide_eq_true c43
                          clear c43
                          by_cases c44 : 0 ≤ x10_2
                          · rw [if_pos c44] at H
                            have c44b0 : decide (0 ≤ x10_2) = true := decide_eq_true c44
                            clear c44
                            by_cases c45 : x10_2 < (y1108.length : Int)
                            · rw [if_pos c45] at H
                              have c45b0 : decide (x10_2 < (y1108.length : Int)) = true := decide_eq_true c45
                              clear c45
                              by_cases c46 : 0 ≤ x11_3
                              · rw [if_pos c46] at H
                                have c46b0 : decide (0 ≤ x11_3) = true := decide_eq_true c46
                                clear c46
                                by_cases c47 : x11_3 < (y1108.length : Int)
                                · rw [if_pos c47] at H
                                  have c47b0 : decide (x11_3 < (y1108.length : Int)) = true := decide_eq_true c47
                                  clear c47
                                  by_cases c48 : (rd y1108 x10_2) = (rd y1108 x11_3)
                                  · rw [if_pos c48] at H
                                    have c48b0 : ((rd y1108 x10_2) == (rd y1108 x11_3)) = true := beq_iff_eq.mpr c48
                                    have c48b1 : ((rd y1108 x10_2) != (rd y1108 x11_3)) = false := bne_eq_false_iff_eq.mpr c48
                                    clear c48
                                    exact absurd (Option.some.inj H) (by rw [hrt]; decide)
                                  · rw [if_neg c48] at H
                                    have c48b0 : ((rd y1108 x10_2) == (rd y1108 x11_3)) = false := beq_eq_false_iff_ne.mpr c48
                                    have c48b1 : ((rd y1108 x10_2) != (rd y1108 x11_3)) = true := bne_iff_ne.mpr c48
                                    have H' := Aside0.mk H
                                    clear H
                                    try go_wp2
                                    have n0_ := Aside0.mk (Kd.R_drew HO_9.out)
                                    have n1_ := Aside0.mk (blk_drew BK1087.out)
                                    have n2_ := Aside0.mk (below_drew1 HB.out)
                                    clear HO_9
                                    clear BK1087
                                    clear HB
                                    have HO_9 := n0_
                                    have BK1087 := n1_
                                    have HB := n2_
                                    clear n0_ n1_ n2_
                                    have p1113 : 0 ≤ (x10_2 : Int) := of_decide_eq_true (by first | (with_reducible assumption) | assumption)
                                    have q1113 : x10_2 < (y1108.length : Int) := of_decide_eq_true (by first | (with_reducible assumption) | assumption)
                                    obtain ⟨ad1113, e1113, hx1113_0⟩ := Kd.at_int (Kd.R_reads' HO_9.out).2.2 x10_2 p1113 q1113
                                    cases e1113
                                    replace p1113 := eq_true p1113
                                    replace q1113 := eq_true q1113
                                    have p1114 : 0 ≤ (x11_3 : Int) := of_decide_eq_true (by first | (with_reducible assumption) | assumption)
                                    have q1114 : x11_3 < (y1108.length : Int) := of_decide_eq_true (by first | (with_reducible assumption) | assumption)
                                    obtain ⟨ad1114, e1114, hx1114_0⟩ := Kd.at_int (Kd.R_reads' HO_9.out).2.2 x11_3 p1114 q1114
                                    obtain rfl : ad1113 = ad1114 := (by injection e1114)
                                    replace p1114 := eq_true p1114
                                    replace q1114 := eq_true q1114
                                    refine start_ (n := 9) (S := fun w' => w'.cell? (ad1113.add (x10_2).toNat) = some (.int .u64 (rd y1108 x10_2)) ∧ w'.cell? (ad1113.add (x11_3).toNat) = some (.int .u64 (rd y1108 x11_3))) (ds := []) #[false, false, false, false, false, false, false, false, false] (by kernel_rfl) rfl rfl ⟨hx1113_0, hx1114_0⟩ (fun hHeld => ?_); refine with_tabW conclavelaw13_PointsApart.tab15 conclavelaw13_PointsApart.bits15 (fun HT_ HW_ => ?_)
                                    generalize wr.drew = w50 at HO_9 BK1087 HB hx1113_0 hx1114_0 hHeld ⊢
                                    refine pure_ (i := 0) (N := some 94) (v := ?_) (a' := ?_) #[true, false, false, false, false, false, false, false, false] rfl rfl (any_of HT_.out (by kernel_rfl)) (fun _ _ _ h => h) (Or.inl ⟨by rfl, ?_⟩) ?_ ?_
                                    rotate_left
                                    · intro w'
                                      go_simp
                                      with_reducible rfl
                                    rotate_left
                                    · simp only [Act.put, List.setIfInBounds_toArray, List.set_cons_zero, List.set_cons_succ, i64_w, i32_w]
                                      rfl
                                    refine pure_ (i := 1) (N := some 95) (v := ?_) (a' := ?_) #[true, true, false, false, false, false, false, false, false] rfl rfl (any_of HT_.out (by kernel_rfl)) (fun _ _ _ h => h) (Or.inl ⟨by rfl, ?_⟩) ?_ ?_
                                    rotate_left
                                    · intro w'
                                      go_simp
                                      with_reducible rfl
                                    rotate_left
                                    · simp only [Act.put, List.setIfInBounds_toArray, List.set_cons_zero, List.set_cons_succ, i64_w, i32_w]
                                      rfl
                                    refine pure_ (i := 2) (N := some 96) (v := ?_) (a' := ?_) #[true, true, true, false, false, false, false, false, false] rfl rfl (any_of HT_.out (by kernel_rfl)) (fun _ _ _ h => h) (Or.inl ⟨by rfl, ?_⟩) ?_ ?_
                                    rotate_left
                                    · intro w'
                                      go_simp
                                      with_reducible rfl
                                    rotate_left
                                    · simp only [Act.put, List.setIfInBounds_toArray, List.set_cons_zero, List.set_cons_succ, i64_w, i32_w]
                                      rfl
                                    refine pure_ (i := 4) (N := some 98) (v := ?_) (a' := ?_) #[true, true, true, false, true, false, false, false, false] rfl rfl (any_of HT_.out (by kernel_rfl)) (fun _ _ _ h => h) (Or.inl ⟨by rfl, ?_⟩) ?_ ?_
                                    rotate_left
                                    · intro w'
                                      go_simp
                                      with_reducible rfl
                                    rotate_left
                                    · simp only [Act.put, List.setIfInBounds_toArray, List.set_cons_zero, List.set_cons_succ, i64_w, i32_w]
                                      rfl
                                    refine pure_ (i := 5) (N := some 99) (v := ?_) (a' := ?_) #[true, true, true, false, true, true, false, false, false] rfl rfl (any_of HT_.out (by kernel_rfl)) (fun _ _ _ h => h) (Or.inl ⟨by rfl, ?_⟩) ?_ ?_
                                    rotate_left
                                    · intro w'
                                      go_simp
                                      with_reducible rfl
                                    rotate_left
                                    · simp only [Act.put, List.setIfInBounds_toArray, List.set_cons_zero, List.set_cons_succ, i64_w, i32_w]
                                      rfl
                                    refine pure_ (i := 6) (N := some 100) (v := ?_) (a' := ?_) #[true, true, true, false, true, true, true, false, false] rfl rfl (any_of HT_.out (by kernel_rfl)) (fun _ _ _ h => h) (Or.inl ⟨by rfl, ?_⟩) ?_ ?_
                                    rotate_left
                                    · intro w'
                                      go_simp
                                      with_reducible rfl
                                    rotate_left
                                    · simp only [Act.put, List.setIfInBounds_toArray, List.set_cons_zero, List.set_cons_succ, i64_w, i32_w]
                                      rfl
                                    refine take_ (i := 3) (N := some 97) (v := ?_) (a' := ?_) #[true, true, true, true, true, true, true, false, false] rfl rfl (take_ofW HT_.out HW_.out (by kernel_rfl)) (fun _ _ _ h => h) (Or.inl ⟨by rfl, ?_⟩) hHeld ?_ ?_
                                    rotate_left
                                    · rintro w' ⟨s0, s1⟩
                                      go_simp
                                      with_reducible rfl
                                    rotate_left
                                    · simp only [Act.put, List.setIfInBounds_toArray, List.set_cons_zero, List.set_cons_succ, i64_w, i32_w]
                                      rfl
                                    refine take_ (i := 7) (N := some 101) (v := ?_) (a' := ?_) #[true, true, true, true, true, true, true, true, false] rfl rfl (take_ofW HT_.out HW_.out (by kernel_rfl)) (fun _ _ _ h => h) (Or.inl ⟨by rfl, ?_⟩) hHeld ?_ ?_
                                    rotate_left
                                    · rintro w' ⟨s0, s1⟩
                                      go_simp
                                      with_reducible rfl
                                    rotate_left
                                    · simp only [Act.put, List.setIfInBounds_toArray, List.set_cons_zero, List.set_cons_succ, i64_w, i32_w]
                                      rfl
                                    refine pure_ (i := 8) (N := some 102) (v := ?_) (a' := ?_) #[true, true, true, true, true, true, true, true, true] rfl rfl (any_of HT_.out (by kernel_rfl)) (fun _ _ _ h => h) (Or.inl ⟨by rfl, ?_⟩) ?_ ?_
                                    rotate_left
                                    · intro w'
                                      go_simp
                                      with_reducible rfl
                                    rotate_left
                                    · simp only [Act.put, List.setIfInBounds_toArray, List.set_cons_zero, List.set_cons_succ, i64_w, i32_w]
                                      rfl
                                    refine done_ (done_of HT_.out (by kernel_rfl)) ?_
                                    try go_wp2
                                    go_roundg k3
                                    case measure => have := HJ6.out; have := HK2.out; have := HK3.out; omega
                                    case rel => exact ⟨(wrap64 (x11_3 + 1)), (by first | rfl | (simp; done) | (simp [*]; done)), H', ⟨by have := HJ6.out; have := HK2.out; have := HK3.out; omega⟩, ⟨by (with_reducible repeat (first | apply Kd.R_alloc | apply Kd.R_drewN | apply Kd.R_drew)); exact HO_9.out⟩, ⟨by (with_reducible repeat (first | refine blk_drewN ?_ _ | refine blk_drew ?_ | refine blk_alloc ?_ _)); exact BK1087.out⟩, ⟨by repeat (first | (with_reducible first | exact HB.out | apply below_alloc | apply pw_below_drewN | apply below_drew1 | refine below_set ?_ GE1087.out) | exact HB.out)⟩⟩
                                · rw [if_neg c47] at H
                                  exact absurd H (by simp)
                              · rw [if_neg c46] at H
                                exact absurd H (by simp)
                            · rw [if_neg c45] at H
                              exact absurd H (by simp)
                          · rw [if_neg c44] at H
                            exact absurd H (by simp)
                        · rw [if_neg c43] at H
                          have c43b0 : decide (x11_3 < x10_2) = false := decide_eq_false c43
                          clear c43
                          by_cases c51 : 0 ≤ x10_2
                          · rw [if_pos c51] at H
                            have c51b0 : decide (0 ≤ x10_2) = true := decide_eq_true c51
                            clear c51
                            by_cases c52 : x10_2 < (y1108.length : Int)
                            · rw [if_pos c52] at H
                              have c52b0 : decide (x10_2 < (y1108.length : Int)) = true := decide_eq_true c52
                              clear c52
                              replace H := Option.bind_eq_some_iff.mp H
                              obtain ⟨⟨t1116, t1117, t1118⟩, A530, H⟩ := H
                              replace H : (if t1118 = 0 then (if (t1117 != (decide (x10_2 ≥ (wrap64 (a0_2 + a0_3))))) = true then (some false) else (if t1117 = true then (if t1116 = (wrap64 ((wrap64 (x10_2 - a0_2)) - a0_3)) then (conclavelaw13_PointsApart.l0 k3 y1108 (wrap64 (x10_2 + 1)) a0_0 a0_1 a0_2 a0_3 a0_4 a0_5 a0_6 a0_7) else (some false)) else (conclavelaw13_PointsApart.l0 k3 y1108 (wrap64 (x10_2 + 1)) a0_0 a0_1 a0_2 a0_3 a0_4 a0_5 a0_6 a0_7))) else (some false)) = some r := H
                              have A53 := Aside0.mk A530
                              clear A530
                              by_cases c54 : t1118 = 0
                              · rw [if_pos c54] at H
                                have c54b0 : (t1118 == 0) = true := beq_iff_eq.mpr c54
                                have c54b1 : (t1118 != 0) = false := bne_eq_false_iff_eq.mpr c54
                                clear c54
                                by_cases c55 : (t1117 != (decide (x10_2 ≥ (wrap64 (a0_2 + a0_3))))) = true
                                · rw [if_pos c55] at H
                                  have c55b0 : (t1117 != (decide (x10_2 ≥ (wrap64 (a0_2 + a0_3))))) = true := c55
                                  (try (have c55b1 : decide (t1117 = (decide (x10_2 ≥ (wrap64 (a0_2 + a0_3))))) = false := by simpa using c55))
                                  (try (have c55b2 : (t1117 == (decide (x10_2 ≥ (wrap64 (a0_2 + a0_3))))) = false := by simpa using c55))
                                  (try (have c55b3 : ¬ (t1117 = (decide (x10_2 ≥ (wrap64 (a0_2 + a0_3))))) := by simpa using c55))
                                  clear c55
                                  exact absurd (Option.some.inj H) (by rw [hrt]; decide)
                                · rw [if_neg c55] at H
                                  have c55b0 : (t1117 != (decide (x10_2 ≥ (wrap64 (a0_2 + a0_3))))) = false := by simpa using c55
                                  (try (have c55b1 : decide (t1117 = (decide (x10_2 ≥ (wrap64 (a0_2 + a0_3))))) = true := by simpa using c55))
                                  (try (have c55b2 : (t1117 == (decide (x10_2 ≥ (wrap64 (a0_2 + a0_3))))) = true := by simpa using c55))
                                  clear c55
                                  by_cases c59 : t1117 = true
                                  · subst c59
                                    have H1 : (if t1116 = (wrap64 ((wrap64 (x10_2 - a0_2)) - a0_3)) then (conclavelaw13_PointsApart.l0 k3 y1108 (wrap64 (x10_2 + 1)) a0_0 a0_1 a0_2 a0_3 a0_4 a0_5 a0_6 a0_7) else (some false)) = some r := by rw [if_pos rfl] at H; exact H
                                    clear H
                                    have H := H1
                                    clear H1
                                    by_cases c60 : t1116 = (wrap64 ((wrap64 (x10_2 - a0_2)) - a0_3))
                                    · rw [if_pos c60] at H
                                      have c60b0 : (t1116 == (wrap64 ((wrap64 (x10_2 - a0_2)) - a0_3))) = true := beq_iff_eq.mpr c60
                                      have c60b1 : (t1116 != (wrap64 ((wrap64 (x10_2 - a0_2)) - a0_3))) = false := bne_eq_false_iff_eq.mpr c60
                                      clear c60
                                      have H' := Aside0.mk H
                                      clear H
                                      try go_wp2
                                      have n0_ := Aside0.mk (Kd.R_drew HO_9.out)
                                      have n1_ := Aside0.mk (blk_drew BK1087.out)
                                      have n2_ := Aside0.mk (below_drew1 HB.out)
                                      clear HO_9
                                      clear BK1087
                                      clear HB
                                      have HO_9 := n0_
                                      have BK1087 := n1_
                                      have HB := n2_
                                      clear n0_ n1_ n2_
                                      have p1115 : 0 ≤ (x10_2 : Int) := of_decide_eq_true (by first | (with_reducible assumption) | assumption)
                                      have q1115 : x10_2 < (y1108.length : Int) := of_decide_eq_true (by first | (with_reducible assumption) | assumption)
                                      obtain ⟨ad1115, e1115, hx1115_0⟩ := Kd.at_int (Kd.R_reads' HO_9.out).2.2 x10_2 p1115 q1115
                                      cases e1115
                                      replace p1115 := eq_true p1115
                                      replace q1115 := eq_true q1115
                                      refine start_ (n := 13) (S := fun w' => w'.cell? ⟨gb1087, 0, none⟩ = some (.int .u8 a0_0) ∧ w'.cell? ⟨gb1087, 1, none⟩ = some (.int .i64 a0_1) ∧ w'.cell? ⟨gb1087, 2, none⟩ = some (.int .i64 a0_2) ∧ w'.cell? ⟨gb1087, 3, none⟩ = some (.int .i64 a0_3) ∧ w'.cell? ⟨gb1087, 4, none⟩ = some (.int .i64 a0_4) ∧ w'.cell? ⟨gb1087, 5, none⟩ = some (.int .i64 a0_5) ∧ w'.cell? ⟨gb1087, 6, none⟩ = some (.int .i64 a0_6) ∧ w'.cell? ⟨gb1087, 7, none⟩ = some (.int .i64 a0_7) ∧ w'.cell? (ad1115.add (x10_2).toNat) = some (.int .u64 (rd y1108 x10_2))) (ds := []) #[false, false, false, false, false, false, false, false, false, false, false, false, false] (by kernel_rfl) rfl rfl ⟨(blk_cell BK1087.out 0).trans rfl, (blk_cell BK1087.out 1).trans rfl, (blk_cell BK1087.out 2).trans rfl, (blk_cell BK1087.out 3).trans rfl, (blk_cell BK1087.out 4).trans rfl, (blk_cell BK1087.out 5).trans rfl, (blk_cell BK1087.out 6).trans rfl, (blk_cell BK1087.out 7).trans rfl, hx1115_0⟩ (fun hHeld => ?_); refine with_tabW conclavelaw13_PointsApart.tab17 conclavelaw13_PointsApart.bits17 (fun HT_ HW_ => ?_)
                                      generalize wr.drew = w61 at HO_9 BK1087 HB hx1115_0 hHeld ⊢
                                      refine pure_ (i := 1) (N := some 105) (v := ?_) (a' := ?_) #[false, true, false, false, false, false, false, false, false, false, false, false, false] rfl rfl (any_of HT_.out (by kernel_rfl)) (fun _ _ _ h => h) (Or.inl ⟨by rfl, ?_⟩) ?_ ?_
                                      rotate_left
                                      · intro w'
                                        go_simp
                                        with_reducible rfl
                                      rotate_left
                                      · simp only [Act.put, List.setIfInBounds_toArray, List.set_cons_zero, List.set_cons_succ, i64_w, i32_w]
                                        rfl
                                      refine pure_ (i := 2) (N := some 106) (v := ?_) (a' := ?_) #[false, true, true, false, false, false, false, false, false, false, false, false, false] rfl rfl (any_of HT_.out (by kernel_rfl)) (fun _ _ _ h => h) (Or.inl ⟨by rfl, ?_⟩) ?_ ?_
                                      rotate_left
                                      · intro w'
                                        go_simp
                                        with_reducible rfl
                                      rotate_left
                                      · simp only [Act.put, List.setIfInBounds_toArray, List.set_cons_zero, List.set_cons_succ, i64_w, i32_w]
                                        rfl
                                      refine pure_ (i := 3) (N := some 107) (v := ?_) (a' := ?_) #[false, true, true, true, false, false, false, false, false, false, false, false, false] rfl rfl (any_of HT_.out (by kernel_rfl)) (fun _ _ _ h => h) (Or.inl ⟨by rfl, ?_⟩) ?_ ?_
                                      rotate_left
                                      · intro w'
                                        go_simp
                                        with_reducible rfl
                                      rotate_left
                                      · simp only [Act.put, List.setIfInBounds_toArray, List.set_cons_zero, List.set_cons_succ, i64_w, i32_w]
                                        rfl
                                      refine take_ (i := 0) (N := some 104) (v := ?_) (a' := ?_) #[true, true, true, true, false, false, false, false, false, false, false, false, false] rfl rfl (take_ofW HT_.out HW_.out (by kernel_rfl)) (fun _ _ _ h => h) (Or.inl ⟨by rfl, ?_⟩) hHeld ?_ ?_
                                      rotate_left
                                      · rintro w' ⟨s0, s1, s2, s3, s4, s5, s6, s7, s8⟩
                                        go_simp
                                        with_reducible rfl
                                      rotate_left
                                      · simp only [Act.put, List.setIfInBounds_toArray, List.set_cons_zero, List.set_cons_succ, i64_w, i32_w]
                                        rfl
                                      refine take_ (i := 4) (N := some 108) (v := ?_) (a' := ?_) #[true, true, true, true, true, false, false, false, false, false, false, false, false] rfl rfl (take_ofW HT_.out HW_.out (by kernel_rfl)) (fun _ _ _ h => h) (Or.inl ⟨by rfl, ?_⟩) hHeld ?_ ?_
                                      rotate_left
                                      · rintro w' ⟨s0, s1, s2, s3, s4, s5, s6, s7, s8⟩
                                        go_simp
                                        with_reducible rfl
                                      rotate_left
                                      · simp only [Act.put, List.setIfInBounds_toArray, List.set_cons_zero, List.set_cons_succ, i64_w, i32_w]
                                        rfl
                                      refine one_ (i := 5) (N := some 109) #[true, true, true, true, true, true, false, false, false, false, false, false, false] rfl rfl (one_of HT_.out (by kernel_rfl)) (by decide) (fun K hK => ?_)
                                      refine goes_ Try.func49 (by kernel_rfl) rfl #[.agg #[.int .u8 a0_0, .int .i64 a0_1, .int .i64 a0_2, .int .i64 a0_3, .int .i64 a0_4, .int .i64 a0_5, .int .i64 a0_6, .int .i64 a0_7], .int .u64 (rd y1108 x10_2)] (by rfl) rfl rfl (by (try simp only [List.map_toArray, List.map_cons, List.map_nil]); first | done | rfl | (simp only [List.length_drop, List.length_take]; rfl)) ?_
                                      with_reducible refine (points_Worker.calls k3 a0_0 a0_1 a0_2 a0_3 a0_4 a0_5 a0_6 a0_7 (rd y1108 x10_2) t1116 true t1118 _ A53.out).mono ?_
                                      rintro e w62 ⟨rfl, hb⟩
                                      have HS8_ := (hb.cell (World.block_lt_of_cell? _ _ (hHeld.2.2.2.2.2.2.2.2))).trans (hHeld.2.2.2.2.2.2.2.2)
                                      refine ⟨_, rfl, ?_⟩
                                      have n0_ := Aside0.mk (Kd.R_below (by (with_reducible repeat (first | apply Kd.R_alloc | apply Kd.R_drewN | apply Kd.R_drew)); exact HO_9.out) hb)
                                      have n1_ := Aside0.mk (blk_below (g := gb1087) (o := .cells #[.int .u8 a0_0, .int .i64 a0_1, .int .i64 a0_2, .int .i64 a0_3, .int .i64 a0_4, .int .i64 a0_5, .int .i64 a0_6, .int .i64 a0_7] 40 (0, 0)) (by (with_reducible repeat (first | refine blk_drewN ?_ _ | refine blk_drew ?_ | refine blk_alloc ?_ _)); exact BK1087.out) hb)
                                      have n2_ := Aside0.mk (below_step (by repeat (first | (with_reducible first | exact HB.out | apply below_alloc | apply pw_below_drewN | apply below_drew1 | refine below_set ?_ GE1087.out) | exact HB.out)) hb)
                                      clear HO_9
                                      clear BK1087
                                      clear HB
                                      have HO_9 := n0_
                                      have BK1087 := n1_
                                      have HB := n2_
                                      clear n0_ n1_ n2_
                                      (try clear hb)
                                      (try clear hb2)
                                      (try clear hk)
                                      (try clear hi)
                                      refine hK.out _ _ ⟨(blk_cell BK1087.out 0).trans rfl, (blk_cell BK1087.out 1).trans rfl, (blk_cell BK1087.out 2).trans rfl, (blk_cell BK1087.out 3).trans rfl, (blk_cell BK1087.out 4).trans rfl, (blk_cell BK1087.out 5).trans rfl, (blk_cell BK1087.out 6).trans rfl, (blk_cell BK1087.out 7).trans rfl, HS8_⟩ (fun hHeld => ?_)
                                      clear hK K
                                      refine norm_ (a' := ?_) ?_ ?_
                                      rotate_left
                                      · show Act.put _ (some 109) _ = _
                                        simp only [Act.put, List.setIfInBounds_toArray, List.set_cons_zero, List.set_cons_succ, i64_w, i32_w]
                                        rfl
                                      refine pure_ (i := 6) (N := some 103) (v := ?_) (a' := ?_) #[true, true, true, true, true, true, true, false, false, false, false, false, false] rfl rfl (any_of HT_.out (by kernel_rfl)) (fun _ _ _ h => h) (Or.inl ⟨by rfl, ?_⟩) ?_ ?_
                                      rotate_left
                                      · intro w'
                                        go_simp
                                        with_reducible rfl
                                      rotate_left
                                      · simp only [Act.put, List.setIfInBounds_toArray, List.set_cons_zero, List.set_cons_succ, i64_w, i32_w]
                                        rfl
                                      refine pure_ (i := 7) (N := some 110) (v := ?_) (a' := ?_) #[true, true, true, true, true, true, true, true, false, false, false, false, false] rfl rfl (any_of HT_.out (by kernel_rfl)) (fun _ _ _ h => h) (Or.inl ⟨by rfl, ?_⟩) ?_ ?_
                                      rotate_left
                                      · intro w'
                                        go_simp
                                        with_reducible rfl
                                      rotate_left
                                      · simp only [Act.put, List.setIfInBounds_toArray, List.set_cons_zero, List.set_cons_succ, i64_w, i32_w]
                                        rfl
                                      refine pure_ (i := 8) (N := some 111) (v := ?_) (a' := ?_) #[true, true, true, true, true, true, true, true, true, false, false, false, false] rfl rfl (any_of HT_.out (by kernel_rfl)) (fun _ _ _ h => h) (Or.inl ⟨by rfl, ?_⟩) ?_ ?_
                                      rotate_left
                                      · intro w'
                                        go_simp
                                        with_reducible rfl
                                      rotate_left
                                      · simp only [Act.put, List.setIfInBounds_toArray, List.set_cons_zero, List.set_cons_succ, i64_w, i32_w]
                                        rfl
                                      refine pure_ (i := 9) (N := some 112) (v := ?_) (a' := ?_) #[true, true, true, true, true, true, true, true, true, true, false, false, false] rfl rfl (any_of HT_.out (by kernel_rfl)) (fun _ _ _ h => h) (Or.inl ⟨by rfl, ?_⟩) ?_ ?_
                                      rotate_left
                                      · intro w'
                                        go_simp
                                        with_reducible rfl
                                      rotate_left
                                      · simp only [Act.put, List.setIfInBounds_toArray, List.set_cons_zero, List.set_cons_succ, i64_w, i32_w]
                                        rfl
                                      refine pure_ (i := 10) (N := some 12) (v := ?_) (a' := ?_) #[true, true, true, true, true, true, true, true, true, true, true, false, false] rfl rfl (any_of HT_.out (by kernel_rfl)) (fun _ _ _ h => h) (Or.inl ⟨by rfl, ?_⟩) ?_ ?_
                                      rotate_left
                                      · intro w'
                                        go_simp
                                        with_reducible rfl
                                      rotate_left
                                      · simp only [Act.put, List.setIfInBounds_toArray, List.set_cons_zero, List.set_cons_succ, i64_w, i32_w]
                                        rfl
                                      refine pure_ (i := 11) (N := some 13) (v := ?_) (a' := ?_) #[true, true, true, true, true, true, true, true, true, true, true, true, false] rfl rfl (any_of HT_.out (by kernel_rfl)) (fun _ _ _ h => h) (Or.inl ⟨by rfl, ?_⟩) ?_ ?_
                                      rotate_left
                                      · intro w'
                                        go_simp
                                        with_reducible rfl
                                      rotate_left
                                      · simp only [Act.put, List.setIfInBounds_toArray, List.set_cons_zero, List.set_cons_succ, i64_w, i32_w]
                                        rfl
                                      refine pure_ (i := 12) (N := some 14) (v := ?_) (a' := ?_) #[true, true, true, true, true, true, true, true, true, true, true, true, true] rfl rfl (any_of HT_.out (by kernel_rfl)) (fun _ _ _ h => h) (Or.inl ⟨by rfl, ?_⟩) ?_ ?_
                                      rotate_left
                                      · intro w'
                                        go_simp
                                        with_reducible rfl
                                      rotate_left
                                      · simp only [Act.put, List.setIfInBounds_toArray, List.set_cons_zero, List.set_cons_succ, i64_w, i32_w]
                                        rfl
                                      refine done_ (done_of HT_.out (by kernel_rfl)) ?_
                                      have hcz63_0 : w62.cell? ⟨gb1087, 0, none⟩ = some (.int .u8 a0_0) := (blk_cell BK1087.out 0).trans rfl
                                      have hcz63_1 : w62.cell? ⟨gb1087, 1, none⟩ = some (.int .i64 a0_1) := (blk_cell BK1087.out 1).trans rfl
                                      have hcz63_2 : w62.cell? ⟨gb1087, 2, none⟩ = some (.int .i64 a0_2) := (blk_cell BK1087.out 2).trans rfl
                                      have hcz63_3 : w62.cell? ⟨gb1087, 3, none⟩ = some (.int .i64 a0_3) := (blk_cell BK1087.out 3).trans rfl
                                      have hcz63_4 : w62.cell? ⟨gb1087, 4, none⟩ = some (.int .i64 a0_4) := (blk_cell BK1087.out 4).trans rfl
                                      have hcz63_5 : w62.cell? ⟨gb1087, 5, none⟩ = some (.int .i64 a0_5) := (blk_cell BK1087.out 5).trans rfl
                                      have hcz63_6 : w62.cell? ⟨gb1087, 6, none⟩ = some (.int .i64 a0_6) := (blk_cell BK1087.out 6).trans rfl
                                      have hcz63_7 : w62.cell? ⟨gb1087, 7, none⟩ = some (.int .i64 a0_7) := (blk_cell BK1087.out 7).trans rfl
                                      have hfz63_0 := blk_frozen BK1087.out 0
                                      have hfz63_1 := blk_frozen BK1087.out 1
                                      have hfz63_2 := blk_frozen BK1087.out 2
                                      have hfz63_3 := blk_frozen BK1087.out 3
                                      have hfz63_4 := blk_frozen BK1087.out 4
                                      have hfz63_5 := blk_frozen BK1087.out 5
                                      have hfz63_6 := blk_frozen BK1087.out 6
                                      have hfz63_7 := blk_frozen BK1087.out 7
                                      try go_wp2
                                      go_roundg k3
                                      case measure => have := HJ6.out; have := HK2.out; have := HK3.out; omega
                                      case rel => exact ⟨(wrap64 (x10_2 + 1)), (by first | rfl | (simp; done) | (simp [*]; done)), H', ⟨by have := HJ6.out; have := HK2.out; have := HK3.out; omega⟩, ⟨by (with_reducible repeat (first | apply Kd.R_alloc | apply Kd.R_drewN | apply Kd.R_drew)); exact HO_9.out⟩, ⟨by (with_reducible repeat (first | refine blk_drewN ?_ _ | refine blk_drew ?_ | refine blk_alloc ?_ _)); exact BK1087.out⟩, ⟨by repeat (first | (with_reducible first | exact HB.out | apply below_alloc | apply pw_below_drewN | apply below_drew1 | refine below_set ?_ GE1087.out) | exact HB.out)⟩⟩
                                    · rw [if_neg c60] at H
                                      have c60b0 : (t1116 == (wrap64 ((wrap64 (x10_2 - a0_2)) - a0_3))) = false := beq_eq_false_iff_ne.mpr c60
                                      have c60b1 : (t1116 != (wrap64 ((wrap64 (x10_2 - a0_2)) - a0_3))) = true := bne_iff_ne.mpr c60
                                      exact absurd (Option.some.inj H) (by rw [hrt]; decide)
                                  · replace c59 := Bool.eq_false_iff.mpr c59
                                    subst c59
                                    have H1 : (conclavelaw13_PointsApart.l0 k3 y1108 (wrap64 (x10_2 + 1)) a0_0 a0_1 a0_2 a0_3 a0_4 a0_5 a0_6 a0_7) = some r := by rw [if_neg (show ¬ (false = true) by decide)] at H; exact H
                                    clear H
                                    have H := H1
                                    clear H1
                                    have H' := Aside0.mk H
                                    clear H
                                    try go_wp2
                                    have n0_ := Aside0.mk (Kd.R_drew HO_9.out)
                                    have n1_ := Aside0.mk (blk_drew BK1087.out)
                                    have n2_ := Aside0.mk (below_drew1 HB.out)
                                    clear HO_9
                                    clear BK1087
                                    clear HB
                                    have HO_9 := n0_
                                    have BK1087 := n1_
                                    have HB := n2_
                                    clear n0_ n1_ n2_
                                    have p1115 : 0 ≤ (x10_2 : Int) := of_decide_eq_true (by first | (with_reducible assumption) | assumption)
                                    have q1115 : x10_2 < (y1108.length : Int) := of_decide_eq_true (by first | (with_reducible assumption) | assumption)
                                    obtain ⟨ad1115, e1115, hx1115_0⟩ := Kd.at_int (Kd.R_reads' HO_9.out).2.2 x10_2 p1115 q1115
                                    cases e1115
                                    replace p1115 := eq_true p1115
                                    replace q1115 := eq_true q1115
                                    refine start_ (n := 13) (S := fun w' => w'.cell? ⟨gb1087, 0, none⟩ = some (.int .u8 a0_0) ∧ w'.cell? ⟨gb1087, 1, none⟩ = some (.int .i64 a0_1) ∧ w'.cell? ⟨gb1087, 2, none⟩ = some (.int .i64 a0_2) ∧ w'.cell? ⟨gb1087, 3, none⟩ = some (.int .i64 a0_3) ∧ w'.cell? ⟨gb1087, 4, none⟩ = some (.int .i64 a0_4) ∧ w'.cell? ⟨gb1087, 5, none⟩ = some (.int .i64 a0_5) ∧ w'.cell? ⟨gb1087, 6, none⟩ = some (.int .i64 a0_6) ∧ w'.cell? ⟨gb1087, 7, none⟩ = some (.int .i64 a0_7) ∧ w'.cell? (ad1115.add (x10_2).toNat) = some (.int .u64 (rd y1108 x10_2))) (ds := []) #[false, false, false, false, false, false, false, false, false, false, false, false, false] (by kernel_rfl) rfl rfl ⟨(blk_cell BK1087.out 0).trans rfl, (blk_cell BK1087.out 1).trans rfl, (blk_cell BK1087.out 2).trans rfl, (blk_cell BK1087.out 3).trans rfl, (blk_cell BK1087.out 4).trans rfl, (blk_cell BK1087.out 5).trans rfl, (blk_cell BK1087.out 6).trans rfl, (blk_cell BK1087.out 7).trans rfl, hx1115_0⟩ (fun hHeld => ?_); refine with_tabW conclavelaw13_PointsApart.tab17 conclavelaw13_PointsApart.bits17 (fun HT_ HW_ => ?_)
                                    generalize wr.drew = w67 at HO_9 BK1087 HB hx1115_0 hHeld ⊢
                                    refine pure_ (i := 1) (N := some 105) (v := ?_) (a' := ?_) #[false, true, false, false, false, false, false, false, false, false, false, false, false] rfl rfl (any_of HT_.out (by kernel_rfl)) (fun _ _ _ h => h) (Or.inl ⟨by rfl, ?_⟩) ?_ ?_
                                    rotate_left
                                    · intro w'
                                      go_simp
                                      with_reducible rfl
                                    rotate_left
                                    · simp only [Act.put, List.setIfInBounds_toArray, List.set_cons_zero, List.set_cons_succ, i64_w, i32_w]
                                      rfl
                                    refine pure_ (i := 2) (N := some 106) (v := ?_) (a' := ?_) #[false, true, true, false, false, false, false, false, false, false, false, false, false] rfl rfl (any_of HT_.out (by kernel_rfl)) (fun _ _ _ h => h) (Or.inl ⟨by rfl, ?_⟩) ?_ ?_
                                    rotate_left
                                    · intro w'
                                      go_simp
                                      with_reducible rfl
                                    rotate_left
                                    · simp only [Act.put, List.setIfInBounds_toArray, List.set_cons_zero, List.set_cons_succ, i64_w, i32_w]
                                      rfl
                                    refine pure_ (i := 3) (N := some 107) (v := ?_) (a' := ?_) #[false, true, true, true, false, false, false, false, false, false, false, false, false] rfl rfl (any_of HT_.out (by kernel_rfl)) (fun _ _ _ h => h) (Or.inl ⟨by rfl, ?_⟩) ?_ ?_
                                    rotate_left
                                    · intro w'
                                      go_simp
                                      with_reducible rfl
                                    rotate_left
                                    · simp only [Act.put, List.setIfInBounds_toArray, List.set_cons_zero, List.set_cons_succ, i64_w, i32_w]
                                      rfl
                                    refine take_ (i := 0) (N := some 104) (v := ?_) (a' := ?_) #[true, true, true, true, false, false, false, false, false, false, false, false, false] rfl rfl (take_ofW HT_.out HW_.out (by kernel_rfl)) (fun _ _ _ h => h) (Or.inl ⟨by rfl, ?_⟩) hHeld ?_ ?_
                                    rotate_left
                                    · rintro w' ⟨s0, s1, s2, s3, s4, s5, s6, s7, s8⟩
                                      go_simp
                                      with_reducible rfl
                                    rotate_left
                                    · simp only [Act.put, List.setIfInBounds_toArray, List.set_cons_zero, List.set_cons_succ, i64_w, i32_w]
                                      rfl
                                    refine take_ (i := 4) (N := some 108) (v := ?_) (a' := ?_) #[true, true, true, true, true, false, false, false, false, false, false, false, false] rfl rfl (take_ofW HT_.out HW_.out (by kernel_rfl)) (fun _ _ _ h => h) (Or.inl ⟨by rfl, ?_⟩) hHeld ?_ ?_
                                    rotate_left
                                    · rintro w' ⟨s0, s1, s2, s3, s4, s5, s6, s7, s8⟩
                                      go_simp
                                      with_reducible rfl
                                    rotate_left
                                    · simp only [Act.put, List.setIfInBounds_toArray, List.set_cons_zero, List.set_cons_succ, i64_w, i32_w]
                                      rfl
                                    refine one_ (i := 5) (N := some 109) #[true, true, true, true, true, true, false, false, false, false, false, false, false] rfl rfl (one_of HT_.out (by kernel_rfl)) (by decide) (fun K hK => ?_)
                                    refine goes_ Try.func49 (by kernel_rfl) rfl #[.agg #[.int .u8 a0_0, .int .i64 a0_1, .int .i64 a0_2, .int .i64 a0_3, .int .i64 a0_4, .int .i64 a0_5, .int .i64 a0_6, .int .i64 a0_7], .int .u64 (rd y1108 x10_2)] (by rfl) rfl rfl (by (try simp only [List.map_toArray, List.map_cons, List.map_nil]); first | done | rfl | (simp only [List.length_drop, List.length_take]; rfl)) ?_
                                    with_reducible refine (points_Worker.calls k3 a0_0 a0_1 a0_2 a0_3 a0_4 a0_5 a0_6 a0_7 (rd y1108 x10_2) t1116 false t1118 _ A53.out).mono ?_
                                    rintro e w68 ⟨rfl, hb⟩
                                    have HS8_ := (hb.cell (World.block_lt_of_cell? _ _ (hHeld.2.2.2.2.2.2.2.2))).trans (hHeld.2.2.2.2.2.2.2.2)
                                    refine ⟨_, rfl, ?_⟩
                                    have n0_ := Aside0.mk (Kd.R_below (by (with_reducible repeat (first | apply Kd.R_alloc | apply Kd.R_drewN | apply Kd.R_drew)); exact HO_9.out) hb)
                                    have n1_ := Aside0.mk (blk_below (g := gb1087) (o := .cells #[.int .u8 a0_0, .int .i64 a0_1, .int .i64 a0_2, .int .i64 a0_3, .int .i64 a0_4, .int .i64 a0_5, .int .i64 a0_6, .int .i64 a0_7] 40 (0, 0)) (by (with_reducible repeat (first | refine blk_drewN ?_ _ | refine blk_drew ?_ | refine blk_alloc ?_ _)); exact BK1087.out) hb)
                                    have n2_ := Aside0.mk (below_step (by repeat (first | (with_reducible first | exact HB.out | apply below_alloc | apply pw_below_drewN | apply below_drew1 | refine below_set ?_ GE1087.out) | exact HB.out)) hb)
                                    clear HO_9
                                    clear BK1087
                                    clear HB
                                    have HO_9 := n0_
                                    have BK1087 := n1_
                                    have HB := n2_
                                    clear n0_ n1_ n2_
                                    (try clear hb)
                                    (try clear hb2)
                                    (try clear hk)
                                    (try clear hi)
                                    refine hK.out _ _ ⟨(blk_cell BK1087.out 0).trans rfl, (blk_cell BK1087.out 1).trans rfl, (blk_cell BK1087.out 2).trans rfl, (blk_cell BK1087.out 3).trans rfl, (blk_cell BK1087.out 4).trans rfl, (blk_cell BK1087.out 5).trans rfl, (blk_cell BK1087.out 6).trans rfl, (blk_cell BK1087.out 7).trans rfl, HS8_⟩ (fun hHeld => ?_)
                                    clear hK K
                                    refine norm_ (a' := ?_) ?_ ?_
                                    rotate_left
                                    · show Act.put _ (some 109) _ = _
                                      simp only [Act.put, List.setIfInBounds_toArray, List.set_cons_zero, List.set_cons_succ, i64_w, i32_w]
                                      rfl
                                    refine pure_ (i := 6) (N := some 103) (v := ?_) (a' := ?_) #[true, true, true, true, true, true, true, false, false, false, false, false, false] rfl rfl (any_of HT_.out (by kernel_rfl)) (fun _ _ _ h => h) (Or.inl ⟨by rfl, ?_⟩) ?_ ?_
                                    rotate_left
                                    · intro w'
                                      go_simp
                                      with_reducible rfl
                                    rotate_left
                                    · simp only [Act.put, List.setIfInBounds_toArray, List.set_cons_zero, List.set_cons_succ, i64_w, i32_w]
                                      rfl
                                    refine pure_ (i := 7) (N := some 110) (v := ?_) (a' := ?_) #[true, true, true, true, true, true, true, true, false, false, false, false, false] rfl rfl (any_of HT_.out (by kernel_rfl)) (fun _ _ _ h => h) (Or.inl ⟨by rfl, ?_⟩) ?_ ?_
                                    rotate_left
                                    · intro w'
                                      go_simp
                                      with_reducible rfl
                                    rotate_left
                                    · simp only [Act.put, List.setIfInBounds_toArray, List.set_cons_zero, List.set_cons_succ, i64_w, i32_w]
                                      rfl
                                    refine pure_ (i := 8) (N := some 111) (v := ?_) (a' := ?_) #[true, true, true, true, true, true, true, true, true, false, false, false, false] rfl rfl (any_of HT_.out (by kernel_rfl)) (fun _ _ _ h => h) (Or.inl ⟨by rfl, ?_⟩) ?_ ?_
                                    rotate_left
                                    · intro w'
                                      go_simp
                                      with_reducible rfl
                                    rotate_left
                                    · simp only [Act.put, List.setIfInBounds_toArray, List.set_cons_zero, List.set_cons_succ, i64_w, i32_w]
                                      rfl
                                    refine pure_ (i := 9) (N := some 112) (v := ?_) (a' := ?_) #[true, true, true, true, true, true, true, true, true, true, false, false, false] rfl rfl (any_of HT_.out (by kernel_rfl)) (fun _ _ _ h => h) (Or.inl ⟨by rfl, ?_⟩) ?_ ?_
                                    rotate_left
                                    · intro w'
                                      go_simp
                                      with_reducible rfl
                                    rotate_left
                                    · simp only [Act.put, List.setIfInBounds_toArray, List.set_cons_zero, List.set_cons_succ, i64_w, i32_w]
                                      rfl
                                    refine pure_ (i := 10) (N := some 12) (v := ?_) (a' := ?_) #[true, true, true, true, true, true, true, true, true, true, true, false, false] rfl rfl (any_of HT_.out (by kernel_rfl)) (fun _ _ _ h => h) (Or.inl ⟨by rfl, ?_⟩) ?_ ?_
                                    rotate_left
                                    · intro w'
                                      go_simp
                                      with_reducible rfl
                                    rotate_left
                                    · simp only [Act.put, List.setIfInBounds_toArray, List.set_cons_zero, List.set_cons_succ, i64_w, i32_w]
                                      rfl
                                    refine pure_ (i := 11) (N := some 13) (v := ?_) (a' := ?_) #[true, true, true, true, true, true, true, true, true, true, true, true, false] rfl rfl (any_of HT_.out (by kernel_rfl)) (fun _ _ _ h => h) (Or.inl ⟨by rfl, ?_⟩) ?_ ?_
                                    rotate_left
                                    · intro w'
                                      go_simp
                                      with_reducible rfl
                                    rotate_left
                                    · simp only [Act.put, List.setIfInBounds_toArray, List.set_cons_zero, List.set_cons_succ, i64_w, i32_w]
                                      rfl
                                    refine pure_ (i := 12) (N := some 14) (v := ?_) (a' := ?_) #[true, true, true, true, true, true, true, true, true, true, true, true, true] rfl rfl (any_of HT_.out (by kernel_rfl)) (fun _ _ _ h => h) (Or.inl ⟨by rfl, ?_⟩) ?_ ?_
                                    rotate_left
                                    · intro w'
                                      go_simp
                                      with_reducible rfl
                                    rotate_left
                                    · simp only [Act.put, List.setIfInBounds_toArray, List.set_cons_zero, List.set_cons_succ, i64_w, i32_w]
                                      rfl
                                    refine done_ (done_of HT_.out (by kernel_rfl)) ?_
                                    have hcz69_0 : w68.cell? ⟨gb1087, 0, none⟩ = some (.int .u8 a0_0) := (blk_cell BK1087.out 0).trans rfl
                                    have hcz69_1 : w68.cell? ⟨gb1087, 1, none⟩ = some (.int .i64 a0_1) := (blk_cell BK1087.out 1).trans rfl
                                    have hcz69_2 : w68.cell? ⟨gb1087, 2, none⟩ = some (.int .i64 a0_2) := (blk_cell BK1087.out 2).trans rfl
                                    have hcz69_3 : w68.cell? ⟨gb1087, 3, none⟩ = some (.int .i64 a0_3) := (blk_cell BK1087.out 3).trans rfl
                                    have hcz69_4 : w68.cell? ⟨gb1087, 4, none⟩ = some (.int .i64 a0_4) := (blk_cell BK1087.out 4).trans rfl
                                    have hcz69_5 : w68.cell? ⟨gb1087, 5, none⟩ = some (.int .i64 a0_5) := (blk_cell BK1087.out 5).trans rfl
                                    have hcz69_6 : w68.cell? ⟨gb1087, 6, none⟩ = some (.int .i64 a0_6) := (blk_cell BK1087.out 6).trans rfl
                                    have hcz69_7 : w68.cell? ⟨gb1087, 7, none⟩ = some (.int .i64 a0_7) := (blk_cell BK1087.out 7).trans rfl
                                    have hfz69_0 := blk_frozen BK1087.out 0
                                    have hfz69_1 := blk_frozen BK1087.out 1
                                    have hfz69_2 := blk_frozen BK1087.out 2
                                    have hfz69_3 := blk_frozen BK1087.out 3
                                    have hfz69_4 := blk_frozen BK1087.out 4
                                    have hfz69_5 := blk_frozen BK1087.out 5
                                    have hfz69_6 := blk_frozen BK1087.out 6
                                    have hfz69_7 := blk_frozen BK1087.out 7
                                    try go_wp2
                                    go_roundg k3
                                    case measure => have := HJ6.out; have := HK2.out; have := HK3.out; omega
                                    case rel => exact ⟨(wrap64 (x10_2 + 1)), (by first | rfl | (simp; done) | (simp [*]; done)), H', ⟨by have := HJ6.out; have := HK2.out; have := HK3.out; omega⟩, ⟨by (with_reducible repeat (first | apply Kd.R_alloc | apply Kd.R_drewN | apply Kd.R_drew)); exact HO_9.out⟩, ⟨by (with_reducible repeat (first | refine blk_drewN ?_ _ | refine blk_drew ?_ | refine blk_alloc ?_ _)); exact BK1087.out⟩, ⟨by repeat (first | (with_reducible first | exact HB.out | apply below_alloc | apply pw_below_drewN | apply below_drew1 | refine below_set ?_ GE1087.out) | exact HB.out)⟩⟩
                              · rw [if_neg c54] at H
                                have c54b0 : (t1118 == 0) = false := beq_eq_false_iff_ne.mpr c54
                                have c54b1 : (t1118 != 0) = true := bne_iff_ne.mpr c54
                                exact absurd (Option.some.inj H) (by rw [hrt]; decide)
                            · rw [if_neg c52] at H
                              exact absurd H (by simp)
                          · rw [if_neg c51] at H
                            exact absurd H (by simp)
                  · rw [if_neg c41] at H
                    have c41b0 : decide (x10_2 < (y1108.length : Int)) = false := decide_eq_false c41
                    clear c41
                    replace H := Option.bind_eq_some_iff.mp H
                    obtain ⟨t1111, A720, H⟩ := H
                    replace H : (if t1111 = true then ((conclaveref01_In.f k2 a0_0 y1108).bind fun t1112 => (some t1112)) else (some false)) = some r := H
                    have A72 := Aside0.mk A720
                    clear A720
                    by_cases c73 : t1111 = true
                    · subst c73
                      have H1 : ((conclaveref01_In.f k2 a0_0 y1108).bind fun t1112 => (some t1112)) = some r := by rw [if_pos rfl] at H; exact H
                      clear H
                      have H := H1
                      clear H1
                      replace H := Option.bind_eq_some_iff.mp H
                      obtain ⟨t1112, A740, H⟩ := H
                      replace H : (some t1112) = some r := H
                      have A74 := Aside0.mk A740
                      clear A740
                      obtain rfl := Option.some.inj H
                      obtain ⟨Ao75, co75, eo75⟩ := Kd.R_slice HO_9.out
                      subst eo75
                      go_wp2_with (first | ((with_reducible refine gate_callee (f := 43) rfl ?_); refine goesL_ (some 140) rfl rfl Try.func43 (by kernel_rfl) rfl #[] rfl (by (try simp only [List.map_toArray, List.map_cons, List.map_nil]); first | done | rfl | (simp only [List.length_drop, List.length_take]; rfl)) ?_; (with_reducible refine (conclavelaw13_anchored.calls k2  true _ A72.out).mono ?_); rintro e w76 ⟨rfl, hb⟩; refine ⟨_, rfl, ?_⟩; have n0_ := Aside0.mk (Kd.R_below (by (with_reducible repeat (first | apply Kd.R_alloc | apply Kd.R_drewN | apply Kd.R_drew)); exact HO_9.out) hb); have n1_ := Aside0.mk (blk_below (g := gb1087) (o := .cells #[.int .u8 a0_0, .int .i64 a0_1, .int .i64 a0_2, .int .i64 a0_3, .int .i64 a0_4, .int .i64 a0_5, .int .i64 a0_6, .int .i64 a0_7] 40 (0, 0)) (by (with_reducible repeat (first | refine blk_drewN ?_ _ | refine blk_drew ?_ | refine blk_alloc ?_ _)); exact BK1087.out) hb); have n2_ := Aside0.mk (below_step (by repeat (first | (with_reducible first | exact HB.out | apply below_alloc | apply pw_below_drewN | apply below_drew1 | refine below_set ?_ GE1087.out) | exact HB.out)) hb); clear HO_9; clear BK1087; clear HB; have HO_9 := n0_; have BK1087 := n1_; have HB := n2_; clear n0_ n1_ n2_; (try clear hb); (try clear hb2); (try clear hk); (try clear hi); have hcz77_0 : w76.cell? ⟨gb1087, 0, none⟩ = some (.int .u8 a0_0) := (blk_cell BK1087.out 0).trans rfl; have hcz77_1 : w76.cell? ⟨gb1087, 1, none⟩ = some (.int .i64 a0_1) := (blk_cell BK1087.out 1).trans rfl; have hcz77_2 : w76.cell? ⟨gb1087, 2, none⟩ = some (.int .i64 a0_2) := (blk_cell BK1087.out 2).trans rfl; have hcz77_3 : w76.cell? ⟨gb1087, 3, none⟩ = some (.int .i64 a0_3) := (blk_cell BK1087.out 3).trans rfl; have hcz77_4 : w76.cell? ⟨gb1087, 4, none⟩ = some (.int .i64 a0_4) := (blk_cell BK1087.out 4).trans rfl; have hcz77_5 : w76.cell? ⟨gb1087, 5, none⟩ = some (.int .i64 a0_5) := (blk_cell BK1087.out 5).trans rfl; have hcz77_6 : w76.cell? ⟨gb1087, 6, none⟩ = some (.int .i64 a0_6) := (blk_cell BK1087.out 6).trans rfl; have hcz77_7 : w76.cell? ⟨gb1087, 7, none⟩ = some (.int .i64 a0_7) := (blk_cell BK1087.out 7).trans rfl; have hfz77_0 := blk_frozen BK1087.out 0; have hfz77_1 := blk_frozen BK1087.out 1; have hfz77_2 := blk_frozen BK1087.out 2; have hfz77_3 := blk_frozen BK1087.out 3; have hfz77_4 := blk_frozen BK1087.out 4; have hfz77_5 := blk_frozen BK1087.out 5; have hfz77_6 := blk_frozen BK1087.out 6; have hfz77_7 := blk_frozen BK1087.out 7) | (go_at_call 52; (with_reducible refine (conclaveref01_In.calls k2 a0_0 _ _ y1108 t1112 _ ?side1 ?side2 A74.out).mono ?_); (case side1 => repeat (first | exact (Kd.R_reads' HO_9.out).2.2 | (with_reducible refine Kd.C_alloc ?_ _) | (with_reducible refine Kd.C_drewN ?_ _) | (with_reducible refine Kd.C_drew ?_))); (case side2 => exact (Kd.R_reads' HO_9.out).2.1); rintro e w' ⟨rfl, ⟨nd, rfl⟩⟩))
                      go_ret
                      exact ⟨by first | rfl | (simp [errW_none, errW_some] <;> rfl) | (simp [*, errW_none, errW_some] <;> rfl), by repeat (first | (with_reducible first | exact HB.out | apply below_alloc | apply pw_below_drewN | apply below_drew1 | refine below_set ?_ GE1087.out) | exact HB.out)⟩
                    · replace c73 := Bool.eq_false_iff.mpr c73
                      subst c73
                      have H1 : (some false) = some r := by rw [if_neg (show ¬ (false = true) by decide)] at H; exact H
                      clear H
                      have H := H1
                      clear H1
                      exact absurd (Option.some.inj H) (by rw [hrt]; decide)
            · rw [if_neg c34] at H
              exact absurd H (by simp)
          · rw [if_neg c33] at H
            exact absurd H (by simp)
  · replace c6 := Bool.eq_false_iff.mpr c6
    subst c6
    have H1 : ((conclavelaw13_anchored.f k).bind fun t1101 => (if t1101 = true then (if t1091 = 2 then (if t1095 = 2 then (some (t1099 == 2)) else (some false)) else (some false)) else (some false))) = some r := by rw [if_neg (show ¬ (false = true) by decide)] at H; exact H
    clear H
    have H := H1
    clear H1
    replace H := Option.bind_eq_some_iff.mp H
    obtain ⟨t1101, A800, H⟩ := H
    replace H : (if t1101 = true then (if t1091 = 2 then (if t1095 = 2 then (some (t1099 == 2)) else (some false)) else (some false)) else (some false)) = some r := H
    have A80 := Aside0.mk A800
    clear A800
    by_cases c81 : t1101 = true
    · subst c81
      have H1 : (if t1091 = 2 then (if t1095 = 2 then (some (t1099 == 2)) else (some false)) else (some false)) = some r := by rw [if_pos rfl] at H; exact H
      clear H
      have H := H1
      clear H1
      by_cases c82 : t1091 = 2
      · rw [if_pos c82] at H
        have c82b0 : (t1091 == 2) = true := beq_iff_eq.mpr c82
        have c82b1 : (t1091 != 2) = false := bne_eq_false_iff_eq.mpr c82
        clear c82
        by_cases c83 : t1095 = 2
        · rw [if_pos c83] at H
          have c83b0 : (t1095 == 2) = true := beq_iff_eq.mpr c83
          have c83b1 : (t1095 != 2) = false := bne_eq_false_iff_eq.mpr c83
          clear c83
          obtain rfl := Option.some.inj H
          go_enter Try.func14, Try.ntmps14
          go_wp2_with (first | ((with_reducible refine gate_dst (N := 1) rfl ?_); (try (refine gate_guard (by rfl) ?_; dsimp only)); refine box_event ?hg (N := 1) ?hd (cs := #[.int .u8 a0_0, .int .i64 a0_1, .int .i64 a0_2, .int .i64 a0_3, .int .i64 a0_4, .int .i64 a0_5, .int .i64 a0_6, .int .i64 a0_7]) (t := 40) ?hr ?_; (case hd => rfl); (case hg => rfl); (case hr => first | (go_simp; done) | (go_simp; rfl)); intro gb1087 hg w84 hbox hb; have n0_ := Aside0.mk (below_step (by repeat (first | (with_reducible first | exact HB.out | apply below_alloc | apply pw_below_drewN | apply below_drew1) | exact HB.out)) hb); have n1_ := Aside0.mk (hbox); have n2_ := Aside0.mk ((by rw [hg]; exact (below_size (by repeat (first | (with_reducible first | exact HB.out | apply below_alloc | apply pw_below_drewN | apply below_drew1) | exact HB.out))) : w.heap.size ≤ gb1087)); have n3_ := Aside0.mk ((by rw [hg]; exact (below_size (by repeat (first | (with_reducible first | exact HB.out | apply below_alloc | apply pw_below_drewN | apply below_drew1) | exact HB.out))) : w.heap.size ≤ gb1087)); clear HB; have HB := n0_; have BK1087 := n1_; have GW1087 := n2_; have GE1087 := n3_; clear n0_ n1_ n2_ n3_; clear hb hbox hg; have hcz85_0 : w84.cell? ⟨gb1087, 0, none⟩ = some (.int .u8 a0_0) := (blk_cell BK1087.out 0).trans rfl; have hcz85_1 : w84.cell? ⟨gb1087, 1, none⟩ = some (.int .i64 a0_1) := (blk_cell BK1087.out 1).trans rfl; have hcz85_2 : w84.cell? ⟨gb1087, 2, none⟩ = some (.int .i64 a0_2) := (blk_cell BK1087.out 2).trans rfl; have hcz85_3 : w84.cell? ⟨gb1087, 3, none⟩ = some (.int .i64 a0_3) := (blk_cell BK1087.out 3).trans rfl; have hcz85_4 : w84.cell? ⟨gb1087, 4, none⟩ = some (.int .i64 a0_4) := (blk_cell BK1087.out 4).trans rfl; have hcz85_5 : w84.cell? ⟨gb1087, 5, none⟩ = some (.int .i64 a0_5) := (blk_cell BK1087.out 5).trans rfl; have hcz85_6 : w84.cell? ⟨gb1087, 6, none⟩ = some (.int .i64 a0_6) := (blk_cell BK1087.out 6).trans rfl; have hcz85_7 : w84.cell? ⟨gb1087, 7, none⟩ = some (.int .i64 a0_7) := (blk_cell BK1087.out 7).trans rfl; have hfz85_0 := blk_frozen BK1087.out 0; have hfz85_1 := blk_frozen BK1087.out 1; have hfz85_2 := blk_frozen BK1087.out 2; have hfz85_3 := blk_frozen BK1087.out 3; have hfz85_4 := blk_frozen BK1087.out 4; have hfz85_5 := blk_frozen BK1087.out 5; have hfz85_6 := blk_frozen BK1087.out 6; have hfz85_7 := blk_frozen BK1087.out 7) | ((with_reducible refine gate_callee (f := 45) rfl ?_); refine goesL_ (some 17) rfl rfl Try.func45 (by kernel_rfl) rfl #[.agg #[.int .u8 a0_0, .int .i64 a0_1, .int .i64 a0_2, .int .i64 a0_3, .int .i64 a0_4, .int .i64 a0_5, .int .i64 a0_6, .int .i64 a0_7]] rfl (by (try simp only [List.map_toArray, List.map_cons, List.map_nil]); first | done | rfl | (simp only [List.length_drop, List.length_take]; rfl)) ?_; (with_reducible refine (points_Data.calls k a0_0 a0_1 a0_2 a0_3 a0_4 a0_5 a0_6 a0_7 t1088 t1091 _ A2.out).mono ?_); rintro e w86 ⟨v1089, rfl, ho0, hb⟩; refine ⟨_, rfl, ?_⟩; have n0_ := Aside0.mk (Kd.R_lower ho0 (below_size (by repeat (first | (with_reducible first | exact HB.out | apply below_alloc | apply pw_below_drewN | apply below_drew1 | refine below_set ?_ GE1087.out) | exact HB.out)))); have n1_ := Aside0.mk (blk_below (g := gb1087) (o := .cells #[.int .u8 a0_0, .int .i64 a0_1, .int .i64 a0_2, .int .i64 a0_3, .int .i64 a0_4, .int .i64 a0_5, .int .i64 a0_6, .int .i64 a0_7] 40 (0, 0)) (by (with_reducible repeat (first | refine blk_drewN ?_ _ | refine blk_drew ?_ | refine blk_alloc ?_ _)); exact BK1087.out) hb); have n2_ := Aside0.mk (below_step (by repeat (first | (with_reducible first | exact HB.out | apply below_alloc | apply pw_below_drewN | apply below_drew1 | refine below_set ?_ GE1087.out) | exact HB.out)) hb); clear BK1087; clear HB; have HO1090 := n0_; have BK1087 := n1_; have HB := n2_; clear n0_ n1_ n2_; (try clear hb); (try clear hb2); (try clear hk); (try clear hi); (try clear ho0); have hcz87_0 : w86.cell? ⟨gb1087, 0, none⟩ = some (.int .u8 a0_0) := (blk_cell BK1087.out 0).trans rfl; have hcz87_1 : w86.cell? ⟨gb1087, 1, none⟩ = some (.int .i64 a0_1) := (blk_cell BK1087.out 1).trans rfl; have hcz87_2 : w86.cell? ⟨gb1087, 2, none⟩ = some (.int .i64 a0_2) := (blk_cell BK1087.out 2).trans rfl; have hcz87_3 : w86.cell? ⟨gb1087, 3, none⟩ = some (.int .i64 a0_3) := (blk_cell BK1087.out 3).trans rfl; have hcz87_4 : w86.cell? ⟨gb1087, 4, none⟩ = some (.int .i64 a0_4) := (blk_cell BK1087.out 4).trans rfl; have hcz87_5 : w86.cell? ⟨gb1087, 5, none⟩ = some (.int .i64 a0_5) := (blk_cell BK1087.out 5).trans rfl; have hcz87_6 : w86.cell? ⟨gb1087, 6, none⟩ = some (.int .i64 a0_6) := (blk_cell BK1087.out 6).trans rfl; have hcz87_7 : w86.cell? ⟨gb1087, 7, none⟩ = some (.int .i64 a0_7) := (blk_cell BK1087.out 7).trans rfl; have hfz87_0 := blk_frozen BK1087.out 0; have hfz87_1 := blk_frozen BK1087.out 1; have hfz87_2 := blk_frozen BK1087.out 2; have hfz87_3 := blk_frozen BK1087.out 3; have hfz87_4 := blk_frozen BK1087.out 4; have hfz87_5 := blk_frozen BK1087.out 5; have hfz87_6 := blk_frozen BK1087.out 6; have hfz87_7 := blk_frozen BK1087.out 7) | ((with_reducible refine gate_callee (f := 47) rfl ?_); refine goesL_ (some 22) rfl rfl Try.func47 (by kernel_rfl) rfl #[.agg #[.int .u8 a0_0, .int .i64 a0_1, .int .i64 a0_2, .int .i64 a0_3, .int .i64 a0_4, .int .i64 a0_5, .int .i64 a0_6, .int .i64 a0_7]] rfl (by (try simp only [List.map_toArray, List.map_cons, List.map_nil]); first | done | rfl | (simp only [List.length_drop, List.length_take]; rfl)) ?_; (with_reducible refine (points_Pads.calls k a0_0 a0_1 a0_2 a0_3 a0_4 a0_5 a0_6 a0_7 t1092 t1095 _ A3.out).mono ?_); rintro e w88 ⟨v1093, rfl, ho0, hb⟩; refine ⟨_, rfl, ?_⟩; have n0_ := Aside0.mk (Kd.R_elder' (by (with_reducible repeat (first | apply Kd.R_alloc | apply Kd.R_drewN | apply Kd.R_drew)); exact HO1090.out) (Kd.R_base ho0) hb); have n1_ := Aside0.mk (Kd.R_lower (Kd.R_new' ho0 (Kd.R_lt (by (with_reducible repeat (first | apply Kd.R_alloc | apply Kd.R_drewN | apply Kd.R_drew)); exact HO1090.out))) (below_size (by repeat (first | (with_reducible first | exact HB.out | apply below_alloc | apply pw_below_drewN | apply below_drew1 | refine below_set ?_ GE1087.out) | exact HB.out)))); have n2_ := Aside0.mk (blk_below (g := gb1087) (o := .cells #[.int .u8 a0_0, .int .i64 a0_1, .int .i64 a0_2, .int .i64 a0_3, .int .i64 a0_4, .int .i64 a0_5, .int .i64 a0_6, .int .i64 a0_7] 40 (0, 0)) (by (with_reducible repeat (first | refine blk_drewN ?_ _ | refine blk_drew ?_ | refine blk_alloc ?_ _)); exact BK1087.out) hb); have n3_ := Aside0.mk (below_step (by repeat (first | (with_reducible first | exact HB.out | apply below_alloc | apply pw_below_drewN | apply below_drew1 | refine below_set ?_ GE1087.out) | exact HB.out)) hb); clear HO1090; clear BK1087; clear HB; have HO1090 := n0_; have HO1094 := n1_; have BK1087 := n2_; have HB := n3_; clear n0_ n1_ n2_ n3_; (try clear hb); (try clear hb2); (try clear hk); (try clear hi); (try clear ho0); have hcz89_0 : w88.cell? ⟨gb1087, 0, none⟩ = some (.int .u8 a0_0) := (blk_cell BK1087.out 0).trans rfl; have hcz89_1 : w88.cell? ⟨gb1087, 1, none⟩ = some (.int .i64 a0_1) := (blk_cell BK1087.out 1).trans rfl; have hcz89_2 : w88.cell? ⟨gb1087, 2, none⟩ = some (.int .i64 a0_2) := (blk_cell BK1087.out 2).trans rfl; have hcz89_3 : w88.cell? ⟨gb1087, 3, none⟩ = some (.int .i64 a0_3) := (blk_cell BK1087.out 3).trans rfl; have hcz89_4 : w88.cell? ⟨gb1087, 4, none⟩ = some (.int .i64 a0_4) := (blk_cell BK1087.out 4).trans rfl; have hcz89_5 : w88.cell? ⟨gb1087, 5, none⟩ = some (.int .i64 a0_5) := (blk_cell BK1087.out 5).trans rfl; have hcz89_6 : w88.cell? ⟨gb1087, 6, none⟩ = some (.int .i64 a0_6) := (blk_cell BK1087.out 6).trans rfl; have hcz89_7 : w88.cell? ⟨gb1087, 7, none⟩ = some (.int .i64 a0_7) := (blk_cell BK1087.out 7).trans rfl; have hfz89_0 := blk_frozen BK1087.out 0; have hfz89_1 := blk_frozen BK1087.out 1; have hfz89_2 := blk_frozen BK1087.out 2; have hfz89_3 := blk_frozen BK1087.out 3; have hfz89_4 := blk_frozen BK1087.out 4; have hfz89_5 := blk_frozen BK1087.out 5; have hfz89_6 := blk_frozen BK1087.out 6; have hfz89_7 := blk_frozen BK1087.out 7) | ((with_reducible refine gate_callee (f := 48) rfl ?_); refine goesL_ (some 27) rfl rfl Try.func48 (by kernel_rfl) rfl #[.agg #[.int .u8 a0_0, .int .i64 a0_1, .int .i64 a0_2, .int .i64 a0_3, .int .i64 a0_4, .int .i64 a0_5, .int .i64 a0_6, .int .i64 a0_7]] rfl (by (try simp only [List.map_toArray, List.map_cons, List.map_nil]); first | done | rfl | (simp only [List.length_drop, List.length_take]; rfl)) ?_; (with_reducible refine (points_Workers.calls k a0_0 a0_1 a0_2 a0_3 a0_4 a0_5 a0_6 a0_7 t1096 t1099 _ A4.out).mono ?_); rintro e w90 ⟨v1097, rfl, ho0, hb⟩; refine ⟨_, rfl, ?_⟩; have n0_ := Aside0.mk (Kd.R_elder' (by (with_reducible repeat (first | apply Kd.R_alloc | apply Kd.R_drewN | apply Kd.R_drew)); exact HO1090.out) (Kd.R_base ho0) hb); have n1_ := Aside0.mk (Kd.R_elder' (by (with_reducible repeat (first | apply Kd.R_alloc | apply Kd.R_drewN | apply Kd.R_drew)); exact HO1094.out) (Kd.R_base ho0) hb); have n2_ := Aside0.mk (Kd.R_lower (Kd.R_new' (Kd.R_new' ho0 (Kd.R_lt (by (with_reducible repeat (first | apply Kd.R_alloc | apply Kd.R_drewN | apply Kd.R_drew)); exact HO1090.out))) (Kd.R_lt (by (with_reducible repeat (first | apply Kd.R_alloc | apply Kd.R_drewN | apply Kd.R_drew)); exact HO1094.out))) (below_size (by repeat (first | (with_reducible first | exact HB.out | apply below_alloc | apply pw_below_drewN | apply below_drew1 | refine below_set ?_ GE1087.out) | exact HB.out)))); have n3_ := Aside0.mk (blk_below (g := gb1087) (o := .cells #[.int .u8 a0_0, .int .i64 a0_1, .int .i64 a0_2, .int .i64 a0_3, .int .i64 a0_4, .int .i64 a0_5, .int .i64 a0_6, .int .i64 a0_7] 40 (0, 0)) (by (with_reducible repeat (first | refine blk_drewN ?_ _ | refine blk_drew ?_ | refine blk_alloc ?_ _)); exact BK1087.out) hb); have n4_ := Aside0.mk (below_step (by repeat (first | (with_reducible first | exact HB.out | apply below_alloc | apply pw_below_drewN | apply below_drew1 | refine below_set ?_ GE1087.out) | exact HB.out)) hb); clear HO1090; clear HO1094; clear BK1087; clear HB; have HO1090 := n0_; have HO1094 := n1_; have HO1098 := n2_; have BK1087 := n3_; have HB := n4_; clear n0_ n1_ n2_ n3_ n4_; (try clear hb); (try clear hb2); (try clear hk); (try clear hi); (try clear ho0); have hcz91_0 : w90.cell? ⟨gb1087, 0, none⟩ = some (.int .u8 a0_0) := (blk_cell BK1087.out 0).trans rfl; have hcz91_1 : w90.cell? ⟨gb1087, 1, none⟩ = some (.int .i64 a0_1) := (blk_cell BK1087.out 1).trans rfl; have hcz91_2 : w90.cell? ⟨gb1087, 2, none⟩ = some (.int .i64 a0_2) := (blk_cell BK1087.out 2).trans rfl; have hcz91_3 : w90.cell? ⟨gb1087, 3, none⟩ = some (.int .i64 a0_3) := (blk_cell BK1087.out 3).trans rfl; have hcz91_4 : w90.cell? ⟨gb1087, 4, none⟩ = some (.int .i64 a0_4) := (blk_cell BK1087.out 4).trans rfl; have hcz91_5 : w90.cell? ⟨gb1087, 5, none⟩ = some (.int .i64 a0_5) := (blk_cell BK1087.out 5).trans rfl; have hcz91_6 : w90.cell? ⟨gb1087, 6, none⟩ = some (.int .i64 a0_6) := (blk_cell BK1087.out 6).trans rfl; have hcz91_7 : w90.cell? ⟨gb1087, 7, none⟩ = some (.int .i64 a0_7) := (blk_cell BK1087.out 7).trans rfl; have hfz91_0 := blk_frozen BK1087.out 0; have hfz91_1 := blk_frozen BK1087.out 1; have hfz91_2 := blk_frozen BK1087.out 2; have hfz91_3 := blk_frozen BK1087.out 3; have hfz91_4 := blk_frozen BK1087.out 4; have hfz91_5 := blk_frozen BK1087.out 5; have hfz91_6 := blk_frozen BK1087.out 6; have hfz91_7 := blk_frozen BK1087.out 7) | ((with_reducible refine gate_callee (f := 30) rfl ?_); refine goesL_ (some 31) rfl rfl Try.func30 (by kernel_rfl) rfl #[.agg #[.int .u8 a0_0, .int .i64 a0_1, .int .i64 a0_2, .int .i64 a0_3, .int .i64 a0_4, .int .i64 a0_5, .int .i64 a0_6, .int .i64 a0_7]] rfl (by (try simp only [List.map_toArray, List.map_cons, List.map_nil]); first | done | rfl | (simp only [List.length_drop, List.length_take]; rfl)) ?_; (with_reducible refine (conclaveref12_May.calls a0_0 a0_1 a0_2 a0_3 a0_4 a0_5 a0_6 a0_7 false _ A5.out).mono ?_); rintro e w92 ⟨rfl, hb⟩; refine ⟨_, rfl, ?_⟩; have n0_ := Aside0.mk (Kd.R_below (by (with_reducible repeat (first | apply Kd.R_alloc | apply Kd.R_drewN | apply Kd.R_drew)); exact HO1090.out) hb); have n1_ := Aside0.mk (Kd.R_below (by (with_reducible repeat (first | apply Kd.R_alloc | apply Kd.R_drewN | apply Kd.R_drew)); exact HO1094.out) hb); have n2_ := Aside0.mk (Kd.R_below (by (with_reducible repeat (first | apply Kd.R_alloc | apply Kd.R_drewN | apply Kd.R_drew)); exact HO1098.out) hb); have n3_ := Aside0.mk (blk_below (g := gb1087) (o := .cells #[.int .u8 a0_0, .int .i64 a0_1, .int .i64 a0_2, .int .i64 a0_3, .int .i64 a0_4, .int .i64 a0_5, .int .i64 a0_6, .int .i64 a0_7] 40 (0, 0)) (by (with_reducible repeat (first | refine blk_drewN ?_ _ | refine blk_drew ?_ | refine blk_alloc ?_ _)); exact BK1087.out) hb); have n4_ := Aside0.mk (below_step (by repeat (first | (with_reducible first | exact HB.out | apply below_alloc | apply pw_below_drewN | apply below_drew1 | refine below_set ?_ GE1087.out) | exact HB.out)) hb); clear HO1090; clear HO1094; clear HO1098; clear BK1087; clear HB; have HO1090 := n0_; have HO1094 := n1_; have HO1098 := n2_; have BK1087 := n3_; have HB := n4_; clear n0_ n1_ n2_ n3_ n4_; (try clear hb); (try clear hb2); (try clear hk); (try clear hi)) | ((with_reducible refine gate_callee (f := 43) rfl ?_); refine goesL_ (some 33) rfl rfl Try.func43 (by kernel_rfl) rfl #[] rfl (by (try simp only [List.map_toArray, List.map_cons, List.map_nil]); first | done | rfl | (simp only [List.length_drop, List.length_take]; rfl)) ?_; (with_reducible refine (conclavelaw13_anchored.calls k  true _ A80.out).mono ?_); rintro e w93 ⟨rfl, hb⟩; refine ⟨_, rfl, ?_⟩; have n0_ := Aside0.mk (Kd.R_below (by (with_reducible repeat (first | apply Kd.R_alloc | apply Kd.R_drewN | apply Kd.R_drew)); exact HO1090.out) hb); have n1_ := Aside0.mk (Kd.R_below (by (with_reducible repeat (first | apply Kd.R_alloc | apply Kd.R_drewN | apply Kd.R_drew)); exact HO1094.out) hb); have n2_ := Aside0.mk (Kd.R_below (by (with_reducible repeat (first | apply Kd.R_alloc | apply Kd.R_drewN | apply Kd.R_drew)); exact HO1098.out) hb); have n3_ := Aside0.mk (blk_below (g := gb1087) (o := .cells #[.int .u8 a0_0, .int .i64 a0_1, .int .i64 a0_2, .int .i64 a0_3, .int .i64 a0_4, .int .i64 a0_5, .int .i64 a0_6, .int .i64 a0_7] 40 (0, 0)) (by (with_reducible repeat (first | refine blk_drewN ?_ _ | refine blk_drew ?_ | refine blk_alloc ?_ _)); exact BK1087.out) hb); have n4_ := Aside0.mk (below_step (by repeat (first | (with_reducible first | exact HB.out | apply below_alloc | apply pw_below_drewN | apply below_drew1 | refine below_set ?_ GE1087.out) | exact HB.out)) hb); clear HO1090; clear HO1094; clear HO1098; clear BK1087; clear HB; have HO1090 := n0_; have HO1094 := n1_; have HO1098 := n2_; have BK1087 := n3_; have HB := n4_; clear n0_ n1_ n2_ n3_ n4_; (try clear hb); (try clear hb2); (try clear hk); (try clear hi)))
          go_ret
          exact ⟨by first | rfl | (simp [errW_none, errW_some] <;> rfl) | (simp [*, errW_none, errW_some] <;> rfl), by repeat (first | (with_reducible first | exact HB.out | apply below_alloc | apply pw_below_drewN | apply below_drew1 | refine below_set ?_ GE1087.out) | exact HB.out)⟩
        · rw [if_neg c83] at H
          have c83b0 : (t1095 == 2) = false := beq_eq_false_iff_ne.mpr c83
          have c83b1 : (t1095 != 2) = true := bne_iff_ne.mpr c83
          exact absurd (Option.some.inj H) (by rw [hrt]; decide)
      · rw [if_neg c82] at H
        have c82b0 : (t1091 == 2) = false := beq_eq_false_iff_ne.mpr c82
        have c82b1 : (t1091 != 2) = true := bne_iff_ne.mpr c82
        exact absurd (Option.some.inj H) (by rw [hrt]; decide)
    · replace c81 := Bool.eq_false_iff.mpr c81
      subst c81
      have H1 : (some false) = some r := by rw [if_neg (show ¬ (false = true) by decide)] at H; exact H
      clear H
      have H := H1
      clear H1
      exact absurd (Option.some.inj H) (by rw [hrt]; decide)
end Go.Proofs.Ytjgojlnnphkefaa.P
end
section
namespace Go.Proofs.Ytjgojlnnphkefaa.P
open Go.RowKit Go.Proofs.YtjgojlnnphkefaaW.PrintWords Go.Proofs.YtjgojlnnphkefaaW.PrintLast Go.Proofs.YtjgojlnnphkefaaW.PrintMore
attribute [local go_sem] max2_int min2_int max_two min_two max_three min_three max_four min_four
set_option linter.unusedVariables false
set_option linter.unusedSimpArgs false
end Go.Proofs.Ytjgojlnnphkefaa.P
end
