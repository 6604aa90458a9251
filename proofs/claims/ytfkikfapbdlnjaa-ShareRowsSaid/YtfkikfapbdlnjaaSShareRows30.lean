import Derived.Test.YtfkikfapbdlnjaaSShareRowsZ
import Derived.Test.YtfkikfapbdlnjaaSShareRows17
import Derived.Test.YtfkikfapbdlnjaaSShareRows22
import Derived.Test.YtfkikfapbdlnjaaSShareRows24
import Derived.Test.YtfkikfapbdlnjaaSShareRows25
import Derived.Test.YtfkikfapbdlnjaaSShareRows26
import Derived.Test.YtfkikfapbdlnjaaSShareRows27
import Derived.Test.YtfkikfapbdlnjaaSShareRows28
section
namespace Go.Proofs.Ytfkikfapbdlnjaa.P
open Go.RowKit Go.Proofs.YtfkikfapbdlnjaaW.PrintWords Go.Proofs.YtfkikfapbdlnjaaW.PrintLast Go.Proofs.YtfkikfapbdlnjaaW.PrintMore
attribute [local go_sem] max2_int min2_int max_two min_two max_three min_three max_four min_four
set_option linter.unusedVariables false
set_option linter.unusedSimpArgs false
mutual
def conclavelaw14_sums.l0 : Nat → List (List Int) → List (List Int) → Int → Int → Int → Int → Int → Int → Int → Int → Int → Option ((List (List Int)))
 | 0, _, _, _, _, _, _, _, _, _, _, _ => none
 | k + 1, x2, x7, x8, x508000, x508001, x508002, x508003, x508004, x508005, x508006, x508007 => if x8 < (x7.length : Int) then (conclavelaw14_sums.j1 k x2 x7 x8 (decide (x8 < (x2.length : Int))) x508000 x508001 x508002 x508003 x508004 x508005 x508006 x508007) else (conclavelaw14_sums.j1 k x2 x7 x8 false x508000 x508001 x508002 x508003 x508004 x508005 x508006 x508007)
def conclavelaw14_sums.j1 : Nat → List (List Int) → List (List Int) → Int → Bool → Int → Int → Int → Int → Int → Int → Int → Int → Option ((List (List Int)))
 | 0, _, _, _, _, _, _, _, _, _, _, _, _ => none
 | k + 1, x2, x7, x8, x21, x508000, x508001, x508002, x508003, x508004, x508005, x508006, x508007 => if x21 = true then (conclavelaw14_sums.l1 k x2 x7 x8 0 x508000 x508001 x508002 x508003 x508004 x508005 x508006 x508007) else (some x7)
def conclavelaw14_sums.l1 : Nat → List (List Int) → List (List Int) → Int → Int → Int → Int → Int → Int → Int → Int → Int → Int → Option ((List (List Int)))
 | 0, _, _, _, _, _, _, _, _, _, _, _, _ => none
 | k + 1, x2, x7, x8, x9, x508000, x508001, x508002, x508003, x508004, x508005, x508006, x508007 => if 0 ≤ x8 then (if x8 < (x7.length : Int) then (if x9 < ((rd_L1 x7 x8).length : Int) then (if x8 < (x2.length : Int) then (conclavelaw14_sums.j3 k x2 x7 x8 x9 (decide (x9 < ((rd_L1 x2 x8).length : Int))) x508000 x508001 x508002 x508003 x508004 x508005 x508006 x508007) else (none)) else (conclavelaw14_sums.j3 k x2 x7 x8 x9 false x508000 x508001 x508002 x508003 x508004 x508005 x508006 x508007)) else (none)) else (none)
def conclavelaw14_sums.j3 : Nat → List (List Int) → List (List Int) → Int → Int → Bool → Int → Int → Int → Int → Int → Int → Int → Int → Option ((List (List Int)))
 | 0, _, _, _, _, _, _, _, _, _, _, _, _, _ => none
 | k + 1, x2, x7, x8, x9, x39, x508000, x508001, x508002, x508003, x508004, x508005, x508006, x508007 => if x39 = true then (if 0 ≤ x8 then (if x8 < (x7.length : Int) then ((conclaveref01_P.f x508000).bind fun t514 => (if 0 ≤ x9 then (if x9 < ((rd_L1 x7 x8).length : Int) then (if x8 < (x2.length : Int) then (if x9 < ((rd_L1 x2 x8).length : Int) then ((conclaveref01_Sum.f t514 (rd (rd_L1 x7 x8) x9) (rd (rd_L1 x2 x8) x9)).bind fun t519 => (conclavelaw14_sums.l1 k x2 (x7.set (x8 : Int).toNat ((rd_L1 x7 x8).set (x9 : Int).toNat t519)) x8 (wrap64 (x9 + 1)) x508000 x508001 x508002 x508003 x508004 x508005 x508006 x508007)) else (none)) else (none)) else (none)) else (none))) else (none)) else (none)) else (conclavelaw14_sums.l0 k x2 x7 (wrap64 (x8 + 1)) x508000 x508001 x508002 x508003 x508004 x508005 x508006 x508007)
end
def conclavelaw14_sums.f (k : Nat) (a0_0 : Int) (a0_1 : Int) (a0_2 : Int) (a0_3 : Int) (a0_4 : Int) (a0_5 : Int) (a0_6 : Int) (a0_7 : Int) (l1 : List (List Int)) (l2 : List (List Int)) : Option ((List (List Int))) := (conclaveref01_CopyRows.f k l1).bind fun t508 => (conclavelaw14_sums.l0 k l2 t508 0 a0_0 a0_1 a0_2 a0_3 a0_4 a0_5 a0_6 a0_7)
end Go.Proofs.Ytfkikfapbdlnjaa.P
end
section
namespace Go.Proofs.Ytfkikfapbdlnjaa.P
open Go.RowKit Go.Proofs.YtfkikfapbdlnjaaW.PrintWords Go.Proofs.YtfkikfapbdlnjaaW.PrintLast Go.Proofs.YtfkikfapbdlnjaaW.PrintMore
attribute [local go_sem] max2_int min2_int max_two min_two max_three min_three max_four min_four
set_option linter.unusedVariables false
set_option linter.unusedSimpArgs false
def conclavelaw14_ShareSums.j0 : Nat → Bool → Int → Int → Int → Int → Int → Int → Int → Int → List (List Int) → List (List Int) → List (List Int) → List (List Int) → Option (Bool)
 | 0, _, _, _, _, _, _, _, _, _, _, _, _, _ => none
 | k + 1, x28, x524000, x524001, x524002, x524003, x524004, x524005, x524006, x524007, x525000, x525001, x526000, x526001 => if x28 = true then ((conclavelaw14_anchored.f k).bind fun t528 => (if t528 = true then ((conclaveref12_May.f 1 1 1 0 0 0 0 1).bind fun t529 => (some t529)) else (some false))) else ((share_All.f k x524000 x524001 x524002 x524003 x524004 x524005 x524006 x524007 x525000 x525001).bind fun bt530 => ((share_All.f k x524000 x524001 x524002 x524003 x524004 x524005 x524006 x524007 x526000 x526001).bind fun bt534 => ((conclavelaw14_sums.f k x524000 x524001 x524002 x524003 x524004 x524005 x524006 x524007 x525000 x526000).bind fun t538 => ((conclavelaw14_sums.f k x524000 x524001 x524002 x524003 x524004 x524005 x524006 x524007 x525001 x526001).bind fun t541 => ((share_All.f k x524000 x524001 x524002 x524003 x524004 x524005 x524006 x524007 t538 t541).bind fun bt544 => ((conclavelaw14_anchored.f k).bind fun t548 => (if t548 = true then (if bt530.2 = 0 then (if bt534.2 = 0 then (if bt544.2 = 0 then ((conclavelaw14_sums.f k x524000 x524001 x524002 x524003 x524004 x524005 x524006 x524007 bt530.1 bt534.1).bind fun t549 => ((conclaveref01_Rows.f k bt544.1 t549).bind fun t552 => (some t552))) else (some false)) else (some false)) else (some false)) else (some false))))))))
def conclavelaw14_ShareSums.f (k : Nat) (a0_0 : Int) (a0_1 : Int) (a0_2 : Int) (a0_3 : Int) (a0_4 : Int) (a0_5 : Int) (a0_6 : Int) (a0_7 : Int) (l1_0 : List (List Int)) (l1_1 : List (List Int)) (l2_0 : List (List Int)) (l2_1 : List (List Int)) : Option (Bool) := (conclaveref14_Bad.f k a0_0 a0_1 a0_2 a0_3 a0_4 a0_5 a0_6 a0_7 l1_0 l1_1).bind fun t526 => (if t526 = 0 then ((conclaveref14_Bad.f k a0_0 a0_1 a0_2 a0_3 a0_4 a0_5 a0_6 a0_7 l2_0 l2_1).bind fun t527 => (conclavelaw14_ShareSums.j0 k (t527 != 0) a0_0 a0_1 a0_2 a0_3 a0_4 a0_5 a0_6 a0_7 l1_0 l1_1 l2_0 l2_1)) else (conclavelaw14_ShareSums.j0 k true a0_0 a0_1 a0_2 a0_3 a0_4 a0_5 a0_6 a0_7 l1_0 l1_1 l2_0 l2_1))
end Go.Proofs.Ytfkikfapbdlnjaa.P
end
section
namespace Go.Proofs.Ytfkikfapbdlnjaa.P
open Go.RowKit Go.Proofs.YtfkikfapbdlnjaaW.PrintWords Go.Proofs.YtfkikfapbdlnjaaW.PrintLast Go.Proofs.YtfkikfapbdlnjaaW.PrintMore
attribute [local go_sem] max2_int min2_int max_two min_two max_three min_three max_four min_four
set_option linter.unusedVariables false
set_option linter.unusedSimpArgs false
end Go.Proofs.Ytfkikfapbdlnjaa.P
end
section
namespace Go.Proofs.Ytfkikfapbdlnjaa.P
open Go.RowKit Go.Proofs.YtfkikfapbdlnjaaW.PrintWords Go.Proofs.YtfkikfapbdlnjaaW.PrintLast Go.Proofs.YtfkikfapbdlnjaaW.PrintMore
attribute [local go_sem] max2_int min2_int max_two min_two max_three min_three max_four min_four
set_option linter.unusedVariables false
set_option linter.unusedSimpArgs false
end Go.Proofs.Ytfkikfapbdlnjaa.P
end
section
namespace Go.Proofs.Ytfkikfapbdlnjaa.P
open Go.RowKit Go.Proofs.YtfkikfapbdlnjaaW.PrintWords Go.Proofs.YtfkikfapbdlnjaaW.PrintLast Go.Proofs.YtfkikfapbdlnjaaW.PrintMore
attribute [local go_sem] max2_int min2_int max_two min_two max_three min_three max_four min_four
set_option linter.unusedVariables false
set_option linter.unusedSimpArgs false
end Go.Proofs.Ytfkikfapbdlnjaa.P
end
section
namespace Go.Proofs.Ytfkikfapbdlnjaa.P
open Go.RowKit Go.Proofs.YtfkikfapbdlnjaaW.PrintWords Go.Proofs.YtfkikfapbdlnjaaW.PrintLast Go.Proofs.YtfkikfapbdlnjaaW.PrintMore
attribute [local go_sem] max2_int min2_int max_two min_two max_three min_three max_four min_four
set_option linter.unusedVariables false
set_option linter.unusedSimpArgs false
end Go.Proofs.Ytfkikfapbdlnjaa.P
end
section
namespace Go.Proofs.Ytfkikfapbdlnjaa.P
open Go.RowKit Go.Proofs.YtfkikfapbdlnjaaW.PrintWords Go.Proofs.YtfkikfapbdlnjaaW.PrintLast Go.Proofs.YtfkikfapbdlnjaaW.PrintMore
attribute [local go_sem] max2_int min2_int max_two min_two max_three min_three max_four min_four
set_option linter.unusedVariables false
set_option linter.unusedSimpArgs false
end Go.Proofs.Ytfkikfapbdlnjaa.P
end
section
namespace Go.Proofs.Ytfkikfapbdlnjaa.P
open Go.RowKit Go.Proofs.YtfkikfapbdlnjaaW.PrintWords Go.Proofs.YtfkikfapbdlnjaaW.PrintLast Go.Proofs.YtfkikfapbdlnjaaW.PrintMore
attribute [local go_sem] max2_int min2_int max_two min_two max_three min_three max_four min_four
set_option linter.unusedVariables false
set_option linter.unusedSimpArgs false
end Go.Proofs.Ytfkikfapbdlnjaa.P
end
section
namespace Go.Proofs.Ytfkikfapbdlnjaa.P
open Go.RowKit Go.Proofs.YtfkikfapbdlnjaaW.PrintWords Go.Proofs.YtfkikfapbdlnjaaW.PrintLast Go.Proofs.YtfkikfapbdlnjaaW.PrintMore
attribute [local go_sem] max2_int min2_int max_two min_two max_three min_three max_four min_four
set_option linter.unusedVariables false
set_option linter.unusedSimpArgs false
end Go.Proofs.Ytfkikfapbdlnjaa.P
end
