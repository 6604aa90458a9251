import Derived.Test.YtdafolenaibccaaSInterpChainZ
import Derived.Test.YtdafolenaibccaaSInterpChain18
import Derived.Test.YtdafolenaibccaaSInterpChain21
import Derived.Test.YtdafolenaibccaaSInterpChain26
import Derived.Test.YtdafolenaibccaaSInterpChain27
section
namespace Go.Proofs.Ytdafolenaibccaa.P
open Go.RowKit Go.Proofs.YtdafolenaibccaaW.PrintWords Go.Proofs.YtdafolenaibccaaW.PrintLast Go.Proofs.YtdafolenaibccaaW.PrintMore
attribute [local go_sem] max2_int min2_int max_two min_two max_three min_three max_four min_four
set_option linter.unusedVariables false
set_option linter.unusedSimpArgs false
def conclavelaw07_InterpThrough.f (k : Nat) (a0 : Int) (l1_0 : List Int) (l1_1 : List Int) (a2 : Int) : Option (Bool) := (interp_Through.f k a0 l1_0 l1_1).bind fun bt667 => ((conclaveref07_Through.f k a0 l1_0 l1_1).bind fun bt671 => ((interp_Fits.f k a0 l1_0 l1_1 a2).bind fun bt675 => ((conclaveref07_Fits.f k a0 l1_0 l1_1 a2).bind fun bt677 => ((conclaveref01_Same.f k bt667.1 bt671.1).bind fun t679 => (if t679 = true then (if bt667.2 = bt671.2 then (if (bt675.1 == bt677.1) = true then (if bt675.2 = bt677.2 then ((conclavelaw07_anchored.f k).bind fun t680 => (some t680)) else (some false)) else (some false)) else (some false)) else (some false))))))
end Go.Proofs.Ytdafolenaibccaa.P
end
section
namespace Go.Proofs.Ytdafolenaibccaa.P
open Go.RowKit Go.Proofs.YtdafolenaibccaaW.PrintWords Go.Proofs.YtdafolenaibccaaW.PrintLast Go.Proofs.YtdafolenaibccaaW.PrintMore
attribute [local go_sem] max2_int min2_int max_two min_two max_three min_three max_four min_four
set_option linter.unusedVariables false
set_option linter.unusedSimpArgs false
mutual
def conclaveref07_Basis.l0 : Nat → List Int → Int → Int → List Int → List Int → Int → Option (List Int × Int)
 | 0, _, _, _, _, _, _ => none
 | k + 1, x1, x2, x9, x10, x12, x13 => if x13 < (x1.length : Int) then (if 0 ≤ x13 then (if x13 < (x10.length : Int) then (conclaveref07_Basis.l1 k x1 x2 x9 x10 x12 x13 (rd x10 x13) 0) else (none)) else (none)) else (some (x12, 0))
def conclaveref07_Basis.l1 : Nat → List Int → Int → Int → List Int → List Int → Int → Int → Int → Option (List Int × Int)
 | 0, _, _, _, _, _, _, _, _ => none
 | k + 1, x1, x2, x9, x10, x12, x13, x14, x15 => if x15 < (x1.length : Int) then (if x15 = x13 then (conclaveref07_Basis.l1 k x1 x2 x9 x10 x12 x13 x14 (wrap64 (x15 + 1))) else (if 0 ≤ x15 then ((conclaveref01_Less.f x9 x2 (rd x1 x15)).bind fun t416 => ((conclaveref01_Times.f k x9 x14 t416).bind fun t417 => (conclaveref07_Basis.l1 k x1 x2 x9 x10 x12 x13 t417 (wrap64 (x15 + 1))))) else (none))) else (if x12.length < 17592186044416 then (conclaveref07_Basis.l0 k x1 x2 x9 x10 (x12 ++ [x14]) (wrap64 (x13 + 1))) else (none))
end
def conclaveref07_Basis.f (k : Nat) (a0 : Int) (l1 : List Int) (a2 : Int) : Option (List Int × Int) := (conclaveref07_Bad.f k a0 l1 (([a2] : List Int)) (l1.length : Int)).bind fun t405 => (if t405 = 0 then ((conclaveref01_P.f a0).bind fun t406 => ((conclaveref07_Weights.f k a0 l1).bind fun bt407 => (conclaveref07_Basis.l0 k l1 a2 t406 bt407.1 ([] : List Int) 0))) else (some (([] : List Int), t405)))
end Go.Proofs.Ytdafolenaibccaa.P
end
section
namespace Go.Proofs.Ytdafolenaibccaa.P
open Go.RowKit Go.Proofs.YtdafolenaibccaaW.PrintWords Go.Proofs.YtdafolenaibccaaW.PrintLast Go.Proofs.YtdafolenaibccaaW.PrintMore
attribute [local go_sem] max2_int min2_int max_two min_two max_three min_three max_four min_four
set_option linter.unusedVariables false
set_option linter.unusedSimpArgs false
mutual
def conclaveref07_Change.j0 : Nat → Int → List Int → List Int → Int → Bool → Option ((List (List Int)) × Int)
 | 0, _, _, _, _, _ => none
 | k + 1, x0, x1, x2, x8, x29 => if x29 = true then (conclaveref07_Change.j1 k x0 x1 x2 4) else (conclaveref07_Change.j1 k x0 x1 x2 x8)
def conclaveref07_Change.j1 : Nat → Int → List Int → List Int → Int → Option ((List (List Int)) × Int)
 | 0, _, _, _, _ => none
 | k + 1, x0, x1, x2, x8 => if x8 = 0 then (conclaveref07_Change.l0 k x0 x1 x2 ([] : List (List Int)) 0) else (some (([] : List (List Int)), x8))
def conclaveref07_Change.l0 : Nat → Int → List Int → List Int → List (List Int) → Int → Option ((List (List Int)) × Int)
 | 0, _, _, _, _, _ => none
 | k + 1, x0, x1, x2, x9, x10 => if x10 < (x2.length : Int) then (if 0 ≤ x10 then ((conclaveref07_Basis.f k x0 x1 (rd x2 x10)).bind fun bt683 => (if x9.length < 5864062014805 then (conclaveref07_Change.l0 k x0 x1 x2 (x9 ++ [bt683.1]) (wrap64 (x10 + 1))) else (none))) else (none)) else (some (x9, 0))
end
def conclaveref07_Change.f (k : Nat) (a0 : Int) (l1 : List Int) (l2 : List Int) : Option ((List (List Int)) × Int) := (conclaveref07_Bad.f k a0 l1 l2 (l1.length : Int)).bind fun t681 => (if t681 = 2 then (conclaveref07_Change.j0 k a0 l1 l2 t681 false) else (if t681 = 3 then (conclaveref07_Change.j0 k a0 l1 l2 t681 false) else (conclaveref07_Change.j0 k a0 l1 l2 t681 (decide ((l2.length : Int) > 512)))))
end Go.Proofs.Ytdafolenaibccaa.P
end
section
namespace Go.Proofs.Ytdafolenaibccaa.P
open Go.RowKit Go.Proofs.YtdafolenaibccaaW.PrintWords Go.Proofs.YtdafolenaibccaaW.PrintLast Go.Proofs.YtdafolenaibccaaW.PrintMore
attribute [local go_sem] max2_int min2_int max_two min_two max_three min_three max_four min_four
set_option linter.unusedVariables false
set_option linter.unusedSimpArgs false
def conclaveref01_Rows.l0 : Nat → List (List Int) → List (List Int) → Int → Option (Bool)
 | 0, _, _, _ => none
 | k + 1, x0, x1, x5 => if x5 < (x0.length : Int) then (if 0 ≤ x5 then (if x5 < (x1.length : Int) then ((conclaveref01_Same.f k (rd_L1 x0 x5) (rd_L1 x1 x5)).bind fun t692 => (if t692 = true then (conclaveref01_Rows.l0 k x0 x1 (wrap64 (x5 + 1))) else (some false))) else (none)) else (none)) else (some true)
def conclaveref01_Rows.f (k : Nat) (l0 : List (List Int)) (l1 : List (List Int)) : Option (Bool) := if (l0.length : Int) = (l1.length : Int) then (conclaveref01_Rows.l0 k l0 l1 0) else (some false)
end Go.Proofs.Ytdafolenaibccaa.P
end
section
namespace Go.Proofs.Ytdafolenaibccaa.P
open Go.RowKit Go.Proofs.YtdafolenaibccaaW.PrintWords Go.Proofs.YtdafolenaibccaaW.PrintLast Go.Proofs.YtdafolenaibccaaW.PrintMore
attribute [local go_sem] max2_int min2_int max_two min_two max_three min_three max_four min_four
set_option linter.unusedVariables false
set_option linter.unusedSimpArgs false
def conclavelaw07_InterpChanges.f (k : Nat) (a0 : Int) (l1 : List Int) (l2 : List Int) : Option (Bool) := (interp_Change.f k a0 l1 l2).bind fun bt693 => ((conclaveref07_Change.f k a0 l1 l2).bind fun bt697 => ((conclaveref01_Rows.f k bt693.1 bt697.1).bind fun t701 => (if t701 = true then (if bt693.2 = bt697.2 then ((conclavelaw07_anchored.f k).bind fun t702 => (some t702)) else (some false)) else (some false))))
end Go.Proofs.Ytdafolenaibccaa.P
end
