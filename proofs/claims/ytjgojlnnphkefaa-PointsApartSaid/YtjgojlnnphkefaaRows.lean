/-
  No cell of these rows narrows 'for every input' (looked for: loops, veiled, ifaces, maps, wideKeys, modest, calm, conditions, laid).
  DERIVED. THE GIVEN ROWS OF THIS SEAT. 12 by the template 'for every input the law returns true; each argument reads behind the call as it read before'; 0 by the template 'total and deterministic' (their statements: YtjgojlnnphkefaaTotals.lean).
  GIVEN WITH THE SEED: the statements are not yours to turn. If you find one false, say at which input.
  Laid BY PROGRAM, IN A SANDBOX (cutbox-rows.mjs): the forced cells as the released guide's own fill.sh prints them over the translation 150930739ef1a1c5… (all of the seat's roots in one cut). By AI agents, Wed Nov 11 2026. No macro, syntax, notation, axiom, sorry.
-/
import Derived.Test.YtjgojlnnphkefaaChecked
import GoSem.Claim
import GoSem.ClaimJoined
import GoSem.ClaimMapViews
import Derived.JoinedTies
import Derived.KernelRfl
namespace Go.Proofs.Ytjgojlnnphkefaa
/- THE CELL 'sum', in the pinned program and in every row, IS THE sha256 OF THE DUMP (.gsa) THAT YtjgojlnnphkefaaProg.lean LOADS. Nothing in Lean hashes anything: it is a label: what it is worth is what the hold of that sum in a sandbox is worth. -/
noncomputable def Try.pinned : Pinned := { name := "ytjgojlnnphkefaa", sum := "150930739ef1a1c5b30b7de563d650c4f977d398c413db777d4077c308baebc2", checked := Try.checked }
namespace Rows
def none {H : Type} : Left H := { results := [], args := [] }

/-- 'conclavelaw10.DegreeUses': WHATEVER THE INPUT: true; the input reads as it did. -/
def degreeUsesSpec : ChangeSpec := { name := "degreeUses", fn := fun _ => fun
  | [d] => { results := [.lit (.bool true)], args := [d] }
  | _ => none }
def degreeUsesRow : OpenClaim := { program := "ytjgojlnnphkefaa", sum := "150930739ef1a1c5b30b7de563d650c4f977d398c413db777d4077c308baebc2", func := "conclave/conclavelaw10.DegreeUses", spec := "degreeUses", unfollowed := true, recurses := true, apart := false }
def DegreeUsesSaid : Prop := degreeUsesRow.holds Try.pinned (OpenSpec.ofChange degreeUsesSpec)

/-- ITS FALSE NEIGHBOUR: 'it returns false'. Refute it at one input. -/
def degreeUsesWrong : ChangeSpec := { name := "degreeUses", fn := fun _ => fun
  | [d] => { results := [.lit (.bool false)], args := [d] }
  | _ => none }
def DegreeUsesWrongFalsely : Prop := degreeUsesRow.holds Try.pinned (OpenSpec.ofChange degreeUsesWrong)

/-- 'conclavelaw29.BatchSplits': WHATEVER THE INPUT: true; the input reads as it did. -/
def batchSplitsSpec : ChangeSpec := { name := "batchSplits", fn := fun _ => fun
  | [d1, d2, d3] => { results := [.lit (.bool true)], args := [d1, d2, d3] }
  | _ => none }
def batchSplitsRow : OpenClaim := { program := "ytjgojlnnphkefaa", sum := "150930739ef1a1c5b30b7de563d650c4f977d398c413db777d4077c308baebc2", func := "conclave/conclavelaw29.BatchSplits", spec := "batchSplits", unfollowed := true, recurses := true, apart := false }
def BatchSplitsSaid : Prop := batchSplitsRow.holds Try.pinned (OpenSpec.ofChange batchSplitsSpec)

/-- ITS FALSE NEIGHBOUR: 'it returns false'. Refute it at one input. -/
def batchSplitsWrong : ChangeSpec := { name := "batchSplits", fn := fun _ => fun
  | [d1, d2, d3] => { results := [.lit (.bool false)], args := [d1, d2, d3] }
  | _ => none }
def BatchSplitsWrongFalsely : Prop := batchSplitsRow.holds Try.pinned (OpenSpec.ofChange batchSplitsWrong)

/-- 'conclavelaw29.BatchJoins': WHATEVER THE INPUT: true; the input reads as it did. -/
def batchJoinsSpec : ChangeSpec := { name := "batchJoins", fn := fun _ => fun
  | [d1, d2] => { results := [.lit (.bool true)], args := [d1, d2] }
  | _ => none }
def batchJoinsRow : OpenClaim := { program := "ytjgojlnnphkefaa", sum := "150930739ef1a1c5b30b7de563d650c4f977d398c413db777d4077c308baebc2", func := "conclave/conclavelaw29.BatchJoins", spec := "batchJoins", unfollowed := true, recurses := true, apart := false }
def BatchJoinsSaid : Prop := batchJoinsRow.holds Try.pinned (OpenSpec.ofChange batchJoinsSpec)

/-- ITS FALSE NEIGHBOUR: 'it returns false'. Refute it at one input. -/
def batchJoinsWrong : ChangeSpec := { name := "batchJoins", fn := fun _ => fun
  | [d1, d2] => { results := [.lit (.bool false)], args := [d1, d2] }
  | _ => none }
def BatchJoinsWrongFalsely : Prop := batchJoinsRow.holds Try.pinned (OpenSpec.ofChange batchJoinsWrong)

/-- 'conclavelaw29.BatchBack': WHATEVER THE INPUT: true; the input reads as it did. -/
def batchBackSpec : ChangeSpec := { name := "batchBack", fn := fun _ => fun
  | [d1, d2] => { results := [.lit (.bool true)], args := [d1, d2] }
  | _ => none }
def batchBackRow : OpenClaim := { program := "ytjgojlnnphkefaa", sum := "150930739ef1a1c5b30b7de563d650c4f977d398c413db777d4077c308baebc2", func := "conclave/conclavelaw29.BatchBack", spec := "batchBack", unfollowed := true, recurses := true, apart := false }
def BatchBackSaid : Prop := batchBackRow.holds Try.pinned (OpenSpec.ofChange batchBackSpec)

/-- ITS FALSE NEIGHBOUR: 'it returns false'. Refute it at one input. -/
def batchBackWrong : ChangeSpec := { name := "batchBack", fn := fun _ => fun
  | [d1, d2] => { results := [.lit (.bool false)], args := [d1, d2] }
  | _ => none }
def BatchBackWrongFalsely : Prop := batchBackRow.holds Try.pinned (OpenSpec.ofChange batchBackWrong)

/-- 'conclavelaw29.BatchFresh': WHATEVER THE INPUT: true; the input reads as it did. -/
def batchFreshSpec : ChangeSpec := { name := "batchFresh", fn := fun _ => fun
  | [d1, d2] => { results := [.lit (.bool true)], args := [d1, d2] }
  | _ => none }
def batchFreshRow : OpenClaim := { program := "ytjgojlnnphkefaa", sum := "150930739ef1a1c5b30b7de563d650c4f977d398c413db777d4077c308baebc2", func := "conclave/conclavelaw29.BatchFresh", spec := "batchFresh", unfollowed := true, recurses := true, apart := false }
def BatchFreshSaid : Prop := batchFreshRow.holds Try.pinned (OpenSpec.ofChange batchFreshSpec)

/-- ITS FALSE NEIGHBOUR: 'it returns false'. Refute it at one input. -/
def batchFreshWrong : ChangeSpec := { name := "batchFresh", fn := fun _ => fun
  | [d1, d2] => { results := [.lit (.bool false)], args := [d1, d2] }
  | _ => none }
def BatchFreshWrongFalsely : Prop := batchFreshRow.holds Try.pinned (OpenSpec.ofChange batchFreshWrong)

/-- 'conclavelaw10.DegreeAll': WHATEVER THE INPUT: true; the input reads as it did. -/
def degreeAllSpec : ChangeSpec := { name := "degreeAll", fn := fun _ => fun
  | [d] => { results := [.lit (.bool true)], args := [d] }
  | _ => none }
def degreeAllRow : OpenClaim := { program := "ytjgojlnnphkefaa", sum := "150930739ef1a1c5b30b7de563d650c4f977d398c413db777d4077c308baebc2", func := "conclave/conclavelaw10.DegreeAll", spec := "degreeAll", unfollowed := true, recurses := true, apart := false }
def DegreeAllSaid : Prop := degreeAllRow.holds Try.pinned (OpenSpec.ofChange degreeAllSpec)

/-- ITS FALSE NEIGHBOUR: 'it returns false'. Refute it at one input. -/
def degreeAllWrong : ChangeSpec := { name := "degreeAll", fn := fun _ => fun
  | [d] => { results := [.lit (.bool false)], args := [d] }
  | _ => none }
def DegreeAllWrongFalsely : Prop := degreeAllRow.holds Try.pinned (OpenSpec.ofChange degreeAllWrong)

/-- 'conclavelaw10.DegreeAfter': WHATEVER THE INPUT: true; the input reads as it did. -/
def degreeAfterSpec : ChangeSpec := { name := "degreeAfter", fn := fun _ => fun
  | [d1, d2] => { results := [.lit (.bool true)], args := [d1, d2] }
  | _ => none }
def degreeAfterRow : OpenClaim := { program := "ytjgojlnnphkefaa", sum := "150930739ef1a1c5b30b7de563d650c4f977d398c413db777d4077c308baebc2", func := "conclave/conclavelaw10.DegreeAfter", spec := "degreeAfter", unfollowed := true, recurses := true, apart := false }
def DegreeAfterSaid : Prop := degreeAfterRow.holds Try.pinned (OpenSpec.ofChange degreeAfterSpec)

/-- ITS FALSE NEIGHBOUR: 'it returns false'. Refute it at one input. -/
def degreeAfterWrong : ChangeSpec := { name := "degreeAfter", fn := fun _ => fun
  | [d1, d2] => { results := [.lit (.bool false)], args := [d1, d2] }
  | _ => none }
def DegreeAfterWrongFalsely : Prop := degreeAfterRow.holds Try.pinned (OpenSpec.ofChange degreeAfterWrong)

/-- 'conclavelaw10.DegreeStays': WHATEVER THE INPUT: true; the input reads as it did. -/
def degreeStaysSpec : ChangeSpec := { name := "degreeStays", fn := fun _ => fun
  | [d] => { results := [.lit (.bool true)], args := [d] }
  | _ => none }
def degreeStaysRow : OpenClaim := { program := "ytjgojlnnphkefaa", sum := "150930739ef1a1c5b30b7de563d650c4f977d398c413db777d4077c308baebc2", func := "conclave/conclavelaw10.DegreeStays", spec := "degreeStays", unfollowed := true, recurses := true, apart := false }
def DegreeStaysSaid : Prop := degreeStaysRow.holds Try.pinned (OpenSpec.ofChange degreeStaysSpec)

/-- ITS FALSE NEIGHBOUR: 'it returns false'. Refute it at one input. -/
def degreeStaysWrong : ChangeSpec := { name := "degreeStays", fn := fun _ => fun
  | [d] => { results := [.lit (.bool false)], args := [d] }
  | _ => none }
def DegreeStaysWrongFalsely : Prop := degreeStaysRow.holds Try.pinned (OpenSpec.ofChange degreeStaysWrong)

/-- 'conclavelaw13.PointsRows': WHATEVER THE INPUT: true; the input reads as it did. -/
def pointsRowsSpec : ChangeSpec := { name := "pointsRows", fn := fun _ => fun
  | [d] => { results := [.lit (.bool true)], args := [d] }
  | _ => none }
def pointsRowsRow : OpenClaim := { program := "ytjgojlnnphkefaa", sum := "150930739ef1a1c5b30b7de563d650c4f977d398c413db777d4077c308baebc2", func := "conclave/conclavelaw13.PointsRows", spec := "pointsRows", inPlace := ["math/bits.Sub64", "math/bits.Add64"], unfollowed := true, recurses := true, named := ["math/bits.divideError", "math/bits.overflowError"], apart := false }
def PointsRowsSaid : Prop := pointsRowsRow.holds Try.pinned (OpenSpec.ofChange pointsRowsSpec)

/-- ITS FALSE NEIGHBOUR: 'it returns false'. Refute it at one input. -/
def pointsRowsWrong : ChangeSpec := { name := "pointsRows", fn := fun _ => fun
  | [d] => { results := [.lit (.bool false)], args := [d] }
  | _ => none }
def PointsRowsWrongFalsely : Prop := pointsRowsRow.holds Try.pinned (OpenSpec.ofChange pointsRowsWrong)

/-- 'conclavelaw13.PointsFree': WHATEVER THE INPUT: true; the input reads as it did. -/
def pointsFreeSpec : ChangeSpec := { name := "pointsFree", fn := fun _ => fun
  | [d1, d2] => { results := [.lit (.bool true)], args := [d1, d2] }
  | _ => none }
def pointsFreeRow : OpenClaim := { program := "ytjgojlnnphkefaa", sum := "150930739ef1a1c5b30b7de563d650c4f977d398c413db777d4077c308baebc2", func := "conclave/conclavelaw13.PointsFree", spec := "pointsFree", inPlace := ["math/bits.Sub64", "math/bits.Add64"], unfollowed := true, recurses := true, named := ["math/bits.divideError", "math/bits.overflowError"], apart := false }
def PointsFreeSaid : Prop := pointsFreeRow.holds Try.pinned (OpenSpec.ofChange pointsFreeSpec)

/-- ITS FALSE NEIGHBOUR: 'it returns false'. Refute it at one input. -/
def pointsFreeWrong : ChangeSpec := { name := "pointsFree", fn := fun _ => fun
  | [d1, d2] => { results := [.lit (.bool false)], args := [d1, d2] }
  | _ => none }
def PointsFreeWrongFalsely : Prop := pointsFreeRow.holds Try.pinned (OpenSpec.ofChange pointsFreeWrong)

/-- 'conclavelaw13.PointsAll': WHATEVER THE INPUT: true; the input reads as it did. -/
def pointsAllSpec : ChangeSpec := { name := "pointsAll", fn := fun _ => fun
  | [d1, d2] => { results := [.lit (.bool true)], args := [d1, d2] }
  | _ => none }
def pointsAllRow : OpenClaim := { program := "ytjgojlnnphkefaa", sum := "150930739ef1a1c5b30b7de563d650c4f977d398c413db777d4077c308baebc2", func := "conclave/conclavelaw13.PointsAll", spec := "pointsAll", inPlace := ["math/bits.Sub64", "math/bits.Add64"], unfollowed := true, recurses := true, named := ["math/bits.divideError", "math/bits.overflowError"], apart := false }
def PointsAllSaid : Prop := pointsAllRow.holds Try.pinned (OpenSpec.ofChange pointsAllSpec)

/-- ITS FALSE NEIGHBOUR: 'it returns false'. Refute it at one input. -/
def pointsAllWrong : ChangeSpec := { name := "pointsAll", fn := fun _ => fun
  | [d1, d2] => { results := [.lit (.bool false)], args := [d1, d2] }
  | _ => none }
def PointsAllWrongFalsely : Prop := pointsAllRow.holds Try.pinned (OpenSpec.ofChange pointsAllWrong)

/-- 'conclavelaw13.PointsApart': WHATEVER THE INPUT: true; the input reads as it did. -/
def pointsApartSpec : ChangeSpec := { name := "pointsApart", fn := fun _ => fun
  | [d] => { results := [.lit (.bool true)], args := [d] }
  | _ => none }
def pointsApartRow : OpenClaim := { program := "ytjgojlnnphkefaa", sum := "150930739ef1a1c5b30b7de563d650c4f977d398c413db777d4077c308baebc2", func := "conclave/conclavelaw13.PointsApart", spec := "pointsApart", inPlace := ["math/bits.Sub64", "math/bits.Add64"], unfollowed := true, recurses := true, named := ["math/bits.divideError", "math/bits.overflowError"], apart := false }
def PointsApartSaid : Prop := pointsApartRow.holds Try.pinned (OpenSpec.ofChange pointsApartSpec)

/-- ITS FALSE NEIGHBOUR: 'it returns false'. Refute it at one input. -/
def pointsApartWrong : ChangeSpec := { name := "pointsApart", fn := fun _ => fun
  | [d] => { results := [.lit (.bool false)], args := [d] }
  | _ => none }
def PointsApartWrongFalsely : Prop := pointsApartRow.holds Try.pinned (OpenSpec.ofChange pointsApartWrong)

/- THE SECOND FORM. 'bulk': how many values and letters a reading holds, each counted each time it is reached (what is shared counts as often as it is met; a slice's spare places count too). A statement '..UptoSaid' is the law's where the arguments, and the package variables that the reading takes, are together of bulk at most 1048576: NARROWER than '..Said'. Prove '..Said' where nothing that the law and all that it calls make is longer than what came in: it says more and counts as full. Else prove '..UptoSaid'. A law counts once. -/
mutual
def uptoBulk {H : Type} : DataW H → Nat
  | .lit (.string bytes) => bytes.length + 1
  | .lit _ => 1
  | .nil => 1
  | .ptr d => uptoBulk d + 1
  | .slice elems spare => uptoBulkAll elems + uptoBulkAll spare + 1
  | .agg parts => uptoBulkAll parts + 1
  | .iface _ d => uptoBulk d + 1
  | .map entries => uptoBulkEntries entries + 1
  | .held _ => 1
def uptoBulkAll {H : Type} : List (DataW H) → Nat
  | [] => 0
  | d :: r => uptoBulk d + uptoBulkAll r
def uptoBulkEntries {H : Type} : List (Lit × DataW H) → Nat
  | [] => 0
  | x :: r => uptoBulkEntry x + uptoBulkEntries r
def uptoBulkEntry {H : Type} : Lit × DataW H → Nat
  | (.string bytes, d) => bytes.length + uptoBulk d + 1
  | (_, d) => uptoBulk d + 1
 end
def uptoSmall : (H : Type) → List (DataW H) → Bool := fun _ ds => decide (uptoBulkAll ds ≤ 1048576)
def OpenSpec.upto (s : _root_.Go.ChangeSpec) : _root_.Go.OpenSpec := { _root_.Go.OpenSpec.ofChange s with cond := some uptoSmall }

/-- 'conclavelaw10.DegreeUses', WHERE WHAT IT READS IS OF BULK AT MOST 1048576: true; the input reads as it did. -/
def degreeUsesUptoRow : OpenClaim := { program := "ytjgojlnnphkefaa", sum := "150930739ef1a1c5b30b7de563d650c4f977d398c413db777d4077c308baebc2", func := "conclave/conclavelaw10.DegreeUses", spec := "degreeUses", unfollowed := true, recurses := true, apart := false, narrowed := true }
def DegreeUsesUptoSaid : Prop := degreeUsesUptoRow.holds Try.pinned (OpenSpec.upto degreeUsesSpec)

/-- 'conclavelaw29.BatchSplits', WHERE WHAT IT READS IS OF BULK AT MOST 1048576: true; the input reads as it did. -/
def batchSplitsUptoRow : OpenClaim := { program := "ytjgojlnnphkefaa", sum := "150930739ef1a1c5b30b7de563d650c4f977d398c413db777d4077c308baebc2", func := "conclave/conclavelaw29.BatchSplits", spec := "batchSplits", unfollowed := true, recurses := true, apart := false, narrowed := true }
def BatchSplitsUptoSaid : Prop := batchSplitsUptoRow.holds Try.pinned (OpenSpec.upto batchSplitsSpec)

/-- 'conclavelaw29.BatchJoins', WHERE WHAT IT READS IS OF BULK AT MOST 1048576: true; the input reads as it did. -/
def batchJoinsUptoRow : OpenClaim := { program := "ytjgojlnnphkefaa", sum := "150930739ef1a1c5b30b7de563d650c4f977d398c413db777d4077c308baebc2", func := "conclave/conclavelaw29.BatchJoins", spec := "batchJoins", unfollowed := true, recurses := true, apart := false, narrowed := true }
def BatchJoinsUptoSaid : Prop := batchJoinsUptoRow.holds Try.pinned (OpenSpec.upto batchJoinsSpec)

/-- 'conclavelaw29.BatchBack', WHERE WHAT IT READS IS OF BULK AT MOST 1048576: true; the input reads as it did. -/
def batchBackUptoRow : OpenClaim := { program := "ytjgojlnnphkefaa", sum := "150930739ef1a1c5b30b7de563d650c4f977d398c413db777d4077c308baebc2", func := "conclave/conclavelaw29.BatchBack", spec := "batchBack", unfollowed := true, recurses := true, apart := false, narrowed := true }
def BatchBackUptoSaid : Prop := batchBackUptoRow.holds Try.pinned (OpenSpec.upto batchBackSpec)

/-- 'conclavelaw29.BatchFresh', WHERE WHAT IT READS IS OF BULK AT MOST 1048576: true; the input reads as it did. -/
def batchFreshUptoRow : OpenClaim := { program := "ytjgojlnnphkefaa", sum := "150930739ef1a1c5b30b7de563d650c4f977d398c413db777d4077c308baebc2", func := "conclave/conclavelaw29.BatchFresh", spec := "batchFresh", unfollowed := true, recurses := true, apart := false, narrowed := true }
def BatchFreshUptoSaid : Prop := batchFreshUptoRow.holds Try.pinned (OpenSpec.upto batchFreshSpec)

/-- 'conclavelaw10.DegreeAll', WHERE WHAT IT READS IS OF BULK AT MOST 1048576: true; the input reads as it did. -/
def degreeAllUptoRow : OpenClaim := { program := "ytjgojlnnphkefaa", sum := "150930739ef1a1c5b30b7de563d650c4f977d398c413db777d4077c308baebc2", func := "conclave/conclavelaw10.DegreeAll", spec := "degreeAll", unfollowed := true, recurses := true, apart := false, narrowed := true }
def DegreeAllUptoSaid : Prop := degreeAllUptoRow.holds Try.pinned (OpenSpec.upto degreeAllSpec)

/-- 'conclavelaw10.DegreeAfter', WHERE WHAT IT READS IS OF BULK AT MOST 1048576: true; the input reads as it did. -/
def degreeAfterUptoRow : OpenClaim := { program := "ytjgojlnnphkefaa", sum := "150930739ef1a1c5b30b7de563d650c4f977d398c413db777d4077c308baebc2", func := "conclave/conclavelaw10.DegreeAfter", spec := "degreeAfter", unfollowed := true, recurses := true, apart := false, narrowed := true }
def DegreeAfterUptoSaid : Prop := degreeAfterUptoRow.holds Try.pinned (OpenSpec.upto degreeAfterSpec)

/-- 'conclavelaw10.DegreeStays', WHERE WHAT IT READS IS OF BULK AT MOST 1048576: true; the input reads as it did. -/
def degreeStaysUptoRow : OpenClaim := { program := "ytjgojlnnphkefaa", sum := "150930739ef1a1c5b30b7de563d650c4f977d398c413db777d4077c308baebc2", func := "conclave/conclavelaw10.DegreeStays", spec := "degreeStays", unfollowed := true, recurses := true, apart := false, narrowed := true }
def DegreeStaysUptoSaid : Prop := degreeStaysUptoRow.holds Try.pinned (OpenSpec.upto degreeStaysSpec)

/-- 'conclavelaw13.PointsRows', WHERE WHAT IT READS IS OF BULK AT MOST 1048576: true; the input reads as it did. -/
def pointsRowsUptoRow : OpenClaim := { program := "ytjgojlnnphkefaa", sum := "150930739ef1a1c5b30b7de563d650c4f977d398c413db777d4077c308baebc2", func := "conclave/conclavelaw13.PointsRows", spec := "pointsRows", inPlace := ["math/bits.Sub64", "math/bits.Add64"], unfollowed := true, recurses := true, named := ["math/bits.divideError", "math/bits.overflowError"], apart := false, narrowed := true }
def PointsRowsUptoSaid : Prop := pointsRowsUptoRow.holds Try.pinned (OpenSpec.upto pointsRowsSpec)

/-- 'conclavelaw13.PointsFree', WHERE WHAT IT READS IS OF BULK AT MOST 1048576: true; the input reads as it did. -/
def pointsFreeUptoRow : OpenClaim := { program := "ytjgojlnnphkefaa", sum := "150930739ef1a1c5b30b7de563d650c4f977d398c413db777d4077c308baebc2", func := "conclave/conclavelaw13.PointsFree", spec := "pointsFree", inPlace := ["math/bits.Sub64", "math/bits.Add64"], unfollowed := true, recurses := true, named := ["math/bits.divideError", "math/bits.overflowError"], apart := false, narrowed := true }
def PointsFreeUptoSaid : Prop := pointsFreeUptoRow.holds Try.pinned (OpenSpec.upto pointsFreeSpec)

/-- 'conclavelaw13.PointsAll', WHERE WHAT IT READS IS OF BULK AT MOST 1048576: true; the input reads as it did. -/
def pointsAllUptoRow : OpenClaim := { program := "ytjgojlnnphkefaa", sum := "150930739ef1a1c5b30b7de563d650c4f977d398c413db777d4077c308baebc2", func := "conclave/conclavelaw13.PointsAll", spec := "pointsAll", inPlace := ["math/bits.Sub64", "math/bits.Add64"], unfollowed := true, recurses := true, named := ["math/bits.divideError", "math/bits.overflowError"], apart := false, narrowed := true }
def PointsAllUptoSaid : Prop := pointsAllUptoRow.holds Try.pinned (OpenSpec.upto pointsAllSpec)

/-- 'conclavelaw13.PointsApart', WHERE WHAT IT READS IS OF BULK AT MOST 1048576: true; the input reads as it did. -/
def pointsApartUptoRow : OpenClaim := { program := "ytjgojlnnphkefaa", sum := "150930739ef1a1c5b30b7de563d650c4f977d398c413db777d4077c308baebc2", func := "conclave/conclavelaw13.PointsApart", spec := "pointsApart", inPlace := ["math/bits.Sub64", "math/bits.Add64"], unfollowed := true, recurses := true, named := ["math/bits.divideError", "math/bits.overflowError"], apart := false, narrowed := true }
def PointsApartUptoSaid : Prop := pointsApartUptoRow.holds Try.pinned (OpenSpec.upto pointsApartSpec)

end Rows
end Go.Proofs.Ytjgojlnnphkefaa
