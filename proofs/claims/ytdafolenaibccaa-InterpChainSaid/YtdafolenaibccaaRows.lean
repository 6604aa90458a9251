/-
  No cell of these rows narrows 'for every input' (looked for: loops, veiled, ifaces, maps, wideKeys, modest, calm, conditions, laid).
  DERIVED. THE GIVEN ROWS OF THIS SEAT. 7 by the template 'for every input the law returns true; each argument reads behind the call as it read before'; 0 by the template 'total and deterministic' (their statements: YtdafolenaibccaaTotals.lean).
  GIVEN WITH THE SEED: the statements are not yours to turn. If you find one false, say at which input.
  Laid BY PROGRAM, IN A SANDBOX (cutbox-rows.mjs): the forced cells as the released guide's own fill.sh prints them over the translation e200a8f19a3f099d… (all of the seat's roots in one cut). By AI agents, Wed Nov 11 2026. No macro, syntax, notation, axiom, sorry.
-/
import Derived.Test.YtdafolenaibccaaChecked
import GoSem.Claim
import GoSem.ClaimJoined
import GoSem.ClaimMapViews
import Derived.JoinedTies
import Derived.KernelRfl
namespace Go.Proofs.Ytdafolenaibccaa
/- THE CELL 'sum', in the pinned program and in every row, IS THE sha256 OF THE DUMP (.gsa) THAT YtdafolenaibccaaProg.lean LOADS. Nothing in Lean hashes anything: it is a label: what it is worth is what the hold of that sum in a sandbox is worth. -/
noncomputable def Try.pinned : Pinned := { name := "ytdafolenaibccaa", sum := "e200a8f19a3f099dec165a0fd62e45659ccd3f0fe03d712d1560045c8dda6058", checked := Try.checked }
namespace Rows
def none {H : Type} : Left H := { results := [], args := [] }

/-- 'conclavelaw07.InterpValues': WHATEVER THE INPUT: true; the input reads as it did. -/
def interpValuesSpec : ChangeSpec := { name := "interpValues", fn := fun _ => fun
  | [d1, d2, d3] => { results := [.lit (.bool true)], args := [d1, d2, d3] }
  | _ => none }
def interpValuesRow : OpenClaim := { program := "ytdafolenaibccaa", sum := "e200a8f19a3f099dec165a0fd62e45659ccd3f0fe03d712d1560045c8dda6058", func := "conclave/conclavelaw07.InterpValues", spec := "interpValues", inPlace := ["math/bits.Sub64", "math/bits.Add64"], unfollowed := true, recurses := true, named := ["math/bits.divideError", "math/bits.overflowError"], apart := false }
def InterpValuesSaid : Prop := interpValuesRow.holds Try.pinned (OpenSpec.ofChange interpValuesSpec)

/-- ITS FALSE NEIGHBOUR: 'it returns false'. Refute it at one input. -/
def interpValuesWrong : ChangeSpec := { name := "interpValues", fn := fun _ => fun
  | [d1, d2, d3] => { results := [.lit (.bool false)], args := [d1, d2, d3] }
  | _ => none }
def InterpValuesWrongFalsely : Prop := interpValuesRow.holds Try.pinned (OpenSpec.ofChange interpValuesWrong)

/-- 'conclavelaw07.InterpMeets': WHATEVER THE INPUT: true; the input reads as it did. -/
def interpMeetsSpec : ChangeSpec := { name := "interpMeets", fn := fun _ => fun
  | [d1, d2, d3] => { results := [.lit (.bool true)], args := [d1, d2, d3] }
  | _ => none }
def interpMeetsRow : OpenClaim := { program := "ytdafolenaibccaa", sum := "e200a8f19a3f099dec165a0fd62e45659ccd3f0fe03d712d1560045c8dda6058", func := "conclave/conclavelaw07.InterpMeets", spec := "interpMeets", inPlace := ["math/bits.Sub64", "math/bits.Add64"], unfollowed := true, recurses := true, named := ["math/bits.divideError", "math/bits.overflowError"], apart := false }
def InterpMeetsSaid : Prop := interpMeetsRow.holds Try.pinned (OpenSpec.ofChange interpMeetsSpec)

/-- ITS FALSE NEIGHBOUR: 'it returns false'. Refute it at one input. -/
def interpMeetsWrong : ChangeSpec := { name := "interpMeets", fn := fun _ => fun
  | [d1, d2, d3] => { results := [.lit (.bool false)], args := [d1, d2, d3] }
  | _ => none }
def InterpMeetsWrongFalsely : Prop := interpMeetsRow.holds Try.pinned (OpenSpec.ofChange interpMeetsWrong)

/-- 'conclavelaw07.InterpThrough': WHATEVER THE INPUT: true; the input reads as it did. -/
def interpThroughSpec : ChangeSpec := { name := "interpThrough", fn := fun _ => fun
  | [d1, d2, d3] => { results := [.lit (.bool true)], args := [d1, d2, d3] }
  | _ => none }
def interpThroughRow : OpenClaim := { program := "ytdafolenaibccaa", sum := "e200a8f19a3f099dec165a0fd62e45659ccd3f0fe03d712d1560045c8dda6058", func := "conclave/conclavelaw07.InterpThrough", spec := "interpThrough", inPlace := ["math/bits.Sub64", "math/bits.Add64"], unfollowed := true, recurses := true, named := ["math/bits.divideError", "math/bits.overflowError"], apart := false }
def InterpThroughSaid : Prop := interpThroughRow.holds Try.pinned (OpenSpec.ofChange interpThroughSpec)

/-- ITS FALSE NEIGHBOUR: 'it returns false'. Refute it at one input. -/
def interpThroughWrong : ChangeSpec := { name := "interpThrough", fn := fun _ => fun
  | [d1, d2, d3] => { results := [.lit (.bool false)], args := [d1, d2, d3] }
  | _ => none }
def InterpThroughWrongFalsely : Prop := interpThroughRow.holds Try.pinned (OpenSpec.ofChange interpThroughWrong)

/-- 'conclavelaw07.InterpChanges': WHATEVER THE INPUT: true; the input reads as it did. -/
def interpChangesSpec : ChangeSpec := { name := "interpChanges", fn := fun _ => fun
  | [d1, d2, d3] => { results := [.lit (.bool true)], args := [d1, d2, d3] }
  | _ => none }
def interpChangesRow : OpenClaim := { program := "ytdafolenaibccaa", sum := "e200a8f19a3f099dec165a0fd62e45659ccd3f0fe03d712d1560045c8dda6058", func := "conclave/conclavelaw07.InterpChanges", spec := "interpChanges", inPlace := ["math/bits.Sub64", "math/bits.Add64"], unfollowed := true, recurses := true, named := ["math/bits.divideError", "math/bits.overflowError"], apart := false }
def InterpChangesSaid : Prop := interpChangesRow.holds Try.pinned (OpenSpec.ofChange interpChangesSpec)

/-- ITS FALSE NEIGHBOUR: 'it returns false'. Refute it at one input. -/
def interpChangesWrong : ChangeSpec := { name := "interpChanges", fn := fun _ => fun
  | [d1, d2, d3] => { results := [.lit (.bool false)], args := [d1, d2, d3] }
  | _ => none }
def InterpChangesWrongFalsely : Prop := interpChangesRow.holds Try.pinned (OpenSpec.ofChange interpChangesWrong)

/-- 'conclavelaw07.InterpChain': WHATEVER THE INPUT: true; the input reads as it did. -/
def interpChainSpec : ChangeSpec := { name := "interpChain", fn := fun _ => fun
  | [d1, d2, d3] => { results := [.lit (.bool true)], args := [d1, d2, d3] }
  | _ => none }
def interpChainRow : OpenClaim := { program := "ytdafolenaibccaa", sum := "e200a8f19a3f099dec165a0fd62e45659ccd3f0fe03d712d1560045c8dda6058", func := "conclave/conclavelaw07.InterpChain", spec := "interpChain", inPlace := ["math/bits.Sub64", "math/bits.Add64"], unfollowed := true, recurses := true, named := ["math/bits.divideError", "math/bits.overflowError"], apart := false }
def InterpChainSaid : Prop := interpChainRow.holds Try.pinned (OpenSpec.ofChange interpChainSpec)

/-- ITS FALSE NEIGHBOUR: 'it returns false'. Refute it at one input. -/
def interpChainWrong : ChangeSpec := { name := "interpChain", fn := fun _ => fun
  | [d1, d2, d3] => { results := [.lit (.bool false)], args := [d1, d2, d3] }
  | _ => none }
def InterpChainWrongFalsely : Prop := interpChainRow.holds Try.pinned (OpenSpec.ofChange interpChainWrong)

/-- 'conclavelaw07.InterpFresh': WHATEVER THE INPUT: true; the input reads as it did. -/
def interpFreshSpec : ChangeSpec := { name := "interpFresh", fn := fun _ => fun
  | [d1, d2, d3] => { results := [.lit (.bool true)], args := [d1, d2, d3] }
  | _ => none }
def interpFreshRow : OpenClaim := { program := "ytdafolenaibccaa", sum := "e200a8f19a3f099dec165a0fd62e45659ccd3f0fe03d712d1560045c8dda6058", func := "conclave/conclavelaw07.InterpFresh", spec := "interpFresh", inPlace := ["math/bits.Sub64", "math/bits.Add64"], unfollowed := true, recurses := true, named := ["math/bits.divideError", "math/bits.overflowError"], apart := false }
def InterpFreshSaid : Prop := interpFreshRow.holds Try.pinned (OpenSpec.ofChange interpFreshSpec)

/-- ITS FALSE NEIGHBOUR: 'it returns false'. Refute it at one input. -/
def interpFreshWrong : ChangeSpec := { name := "interpFresh", fn := fun _ => fun
  | [d1, d2, d3] => { results := [.lit (.bool false)], args := [d1, d2, d3] }
  | _ => none }
def InterpFreshWrongFalsely : Prop := interpFreshRow.holds Try.pinned (OpenSpec.ofChange interpFreshWrong)

/-- 'conclavelaw07.InterpSums': WHATEVER THE INPUT: true; the input reads as it did. -/
def interpSumsSpec : ChangeSpec := { name := "interpSums", fn := fun _ => fun
  | [d1, d2, d3] => { results := [.lit (.bool true)], args := [d1, d2, d3] }
  | _ => none }
def interpSumsRow : OpenClaim := { program := "ytdafolenaibccaa", sum := "e200a8f19a3f099dec165a0fd62e45659ccd3f0fe03d712d1560045c8dda6058", func := "conclave/conclavelaw07.InterpSums", spec := "interpSums", inPlace := ["math/bits.Sub64", "math/bits.Add64"], unfollowed := true, recurses := true, named := ["math/bits.divideError", "math/bits.overflowError"], apart := false }
def InterpSumsSaid : Prop := interpSumsRow.holds Try.pinned (OpenSpec.ofChange interpSumsSpec)

/-- ITS FALSE NEIGHBOUR: 'it returns false'. Refute it at one input. -/
def interpSumsWrong : ChangeSpec := { name := "interpSums", fn := fun _ => fun
  | [d1, d2, d3] => { results := [.lit (.bool false)], args := [d1, d2, d3] }
  | _ => none }
def InterpSumsWrongFalsely : Prop := interpSumsRow.holds Try.pinned (OpenSpec.ofChange interpSumsWrong)

/- THE SECOND FORM. 'bulk': how many values and letters a reading holds, each counted each time it is reached (what is shared counts as often as it is met; a slice's spare places count too). A statement '..UptoSaid' is the law's where the arguments, and the package variables that the reading takes, are together of bulk at most 1048576: NARROWER than '..Said'. Prove '..Said' where nothing that the law and all that it calls make is longer than what came in: it says more and counts as full. Else prove '..UptoSaid'. A law counts once. -/
mutual
def uptoBulk {H : Type} : DataW H → Nat
  | .lit (.string bytes) => bytes.length + 1
  | .lit _ => 1
  | .nil => 1
  | .ptr d => uptoBulk d + 1
  | .slice elems spare => uptoBulkAll elems + uptoBulkAll spare + 1
  | .agg parts => uptoBulkAll parts + 1
  | .iface _ d => uptoBulk d + 1
  | .map entries => uptoBulkEntries entries + 1
  | .held _ => 1
def uptoBulkAll {H : Type} : List (DataW H) → Nat
  | [] => 0
  | d :: r => uptoBulk d + uptoBulkAll r
def uptoBulkEntries {H : Type} : List (Lit × DataW H) → Nat
  | [] => 0
  | x :: r => uptoBulkEntry x + uptoBulkEntries r
def uptoBulkEntry {H : Type} : Lit × DataW H → Nat
  | (.string bytes, d) => bytes.length + uptoBulk d + 1
  | (_, d) => uptoBulk d + 1
 end
def uptoSmall : (H : Type) → List (DataW H) → Bool := fun _ ds => decide (uptoBulkAll ds ≤ 1048576)
def OpenSpec.upto (s : _root_.Go.ChangeSpec) : _root_.Go.OpenSpec := { _root_.Go.OpenSpec.ofChange s with cond := some uptoSmall }

/-- 'conclavelaw07.InterpValues', WHERE WHAT IT READS IS OF BULK AT MOST 1048576: true; the input reads as it did. -/
def interpValuesUptoRow : OpenClaim := { program := "ytdafolenaibccaa", sum := "e200a8f19a3f099dec165a0fd62e45659ccd3f0fe03d712d1560045c8dda6058", func := "conclave/conclavelaw07.InterpValues", spec := "interpValues", inPlace := ["math/bits.Sub64", "math/bits.Add64"], unfollowed := true, recurses := true, named := ["math/bits.divideError", "math/bits.overflowError"], apart := false, narrowed := true }
def InterpValuesUptoSaid : Prop := interpValuesUptoRow.holds Try.pinned (OpenSpec.upto interpValuesSpec)

/-- 'conclavelaw07.InterpMeets', WHERE WHAT IT READS IS OF BULK AT MOST 1048576: true; the input reads as it did. -/
def interpMeetsUptoRow : OpenClaim := { program := "ytdafolenaibccaa", sum := "e200a8f19a3f099dec165a0fd62e45659ccd3f0fe03d712d1560045c8dda6058", func := "conclave/conclavelaw07.InterpMeets", spec := "interpMeets", inPlace := ["math/bits.Sub64", "math/bits.Add64"], unfollowed := true, recurses := true, named := ["math/bits.divideError", "math/bits.overflowError"], apart := false, narrowed := true }
def InterpMeetsUptoSaid : Prop := interpMeetsUptoRow.holds Try.pinned (OpenSpec.upto interpMeetsSpec)

/-- 'conclavelaw07.InterpThrough', WHERE WHAT IT READS IS OF BULK AT MOST 1048576: true; the input reads as it did. -/
def interpThroughUptoRow : OpenClaim := { program := "ytdafolenaibccaa", sum := "e200a8f19a3f099dec165a0fd62e45659ccd3f0fe03d712d1560045c8dda6058", func := "conclave/conclavelaw07.InterpThrough", spec := "interpThrough", inPlace := ["math/bits.Sub64", "math/bits.Add64"], unfollowed := true, recurses := true, named := ["math/bits.divideError", "math/bits.overflowError"], apart := false, narrowed := true }
def InterpThroughUptoSaid : Prop := interpThroughUptoRow.holds Try.pinned (OpenSpec.upto interpThroughSpec)

/-- 'conclavelaw07.InterpChanges', WHERE WHAT IT READS IS OF BULK AT MOST 1048576: true; the input reads as it did. -/
def interpChangesUptoRow : OpenClaim := { program := "ytdafolenaibccaa", sum := "e200a8f19a3f099dec165a0fd62e45659ccd3f0fe03d712d1560045c8dda6058", func := "conclave/conclavelaw07.InterpChanges", spec := "interpChanges", inPlace := ["math/bits.Sub64", "math/bits.Add64"], unfollowed := true, recurses := true, named := ["math/bits.divideError", "math/bits.overflowError"], apart := false, narrowed := true }
def InterpChangesUptoSaid : Prop := interpChangesUptoRow.holds Try.pinned (OpenSpec.upto interpChangesSpec)

/-- 'conclavelaw07.InterpChain', WHERE WHAT IT READS IS OF BULK AT MOST 1048576: true; the input reads as it did. -/
def interpChainUptoRow : OpenClaim := { program := "ytdafolenaibccaa", sum := "e200a8f19a3f099dec165a0fd62e45659ccd3f0fe03d712d1560045c8dda6058", func := "conclave/conclavelaw07.InterpChain", spec := "interpChain", inPlace := ["math/bits.Sub64", "math/bits.Add64"], unfollowed := true, recurses := true, named := ["math/bits.divideError", "math/bits.overflowError"], apart := false, narrowed := true }
def InterpChainUptoSaid : Prop := interpChainUptoRow.holds Try.pinned (OpenSpec.upto interpChainSpec)

/-- 'conclavelaw07.InterpFresh', WHERE WHAT IT READS IS OF BULK AT MOST 1048576: true; the input reads as it did. -/
def interpFreshUptoRow : OpenClaim := { program := "ytdafolenaibccaa", sum := "e200a8f19a3f099dec165a0fd62e45659ccd3f0fe03d712d1560045c8dda6058", func := "conclave/conclavelaw07.InterpFresh", spec := "interpFresh", inPlace := ["math/bits.Sub64", "math/bits.Add64"], unfollowed := true, recurses := true, named := ["math/bits.divideError", "math/bits.overflowError"], apart := false, narrowed := true }
def InterpFreshUptoSaid : Prop := interpFreshUptoRow.holds Try.pinned (OpenSpec.upto interpFreshSpec)

/-- 'conclavelaw07.InterpSums', WHERE WHAT IT READS IS OF BULK AT MOST 1048576: true; the input reads as it did. -/
def interpSumsUptoRow : OpenClaim := { program := "ytdafolenaibccaa", sum := "e200a8f19a3f099dec165a0fd62e45659ccd3f0fe03d712d1560045c8dda6058", func := "conclave/conclavelaw07.InterpSums", spec := "interpSums", inPlace := ["math/bits.Sub64", "math/bits.Add64"], unfollowed := true, recurses := true, named := ["math/bits.divideError", "math/bits.overflowError"], apart := false, narrowed := true }
def InterpSumsUptoSaid : Prop := interpSumsUptoRow.holds Try.pinned (OpenSpec.upto interpSumsSpec)

end Rows
end Go.Proofs.Ytdafolenaibccaa
