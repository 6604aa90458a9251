/-
  No cell of these rows narrows 'for every input' (looked for: loops, veiled, ifaces, maps, wideKeys, modest, calm, conditions, laid).
  DERIVED. THE GIVEN ROWS OF THIS SEAT. 6 by the template 'for every input the law returns true; each argument reads behind the call as it read before'; 0 by the template 'total and deterministic' (their statements: YtfkikfapbdlnjaaTotals.lean).
  GIVEN WITH THE SEED: the statements are not yours to turn. If you find one false, say at which input.
  Laid BY PROGRAM, IN A SANDBOX (cutbox-rows.mjs): the forced cells as the released guide's own fill.sh prints them over the translation e757f06ba573b77c… (all of the seat's roots in one cut). By AI agents, Wed Nov 11 2026. No macro, syntax, notation, axiom, sorry.
-/
import Derived.Test.YtfkikfapbdlnjaaChecked
import GoSem.Claim
import GoSem.ClaimJoined
import GoSem.ClaimMapViews
import Derived.JoinedTies
import Derived.KernelRfl
namespace Go.Proofs.Ytfkikfapbdlnjaa
/- THE CELL 'sum', in the pinned program and in every row, IS THE sha256 OF THE DUMP (.gsa) THAT YtfkikfapbdlnjaaProg.lean LOADS. Nothing in Lean hashes anything: it is a label: what it is worth is what the hold of that sum in a sandbox is worth. -/
noncomputable def Try.pinned : Pinned := { name := "ytfkikfapbdlnjaa", sum := "e757f06ba573b77cda79c3ef5143d4724c91401a59e60b6a820817e4f0198433", checked := Try.checked }
namespace Rows
def none {H : Type} : Left H := { results := [], args := [] }

/-- 'conclavelaw14.ShareRows': WHATEVER THE INPUT: true; the input reads as it did. -/
def shareRowsSpec : ChangeSpec := { name := "shareRows", fn := fun _ => fun
  | [d1, d2] => { results := [.lit (.bool true)], args := [d1, d2] }
  | _ => none }
def shareRowsRow : OpenClaim := { program := "ytfkikfapbdlnjaa", sum := "e757f06ba573b77cda79c3ef5143d4724c91401a59e60b6a820817e4f0198433", func := "conclave/conclavelaw14.ShareRows", spec := "shareRows", inPlace := ["math/bits.Sub64", "math/bits.Add64"], unfollowed := true, recurses := true, named := ["math/bits.divideError", "math/bits.overflowError"], apart := false }
def ShareRowsSaid : Prop := shareRowsRow.holds Try.pinned (OpenSpec.ofChange shareRowsSpec)

/-- ITS FALSE NEIGHBOUR: 'it returns false'. Refute it at one input. -/
def shareRowsWrong : ChangeSpec := { name := "shareRows", fn := fun _ => fun
  | [d1, d2] => { results := [.lit (.bool false)], args := [d1, d2] }
  | _ => none }
def ShareRowsWrongFalsely : Prop := shareRowsRow.holds Try.pinned (OpenSpec.ofChange shareRowsWrong)

/-- 'conclavelaw14.ShareSums': WHATEVER THE INPUT: true; the input reads as it did. -/
def shareSumsSpec : ChangeSpec := { name := "shareSums", fn := fun _ => fun
  | [d1, d2, d3] => { results := [.lit (.bool true)], args := [d1, d2, d3] }
  | _ => none }
def shareSumsRow : OpenClaim := { program := "ytfkikfapbdlnjaa", sum := "e757f06ba573b77cda79c3ef5143d4724c91401a59e60b6a820817e4f0198433", func := "conclave/conclavelaw14.ShareSums", spec := "shareSums", inPlace := ["math/bits.Sub64", "math/bits.Add64"], unfollowed := true, recurses := true, named := ["math/bits.divideError", "math/bits.overflowError"], apart := false }
def ShareSumsSaid : Prop := shareSumsRow.holds Try.pinned (OpenSpec.ofChange shareSumsSpec)

/-- ITS FALSE NEIGHBOUR: 'it returns false'. Refute it at one input. -/
def shareSumsWrong : ChangeSpec := { name := "shareSums", fn := fun _ => fun
  | [d1, d2, d3] => { results := [.lit (.bool false)], args := [d1, d2, d3] }
  | _ => none }
def ShareSumsWrongFalsely : Prop := shareSumsRow.holds Try.pinned (OpenSpec.ofChange shareSumsWrong)

/-- 'conclavelaw14.ShareOpens': WHATEVER THE INPUT: true; the input reads as it did. -/
def shareOpensSpec : ChangeSpec := { name := "shareOpens", fn := fun _ => fun
  | [d1, d2, d3] => { results := [.lit (.bool true)], args := [d1, d2, d3] }
  | _ => none }
def shareOpensRow : OpenClaim := { program := "ytfkikfapbdlnjaa", sum := "e757f06ba573b77cda79c3ef5143d4724c91401a59e60b6a820817e4f0198433", func := "conclave/conclavelaw14.ShareOpens", spec := "shareOpens", inPlace := ["math/bits.Sub64", "math/bits.Add64"], unfollowed := true, recurses := true, named := ["math/bits.divideError", "math/bits.overflowError"], apart := false }
def ShareOpensSaid : Prop := shareOpensRow.holds Try.pinned (OpenSpec.ofChange shareOpensSpec)

/-- ITS FALSE NEIGHBOUR: 'it returns false'. Refute it at one input. -/
def shareOpensWrong : ChangeSpec := { name := "shareOpens", fn := fun _ => fun
  | [d1, d2, d3] => { results := [.lit (.bool false)], args := [d1, d2, d3] }
  | _ => none }
def ShareOpensWrongFalsely : Prop := shareOpensRow.holds Try.pinned (OpenSpec.ofChange shareOpensWrong)

/-- 'conclavelaw14.ShareBack': WHATEVER THE INPUT: true; the input reads as it did. -/
def shareBackSpec : ChangeSpec := { name := "shareBack", fn := fun _ => fun
  | [d1, d2, d3] => { results := [.lit (.bool true)], args := [d1, d2, d3] }
  | _ => none }
def shareBackRow : OpenClaim := { program := "ytfkikfapbdlnjaa", sum := "e757f06ba573b77cda79c3ef5143d4724c91401a59e60b6a820817e4f0198433", func := "conclave/conclavelaw14.ShareBack", spec := "shareBack", inPlace := ["math/bits.Sub64", "math/bits.Add64"], unfollowed := true, recurses := true, named := ["math/bits.divideError", "math/bits.overflowError"], apart := false }
def ShareBackSaid : Prop := shareBackRow.holds Try.pinned (OpenSpec.ofChange shareBackSpec)

/-- ITS FALSE NEIGHBOUR: 'it returns false'. Refute it at one input. -/
def shareBackWrong : ChangeSpec := { name := "shareBack", fn := fun _ => fun
  | [d1, d2, d3] => { results := [.lit (.bool false)], args := [d1, d2, d3] }
  | _ => none }
def ShareBackWrongFalsely : Prop := shareBackRow.holds Try.pinned (OpenSpec.ofChange shareBackWrong)

/-- 'conclavelaw15.PrivacyTwins': WHATEVER THE INPUT: true; the input reads as it did. -/
def privacyTwinsSpec : ChangeSpec := { name := "privacyTwins", fn := fun _ => fun
  | [d1, d2, d3] => { results := [.lit (.bool true)], args := [d1, d2, d3] }
  | _ => none }
def privacyTwinsRow : OpenClaim := { program := "ytfkikfapbdlnjaa", sum := "e757f06ba573b77cda79c3ef5143d4724c91401a59e60b6a820817e4f0198433", func := "conclave/conclavelaw15.PrivacyTwins", spec := "privacyTwins", inPlace := ["math/bits.Sub64", "math/bits.Add64"], unfollowed := true, recurses := true, named := ["math/bits.divideError", "math/bits.overflowError"], apart := false }
def PrivacyTwinsSaid : Prop := privacyTwinsRow.holds Try.pinned (OpenSpec.ofChange privacyTwinsSpec)

/-- ITS FALSE NEIGHBOUR: 'it returns false'. Refute it at one input. -/
def privacyTwinsWrong : ChangeSpec := { name := "privacyTwins", fn := fun _ => fun
  | [d1, d2, d3] => { results := [.lit (.bool false)], args := [d1, d2, d3] }
  | _ => none }
def PrivacyTwinsWrongFalsely : Prop := privacyTwinsRow.holds Try.pinned (OpenSpec.ofChange privacyTwinsWrong)

/-- 'conclavelaw15.PrivacyBack': WHATEVER THE INPUT: true; the input reads as it did. -/
def privacyBackSpec : ChangeSpec := { name := "privacyBack", fn := fun _ => fun
  | [d1, d2, d3] => { results := [.lit (.bool true)], args := [d1, d2, d3] }
  | _ => none }
def privacyBackRow : OpenClaim := { program := "ytfkikfapbdlnjaa", sum := "e757f06ba573b77cda79c3ef5143d4724c91401a59e60b6a820817e4f0198433", func := "conclave/conclavelaw15.PrivacyBack", spec := "privacyBack", inPlace := ["math/bits.Sub64", "math/bits.Add64"], unfollowed := true, recurses := true, named := ["math/bits.divideError", "math/bits.overflowError"], apart := false }
def PrivacyBackSaid : Prop := privacyBackRow.holds Try.pinned (OpenSpec.ofChange privacyBackSpec)

/-- ITS FALSE NEIGHBOUR: 'it returns false'. Refute it at one input. -/
def privacyBackWrong : ChangeSpec := { name := "privacyBack", fn := fun _ => fun
  | [d1, d2, d3] => { results := [.lit (.bool false)], args := [d1, d2, d3] }
  | _ => none }
def PrivacyBackWrongFalsely : Prop := privacyBackRow.holds Try.pinned (OpenSpec.ofChange privacyBackWrong)

/- THE SECOND FORM. 'bulk': how many values and letters a reading holds, each counted each time it is reached (what is shared counts as often as it is met; a slice's spare places count too). A statement '..UptoSaid' is the law's where the arguments, and the package variables that the reading takes, are together of bulk at most 1048576: NARROWER than '..Said'. Prove '..Said' where nothing that the law and all that it calls make is longer than what came in: it says more and counts as full. Else prove '..UptoSaid'. A law counts once. -/
mutual
def uptoBulk {H : Type} : DataW H → Nat
  | .lit (.string bytes) => bytes.length + 1
  | .lit _ => 1
  | .nil => 1
  | .ptr d => uptoBulk d + 1
  | .slice elems spare => uptoBulkAll elems + uptoBulkAll spare + 1
  | .agg parts => uptoBulkAll parts + 1
  | .iface _ d => uptoBulk d + 1
  | .map entries => uptoBulkEntries entries + 1
  | .held _ => 1
def uptoBulkAll {H : Type} : List (DataW H) → Nat
  | [] => 0
  | d :: r => uptoBulk d + uptoBulkAll r
def uptoBulkEntries {H : Type} : List (Lit × DataW H) → Nat
  | [] => 0
  | x :: r => uptoBulkEntry x + uptoBulkEntries r
def uptoBulkEntry {H : Type} : Lit × DataW H → Nat
  | (.string bytes, d) => bytes.length + uptoBulk d + 1
  | (_, d) => uptoBulk d + 1
 end
def uptoSmall : (H : Type) → List (DataW H) → Bool := fun _ ds => decide (uptoBulkAll ds ≤ 1048576)
def OpenSpec.upto (s : _root_.Go.ChangeSpec) : _root_.Go.OpenSpec := { _root_.Go.OpenSpec.ofChange s with cond := some uptoSmall }

/-- 'conclavelaw14.ShareRows', WHERE WHAT IT READS IS OF BULK AT MOST 1048576: true; the input reads as it did. -/
def shareRowsUptoRow : OpenClaim := { program := "ytfkikfapbdlnjaa", sum := "e757f06ba573b77cda79c3ef5143d4724c91401a59e60b6a820817e4f0198433", func := "conclave/conclavelaw14.ShareRows", spec := "shareRows", inPlace := ["math/bits.Sub64", "math/bits.Add64"], unfollowed := true, recurses := true, named := ["math/bits.divideError", "math/bits.overflowError"], apart := false, narrowed := true }
def ShareRowsUptoSaid : Prop := shareRowsUptoRow.holds Try.pinned (OpenSpec.upto shareRowsSpec)

/-- 'conclavelaw14.ShareSums', WHERE WHAT IT READS IS OF BULK AT MOST 1048576: true; the input reads as it did. -/
def shareSumsUptoRow : OpenClaim := { program := "ytfkikfapbdlnjaa", sum := "e757f06ba573b77cda79c3ef5143d4724c91401a59e60b6a820817e4f0198433", func := "conclave/conclavelaw14.ShareSums", spec := "shareSums", inPlace := ["math/bits.Sub64", "math/bits.Add64"], unfollowed := true, recurses := true, named := ["math/bits.divideError", "math/bits.overflowError"], apart := false, narrowed := true }
def ShareSumsUptoSaid : Prop := shareSumsUptoRow.holds Try.pinned (OpenSpec.upto shareSumsSpec)

/-- 'conclavelaw14.ShareOpens', WHERE WHAT IT READS IS OF BULK AT MOST 1048576: true; the input reads as it did. -/
def shareOpensUptoRow : OpenClaim := { program := "ytfkikfapbdlnjaa", sum := "e757f06ba573b77cda79c3ef5143d4724c91401a59e60b6a820817e4f0198433", func := "conclave/conclavelaw14.ShareOpens", spec := "shareOpens", inPlace := ["math/bits.Sub64", "math/bits.Add64"], unfollowed := true, recurses := true, named := ["math/bits.divideError", "math/bits.overflowError"], apart := false, narrowed := true }
def ShareOpensUptoSaid : Prop := shareOpensUptoRow.holds Try.pinned (OpenSpec.upto shareOpensSpec)

/-- 'conclavelaw14.ShareBack', WHERE WHAT IT READS IS OF BULK AT MOST 1048576: true; the input reads as it did. -/
def shareBackUptoRow : OpenClaim := { program := "ytfkikfapbdlnjaa", sum := "e757f06ba573b77cda79c3ef5143d4724c91401a59e60b6a820817e4f0198433", func := "conclave/conclavelaw14.ShareBack", spec := "shareBack", inPlace := ["math/bits.Sub64", "math/bits.Add64"], unfollowed := true, recurses := true, named := ["math/bits.divideError", "math/bits.overflowError"], apart := false, narrowed := true }
def ShareBackUptoSaid : Prop := shareBackUptoRow.holds Try.pinned (OpenSpec.upto shareBackSpec)

/-- 'conclavelaw15.PrivacyTwins', WHERE WHAT IT READS IS OF BULK AT MOST 1048576: true; the input reads as it did. -/
def privacyTwinsUptoRow : OpenClaim := { program := "ytfkikfapbdlnjaa", sum := "e757f06ba573b77cda79c3ef5143d4724c91401a59e60b6a820817e4f0198433", func := "conclave/conclavelaw15.PrivacyTwins", spec := "privacyTwins", inPlace := ["math/bits.Sub64", "math/bits.Add64"], unfollowed := true, recurses := true, named := ["math/bits.divideError", "math/bits.overflowError"], apart := false, narrowed := true }
def PrivacyTwinsUptoSaid : Prop := privacyTwinsUptoRow.holds Try.pinned (OpenSpec.upto privacyTwinsSpec)

/-- 'conclavelaw15.PrivacyBack', WHERE WHAT IT READS IS OF BULK AT MOST 1048576: true; the input reads as it did. -/
def privacyBackUptoRow : OpenClaim := { program := "ytfkikfapbdlnjaa", sum := "e757f06ba573b77cda79c3ef5143d4724c91401a59e60b6a820817e4f0198433", func := "conclave/conclavelaw15.PrivacyBack", spec := "privacyBack", inPlace := ["math/bits.Sub64", "math/bits.Add64"], unfollowed := true, recurses := true, named := ["math/bits.divideError", "math/bits.overflowError"], apart := false, narrowed := true }
def PrivacyBackUptoSaid : Prop := privacyBackUptoRow.holds Try.pinned (OpenSpec.upto privacyBackSpec)

end Rows
end Go.Proofs.Ytfkikfapbdlnjaa
