/-
  No cell of these rows narrows 'for every input' (looked for: loops, veiled, ifaces, maps, wideKeys, modest, calm, conditions, laid).
  DERIVED. THE GIVEN ROWS OF THIS SEAT. 7 by the template 'for every input the law returns true; each argument reads behind the call as it read before'; 0 by the template 'total and deterministic' (their statements: YtkhnngmighjaiaaTotals.lean).
  GIVEN WITH THE SEED: the statements are not yours to turn. If you find one false, say at which input.
  Laid BY PROGRAM, IN A SANDBOX (cutbox-rows.mjs): the forced cells as the released guide's own fill.sh prints them over the translation bd5d854da7f5772b… (all of the seat's roots in one cut). By AI agents, Wed Nov 11 2026. No macro, syntax, notation, axiom, sorry.
-/
import Derived.Test.YtkhnngmighjaiaaChecked
import GoSem.Claim
import GoSem.ClaimJoined
import GoSem.ClaimMapViews
import Derived.JoinedTies
import Derived.KernelRfl
namespace Go.Proofs.Ytkhnngmighjaiaa
/- THE CELL 'sum', in the pinned program and in every row, IS THE sha256 OF THE DUMP (.gsa) THAT YtkhnngmighjaiaaProg.lean LOADS. Nothing in Lean hashes anything: it is a label: what it is worth is what the hold of that sum in a sandbox is worth. -/
noncomputable def Try.pinned : Pinned := { name := "ytkhnngmighjaiaa", sum := "bd5d854da7f5772b1c267a3115172410bfed0fb6fe6edaba907496737f425dc1", checked := Try.checked }
namespace Rows
def none {H : Type} : Left H := { results := [], args := [] }

/-- 'conclavelaw11.EvalRuns': WHATEVER THE INPUT: true; the input reads as it did. -/
def evalRunsSpec : ChangeSpec := { name := "evalRuns", fn := fun _ => fun
  | [d1, d2, d3] => { results := [.lit (.bool true)], args := [d1, d2, d3] }
  | _ => none }
def evalRunsRow : OpenClaim := { program := "ytkhnngmighjaiaa", sum := "bd5d854da7f5772b1c267a3115172410bfed0fb6fe6edaba907496737f425dc1", func := "conclave/conclavelaw11.EvalRuns", spec := "evalRuns", unfollowed := true, recurses := true, apart := false }
def EvalRunsSaid : Prop := evalRunsRow.holds Try.pinned (OpenSpec.ofChange evalRunsSpec)

/-- ITS FALSE NEIGHBOUR: 'it returns false'. Refute it at one input. -/
def evalRunsWrong : ChangeSpec := { name := "evalRuns", fn := fun _ => fun
  | [d1, d2, d3] => { results := [.lit (.bool false)], args := [d1, d2, d3] }
  | _ => none }
def EvalRunsWrongFalsely : Prop := evalRunsRow.holds Try.pinned (OpenSpec.ofChange evalRunsWrong)

/-- 'conclavelaw11.EvalAfter': WHATEVER THE INPUT: true; the input reads as it did. -/
def evalAfterSpec : ChangeSpec := { name := "evalAfter", fn := fun _ => fun
  | [d1, d2, d3] => { results := [.lit (.bool true)], args := [d1, d2, d3] }
  | _ => none }
def evalAfterRow : OpenClaim := { program := "ytkhnngmighjaiaa", sum := "bd5d854da7f5772b1c267a3115172410bfed0fb6fe6edaba907496737f425dc1", func := "conclave/conclavelaw11.EvalAfter", spec := "evalAfter", unfollowed := true, recurses := true, apart := false }
def EvalAfterSaid : Prop := evalAfterRow.holds Try.pinned (OpenSpec.ofChange evalAfterSpec)

/-- ITS FALSE NEIGHBOUR: 'it returns false'. Refute it at one input. -/
def evalAfterWrong : ChangeSpec := { name := "evalAfter", fn := fun _ => fun
  | [d1, d2, d3] => { results := [.lit (.bool false)], args := [d1, d2, d3] }
  | _ => none }
def EvalAfterWrongFalsely : Prop := evalAfterRow.holds Try.pinned (OpenSpec.ofChange evalAfterWrong)

/-- 'conclavelaw11.EvalMany': WHATEVER THE INPUT: true; the input reads as it did. -/
def evalManySpec : ChangeSpec := { name := "evalMany", fn := fun _ => fun
  | [d1, d2, d3] => { results := [.lit (.bool true)], args := [d1, d2, d3] }
  | _ => none }
def evalManyRow : OpenClaim := { program := "ytkhnngmighjaiaa", sum := "bd5d854da7f5772b1c267a3115172410bfed0fb6fe6edaba907496737f425dc1", func := "conclave/conclavelaw11.EvalMany", spec := "evalMany", unfollowed := true, recurses := true, apart := false }
def EvalManySaid : Prop := evalManyRow.holds Try.pinned (OpenSpec.ofChange evalManySpec)

/-- ITS FALSE NEIGHBOUR: 'it returns false'. Refute it at one input. -/
def evalManyWrong : ChangeSpec := { name := "evalMany", fn := fun _ => fun
  | [d1, d2, d3] => { results := [.lit (.bool false)], args := [d1, d2, d3] }
  | _ => none }
def EvalManyWrongFalsely : Prop := evalManyRow.holds Try.pinned (OpenSpec.ofChange evalManyWrong)

/-- 'conclavelaw11.EvalRows': WHATEVER THE INPUT: true; the input reads as it did. -/
def evalRowsSpec : ChangeSpec := { name := "evalRows", fn := fun _ => fun
  | [d1, d2, d3] => { results := [.lit (.bool true)], args := [d1, d2, d3] }
  | _ => none }
def evalRowsRow : OpenClaim := { program := "ytkhnngmighjaiaa", sum := "bd5d854da7f5772b1c267a3115172410bfed0fb6fe6edaba907496737f425dc1", func := "conclave/conclavelaw11.EvalRows", spec := "evalRows", unfollowed := true, recurses := true, apart := false }
def EvalRowsSaid : Prop := evalRowsRow.holds Try.pinned (OpenSpec.ofChange evalRowsSpec)

/-- ITS FALSE NEIGHBOUR: 'it returns false'. Refute it at one input. -/
def evalRowsWrong : ChangeSpec := { name := "evalRows", fn := fun _ => fun
  | [d1, d2, d3] => { results := [.lit (.bool false)], args := [d1, d2, d3] }
  | _ => none }
def EvalRowsWrongFalsely : Prop := evalRowsRow.holds Try.pinned (OpenSpec.ofChange evalRowsWrong)

/-- 'conclavelaw11.EvalComposes': WHATEVER THE INPUT: true; the input reads as it did. -/
def evalComposesSpec : ChangeSpec := { name := "evalComposes", fn := fun _ => fun
  | [d1, d2, d3] => { results := [.lit (.bool true)], args := [d1, d2, d3] }
  | _ => none }
def evalComposesRow : OpenClaim := { program := "ytkhnngmighjaiaa", sum := "bd5d854da7f5772b1c267a3115172410bfed0fb6fe6edaba907496737f425dc1", func := "conclave/conclavelaw11.EvalComposes", spec := "evalComposes", unfollowed := true, recurses := true, apart := false }
def EvalComposesSaid : Prop := evalComposesRow.holds Try.pinned (OpenSpec.ofChange evalComposesSpec)

/-- ITS FALSE NEIGHBOUR: 'it returns false'. Refute it at one input. -/
def evalComposesWrong : ChangeSpec := { name := "evalComposes", fn := fun _ => fun
  | [d1, d2, d3] => { results := [.lit (.bool false)], args := [d1, d2, d3] }
  | _ => none }
def EvalComposesWrongFalsely : Prop := evalComposesRow.holds Try.pinned (OpenSpec.ofChange evalComposesWrong)

/-- 'conclavelaw11.EvalMeets': WHATEVER THE INPUT: true; the input reads as it did. -/
def evalMeetsSpec : ChangeSpec := { name := "evalMeets", fn := fun _ => fun
  | [d1, d2, d3] => { results := [.lit (.bool true)], args := [d1, d2, d3] }
  | _ => none }
def evalMeetsRow : OpenClaim := { program := "ytkhnngmighjaiaa", sum := "bd5d854da7f5772b1c267a3115172410bfed0fb6fe6edaba907496737f425dc1", func := "conclave/conclavelaw11.EvalMeets", spec := "evalMeets", unfollowed := true, recurses := true, apart := false }
def EvalMeetsSaid : Prop := evalMeetsRow.holds Try.pinned (OpenSpec.ofChange evalMeetsSpec)

/-- ITS FALSE NEIGHBOUR: 'it returns false'. Refute it at one input. -/
def evalMeetsWrong : ChangeSpec := { name := "evalMeets", fn := fun _ => fun
  | [d1, d2, d3] => { results := [.lit (.bool false)], args := [d1, d2, d3] }
  | _ => none }
def EvalMeetsWrongFalsely : Prop := evalMeetsRow.holds Try.pinned (OpenSpec.ofChange evalMeetsWrong)

/-- 'conclavelaw11.EvalFresh': WHATEVER THE INPUT: true; the input reads as it did. -/
def evalFreshSpec : ChangeSpec := { name := "evalFresh", fn := fun _ => fun
  | [d1, d2, d3] => { results := [.lit (.bool true)], args := [d1, d2, d3] }
  | _ => none }
def evalFreshRow : OpenClaim := { program := "ytkhnngmighjaiaa", sum := "bd5d854da7f5772b1c267a3115172410bfed0fb6fe6edaba907496737f425dc1", func := "conclave/conclavelaw11.EvalFresh", spec := "evalFresh", unfollowed := true, recurses := true, apart := false }
def EvalFreshSaid : Prop := evalFreshRow.holds Try.pinned (OpenSpec.ofChange evalFreshSpec)

/-- ITS FALSE NEIGHBOUR: 'it returns false'. Refute it at one input. -/
def evalFreshWrong : ChangeSpec := { name := "evalFresh", fn := fun _ => fun
  | [d1, d2, d3] => { results := [.lit (.bool false)], args := [d1, d2, d3] }
  | _ => none }
def EvalFreshWrongFalsely : Prop := evalFreshRow.holds Try.pinned (OpenSpec.ofChange evalFreshWrong)

/- THE SECOND FORM. 'bulk': how many values and letters a reading holds, each counted each time it is reached (what is shared counts as often as it is met; a slice's spare places count too). A statement '..UptoSaid' is the law's where the arguments, and the package variables that the reading takes, are together of bulk at most 1048576: NARROWER than '..Said'. Prove '..Said' where nothing that the law and all that it calls make is longer than what came in: it says more and counts as full. Else prove '..UptoSaid'. A law counts once. -/
mutual
def uptoBulk {H : Type} : DataW H → Nat
  | .lit (.string bytes) => bytes.length + 1
  | .lit _ => 1
  | .nil => 1
  | .ptr d => uptoBulk d + 1
  | .slice elems spare => uptoBulkAll elems + uptoBulkAll spare + 1
  | .agg parts => uptoBulkAll parts + 1
  | .iface _ d => uptoBulk d + 1
  | .map entries => uptoBulkEntries entries + 1
  | .held _ => 1
def uptoBulkAll {H : Type} : List (DataW H) → Nat
  | [] => 0
  | d :: r => uptoBulk d + uptoBulkAll r
def uptoBulkEntries {H : Type} : List (Lit × DataW H) → Nat
  | [] => 0
  | x :: r => uptoBulkEntry x + uptoBulkEntries r
def uptoBulkEntry {H : Type} : Lit × DataW H → Nat
  | (.string bytes, d) => bytes.length + uptoBulk d + 1
  | (_, d) => uptoBulk d + 1
 end
def uptoSmall : (H : Type) → List (DataW H) → Bool := fun _ ds => decide (uptoBulkAll ds ≤ 1048576)
def OpenSpec.upto (s : _root_.Go.ChangeSpec) : _root_.Go.OpenSpec := { _root_.Go.OpenSpec.ofChange s with cond := some uptoSmall }

/-- 'conclavelaw11.EvalRuns', WHERE WHAT IT READS IS OF BULK AT MOST 1048576: true; the input reads as it did. -/
def evalRunsUptoRow : OpenClaim := { program := "ytkhnngmighjaiaa", sum := "bd5d854da7f5772b1c267a3115172410bfed0fb6fe6edaba907496737f425dc1", func := "conclave/conclavelaw11.EvalRuns", spec := "evalRuns", unfollowed := true, recurses := true, apart := false, narrowed := true }
def EvalRunsUptoSaid : Prop := evalRunsUptoRow.holds Try.pinned (OpenSpec.upto evalRunsSpec)

/-- 'conclavelaw11.EvalAfter', WHERE WHAT IT READS IS OF BULK AT MOST 1048576: true; the input reads as it did. -/
def evalAfterUptoRow : OpenClaim := { program := "ytkhnngmighjaiaa", sum := "bd5d854da7f5772b1c267a3115172410bfed0fb6fe6edaba907496737f425dc1", func := "conclave/conclavelaw11.EvalAfter", spec := "evalAfter", unfollowed := true, recurses := true, apart := false, narrowed := true }
def EvalAfterUptoSaid : Prop := evalAfterUptoRow.holds Try.pinned (OpenSpec.upto evalAfterSpec)

/-- 'conclavelaw11.EvalMany', WHERE WHAT IT READS IS OF BULK AT MOST 1048576: true; the input reads as it did. -/
def evalManyUptoRow : OpenClaim := { program := "ytkhnngmighjaiaa", sum := "bd5d854da7f5772b1c267a3115172410bfed0fb6fe6edaba907496737f425dc1", func := "conclave/conclavelaw11.EvalMany", spec := "evalMany", unfollowed := true, recurses := true, apart := false, narrowed := true }
def EvalManyUptoSaid : Prop := evalManyUptoRow.holds Try.pinned (OpenSpec.upto evalManySpec)

/-- 'conclavelaw11.EvalRows', WHERE WHAT IT READS IS OF BULK AT MOST 1048576: true; the input reads as it did. -/
def evalRowsUptoRow : OpenClaim := { program := "ytkhnngmighjaiaa", sum := "bd5d854da7f5772b1c267a3115172410bfed0fb6fe6edaba907496737f425dc1", func := "conclave/conclavelaw11.EvalRows", spec := "evalRows", unfollowed := true, recurses := true, apart := false, narrowed := true }
def EvalRowsUptoSaid : Prop := evalRowsUptoRow.holds Try.pinned (OpenSpec.upto evalRowsSpec)

/-- 'conclavelaw11.EvalComposes', WHERE WHAT IT READS IS OF BULK AT MOST 1048576: true; the input reads as it did. -/
def evalComposesUptoRow : OpenClaim := { program := "ytkhnngmighjaiaa", sum := "bd5d854da7f5772b1c267a3115172410bfed0fb6fe6edaba907496737f425dc1", func := "conclave/conclavelaw11.EvalComposes", spec := "evalComposes", unfollowed := true, recurses := true, apart := false, narrowed := true }
def EvalComposesUptoSaid : Prop := evalComposesUptoRow.holds Try.pinned (OpenSpec.upto evalComposesSpec)

/-- 'conclavelaw11.EvalMeets', WHERE WHAT IT READS IS OF BULK AT MOST 1048576: true; the input reads as it did. -/
def evalMeetsUptoRow : OpenClaim := { program := "ytkhnngmighjaiaa", sum := "bd5d854da7f5772b1c267a3115172410bfed0fb6fe6edaba907496737f425dc1", func := "conclave/conclavelaw11.EvalMeets", spec := "evalMeets", unfollowed := true, recurses := true, apart := false, narrowed := true }
def EvalMeetsUptoSaid : Prop := evalMeetsUptoRow.holds Try.pinned (OpenSpec.upto evalMeetsSpec)

/-- 'conclavelaw11.EvalFresh', WHERE WHAT IT READS IS OF BULK AT MOST 1048576: true; the input reads as it did. -/
def evalFreshUptoRow : OpenClaim := { program := "ytkhnngmighjaiaa", sum := "bd5d854da7f5772b1c267a3115172410bfed0fb6fe6edaba907496737f425dc1", func := "conclave/conclavelaw11.EvalFresh", spec := "evalFresh", unfollowed := true, recurses := true, apart := false, narrowed := true }
def EvalFreshUptoSaid : Prop := evalFreshUptoRow.holds Try.pinned (OpenSpec.upto evalFreshSpec)

end Rows
end Go.Proofs.Ytkhnngmighjaiaa
