/-
  No cell of these rows narrows 'for every input' (looked for: loops, veiled, ifaces, maps, wideKeys, modest, calm, conditions, laid).
  DERIVED. THE GIVEN ROWS OF THIS SEAT. 10 by the template 'for every input the law returns true; each argument reads behind the call as it read before'; 0 by the template 'total and deterministic' (their statements: YtclanpkekocndaaTotals.lean).
  GIVEN WITH THE SEED: the statements are not yours to turn. If you find one false, say at which input.
  Laid BY PROGRAM, IN A SANDBOX (cutbox-rows.mjs): the forced cells as the released guide's own fill.sh prints them over the translation 4245f5ab59929de1… (all of the seat's roots in one cut). By AI agents, Wed Nov 11 2026. No macro, syntax, notation, axiom, sorry.
-/
import Derived.Test.YtclanpkekocndaaChecked
import GoSem.Claim
import GoSem.ClaimJoined
import GoSem.ClaimMapViews
import Derived.JoinedTies
import Derived.KernelRfl
namespace Go.Proofs.Ytclanpkekocndaa
/- THE CELL 'sum', in the pinned program and in every row, IS THE sha256 OF THE DUMP (.gsa) THAT YtclanpkekocndaaProg.lean LOADS. Nothing in Lean hashes anything: it is a label: what it is worth is what the hold of that sum in a sandbox is worth. -/
noncomputable def Try.pinned : Pinned := { name := "ytclanpkekocndaa", sum := "4245f5ab59929de15e593300fee48b9c1e141d077bb74b0b82a152b806cb8e67", checked := Try.checked }
namespace Rows
def none {H : Type} : Left H := { results := [], args := [] }

/-- 'conclavelaw08.WireCounts': WHATEVER THE INPUT: true; the input reads as it did. -/
def wireCountsSpec : ChangeSpec := { name := "wireCounts", fn := fun _ => fun
  | [d1, d2] => { results := [.lit (.bool true)], args := [d1, d2] }
  | _ => none }
def wireCountsRow : OpenClaim := { program := "ytclanpkekocndaa", sum := "4245f5ab59929de15e593300fee48b9c1e141d077bb74b0b82a152b806cb8e67", func := "conclave/conclavelaw08.WireCounts", spec := "wireCounts", unfollowed := true, recurses := true, apart := false }
def WireCountsSaid : Prop := wireCountsRow.holds Try.pinned (OpenSpec.ofChange wireCountsSpec)

/-- ITS FALSE NEIGHBOUR: 'it returns false'. Refute it at one input. -/
def wireCountsWrong : ChangeSpec := { name := "wireCounts", fn := fun _ => fun
  | [d1, d2] => { results := [.lit (.bool false)], args := [d1, d2] }
  | _ => none }
def WireCountsWrongFalsely : Prop := wireCountsRow.holds Try.pinned (OpenSpec.ofChange wireCountsWrong)

/-- 'conclavelaw19.PadsChain': WHATEVER THE INPUT: true; the input reads as it did. -/
def padsChainSpec : ChangeSpec := { name := "padsChain", fn := fun _ => fun
  | [d1, d2, d3] => { results := [.lit (.bool true)], args := [d1, d2, d3] }
  | _ => none }
def padsChainRow : OpenClaim := { program := "ytclanpkekocndaa", sum := "4245f5ab59929de15e593300fee48b9c1e141d077bb74b0b82a152b806cb8e67", func := "conclave/conclavelaw19.PadsChain", spec := "padsChain", apart := false }
def PadsChainSaid : Prop := padsChainRow.holds Try.pinned (OpenSpec.ofChange padsChainSpec)

/-- ITS FALSE NEIGHBOUR: 'it returns false'. Refute it at one input. -/
def padsChainWrong : ChangeSpec := { name := "padsChain", fn := fun _ => fun
  | [d1, d2, d3] => { results := [.lit (.bool false)], args := [d1, d2, d3] }
  | _ => none }
def PadsChainWrongFalsely : Prop := padsChainRow.holds Try.pinned (OpenSpec.ofChange padsChainWrong)

/-- 'conclavelaw19.PadsTakes': WHATEVER THE INPUT: true; the input reads as it did. -/
def padsTakesSpec : ChangeSpec := { name := "padsTakes", fn := fun _ => fun
  | [d1, d2, d3] => { results := [.lit (.bool true)], args := [d1, d2, d3] }
  | _ => none }
def padsTakesRow : OpenClaim := { program := "ytclanpkekocndaa", sum := "4245f5ab59929de15e593300fee48b9c1e141d077bb74b0b82a152b806cb8e67", func := "conclave/conclavelaw19.PadsTakes", spec := "padsTakes", apart := false }
def PadsTakesSaid : Prop := padsTakesRow.holds Try.pinned (OpenSpec.ofChange padsTakesSpec)

/-- ITS FALSE NEIGHBOUR: 'it returns false'. Refute it at one input. -/
def padsTakesWrong : ChangeSpec := { name := "padsTakes", fn := fun _ => fun
  | [d1, d2, d3] => { results := [.lit (.bool false)], args := [d1, d2, d3] }
  | _ => none }
def PadsTakesWrongFalsely : Prop := padsTakesRow.holds Try.pinned (OpenSpec.ofChange padsTakesWrong)

/-- 'conclavelaw19.PadsApart': WHATEVER THE INPUT: true; the input reads as it did. -/
def padsApartSpec : ChangeSpec := { name := "padsApart", fn := fun _ => fun
  | [d1, d2] => { results := [.lit (.bool true)], args := [d1, d2] }
  | _ => none }
def padsApartRow : OpenClaim := { program := "ytclanpkekocndaa", sum := "4245f5ab59929de15e593300fee48b9c1e141d077bb74b0b82a152b806cb8e67", func := "conclave/conclavelaw19.PadsApart", spec := "padsApart", apart := false }
def PadsApartSaid : Prop := padsApartRow.holds Try.pinned (OpenSpec.ofChange padsApartSpec)

/-- ITS FALSE NEIGHBOUR: 'it returns false'. Refute it at one input. -/
def padsApartWrong : ChangeSpec := { name := "padsApart", fn := fun _ => fun
  | [d1, d2] => { results := [.lit (.bool false)], args := [d1, d2] }
  | _ => none }
def PadsApartWrongFalsely : Prop := padsApartRow.holds Try.pinned (OpenSpec.ofChange padsApartWrong)

/-- 'conclavelaw08.WireLists': WHATEVER THE INPUT: true; the input reads as it did. -/
def wireListsSpec : ChangeSpec := { name := "wireLists", fn := fun _ => fun
  | [d1, d2, d3] => { results := [.lit (.bool true)], args := [d1, d2, d3] }
  | _ => none }
def wireListsRow : OpenClaim := { program := "ytclanpkekocndaa", sum := "4245f5ab59929de15e593300fee48b9c1e141d077bb74b0b82a152b806cb8e67", func := "conclave/conclavelaw08.WireLists", spec := "wireLists", unfollowed := true, recurses := true, apart := false }
def WireListsSaid : Prop := wireListsRow.holds Try.pinned (OpenSpec.ofChange wireListsSpec)

/-- ITS FALSE NEIGHBOUR: 'it returns false'. Refute it at one input. -/
def wireListsWrong : ChangeSpec := { name := "wireLists", fn := fun _ => fun
  | [d1, d2, d3] => { results := [.lit (.bool false)], args := [d1, d2, d3] }
  | _ => none }
def WireListsWrongFalsely : Prop := wireListsRow.holds Try.pinned (OpenSpec.ofChange wireListsWrong)

/-- 'conclavelaw08.WireSeals': WHATEVER THE INPUT: true; the input reads as it did. -/
def wireSealsSpec : ChangeSpec := { name := "wireSeals", fn := fun _ => fun
  | [d1, d2] => { results := [.lit (.bool true)], args := [d1, d2] }
  | _ => none }
def wireSealsRow : OpenClaim := { program := "ytclanpkekocndaa", sum := "4245f5ab59929de15e593300fee48b9c1e141d077bb74b0b82a152b806cb8e67", func := "conclave/conclavelaw08.WireSeals", spec := "wireSeals", unfollowed := true, recurses := true, apart := false }
def WireSealsSaid : Prop := wireSealsRow.holds Try.pinned (OpenSpec.ofChange wireSealsSpec)

/-- ITS FALSE NEIGHBOUR: 'it returns false'. Refute it at one input. -/
def wireSealsWrong : ChangeSpec := { name := "wireSeals", fn := fun _ => fun
  | [d1, d2] => { results := [.lit (.bool false)], args := [d1, d2] }
  | _ => none }
def WireSealsWrongFalsely : Prop := wireSealsRow.holds Try.pinned (OpenSpec.ofChange wireSealsWrong)

/-- 'conclavelaw08.WireTurned': WHATEVER THE INPUT: true; the input reads as it did. -/
def wireTurnedSpec : ChangeSpec := { name := "wireTurned", fn := fun _ => fun
  | [d1, d2, d3] => { results := [.lit (.bool true)], args := [d1, d2, d3] }
  | _ => none }
def wireTurnedRow : OpenClaim := { program := "ytclanpkekocndaa", sum := "4245f5ab59929de15e593300fee48b9c1e141d077bb74b0b82a152b806cb8e67", func := "conclave/conclavelaw08.WireTurned", spec := "wireTurned", unfollowed := true, recurses := true, apart := false }
def WireTurnedSaid : Prop := wireTurnedRow.holds Try.pinned (OpenSpec.ofChange wireTurnedSpec)

/-- ITS FALSE NEIGHBOUR: 'it returns false'. Refute it at one input. -/
def wireTurnedWrong : ChangeSpec := { name := "wireTurned", fn := fun _ => fun
  | [d1, d2, d3] => { results := [.lit (.bool false)], args := [d1, d2, d3] }
  | _ => none }
def WireTurnedWrongFalsely : Prop := wireTurnedRow.holds Try.pinned (OpenSpec.ofChange wireTurnedWrong)

/-- 'conclavelaw08.WireBack': WHATEVER THE INPUT: true; the input reads as it did. -/
def wireBackSpec : ChangeSpec := { name := "wireBack", fn := fun _ => fun
  | [d1, d2, d3] => { results := [.lit (.bool true)], args := [d1, d2, d3] }
  | _ => none }
def wireBackRow : OpenClaim := { program := "ytclanpkekocndaa", sum := "4245f5ab59929de15e593300fee48b9c1e141d077bb74b0b82a152b806cb8e67", func := "conclave/conclavelaw08.WireBack", spec := "wireBack", unfollowed := true, recurses := true, apart := false }
def WireBackSaid : Prop := wireBackRow.holds Try.pinned (OpenSpec.ofChange wireBackSpec)

/-- ITS FALSE NEIGHBOUR: 'it returns false'. Refute it at one input. -/
def wireBackWrong : ChangeSpec := { name := "wireBack", fn := fun _ => fun
  | [d1, d2, d3] => { results := [.lit (.bool false)], args := [d1, d2, d3] }
  | _ => none }
def WireBackWrongFalsely : Prop := wireBackRow.holds Try.pinned (OpenSpec.ofChange wireBackWrong)

/-- 'conclavelaw08.WireForms': WHATEVER THE INPUT: true; the input reads as it did. -/
def wireFormsSpec : ChangeSpec := { name := "wireForms", fn := fun _ => fun
  | [d] => { results := [.lit (.bool true)], args := [d] }
  | _ => none }
def wireFormsRow : OpenClaim := { program := "ytclanpkekocndaa", sum := "4245f5ab59929de15e593300fee48b9c1e141d077bb74b0b82a152b806cb8e67", func := "conclave/conclavelaw08.WireForms", spec := "wireForms", unfollowed := true, recurses := true, apart := false }
def WireFormsSaid : Prop := wireFormsRow.holds Try.pinned (OpenSpec.ofChange wireFormsSpec)

/-- ITS FALSE NEIGHBOUR: 'it returns false'. Refute it at one input. -/
def wireFormsWrong : ChangeSpec := { name := "wireForms", fn := fun _ => fun
  | [d] => { results := [.lit (.bool false)], args := [d] }
  | _ => none }
def WireFormsWrongFalsely : Prop := wireFormsRow.holds Try.pinned (OpenSpec.ofChange wireFormsWrong)

/-- 'conclavelaw08.WireFresh': WHATEVER THE INPUT: true; the input reads as it did. -/
def wireFreshSpec : ChangeSpec := { name := "wireFresh", fn := fun _ => fun
  | [d] => { results := [.lit (.bool true)], args := [d] }
  | _ => none }
def wireFreshRow : OpenClaim := { program := "ytclanpkekocndaa", sum := "4245f5ab59929de15e593300fee48b9c1e141d077bb74b0b82a152b806cb8e67", func := "conclave/conclavelaw08.WireFresh", spec := "wireFresh", unfollowed := true, recurses := true, apart := false }
def WireFreshSaid : Prop := wireFreshRow.holds Try.pinned (OpenSpec.ofChange wireFreshSpec)

/-- ITS FALSE NEIGHBOUR: 'it returns false'. Refute it at one input. -/
def wireFreshWrong : ChangeSpec := { name := "wireFresh", fn := fun _ => fun
  | [d] => { results := [.lit (.bool false)], args := [d] }
  | _ => none }
def WireFreshWrongFalsely : Prop := wireFreshRow.holds Try.pinned (OpenSpec.ofChange wireFreshWrong)

/- THE SECOND FORM. 'bulk': how many values and letters a reading holds, each counted each time it is reached (what is shared counts as often as it is met; a slice's spare places count too). A statement '..UptoSaid' is the law's where the arguments, and the package variables that the reading takes, are together of bulk at most 1048576: NARROWER than '..Said'. Prove '..Said' where nothing that the law and all that it calls make is longer than what came in: it says more and counts as full. Else prove '..UptoSaid'. A law counts once. -/
mutual
def uptoBulk {H : Type} : DataW H → Nat
  | .lit (.string bytes) => bytes.length + 1
  | .lit _ => 1
  | .nil => 1
  | .ptr d => uptoBulk d + 1
  | .slice elems spare => uptoBulkAll elems + uptoBulkAll spare + 1
  | .agg parts => uptoBulkAll parts + 1
  | .iface _ d => uptoBulk d + 1
  | .map entries => uptoBulkEntries entries + 1
  | .held _ => 1
def uptoBulkAll {H : Type} : List (DataW H) → Nat
  | [] => 0
  | d :: r => uptoBulk d + uptoBulkAll r
def uptoBulkEntries {H : Type} : List (Lit × DataW H) → Nat
  | [] => 0
  | x :: r => uptoBulkEntry x + uptoBulkEntries r
def uptoBulkEntry {H : Type} : Lit × DataW H → Nat
  | (.string bytes, d) => bytes.length + uptoBulk d + 1
  | (_, d) => uptoBulk d + 1
 end
def uptoSmall : (H : Type) → List (DataW H) → Bool := fun _ ds => decide (uptoBulkAll ds ≤ 1048576)
def OpenSpec.upto (s : _root_.Go.ChangeSpec) : _root_.Go.OpenSpec := { _root_.Go.OpenSpec.ofChange s with cond := some uptoSmall }

/-- 'conclavelaw08.WireCounts', WHERE WHAT IT READS IS OF BULK AT MOST 1048576: true; the input reads as it did. -/
def wireCountsUptoRow : OpenClaim := { program := "ytclanpkekocndaa", sum := "4245f5ab59929de15e593300fee48b9c1e141d077bb74b0b82a152b806cb8e67", func := "conclave/conclavelaw08.WireCounts", spec := "wireCounts", unfollowed := true, recurses := true, apart := false, narrowed := true }
def WireCountsUptoSaid : Prop := wireCountsUptoRow.holds Try.pinned (OpenSpec.upto wireCountsSpec)

/-- 'conclavelaw19.PadsChain', WHERE WHAT IT READS IS OF BULK AT MOST 1048576: true; the input reads as it did. -/
def padsChainUptoRow : OpenClaim := { program := "ytclanpkekocndaa", sum := "4245f5ab59929de15e593300fee48b9c1e141d077bb74b0b82a152b806cb8e67", func := "conclave/conclavelaw19.PadsChain", spec := "padsChain", apart := false, narrowed := true }
def PadsChainUptoSaid : Prop := padsChainUptoRow.holds Try.pinned (OpenSpec.upto padsChainSpec)

/-- 'conclavelaw19.PadsTakes', WHERE WHAT IT READS IS OF BULK AT MOST 1048576: true; the input reads as it did. -/
def padsTakesUptoRow : OpenClaim := { program := "ytclanpkekocndaa", sum := "4245f5ab59929de15e593300fee48b9c1e141d077bb74b0b82a152b806cb8e67", func := "conclave/conclavelaw19.PadsTakes", spec := "padsTakes", apart := false, narrowed := true }
def PadsTakesUptoSaid : Prop := padsTakesUptoRow.holds Try.pinned (OpenSpec.upto padsTakesSpec)

/-- 'conclavelaw19.PadsApart', WHERE WHAT IT READS IS OF BULK AT MOST 1048576: true; the input reads as it did. -/
def padsApartUptoRow : OpenClaim := { program := "ytclanpkekocndaa", sum := "4245f5ab59929de15e593300fee48b9c1e141d077bb74b0b82a152b806cb8e67", func := "conclave/conclavelaw19.PadsApart", spec := "padsApart", apart := false, narrowed := true }
def PadsApartUptoSaid : Prop := padsApartUptoRow.holds Try.pinned (OpenSpec.upto padsApartSpec)

/-- 'conclavelaw08.WireLists', WHERE WHAT IT READS IS OF BULK AT MOST 1048576: true; the input reads as it did. -/
def wireListsUptoRow : OpenClaim := { program := "ytclanpkekocndaa", sum := "4245f5ab59929de15e593300fee48b9c1e141d077bb74b0b82a152b806cb8e67", func := "conclave/conclavelaw08.WireLists", spec := "wireLists", unfollowed := true, recurses := true, apart := false, narrowed := true }
def WireListsUptoSaid : Prop := wireListsUptoRow.holds Try.pinned (OpenSpec.upto wireListsSpec)

/-- 'conclavelaw08.WireSeals', WHERE WHAT IT READS IS OF BULK AT MOST 1048576: true; the input reads as it did. -/
def wireSealsUptoRow : OpenClaim := { program := "ytclanpkekocndaa", sum := "4245f5ab59929de15e593300fee48b9c1e141d077bb74b0b82a152b806cb8e67", func := "conclave/conclavelaw08.WireSeals", spec := "wireSeals", unfollowed := true, recurses := true, apart := false, narrowed := true }
def WireSealsUptoSaid : Prop := wireSealsUptoRow.holds Try.pinned (OpenSpec.upto wireSealsSpec)

/-- 'conclavelaw08.WireTurned', WHERE WHAT IT READS IS OF BULK AT MOST 1048576: true; the input reads as it did. -/
def wireTurnedUptoRow : OpenClaim := { program := "ytclanpkekocndaa", sum := "4245f5ab59929de15e593300fee48b9c1e141d077bb74b0b82a152b806cb8e67", func := "conclave/conclavelaw08.WireTurned", spec := "wireTurned", unfollowed := true, recurses := true, apart := false, narrowed := true }
def WireTurnedUptoSaid : Prop := wireTurnedUptoRow.holds Try.pinned (OpenSpec.upto wireTurnedSpec)

/-- 'conclavelaw08.WireBack', WHERE WHAT IT READS IS OF BULK AT MOST 1048576: true; the input reads as it did. -/
def wireBackUptoRow : OpenClaim := { program := "ytclanpkekocndaa", sum := "4245f5ab59929de15e593300fee48b9c1e141d077bb74b0b82a152b806cb8e67", func := "conclave/conclavelaw08.WireBack", spec := "wireBack", unfollowed := true, recurses := true, apart := false, narrowed := true }
def WireBackUptoSaid : Prop := wireBackUptoRow.holds Try.pinned (OpenSpec.upto wireBackSpec)

/-- 'conclavelaw08.WireForms', WHERE WHAT IT READS IS OF BULK AT MOST 1048576: true; the input reads as it did. -/
def wireFormsUptoRow : OpenClaim := { program := "ytclanpkekocndaa", sum := "4245f5ab59929de15e593300fee48b9c1e141d077bb74b0b82a152b806cb8e67", func := "conclave/conclavelaw08.WireForms", spec := "wireForms", unfollowed := true, recurses := true, apart := false, narrowed := true }
def WireFormsUptoSaid : Prop := wireFormsUptoRow.holds Try.pinned (OpenSpec.upto wireFormsSpec)

/-- 'conclavelaw08.WireFresh', WHERE WHAT IT READS IS OF BULK AT MOST 1048576: true; the input reads as it did. -/
def wireFreshUptoRow : OpenClaim := { program := "ytclanpkekocndaa", sum := "4245f5ab59929de15e593300fee48b9c1e141d077bb74b0b82a152b806cb8e67", func := "conclave/conclavelaw08.WireFresh", spec := "wireFresh", unfollowed := true, recurses := true, apart := false, narrowed := true }
def WireFreshUptoSaid : Prop := wireFreshUptoRow.holds Try.pinned (OpenSpec.upto wireFreshSpec)

end Rows
end Go.Proofs.Ytclanpkekocndaa
