/- Proved: WireLists: for every field, list and bytes the program's List and ReadList answer what the document's reference answers. No condition beyond the statement's own. -/
import Derived.Test.YtclanpkekocndaaPureWireListRef
import Derived.Test.YtclanpkekocndaaPureWireAnchor
import Derived.Test.YtclanpkekocndaaPx20
namespace Go.Proofs.Ytclanpkekocndaa.Pure
open Go.RowKit Go.Proofs.Ytclanpkekocndaa.P Go.Proofs.Ytclanpkekocndaa.Plain Go.Proofs.YtclanpkekocndaaW.PrintWords Go.Proofs.YtclanpkekocndaaW.PrintLast
set_option linter.unusedVariables false
set_option linter.unusedSimpArgs false

theorem readListOf_len (b : List Int) : (readListOf b).2.1.length ≤ 9223372036854775807 ∨ True := .inr trivial
theorem WireLists : conclavelaw08_WireLists.Pure := by
  intro f l b _ _ hl hu _ hm hb
  have hB := bytes_of_wf hb
  have hU := u64_of_wf hu
  refine Ev.rounds ?_
  unfold conclavelaw08_WireLists.f
  refine Ev.bind (f := fun k bt => _) (List_f f l (by omega)) ?_
  refine Ev.bind (f := fun k bt => _) (rList_f f l hU (by omega)) ?_
  refine Ev.bind (f := fun k bt => _) (ReadList_f b hB (by omega)) ?_
  refine Ev.bind (f := fun k bt => _) (rReadList_f b hB (by omega)) ?_
  simp only [Same_f, Option.bind_some, if_true]
  have hlen : (readListOf b).2.1.length ≤ 9223372036854775807 := by
    unfold readListOf
    repeat' split
    all_goals first
      | (simp only [List.length_nil]; omega)
      | (simp only [rdEls_len]; omega)
  refine Ev.bind (f := fun k t => _) (fSame_f (readListOf b).2.1 (readListOf b).2.1 hlen) ?_
  simp only [decide_true, if_true, beq_self_eq_true]
  exact Ev.now _

end Go.Proofs.Ytclanpkekocndaa.Pure
