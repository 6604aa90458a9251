/- Proved: WireCounts: for every list of bytes and every number the program's Sum, Count and ReadCount answer what the document's reference answers. No condition beyond the statement's own. -/
import Derived.Test.YtclanpkekocndaaPureWireRef
import Derived.Test.YtclanpkekocndaaPx3
namespace Go.Proofs.Ytclanpkekocndaa.Pure
open Go.RowKit Go.Proofs.Ytclanpkekocndaa.P Go.Proofs.Ytclanpkekocndaa.Plain Go.Proofs.YtclanpkekocndaaW.PrintWords Go.Proofs.YtclanpkekocndaaW.PrintLast
set_option linter.unusedVariables false
set_option linter.unusedSimpArgs false

theorem WireCounts : conclavelaw08_WireCounts.Pure := by
  intro l n _ hm hb _
  have hB := bytes_of_wf hb
  have hl : l.length ≤ 9223372036854775807 := by omega
  refine Ev.rounds ?_
  unfold conclavelaw08_WireCounts.f
  refine Ev.bind (f := fun k bt => _) (Count_f n) ?_
  refine Ev.bind (f := fun k bt => _) (rCount_f n) ?_
  refine Ev.bind (f := fun k bt => _) (ReadCount_f l hB) ?_
  refine Ev.bind (f := fun k bt => _) (rReadCount_f l hB) ?_
  refine Ev.bind (f := fun k bt => _) (Sum_f l hl) ?_
  refine Ev.bind (f := fun k bt => _) (rSum_f l hl) ?_
  simp only [if_true, Same_f, Option.bind_some, beq_self_eq_true]
  exact Ev.now _

end Go.Proofs.Ytclanpkekocndaa.Pure
