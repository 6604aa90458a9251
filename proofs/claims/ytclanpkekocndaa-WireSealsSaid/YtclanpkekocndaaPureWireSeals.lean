/- Proved: WireSeals: for all bytes the program's Seal and Unseal answer what the document's reference answers. No condition beyond the statement's own. -/
import Derived.Test.YtclanpkekocndaaPureWireListRef
import Derived.Test.YtclanpkekocndaaPureWireAnchor
import Derived.Test.YtclanpkekocndaaPx23
namespace Go.Proofs.Ytclanpkekocndaa.Pure
open Go.RowKit Go.Proofs.Ytclanpkekocndaa.P Go.Proofs.Ytclanpkekocndaa.Plain Go.Proofs.YtclanpkekocndaaW.PrintWords Go.Proofs.YtclanpkekocndaaW.PrintLast
set_option linter.unusedVariables false
set_option linter.unusedSimpArgs false

theorem WireSeals : conclavelaw08_WireSeals.Pure := by
  intro a b _ _ _ _ hm hb
  have hB := bytes_of_wf hb
  refine Ev.rounds ?_
  unfold conclavelaw08_WireSeals.f
  refine Ev.bind (f := fun k bt => _) (Seal_f a) ?_
  refine Ev.bind (f := fun k bt => _) (rSeal_f a) ?_
  refine Ev.bind (f := fun k bt => _) (Unseal_f b hB (by omega)) ?_
  refine Ev.bind (f := fun k bt => _) (rUnseal_f b hB (by omega)) ?_
  simp only [Same_f, Option.bind_some, if_true]
  exact Ev.bind (f := fun k t => some t) anchored_f (Ev.now _)

end Go.Proofs.Ytclanpkekocndaa.Pure
