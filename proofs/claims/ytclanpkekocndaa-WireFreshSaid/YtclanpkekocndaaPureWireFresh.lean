/- Proved: WireFresh: for all bytes, what is handed in to Seal, Unseal and ReadList stays, and what is answered is new memory. No condition beyond the statement's own. -/
import Derived.Test.YtclanpkekocndaaPureWireListRef
import Derived.Test.YtclanpkekocndaaPureWireAnchor
import Derived.Test.YtclanpkekocndaaPureSpoil
import Derived.Test.YtclanpkekocndaaPx28
namespace Go.Proofs.Ytclanpkekocndaa.Pure
open Go.RowKit Go.Proofs.Ytclanpkekocndaa.P Go.Proofs.Ytclanpkekocndaa.Plain Go.Proofs.YtclanpkekocndaaW.PrintWords Go.Proofs.YtclanpkekocndaaW.PrintLast
set_option linter.unusedVariables false
set_option linter.unusedSimpArgs false

theorem sealOf_len (a : List Int) : (sealOf a).1.length ≤ 1048588 := by
  unfold sealOf; split
  · simp
  · simp [be_len]; omega
theorem unsealOf_len (a : List Int) (hb : Bytes a) : (unsealOf a).1.length ≤ 1048576 := by
  unfold unsealOf
  repeat' split
  all_goals first
    | (simp; done)
    | (simp; omega)
theorem readListOf_len (b : List Int) : (readListOf b).2.1.length ≤ 4096 := by
  unfold readListOf
  repeat' split
  all_goals first
    | (simp; done)
    | (simp only [rdEls_len]; omega)
set_option maxRecDepth 100000 in
theorem WireFresh : conclavelaw08_WireFresh.Pure := by
  intro l _ hm hb
  have hB := bytes_of_wf hb
  have h1 := sealOf_len l
  have h2 := unsealOf_len l hB
  have h3 := readListOf_len l
  refine Ev.rounds ?_
  unfold conclavelaw08_WireFresh.f
  simp only [Bytes_f l (by omega), Option.bind_some]
  refine Ev.bind (f := fun k bt => _) (Seal_f l) ?_
  refine Ev.bind (f := fun k bt => _) (Unseal_f l hB (by omega)) ?_
  refine Ev.bind (f := fun k bt => _) (ReadList_f l hB (by omega)) ?_
  refine Ev.bind (f := fun k bt => _) (Seal_f l) ?_
  refine Ev.bind (f := fun k bt => _) (Spoil_f (sealOf l).1 4 (by omega)) ?_
  refine Ev.bind (f := fun k bt => _) (Spoil_f (unsealOf l).1 40 (by omega)) ?_
  refine Ev.bind (f := fun k bt => _) (fSpoil_f (readListOf l).2.1 9 (by omega)) ?_
  refine Ev.bind (f := fun k bt => _) (rSeal_f l) ?_
  refine Ev.bind (f := fun k t => _) anchored_f ?_
  simp only [if_true, Same_f, Option.bind_some, beq_self_eq_true]
  exact Ev.now _

end Go.Proofs.Ytclanpkekocndaa.Pure
