/- The statements' anchor holds. -/
import Derived.Test.YtclanpkekocndaaPureWireList
import Derived.Test.YtclanpkekocndaaPx23
namespace Go.Proofs.Ytclanpkekocndaa.Plain
open Go.RowKit Go.Proofs.Ytclanpkekocndaa.P Go.Proofs.YtclanpkekocndaaW.PrintWords Go.Proofs.YtclanpkekocndaaW.PrintLast Go.Proofs.YtclanpkekocndaaW.PrintMore
set_option linter.unusedVariables false
set_option linter.unusedSimpArgs false

theorem anchored_f : Ev (fun k => conclavelaw08_anchored.f k) true := by
  unfold conclavelaw08_anchored.f
  refine Ev.bind (f := fun k bt => _) (List_f 1 [1] (by simp)) ?_
  have e1 : listOf 1 [1] = ([1, 0, 0, 0, 1, 0, 0, 0, 1], 0) := by decide
  rw [e1]
  refine Ev.bind (f := fun k bt => _) (ReadCount_f [128, 0, 0, 0] (by intro x hx; simp at hx; omega)) ?_
  have e2 : readCount [128, 0, 0, 0] = (0, 0, 8) := by decide
  rw [e2]
  simp only [if_true, Same_f, Option.bind_some]
  refine Ev.bind (f := fun k t => some (t == 14695981039346656037)) (Sum_f [] (by simp)) ?_
  exact Ev.now _
end Go.Proofs.Ytclanpkekocndaa.Plain
