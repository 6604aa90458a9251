/- Proved: WireForms: for all bytes, what ReadList and Unseal read is written by List and Seal as the bytes that were read. No condition beyond the statement's own. -/
import Derived.Test.YtclanpkekocndaaPureWireBackLaws
import Derived.Test.YtclanpkekocndaaPureWireAnchor
import Derived.Test.YtclanpkekocndaaPx26
namespace Go.Proofs.Ytclanpkekocndaa.Pure
open Go.RowKit Go.Proofs.Ytclanpkekocndaa.P Go.Proofs.Ytclanpkekocndaa.Plain Go.Proofs.YtclanpkekocndaaW.PrintWords Go.Proofs.YtclanpkekocndaaW.PrintLast
set_option linter.unusedVariables false
set_option linter.unusedSimpArgs false

theorem forms0 (b : List Int) (hB : Bytes b) (hm : b.length ≤ 140737488351232) : Ev (fun k => conclavelaw08_WireForms.j0 k b) true := by
  refine Ev.step (f := fun k => (wire_Unseal.f k b).bind fun r => if r.2.2 = 0 then ((wire_Seal.f k r.1).bind fun bt539 => (if bt539.2 = 0 then (if r.2.1 < 12 then (some false) else (if r.2.1 > (b.length : Int) then (some false) else (if 0 ≤ r.2.1 then (if r.2.1 ≤ (b.length : Int) then ((conclaveref08_Same.f bt539.1 (b.take (r.2.1 : Int).toNat)).bind fun t544 => (if t544 = true then ((conclavelaw08_anchored.f k).bind fun t545 => (some t545)) else (some false))) else (none)) else (none)))) else (some false))) else ((conclavelaw08_anchored.f k).bind fun t546 => (some t546))) (fun k => by simp only [conclavelaw08_WireForms.j0]) ?_
  refine Ev.bind (f := fun k r => _) (Unseal_f b hB hm) ?_
  by_cases h : (unsealOf b).2.2 = 0
  · obtain ⟨h1, h2, h3⟩ := seal_forms hB h
    simp only [h, if_true]
    refine Ev.bind (f := fun k r => _) (Seal_f (unsealOf b).1) ?_
    simp only [h3, if_true, if_neg (show ¬ (unsealOf b).2.1 < 12 by omega), if_neg (show ¬ (unsealOf b).2.1 > (b.length : Int) by omega), if_pos (show 0 ≤ (unsealOf b).2.1 by omega), if_pos h2, Same_f, Option.bind_some]
    exact Ev.bind (f := fun k t => some t) anchored_f (Ev.now _)
  · simp only [if_neg h]
    exact Ev.bind (f := fun k t => some t) anchored_f (Ev.now _)
theorem WireForms : conclavelaw08_WireForms.Pure := by
  intro b _ hm hb
  have hB := bytes_of_wf hb
  refine Ev.rounds ?_
  unfold conclavelaw08_WireForms.f
  refine Ev.bind (f := fun k r => _) (ReadList_f b hB (by omega)) ?_
  by_cases h : (readListOf b).2.2.2 = 0
  · obtain ⟨h1, h2, h3, h4⟩ := list_forms hB h
    simp only [h, if_true]
    refine Ev.bind (f := fun k r => _) (List_f (readListOf b).1 (readListOf b).2.1 (by omega)) ?_
    simp only [h3, if_true, if_neg (show ¬ (readListOf b).2.2.1 < 5 by omega), if_neg (show ¬ (readListOf b).2.2.1 > (b.length : Int) by omega), if_pos (show 0 ≤ (readListOf b).2.2.1 by omega), if_pos h2, Same_f, Option.bind_some]
    exact forms0 b hB (by omega)
  · simp only [if_neg h]
    exact forms0 b hB (by omega)

end Go.Proofs.Ytclanpkekocndaa.Pure
