/- What the reference's functions that ask for elements come to. -/
import Derived.Test.YtclanpkekocndaaPureField
import Derived.Test.YtclanpkekocndaaPx16
import Derived.Test.YtclanpkekocndaaPx6
namespace Go.Proofs.Ytclanpkekocndaa.Plain
open Go.RowKit Go.Proofs.Ytclanpkekocndaa.P Go.Proofs.YtclanpkekocndaaW.PrintWords Go.Proofs.YtclanpkekocndaaW.PrintLast Go.Proofs.YtclanpkekocndaaW.PrintMore
set_option linter.unusedVariables false
set_option linter.unusedSimpArgs false

theorem P_f (f : Int) : conclaveref01_P.f f = some (prime f) := by
  unfold conclaveref01_P.f prime; split
  · rfl
  · split <;> rfl
theorem rIn_ev (p : Int) (l : List Int) (hl : l.length ≤ 9223372036854775807) : ∀ (d i : Nat), i + d = l.length → Ev (fun k => conclaveref01_In.l0 k l p (i : Int)) (below p (l.drop i) && (p != 0)) := by
  intro d
  induction d with
  | zero =>
    intro i hi
    refine Ev.step (f := fun _ => some (p != 0)) (fun k => ?_) (by rw [List.drop_eq_nil_of_le (by omega)]; exact Ev.now _)
    simp only [conclaveref01_In.l0]
    rw [if_neg (by omega)]
  | succ d ih =>
    intro i hi
    have hlt : i < l.length := by omega
    rw [drop_at hlt, below_cons]
    by_cases hp : rd l (i : Int) ≥ p
    · refine Ev.step (f := fun _ => some false) (fun k => ?_) (by rw [show decide (rd l (i : Int) < p) = false by simpa using hp]; exact Ev.now _)
      simp only [conclaveref01_In.l0]
      rw [if_pos (by omega), if_pos (by omega), if_pos hp]
    · refine Ev.step (f := fun k => conclaveref01_In.l0 k l p ((i + 1 : Nat) : Int)) (fun k => ?_) (by rw [show decide (rd l (i : Int) < p) = true by simp; omega]; simpa using ih (i + 1) (by omega))
      simp only [conclaveref01_In.l0]
      rw [if_pos (by omega), if_pos (by omega), if_neg hp, w64 (by omega) (by omega)]; rfl
theorem rIn_f (f : Int) (l : List Int) (hu : U64 l) (hl : l.length ≤ 9223372036854775807) : Ev (fun k => conclaveref01_In.f k f l) (inF f l) := by
  unfold conclaveref01_In.f
  rw [P_f]
  simp only [Option.bind_some]
  have h := rIn_ev (prime f) l hl l.length 0 (by omega)
  rw [List.drop_zero] at h
  have e : (below (prime f) l && (prime f != 0)) = inF f l := by
    unfold inF
    cases hf : isF f with
    | true => have := prime_pos hf; rw [show (prime f != 0) = true by simp; omega]; simp
    | false => rw [prime_zero hf]; simp
  rw [← e]; exact h
end Go.Proofs.Ytclanpkekocndaa.Plain
