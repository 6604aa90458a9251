/- The reference's functions that spoil a list end. -/
import Derived.Test.YtclanpkekocndaaPlain
import Derived.Test.YtclanpkekocndaaPx27
import Derived.Test.YtclanpkekocndaaPx28
namespace Go.Proofs.Ytclanpkekocndaa.Plain
open Go.RowKit Go.Proofs.Ytclanpkekocndaa.P Go.Proofs.YtclanpkekocndaaW.PrintWords Go.Proofs.YtclanpkekocndaaW.PrintLast Go.Proofs.YtclanpkekocndaaW.PrintMore
set_option linter.unusedVariables false
set_option linter.unusedSimpArgs false

theorem Spoil1_ev (x : Int) : ∀ (d i : Nat) (l : List Int), i + d = l.length → l.length ≤ 9223372036854775807 → Ev (fun k => conclaveref08_Spoil.l1 k l x (i : Int)) () := by
  intro d
  induction d with
  | zero =>
    intro i l hi hl
    refine Ev.step (f := fun _ => some ()) (fun k => ?_) (Ev.now _)
    simp only [conclaveref08_Spoil.l1]
    rw [if_neg (by omega)]
  | succ d ih =>
    intro i l hi hl
    refine Ev.step (f := fun k => conclaveref08_Spoil.l1 k (l.set (i : Int).toNat x) x ((i + 1 : Nat) : Int)) (fun k => ?_) (ih (i + 1) _ (by simp; omega) (by simp; omega))
    simp only [conclaveref08_Spoil.l1]
    rw [if_pos (by omega), if_pos (by omega), w64 (by omega) (by omega)]; rfl
theorem Spoil0_ev (x : Int) : ∀ (d i : Nat) (l : List Int), i + d = l.length → l.length + 3 < 140737488355328 → Ev (fun k => conclaveref08_Spoil.l0 k l x (i : Int)) () := by
  intro d
  induction d with
  | zero =>
    intro i l hi hl
    refine Ev.step (f := fun k => conclaveref08_Spoil.l1 k (l ++ [x, x, x]) x 0) (fun k => ?_) (Spoil1_ev x (l ++ [x, x, x]).length 0 _ (by omega) (by simp; omega))
    simp only [conclaveref08_Spoil.l0]
    rw [if_neg (by omega), Option.bind_some, if_pos (by simp; omega)]
  | succ d ih =>
    intro i l hi hl
    refine Ev.step (f := fun k => conclaveref08_Spoil.l0 k (l.set (i : Int).toNat (Go.bits .xor .u8 x ((i : Int) % 256))) x ((i + 1 : Nat) : Int)) (fun k => ?_) (ih (i + 1) _ (by simp; omega) (by simp; omega))
    simp only [conclaveref08_Spoil.l0]
    rw [if_pos (by omega), if_pos (by omega), w64 (by omega) (by omega)]; rfl
theorem Spoil_f (l : List Int) (x : Int) (hl : l.length + 3 < 140737488355328) : Ev (fun k => conclaveref08_Spoil.f k l x) () := Spoil0_ev x l.length 0 l (by omega) hl
theorem fSpoil1_ev (x : Int) : ∀ (d i : Nat) (l : List Int), i + d = l.length → l.length ≤ 9223372036854775807 → Ev (fun k => conclaveref01_Spoil.l1 k l x (i : Int)) () := by
  intro d
  induction d with
  | zero =>
    intro i l hi hl
    refine Ev.step (f := fun _ => some ()) (fun k => ?_) (Ev.now _)
    simp only [conclaveref01_Spoil.l1]
    rw [if_neg (by omega)]
  | succ d ih =>
    intro i l hi hl
    refine Ev.step (f := fun k => conclaveref01_Spoil.l1 k (l.set (i : Int).toNat x) x ((i + 1 : Nat) : Int)) (fun k => ?_) (ih (i + 1) _ (by simp; omega) (by simp; omega))
    simp only [conclaveref01_Spoil.l1]
    rw [if_pos (by omega), if_pos (by omega), w64 (by omega) (by omega)]; rfl
theorem fSpoil0_ev (x : Int) : ∀ (d i : Nat) (l : List Int), i + d = l.length → l.length + 3 < 17592186044416 → Ev (fun k => conclaveref01_Spoil.l0 k l x (i : Int)) () := by
  intro d
  induction d with
  | zero =>
    intro i l hi hl
    refine Ev.step (f := fun k => conclaveref01_Spoil.l1 k (l ++ [x, x, x]) x 0) (fun k => ?_) (fSpoil1_ev x (l ++ [x, x, x]).length 0 _ (by omega) (by simp; omega))
    simp only [conclaveref01_Spoil.l0]
    rw [if_neg (by omega), Option.bind_some, if_pos (by simp; omega)]
  | succ d ih =>
    intro i l hi hl
    refine Ev.step (f := fun k => conclaveref01_Spoil.l0 k (l.set (i : Int).toNat (IntKind.u64.wrap (x + (IntKind.u64.wrap (i : Int))))) x ((i + 1 : Nat) : Int)) (fun k => ?_) (ih (i + 1) _ (by simp; omega) (by simp; omega))
    simp only [conclaveref01_Spoil.l0]
    rw [if_pos (by omega), if_pos (by omega), w64 (by omega) (by omega)]; rfl
theorem fSpoil_f (l : List Int) (x : Int) (hl : l.length + 3 < 17592186044416) : Ev (fun k => conclaveref01_Spoil.f k l x) () := fSpoil0_ev x l.length 0 l (by omega) hl
end Go.Proofs.Ytclanpkekocndaa.Plain
