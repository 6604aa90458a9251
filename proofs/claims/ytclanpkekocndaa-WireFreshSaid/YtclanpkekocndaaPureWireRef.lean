/- What the reference's functions on numbers and sums come to. -/
import Derived.Test.YtclanpkekocndaaPureWire
import Derived.Test.YtclanpkekocndaaPx1
import Derived.Test.YtclanpkekocndaaPx2
import Derived.Test.YtclanpkekocndaaPx3
namespace Go.Proofs.Ytclanpkekocndaa.Plain
open Go.RowKit Go.Proofs.Ytclanpkekocndaa.P Go.Proofs.YtclanpkekocndaaW.PrintWords Go.Proofs.YtclanpkekocndaaW.PrintLast Go.Proofs.YtclanpkekocndaaW.PrintMore
set_option linter.unusedVariables false
set_option linter.unusedSimpArgs false

theorem Wide_ev (n : Int) : ∀ (s : Nat) (acc : List Int), s ≤ 8 → acc.length + s < 140737488355328 → Ev (fun k => conclaveref08_Wide.l0 k n acc ((s : Int) - 1)) (acc ++ be s n) := by
  intro s
  induction s with
  | zero =>
    intro acc _ _
    refine Ev.step (f := fun _ => some acc) (fun k => ?_) (by simpa [be] using Ev.now acc)
    simp only [conclaveref08_Wide.l0]
    rw [if_neg (by omega)]
  | succ s ih =>
    intro acc hs hl
    refine Ev.step (f := fun k => conclaveref08_Wide.l0 k n (acc ++ [(n / 2 ^ (8 * s)) % 256]) ((s : Int) - 1)) (fun k => ?_) ?_
    · simp only [conclaveref08_Wide.l0]
      rw [show (((s + 1 : Nat) : Int) - 1) = (s : Int) by omega, if_pos (by omega), w64 (x := 8 * (s : Int)) (by omega) (by omega), wu64_in (x := 8 * (s : Int)) (by omega) (by omega), if_pos (by omega), if_pos (by omega), shr8 n s (by omega), w64 (x := (s : Int) - 1) (by omega) (by omega)]
    · have := ih (acc ++ [(n / 2 ^ (8 * s)) % 256]) (by omega) (by simp; omega)
      simpa [be] using this
theorem Wide_f (n : Int) (s : Nat) (hs : s ≤ 8) : Ev (fun k => conclaveref08_Wide.f k n (s : Int)) (be s n) :=
  Ev.congr (fun k => by unfold conclaveref08_Wide.f; rw [w64 (by omega) (by omega)]) (by simpa using Wide_ev n s [] hs (by simp; omega))
theorem Taken_ev (l : List Int) (hb : Bytes l) (hl : l.length ≤ 9223372036854775807) : ∀ (d i : Nat) (s : Int), i + d = l.length → Ev (fun k => conclaveref08_Taken.l0 k l s (i : Int)) (tk s (l.drop i)) := by
  intro d
  induction d with
  | zero =>
    intro i s hi
    refine Ev.step (f := fun _ => some s) (fun k => ?_) (by rw [List.drop_eq_nil_of_le (by omega)]; exact Ev.now s)
    simp only [conclaveref08_Taken.l0]
    rw [if_neg (by omega)]
  | succ d ih =>
    intro i s hi
    have hlt : i < l.length := by omega
    have hc := hb _ (List.getElem_mem hlt)
    rw [← rd_at hlt] at hc
    refine Ev.step (f := fun k => conclaveref08_Taken.l0 k l ((s * 256 + rd l (i : Int)) % 18446744073709551616) ((i + 1 : Nat) : Int)) (fun k => ?_) ?_
    · simp only [conclaveref08_Taken.l0]
      rw [if_pos (by omega), if_pos (by omega), add_step hc.1 hc.2, w64 (by omega) (by omega)]; rfl
    · rw [drop_at hlt, tk_cons]; exact ih (i + 1) _ (by omega)
theorem Taken_f (l : List Int) (hb : Bytes l) (hl : l.length ≤ 9223372036854775807) : Ev (fun k => conclaveref08_Taken.f k l) (tk 0 l) := Taken_ev l hb hl l.length 0 0 (by omega)
theorem rSum_ev (l : List Int) (hl : l.length ≤ 9223372036854775807) : ∀ (d i : Nat) (s : Int), i + d = l.length → Ev (fun k => conclaveref08_Sum.l0 k l s (i : Int)) (sm s (l.drop i)) := by
  intro d
  induction d with
  | zero =>
    intro i s hi
    refine Ev.step (f := fun _ => some s) (fun k => ?_) (by rw [List.drop_eq_nil_of_le (by omega)]; exact Ev.now s)
    simp only [conclaveref08_Sum.l0]
    rw [if_neg (by omega)]
  | succ d ih =>
    intro i s hi
    have hlt : i < l.length := by omega
    refine Ev.step (f := fun k => conclaveref08_Sum.l0 k l (sums s (rd l (i : Int))) ((i + 1 : Nat) : Int)) (fun k => ?_) ?_
    · simp only [conclaveref08_Sum.l0]
      rw [if_pos (by omega), if_pos (by omega), w64 (by omega) (by omega)]; rfl
    · rw [drop_at hlt, sm_cons]; exact ih (i + 1) _ (by omega)
theorem rSum_f (l : List Int) (hl : l.length ≤ 9223372036854775807) : Ev (fun k => conclaveref08_Sum.f k l) (sum l) := rSum_ev l hl l.length 0 _ (by omega)
theorem rCount_f (n : Int) : Ev (fun k => conclaveref08_Count.f k n) (count n) := by
  unfold conclaveref08_Count.f count
  by_cases h0 : n < 0
  · simp only [if_pos h0]; exact Ev.now _
  · by_cases h1 : n > 2147483647
    · simp only [if_neg h0, if_pos h1]; exact Ev.now _
    · simp only [if_neg h0, if_neg h1]
      rw [wu64_in (by omega) (by omega)]
      exact Ev.bind (f := fun _ t => some (t, 0)) (Wide_f n 4 (by omega)) (Ev.now _)
theorem rReadCount_f (l : List Int) (hb : Bytes l) : Ev (fun k => conclaveref08_ReadCount.f k l) (readCount l) := by
  unfold conclaveref08_ReadCount.f readCount
  by_cases h0 : l.length < 4
  · rw [if_pos h0]
    refine Ev.congr (f := fun _ => some (0, 0, 7)) (fun k => ?_) (Ev.now _)
    rw [if_pos (by omega)]
  · rw [if_neg h0]
    have ht := Taken_f (l.take 4) (hb.take 4) (by simp; omega)
    have hr := tk_range (l := l.take 4) (s := 0) (by omega) (by omega)
    refine Ev.congr (f := fun k => (conclaveref08_Taken.f k (l.take 4)).bind fun t => if t > 2147483647 then some (0, 0, 8) else some (wrap64 t, 4, 0)) (fun k => ?_) (Ev.bind (f := fun _ t => if t > 2147483647 then some (0, 0, 8) else some (wrap64 t, 4, 0)) ht ?_)
    · rw [if_neg (by omega), if_pos (by omega)]
    · by_cases h1 : tk 0 (l.take 4) > 2147483647
      · simp only [if_pos h1]; exact Ev.now _
      · simp only [if_neg h1]; rw [w64 (by omega) (by omega)]; exact Ev.now _
end Go.Proofs.Ytclanpkekocndaa.Plain
