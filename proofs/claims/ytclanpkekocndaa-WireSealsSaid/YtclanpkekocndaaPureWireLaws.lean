/- Numbers as bytes and back; what was read is written as it was; the anchor; sameness: plain laws for the statements on wire. -/
import Derived.Test.YtclanpkekocndaaPureWireSeal
import Derived.Test.YtclanpkekocndaaPx23
import Derived.Test.YtclanpkekocndaaPx27
import Derived.Test.YtclanpkekocndaaPx28
import Derived.Test.YtclanpkekocndaaPx6
namespace Go.Proofs.Ytclanpkekocndaa.Plain
open Go.RowKit Go.Proofs.Ytclanpkekocndaa.P Go.Proofs.YtclanpkekocndaaW.PrintWords Go.Proofs.YtclanpkekocndaaW.PrintLast Go.Proofs.YtclanpkekocndaaW.PrintMore
set_option linter.unusedVariables false
set_option linter.unusedSimpArgs false

theorem anchored_f : Ev (fun k => conclavelaw08_anchored.f k) true := by
  unfold conclavelaw08_anchored.f
  refine Ev.bind (f := fun k bt => _) (List_f 1 [1] (by simp)) ?_
  have e1 : listOf 1 [1] = ([1, 0, 0, 0, 1, 0, 0, 0, 1], 0) := by decide
  rw [e1]
  refine Ev.bind (f := fun k bt => _) (ReadCount_f [128, 0, 0, 0] (by intro x hx; simp at hx; omega)) ?_
  have e2 : readCount [128, 0, 0, 0] = (0, 0, 8) := by decide
  rw [e2]
  simp only [if_true, Same_f, Option.bind_some]
  refine Ev.bind (f := fun k t => some (t == 14695981039346656037)) (Sum_f [] (by simp)) ?_
  exact Ev.now _

theorem fSame_ev (a b : List Int) (he : a.length = b.length) (hl : a.length ≤ 9223372036854775807) : ∀ (d i : Nat), i + d = a.length → Ev (fun k => conclaveref01_Same.l0 k a b (i : Int)) (decide (a.drop i = b.drop i)) := by
  intro d
  induction d with
  | zero =>
    intro i hi
    refine Ev.step (f := fun _ => some true) (fun k => ?_) (by rw [List.drop_eq_nil_of_le (by omega), List.drop_eq_nil_of_le (by omega)]; exact Ev.now _)
    simp only [conclaveref01_Same.l0]
    rw [if_neg (by omega)]
  | succ d ih =>
    intro i hi
    have hlt : i < a.length := by omega
    have hlt2 : i < b.length := by omega
    rw [drop_at hlt, drop_at hlt2]
    by_cases hp : rd a (i : Int) = rd b (i : Int)
    · refine Ev.step (f := fun k => conclaveref01_Same.l0 k a b ((i + 1 : Nat) : Int)) (fun k => ?_) (by rw [hp]; simpa using ih (i + 1) (by omega))
      simp only [conclaveref01_Same.l0]
      rw [if_pos (by omega), if_pos (by omega), if_pos (by omega), if_pos hp, w64 (by omega) (by omega)]; rfl
    · refine Ev.step (f := fun k => some false) (fun k => ?_) (by rw [show decide (rd a (i : Int) :: a.drop (i + 1) = rd b (i : Int) :: b.drop (i + 1)) = false by simp [hp]]; exact Ev.now _)
      simp only [conclaveref01_Same.l0]
      rw [if_pos (by omega), if_pos (by omega), if_pos (by omega), if_neg hp]
theorem fSame_f (a b : List Int) (hl : a.length ≤ 9223372036854775807) : Ev (fun k => conclaveref01_Same.f k a b) (decide (a = b)) := by
  unfold conclaveref01_Same.f
  by_cases he : a.length = b.length
  · simp only [if_pos (show (a.length : Int) = (b.length : Int) by omega)]
    exact fSame_ev a b he hl a.length 0 (by omega)
  · simp only [if_neg (show ¬ (a.length : Int) = (b.length : Int) by omega)]
    rw [show decide (a = b) = false by simp; intro h; exact he (by rw [h])]
    exact Ev.now _

theorem Spoil1_ev (x : Int) : ∀ (d i : Nat) (l : List Int), i + d = l.length → l.length ≤ 9223372036854775807 → Ev (fun k => conclaveref08_Spoil.l1 k l x (i : Int)) () := by
  intro d
  induction d with
  | zero =>
    intro i l hi hl
    refine Ev.step (f := fun _ => some ()) (fun k => ?_) (Ev.now _)
    simp only [conclaveref08_Spoil.l1]
    rw [if_neg (by omega)]
  | succ d ih =>
    intro i l hi hl
    refine Ev.step (f := fun k => conclaveref08_Spoil.l1 k (l.set (i : Int).toNat x) x ((i + 1 : Nat) : Int)) (fun k => ?_) (ih (i + 1) _ (by simp; omega) (by simp; omega))
    simp only [conclaveref08_Spoil.l1]
    rw [if_pos (by omega), if_pos (by omega), w64 (by omega) (by omega)]; rfl
theorem Spoil0_ev (x : Int) : ∀ (d i : Nat) (l : List Int), i + d = l.length → l.length + 3 < 140737488355328 → Ev (fun k => conclaveref08_Spoil.l0 k l x (i : Int)) () := by
  intro d
  induction d with
  | zero =>
    intro i l hi hl
    refine Ev.step (f := fun k => conclaveref08_Spoil.l1 k (l ++ [x, x, x]) x 0) (fun k => ?_) (Spoil1_ev x (l ++ [x, x, x]).length 0 _ (by omega) (by simp; omega))
    simp only [conclaveref08_Spoil.l0]
    rw [if_neg (by omega), Option.bind_some, if_pos (by simp; omega)]
  | succ d ih =>
    intro i l hi hl
    refine Ev.step (f := fun k => conclaveref08_Spoil.l0 k (l.set (i : Int).toNat (Go.bits .xor .u8 x ((i : Int) % 256))) x ((i + 1 : Nat) : Int)) (fun k => ?_) (ih (i + 1) _ (by simp; omega) (by simp; omega))
    simp only [conclaveref08_Spoil.l0]
    rw [if_pos (by omega), if_pos (by omega), w64 (by omega) (by omega)]; rfl
theorem Spoil_f (l : List Int) (x : Int) (hl : l.length + 3 < 140737488355328) : Ev (fun k => conclaveref08_Spoil.f k l x) () := Spoil0_ev x l.length 0 l (by omega) hl
theorem fSpoil1_ev (x : Int) : ∀ (d i : Nat) (l : List Int), i + d = l.length → l.length ≤ 9223372036854775807 → Ev (fun k => conclaveref01_Spoil.l1 k l x (i : Int)) () := by
  intro d
  induction d with
  | zero =>
    intro i l hi hl
    refine Ev.step (f := fun _ => some ()) (fun k => ?_) (Ev.now _)
    simp only [conclaveref01_Spoil.l1]
    rw [if_neg (by omega)]
  | succ d ih =>
    intro i l hi hl
    refine Ev.step (f := fun k => conclaveref01_Spoil.l1 k (l.set (i : Int).toNat x) x ((i + 1 : Nat) : Int)) (fun k => ?_) (ih (i + 1) _ (by simp; omega) (by simp; omega))
    simp only [conclaveref01_Spoil.l1]
    rw [if_pos (by omega), if_pos (by omega), w64 (by omega) (by omega)]; rfl
theorem fSpoil0_ev (x : Int) : ∀ (d i : Nat) (l : List Int), i + d = l.length → l.length + 3 < 17592186044416 → Ev (fun k => conclaveref01_Spoil.l0 k l x (i : Int)) () := by
  intro d
  induction d with
  | zero =>
    intro i l hi hl
    refine Ev.step (f := fun k => conclaveref01_Spoil.l1 k (l ++ [x, x, x]) x 0) (fun k => ?_) (fSpoil1_ev x (l ++ [x, x, x]).length 0 _ (by omega) (by simp; omega))
    simp only [conclaveref01_Spoil.l0]
    rw [if_neg (by omega), Option.bind_some, if_pos (by simp; omega)]
  | succ d ih =>
    intro i l hi hl
    refine Ev.step (f := fun k => conclaveref01_Spoil.l0 k (l.set (i : Int).toNat (IntKind.u64.wrap (x + (IntKind.u64.wrap (i : Int))))) x ((i + 1 : Nat) : Int)) (fun k => ?_) (ih (i + 1) _ (by simp; omega) (by simp; omega))
    simp only [conclaveref01_Spoil.l0]
    rw [if_pos (by omega), if_pos (by omega), w64 (by omega) (by omega)]; rfl
theorem fSpoil_f (l : List Int) (x : Int) (hl : l.length + 3 < 17592186044416) : Ev (fun k => conclaveref01_Spoil.f k l x) () := fSpoil0_ev x l.length 0 l (by omega) hl

/-! ### numbers as bytes, and back -/
/-- The number of some bytes, without a bound. -/
def val : List Int → Int
  | [] => 0
  | c :: l => c * 2 ^ (8 * l.length) + val l
theorem pow8 (n : Nat) : (2 : Int) ^ (8 * (n + 1)) = 256 * 2 ^ (8 * n) := by
  rw [Nat.mul_add, Int.pow_add, Int.mul_comm]; rfl
theorem pow8_pos (n : Nat) : 0 < (2 : Int) ^ (8 * n) := Int.pow_pos (by omega)
theorem val_range {l : List Int} (h : Bytes l) : 0 ≤ val l ∧ val l < 2 ^ (8 * l.length) := by
  induction l with
  | nil => exact ⟨Int.le_refl _, by simp [val]⟩
  | cons c l ih =>
    have hc := h c (List.mem_cons_self ..)
    have hl := ih (fun x hx => h x (List.mem_cons_of_mem _ hx))
    have hp := pow8_pos l.length
    have h1 : c * 2 ^ (8 * l.length) ≤ 255 * 2 ^ (8 * l.length) := Int.mul_le_mul_of_nonneg_right (by omega) (by omega)
    have h0 : 0 ≤ c * 2 ^ (8 * l.length) := Int.mul_nonneg hc.1 (by omega)
    simp only [val, List.length_cons]
    rw [pow8]
    omega
theorem tk_val (l : List Int) : ∀ s : Int, tk s l = (s * 2 ^ (8 * l.length) + val l) % 18446744073709551616 ∨ l = [] := by
  induction l with
  | nil => intro s; exact .inr rfl
  | cons c l ih =>
    intro s
    refine .inl ?_
    rw [tk_cons]
    rcases ih ((s * 256 + c) % 18446744073709551616) with h | h
    · rw [h]
      simp only [val, List.length_cons]
      rw [pow8, Int.add_emod, Int.mul_emod, Int.emod_emod_of_dvd _ (Int.dvd_refl _), ← Int.mul_emod, ← Int.add_emod]
      congr 1
      rw [Int.add_mul]
      have : s * (256 * 2 ^ (8 * l.length)) = s * 256 * 2 ^ (8 * l.length) := by rw [Int.mul_assoc]
      omega
    · subst h
      simp [val, tk]
theorem pow8_le {n : Nat} (h : n ≤ 8) : (2 : Int) ^ (8 * n) ≤ 18446744073709551616 := by
  have : n = 0 ∨ n = 1 ∨ n = 2 ∨ n = 3 ∨ n = 4 ∨ n = 5 ∨ n = 6 ∨ n = 7 ∨ n = 8 := by omega
  rcases this with rfl | rfl | rfl | rfl | rfl | rfl | rfl | rfl | rfl <;> decide
theorem tk0_val {l : List Int} (h : Bytes l) (hl : l.length ≤ 8) : tk 0 l = val l := by
  rcases tk_val l 0 with e | e
  · have hv := val_range h
    have := pow8_le hl
    rw [e]; omega
  · subst e; rfl
theorem be_add (a v : Int) : ∀ s : Nat, be s (a * 2 ^ (8 * s) + v) = be s v := by
  intro s
  induction s generalizing a with
  | zero => rfl
  | succ s ih =>
    simp only [be]
    have hp := pow8_pos s
    have e : a * 2 ^ (8 * (s + 1)) = (a * 256) * 2 ^ (8 * s) := by rw [pow8, Int.mul_assoc]
    rw [e, ih, Int.add_comm, Int.add_mul_ediv_right _ _ (by omega)]
    congr 1
    omega
theorem be_val {l : List Int} (h : Bytes l) : be l.length (val l) = l := by
  induction l with
  | nil => rfl
  | cons c l ih =>
    have hc := h c (List.mem_cons_self ..)
    have hl : Bytes l := fun x hx => h x (List.mem_cons_of_mem _ hx)
    have hv := val_range hl
    have hp := pow8_pos l.length
    simp only [List.length_cons, be, val]
    rw [be_add, ih hl, Int.add_comm, Int.add_mul_ediv_right _ _ (by omega), Int.ediv_eq_zero_of_lt hv.1 hv.2]
    congr 1
    omega
theorem be_tk {l : List Int} (h : Bytes l) (hl : l.length ≤ 8) : be l.length (tk 0 l) = l := by rw [tk0_val h hl, be_val h]
theorem val_be (s : Nat) (n : Int) (h0 : 0 ≤ n) : val (be s n) = n % 2 ^ (8 * s) := by
  induction s with
  | zero => simp [be, val]
  | succ s ih =>
    have hp := pow8_pos s
    simp only [be, val, be_len, ih]
    rw [pow8]
    obtain ⟨P, hP⟩ : ∃ P, P = (2 : Int) ^ (8 * s) := ⟨_, rfl⟩
    rw [← hP] at hp ⊢
    have e1 := Int.mul_ediv_add_emod n P
    have r0 := Int.emod_nonneg n (show P ≠ 0 by omega)
    have r1 := Int.emod_lt_of_pos n hp
    obtain ⟨q, hq⟩ : ∃ q, q = n / P := ⟨_, rfl⟩
    obtain ⟨r, hr⟩ : ∃ r, r = n % P := ⟨_, rfl⟩
    rw [← hq, ← hr] at e1 ⊢
    rw [← hr] at r0 r1
    have e2 := Int.mul_ediv_add_emod q 256
    have h1 : q % 256 * P ≤ 255 * P := Int.mul_le_mul_of_nonneg_right (by omega) (by omega)
    have h2 : 0 ≤ q % 256 * P := Int.mul_nonneg (by omega) (by omega)
    have e3 : n = (q % 256 * P + r) + 256 * P * (q / 256) := by
      have : P * q = 256 * P * (q / 256) + q % 256 * P := by
        have e4 : P * q = P * (256 * (q / 256) + q % 256) := by rw [e2]
        rw [e4, Int.mul_add, Int.mul_comm P (q % 256), ← Int.mul_assoc, Int.mul_comm P 256]
      omega
    rw [e3, Int.add_mul_emod_self_left, Int.emod_eq_of_lt (a := q % 256 * P + r) (b := 256 * P) (by omega) (by omega)]
theorem tk_be (s : Nat) (hs : s ≤ 8) (n : Int) (h0 : 0 ≤ n) (h1 : n < 2 ^ (8 * s)) : tk 0 (be s n) = n := by
  rw [tk0_val (be_bytes s n) (by rw [be_len]; exact hs), val_be s n h0, Int.emod_eq_of_lt h0 h1]
end Go.Proofs.Ytclanpkekocndaa.Plain
