import Derived.Test.YtdafolenaibccaaSInterpChain16
namespace Go.Proofs.Ytdafolenaibccaa.Mth
set_option linter.unusedVariables false
set_option linter.unusedSectionVars false
variable {p : Nat} [NeZero p]
theorem sumR_first (n : Nat) (g : Nat → Fin p) : sumR (n + 1) g = g 0 + sumR n fun j => g (j + 1) := by
  induction n with
  | zero => simp only [sumR]; grind
  | succ n ih => rw [sumR, ih]; simp only [sumR]; grind
theorem evR_first (n : Nat) (g : Nat → Fin p) (x : Fin p) : evR (n + 1) g x = g 0 + x * evR n (fun j => g (j + 1)) x := by
  unfold evR
  rw [sumR_first, ← sumR_mul]
  rw [sumR_congr (n := n) (h := fun j => x * (g (j + 1) * pw x j)) fun j _ => by simp only [pw]; grind]
  simp only [pw]; grind
def syn (n : Nat) (g : Nat → Fin p) (x : Fin p) (j : Nat) : Fin p := evR (n - j) (fun t => g (j + 1 + t)) x
theorem syn_last (n : Nat) (g : Nat → Fin p) (x : Fin p) : syn n g x n = 0 := by unfold syn; rw [Nat.sub_self]; rfl
theorem syn_step {n j : Nat} (h : j < n) (g : Nat → Fin p) (x : Fin p) : syn n g x j = g (j + 1) + x * syn n g x (j + 1) := by
  unfold syn
  rw [show n - j = (n - (j + 1)) + 1 by omega, evR_first]
  simp only [Nat.add_zero]
  rw [show (fun t => g (j + 1 + (t + 1))) = fun t => g (j + 1 + 1 + t) from funext fun t => by congr 1; omega]
theorem syn_shift (n : Nat) (g : Nat → Fin p) (x : Fin p) (j : Nat) : syn (n + 1) g x (j + 1) = syn n (fun t => g (t + 1)) x j := by
  unfold syn
  rw [show n + 1 - (j + 1) = n - j by omega]
  rw [show (fun t => g (j + 1 + 1 + t)) = fun t => g (j + 1 + t + 1) from funext fun t => by congr 1; omega]
theorem syn_div (n : Nat) : ∀ (g : Nat → Fin p) (z x : Fin p), evR (n + 1) g z = (z - x) * evR n (syn n g x) z + evR (n + 1) g x := by
  induction n with
  | zero => intro g z x; simp only [evR, sumR, pw]; grind
  | succ n ih =>
    intro g z x
    have h := ih (fun j => g (j + 1)) z x
    rw [evR_first (n + 1) g z, evR_first (n + 1) g x, evR_first n (syn (n + 1) g x) z]
    rw [evR_congr (n := n) (g := fun j => syn (n + 1) g x (j + 1)) (h := syn n (fun t => g (t + 1)) x) (fun j _ => syn_shift n g x j) z]
    have e : syn (n + 1) g x 0 = evR (n + 1) (fun j => g (j + 1)) x := by
      unfold syn
      rw [Nat.sub_zero]
      rw [show (fun t => g (0 + 1 + t)) = fun j => g (j + 1) from funext fun t => by congr 1; omega]
    rw [e, h]; grind
theorem mul_zero_or (hp : Pr p) {a b : Fin p} (h : a * b = 0) : a = 0 ∨ b = 0 := by
  by_cases ha : a = 0
  · exact Or.inl ha
  · by_cases hb : b = 0
    · exact Or.inr hb
    · exact absurd h (mul_ne hp ha hb)
theorem roots (hp : Pr p) (n : Nat) : ∀ (g pts : Nat → Fin p), (∀ i j, i < n → j < n → i ≠ j → pts i ≠ pts j) → (∀ i, i < n → evR n g (pts i) = 0) → ∀ j, j < n → g j = 0 := by
  induction n with
  | zero => intro g pts _ _ j hj; omega
  | succ n ih =>
    intro g pts hd hz
    have hx := hz n (by omega)
    have hq := ih (syn n g (pts n)) pts (fun i j hi hj => hd i j (by omega) (by omega)) fun i hi => by
      have h := hz i (by omega)
      rw [syn_div n g (pts i) (pts n), hx] at h
      have h' : (pts i - pts n) * evR n (syn n g (pts n)) (pts i) = 0 := by rw [← h]; grind
      rcases mul_zero_or hp h' with c | c
      · exact absurd (by have : pts i = pts i - pts n + pts n := by grind
                         rw [this, c]; grind) (hd i n (by omega) (by omega) (by omega))
      · exact c
    have hq0 : ∀ j, j ≤ n → syn n g (pts n) j = 0 := fun j hj => by
      by_cases c : j = n
      · rw [c, syn_last]
      · exact hq j (by omega)
    intro j hj
    cases j with
    | succ j =>
      have h := syn_step (n := n) (j := j) (by omega) g (pts n)
      rw [hq0 j (by omega), hq0 (j + 1) (by omega)] at h
      have : g (j + 1) = g (j + 1) + pts n * 0 := by grind
      rw [this, ← h]
    | zero =>
      rw [evR_first] at hx
      have e : syn n g (pts n) 0 = evR n (fun j => g (j + 1)) (pts n) := by
        unfold syn
        rw [Nat.sub_zero]
        rw [show (fun t => g (0 + 1 + t)) = fun j => g (j + 1) from funext fun t => by congr 1; omega]
      rw [← e, hq0 0 (by omega)] at hx
      have : g 0 = g 0 + pts n * 0 := by grind
      rw [this, hx]
theorem cF_inj {a b : Nat} (ha : a < p) (hb : b < p) (h : cF p a = cF p b) : a = b := by
  have := congrArg Fin.val h
  rw [cF_val, cF_val, Nat.mod_eq_of_lt ha, Nat.mod_eq_of_lt hb] at this
  exact this
theorem zero_but (hp : Pr p) {n : Nat} (hn : n + 1 ≤ p) (g : Nat → Fin p) (x : Fin p) (h : ∀ z, z ≠ x → evR n g z = 0) : ∀ j, j < n → g j = 0 := by
  refine roots hp n g (fun t => if cF p t = x then cF p n else cF p t) ?_ ?_
  · intro i j hi hj hij e
    by_cases c1 : cF p i = x
    · by_cases c2 : cF p j = x
      · exact hij (cF_inj (by omega) (by omega) (c1.trans c2.symm))
      · rw [if_pos c1, if_neg c2] at e
        have := cF_inj (by omega) (by omega) e; omega
    · by_cases c2 : cF p j = x
      · rw [if_neg c1, if_pos c2] at e
        have := cF_inj (by omega) (by omega) e; omega
      · rw [if_neg c1, if_neg c2] at e
        exact hij (cF_inj (by omega) (by omega) e)
  · intro i hi
    apply h
    by_cases c : cF p i = x
    · rw [if_pos c]; intro e
      have := cF_inj (by omega) (by omega) (c.trans e.symm); omega
    · rw [if_neg c]; exact c
theorem evR_sub (n : Nat) (g h : Nat → Fin p) (x : Fin p) : evR n (fun t => g t - h t) x = evR n g x - evR n h x := by
  have e := evR_add n (fun t => g t - h t) h x
  rw [evR_congr (h := g) (fun j _ => by grind) x] at e
  rw [e]; grind
theorem evR_smul (n : Nat) (c : Fin p) (g : Nat → Fin p) (x : Fin p) : evR n (fun t => c * g t) x = c * evR n g x := by
  unfold evR
  rw [← sumR_mul]
  exact sumR_congr fun j _ => by grind
theorem evR_sum (n m : Nat) (c : Nat → Fin p) (g : Nat → Nat → Fin p) (x : Fin p) : evR n (fun t => sumR m fun s => c s * g s t) x = sumR m fun s => c s * evR n (g s) x := by
  induction m with
  | zero => exact evR_zero n x
  | succ m ih =>
    simp only [sumR]
    rw [evR_add n (fun t => sumR m fun s => c s * g s t) (fun t => c m * g m t), ih, evR_smul]
end Go.Proofs.Ytdafolenaibccaa.Mth
