import Derived.Test.YtdafolenaibccaaSInterpChain15
namespace Go.Proofs.Ytdafolenaibccaa.Mth
set_option linter.unusedVariables false
set_option linter.unusedSectionVars false
variable {p : Nat} [NeZero p]
def prodR : Nat → (Nat → Fin p) → Fin p
  | 0, _ => 1
  | n + 1, g => prodR n g * g n
def sumR : Nat → (Nat → Fin p) → Fin p
  | 0, _ => 0
  | n + 1, g => sumR n g + g n
theorem prodR_congr {n : Nat} {g h : Nat → Fin p} (e : ∀ j, j < n → g j = h j) : prodR n g = prodR n h := by
  induction n with
  | zero => rfl
  | succ n ih => simp only [prodR]; rw [ih fun j hj => e j (by omega), e n (by omega)]
theorem sumR_congr {n : Nat} {g h : Nat → Fin p} (e : ∀ j, j < n → g j = h j) : sumR n g = sumR n h := by
  induction n with
  | zero => rfl
  | succ n ih => simp only [sumR]; rw [ih fun j hj => e j (by omega), e n (by omega)]
theorem prodR_split (i d : Nat) (g : Nat → Fin p) : prodR (i + d) g = prodR i g * prodR d fun j => g (i + j) := by
  induction d with
  | zero => simp only [Nat.add_zero, prodR]; grind
  | succ d ih => rw [← Nat.add_assoc]; simp only [prodR]; rw [ih]; grind
theorem prodR_first (d i : Nat) (g : Nat → Fin p) : (prodR (d + 1) fun j => g (i + j)) = g i * prodR d fun j => g (i + 1 + j) := by
  rw [show d + 1 = 1 + d by omega, prodR_split]
  simp only [prodR, Nat.add_zero]
  rw [show (fun j => g (i + (1 + j))) = fun j => g (i + 1 + j) from funext fun j => by rw [Nat.add_assoc]]
  grind
theorem prodR_ne (hp : Pr p) {n : Nat} {g : Nat → Fin p} (e : ∀ j, j < n → g j ≠ 0) : prodR n g ≠ 0 := by
  induction n with
  | zero => exact pr_one_ne hp
  | succ n ih => exact mul_ne hp (ih fun j hj => e j (by omega)) (e n (by omega))
theorem prodR_zero {n i : Nat} {g : Nat → Fin p} (hi : i < n) (e : g i = 0) : prodR n g = 0 := by
  induction n with
  | zero => omega
  | succ n ih =>
    simp only [prodR]
    by_cases c : i = n
    · subst c; rw [e]; grind
    · rw [ih (by omega)]; grind
theorem prodR_skip (n i : Nat) (hi : i < n) (g : Nat → Fin p) : (prodR n fun j => if j = i then 1 else g j) = prodR i g * prodR (n - (i + 1)) fun j => g (i + 1 + j) := by
  have e : n = i + (1 + (n - (i + 1))) := by omega
  conv => lhs; rw [e]
  rw [prodR_split, prodR_split]
  simp only [prodR, Nat.add_zero, if_pos]
  rw [prodR_congr (n := i) (h := g) fun j hj => by rw [if_neg (by omega)], prodR_congr (n := n - (i + 1)) (h := fun j => g (i + 1 + j)) fun j hj => by rw [if_neg (by omega), Nat.add_assoc]]
  grind
theorem sumR_add (n : Nat) (g h : Nat → Fin p) : (sumR n fun j => g j + h j) = sumR n g + sumR n h := by
  induction n with
  | zero => simp only [sumR]; grind
  | succ n ih => simp only [sumR]; rw [ih]; grind
theorem sumR_mul (n : Nat) (c : Fin p) (g : Nat → Fin p) : (sumR n fun j => c * g j) = c * sumR n g := by
  induction n with
  | zero => simp only [sumR]; grind
  | succ n ih => simp only [sumR]; rw [ih]; grind
theorem sumR_zero (n : Nat) {g : Nat → Fin p} (e : ∀ j, j < n → g j = 0) : sumR n g = 0 := by
  induction n with
  | zero => rfl
  | succ n ih => simp only [sumR]; rw [ih fun j hj => e j (by omega), e n (by omega)]; grind
def upd {α : Type} (g : Nat → α) (i : Nat) (v : α) : Nat → α := fun j => if j = i then v else g j
theorem upd_self {α : Type} (g : Nat → α) (i : Nat) (v : α) : upd g i v i = v := by simp [upd]
theorem upd_ne {α : Type} (g : Nat → α) {i j : Nat} (v : α) (h : j ≠ i) : upd g i v j = g j := by simp [upd, h]
theorem sumR_upd {n i : Nat} (hi : i < n) (F : Nat → Fin p → Fin p) (g : Nat → Fin p) (v : Fin p) : (sumR n fun j => F j (upd g i v j)) = (sumR n fun j => F j (g j)) - F i (g i) + F i v := by
  induction n with
  | zero => omega
  | succ n ih =>
    simp only [sumR]
    by_cases c : i = n
    · subst c
      rw [sumR_congr (h := fun j => F j (g j)) fun j hj => by rw [upd_ne _ _ (by omega)], upd_self]; grind
    · rw [ih (by omega), upd_ne _ _ (by omega)]; grind
def evR (n : Nat) (g : Nat → Fin p) (x : Fin p) : Fin p := sumR n fun t => g t * pw x t
theorem evR_congr {n : Nat} {g h : Nat → Fin p} (e : ∀ j, j < n → g j = h j) (x : Fin p) : evR n g x = evR n h x := sumR_congr fun j hj => by rw [e j hj]
theorem evR_upd {n i : Nat} (hi : i < n) (g : Nat → Fin p) (c x : Fin p) : evR n (upd g i (g i + c)) x = evR n g x + c * pw x i := by
  unfold evR
  rw [sumR_upd hi (fun t v => v * pw x t)]; grind
theorem evR_zero (n : Nat) (x : Fin p) : evR n (fun _ => 0) x = 0 := sumR_zero n fun j _ => by grind
theorem evR_cut {m n : Nat} (hmn : m ≤ n) (g : Nat → Fin p) (e : ∀ j, m ≤ j → j < n → g j = 0) (x : Fin p) : evR n g x = evR m g x := by
  induction n with
  | zero => rw [show m = 0 by omega]
  | succ n ih =>
    by_cases c : m = n + 1
    · rw [c]
    · have := ih (by omega) fun j h1 h2 => e j h1 (by omega)
      unfold evR at this ⊢
      simp only [sumR]
      rw [this, e n (by omega) (by omega)]; grind
theorem evR_add (n : Nat) (g h : Nat → Fin p) (x : Fin p) : evR n (fun t => g t + h t) x = evR n g x + evR n h x := by
  unfold evR
  rw [← sumR_add]
  exact sumR_congr fun j _ => by grind
theorem evR_mul_row (n : Nat) (c x : Fin p) (i : Nat) (h : Nat → Fin p) : (sumR n fun j => c * h j * pw x (i + j)) = c * pw x i * evR n h x := by
  unfold evR
  rw [← sumR_mul]
  exact sumR_congr fun j _ => by rw [pw_add]; grind
theorem pw_mulb (a b : Fin p) (n : Nat) : pw (a * b) n = pw a n * pw b n := by
  induction n with
  | zero => simp only [pw]; grind
  | succ n ih => simp only [pw]; rw [ih]; grind
theorem iv_mulb (a b : Fin p) : iv (a * b) = iv a * iv b := pw_mulb a b _
end Go.Proofs.Ytdafolenaibccaa.Mth
