import Derived.Test.YtfkikfapbdlnjaaSShareRows15
namespace Go.Proofs.Ytfkikfapbdlnjaa.Mth
set_option linter.unusedVariables false
set_option linter.unusedSectionVars false
variable {p : Nat} [NeZero p]
def prodR : Nat → (Nat → Fin p) → Fin p
  | 0, _ => 1
  | n + 1, g => prodR n g * g n
def sumR : Nat → (Nat → Fin p) → Fin p
  | 0, _ => 0
  | n + 1, g => sumR n g + g n
theorem prodR_congr {n : Nat} {g h : Nat → Fin p} (e : ∀ j, j < n → g j = h j) : prodR n g = prodR n h := by
  induction n with
  | zero => rfl
  | succ n ih => simp only [prodR]; rw [ih fun j hj => e j (by omega), e n (by omega)]
theorem prodR_split (i d : Nat) (g : Nat → Fin p) : prodR (i + d) g = prodR i g * prodR d fun j => g (i + j) := by
  induction d with
  | zero => simp only [Nat.add_zero, prodR]; grind
  | succ d ih => rw [← Nat.add_assoc]; simp only [prodR]; rw [ih]; grind
theorem prodR_first (d i : Nat) (g : Nat → Fin p) : (prodR (d + 1) fun j => g (i + j)) = g i * prodR d fun j => g (i + 1 + j) := by
  rw [show d + 1 = 1 + d by omega, prodR_split]
  simp only [prodR, Nat.add_zero]
  rw [show (fun j => g (i + (1 + j))) = fun j => g (i + 1 + j) from funext fun j => by rw [Nat.add_assoc]]
  grind
theorem prodR_ne (hp : Pr p) {n : Nat} {g : Nat → Fin p} (e : ∀ j, j < n → g j ≠ 0) : prodR n g ≠ 0 := by
  induction n with
  | zero => exact pr_one_ne hp
  | succ n ih => exact mul_ne hp (ih fun j hj => e j (by omega)) (e n (by omega))
theorem prodR_skip (n i : Nat) (hi : i < n) (g : Nat → Fin p) : (prodR n fun j => if j = i then 1 else g j) = prodR i g * prodR (n - (i + 1)) fun j => g (i + 1 + j) := by
  have e : n = i + (1 + (n - (i + 1))) := by omega
  conv => lhs; rw [e]
  rw [prodR_split, prodR_split]
  simp only [prodR, Nat.add_zero, if_pos]
  rw [prodR_congr (n := i) (h := g) fun j hj => by rw [if_neg (by omega)], prodR_congr (n := n - (i + 1)) (h := fun j => g (i + 1 + j)) fun j hj => by rw [if_neg (by omega), Nat.add_assoc]]
  grind
def upd {α : Type} (g : Nat → α) (i : Nat) (v : α) : Nat → α := fun j => if j = i then v else g j
theorem upd_self {α : Type} (g : Nat → α) (i : Nat) (v : α) : upd g i v i = v := by simp [upd]
theorem upd_ne {α : Type} (g : Nat → α) {i j : Nat} (v : α) (h : j ≠ i) : upd g i v j = g j := by simp [upd, h]
theorem pw_mulb (a b : Fin p) (n : Nat) : pw (a * b) n = pw a n * pw b n := by
  induction n with
  | zero => simp only [pw]; grind
  | succ n ih => simp only [pw]; rw [ih]; grind
theorem iv_mulb (a b : Fin p) : iv (a * b) = iv a * iv b := pw_mulb a b _
end Go.Proofs.Ytfkikfapbdlnjaa.Mth
