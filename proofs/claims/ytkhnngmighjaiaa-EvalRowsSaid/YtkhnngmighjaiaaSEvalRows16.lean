namespace Go.Proofs.Ytkhnngmighjaiaa.Mth
variable {p : Nat} [NeZero p]
def cF (p : Nat) [NeZero p] (n : Nat) : Fin p := Fin.ofNat p n
theorem cF_val (n : Nat) : (cF p n).val = n % p := rfl
theorem cF_self (x : Fin p) : cF p x.val = x := Fin.ext (by rw [cF_val]; exact Nat.mod_eq_of_lt x.isLt)
theorem cF_add (a b : Nat) : cF p (a + b) = cF p a + cF p b := by
  apply Fin.ext; rw [Fin.val_add, cF_val, cF_val, cF_val, ← Nat.add_mod]
theorem cF_mul (a b : Nat) : cF p (a * b) = cF p a * cF p b := by
  apply Fin.ext; rw [Fin.val_mul, cF_val, cF_val, cF_val, ← Nat.mul_mod]
theorem cF_one : cF p 1 = 1 := rfl
theorem cF_zero : cF p 0 = 0 := Fin.ext (by rw [cF_val]; simp)
theorem cF_p : cF p p = 0 := Fin.ext (by rw [cF_val]; simp)
end Go.Proofs.Ytkhnngmighjaiaa.Mth
