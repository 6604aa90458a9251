namespace Go.Proofs.Ytfkikfapbdlnjaa.Mth
def Pr (p : Nat) : Prop := 2 ≤ p ∧ ∀ d, d ∣ p → d = 1 ∨ d = p
theorem Pr.inv_int {p : Nat} (hp : Pr p) : ∀ (n a : Nat), a ≤ n → 0 < a → a < p → ∃ b c : Int, (a : Int) * b = 1 + p * c := by
  intro n
  induction n with
  | zero => intro a h1 h2; omega
  | succ n ih =>
    intro a h1 h2 h3
    by_cases h : a = 1
    · exact ⟨1, 0, by subst h; simp⟩
    · have hr : 0 < p % a := by
        rcases Nat.eq_zero_or_pos (p % a) with h0 | h0
        · have := hp.2 a (Nat.dvd_of_mod_eq_zero h0); omega
        · exact h0
      have hlt := Nat.mod_lt p h2
      obtain ⟨b, c, e⟩ := ih (p % a) (by omega) hr (by omega)
      have e2 : (p : Int) = a * (p / a : Nat) + (p % a : Nat) := by exact_mod_cast (Nat.div_add_mod p a).symm
      refine ⟨-((p / a : Nat) : Int) * b, c - b, ?_⟩
      generalize ((p / a : Nat) : Int) = q at *
      generalize ((p % a : Nat) : Int) = r at *
      grind
theorem Pr.inv {p : Nat} [NeZero p] (hp : Pr p) (a : Fin p) (ha : a ≠ 0) : ∃ b, a * b = 1 := by
  have h0 : 0 < a.val := by
    rcases Nat.eq_zero_or_pos a.val with h | h
    · exact absurd (Fin.ext (by simpa using h)) ha
    · exact h
  obtain ⟨b, c, e⟩ := hp.inv_int a.val a.val (Nat.le_refl _) h0 a.isLt
  refine ⟨⟨(b % p).toNat, ?_⟩, ?_⟩
  · have := Int.emod_nonneg b (show (p : Int) ≠ 0 by have := hp.1; omega)
    have := Int.emod_lt_of_pos b (show (0 : Int) < p by have := hp.1; omega)
    omega
  · apply Fin.ext
    simp only [Fin.val_mul]
    have h2 := hp.1
    have n0 := Int.emod_nonneg b (show (p : Int) ≠ 0 by omega)
    have e3 : ((a.val * (b % p).toNat % p : Nat) : Int) = ((1 % p : Nat) : Int) := by
      push_cast
      rw [Int.toNat_of_nonneg n0, Int.mul_emod, Int.emod_emod_of_dvd _ (Int.dvd_refl _), ← Int.mul_emod, e, Int.add_mul_emod_self_left]
    exact Int.natCast_inj.1 e3
def pw {p : Nat} [NeZero p] (a : Fin p) : Nat → Fin p
  | 0 => 1
  | n + 1 => a * pw a n
variable {p : Nat} [NeZero p]
theorem pw_add (a : Fin p) (m n : Nat) : pw a (m + n) = pw a m * pw a n := by
  induction m with
  | zero => simp only [Nat.zero_add, pw]; grind
  | succ m ih => rw [Nat.succ_add]; simp only [pw, ih]; grind
theorem pw_mul (a : Fin p) (m n : Nat) : pw a (m * n) = pw (pw a m) n := by
  induction n with
  | zero => rfl
  | succ n ih => rw [Nat.mul_succ, pw_add, ih]; simp only [pw]; grind
theorem pw_one (n : Nat) : pw (1 : Fin p) n = 1 := by
  induction n with
  | zero => rfl
  | succ n ih => simp only [pw, ih]; grind
theorem pw_1 (a : Fin p) : pw a 1 = a := by simp only [pw]; grind
theorem mul_ne (hp : Pr p) {a b : Fin p} (ha : a ≠ 0) (hb : b ≠ 0) : a * b ≠ 0 := by
  obtain ⟨c, hc⟩ := hp.inv a ha
  intro h
  apply hb
  have : b = c * (a * b) := by grind
  rw [this, h]; grind
theorem cancel (hp : Pr p) {a b c : Fin p} (ha : a ≠ 0) (h : a * b = a * c) : b = c := by
  obtain ⟨d, hd⟩ := hp.inv a ha
  have h1 : b = d * (a * b) := by grind
  have h2 : c = d * (a * c) := by grind
  rw [h1, h2, h]
theorem pr_one_ne (hp : Pr p) : (1 : Fin p) ≠ 0 := by
  intro h
  have := congrArg Fin.val h
  have h2 := hp.1
  have e4 : ((1 : Fin p) : Nat) = 1 % p := rfl
  rw [e4, Nat.mod_eq_of_lt (by omega)] at this
  simp at this
def prodL (l : List (Fin p)) : Fin p := l.foldl (· * ·) 1
theorem foldl_mul (l : List (Fin p)) : ∀ z : Fin p, l.foldl (· * ·) z = z * prodL l := by
  induction l with
  | nil => intro z; simp only [prodL, List.foldl]; grind
  | cons x l ih => intro z; simp only [prodL, List.foldl]; rw [ih, ih (1 * x)]; grind
theorem prod_cons (x : Fin p) (l : List (Fin p)) : prodL (x :: l) = x * prodL l := by
  simp only [prodL, List.foldl]; rw [foldl_mul]; simp only [prodL]; grind
theorem prod_map (a : Fin p) (l : List (Fin p)) : prodL (l.map (a * ·)) = pw a l.length * prodL l := by
  induction l with
  | nil => simp only [List.map, List.length, pw, prodL, List.foldl]; grind
  | cons x l ih => simp only [List.map, List.length, prod_cons, ih, pw]; grind
theorem prod_ne (hp : Pr p) (l : List (Fin p)) (h : ∀ x ∈ l, x ≠ 0) : prodL l ≠ 0 := by
  induction l with
  | nil => exact pr_one_ne hp
  | cons x l ih => rw [prod_cons]; exact mul_ne hp (h x (List.mem_cons_self ..)) (ih fun y hy => h y (List.mem_cons_of_mem _ hy))
theorem fermat_succ (n : Nat) (hp : Pr (n + 1)) (a : Fin (n + 1)) (ha : a ≠ 0) : pw a n = 1 := by
  let L : List (Fin (n + 1)) := (List.finRange n).map Fin.succ
  have hmem : ∀ y : Fin (n + 1), y ∈ L ↔ y ≠ 0 := by
    intro y
    constructor
    · intro h
      obtain ⟨x, _, rfl⟩ := List.mem_map.1 h
      exact Fin.succ_ne_zero x
    · intro h
      exact List.mem_map.2 ⟨y.pred h, List.mem_finRange _, Fin.succ_pred y h⟩
  have hnd0 : (List.finRange n).Nodup := by
    rw [List.nodup_iff_pairwise_ne, List.pairwise_iff_getElem]
    intro i j hi hj hij h
    simp only [List.getElem_finRange] at h
    have := congrArg Fin.val h
    simp at this; omega
  have hnd : L.Nodup := List.Pairwise.map _ (fun x y hxy h => hxy (Fin.succ_inj.1 h)) hnd0
  have hmnd : (L.map (a * ·)).Nodup := List.Pairwise.map _ (fun x y hxy h => hxy (cancel hp ha h)) hnd
  have hperm : L.map (a * ·) |>.Perm L := (List.perm_ext_iff_of_nodup hmnd hnd).2 fun y => by
    rw [hmem, List.mem_map]
    constructor
    · rintro ⟨x, hx, rfl⟩
      exact mul_ne hp ha ((hmem x).1 hx)
    · intro hy
      obtain ⟨b, hb⟩ := hp.inv a ha
      refine ⟨b * y, (hmem _).2 ?_, by grind⟩
      intro h0
      apply hy
      have : y = a * (b * y) := by grind
      rw [this, h0]; grind
  have e1 : prodL (L.map (a * ·)) = prodL L := by
    unfold prodL
    exact hperm.foldl_eq' (fun x _ y _ z => by grind) 1
  rw [prod_map] at e1
  have hl : L.length = n := by simp [L]
  rw [hl] at e1
  obtain ⟨c, hc⟩ := hp.inv (prodL L) (prod_ne hp L fun x hx => (hmem x).1 hx)
  have : pw a n = pw a n * prodL L * c := by grind
  rw [this, e1, hc]
theorem fermat (hp : Pr p) (a : Fin p) (ha : a ≠ 0) : pw a (p - 1) = 1 := by
  cases p with
  | zero => exact absurd hp.1 (by omega)
  | succ n => exact fermat_succ n hp a ha
theorem factor (n : Nat) (h : 2 ≤ n) : ∃ r, Pr r ∧ r ∣ n ∧ (r = n ∨ r * r ≤ n) := by
  have ex : ∀ (k d : Nat), 2 ≤ d → d ∣ n → d ≤ k → ∃ r, 2 ≤ r ∧ r ∣ n ∧ ∀ e, 2 ≤ e → e ∣ n → r ≤ e := by
    intro k
    induction k with
    | zero => intro d h1 _ h3; omega
    | succ k ih =>
      intro d h1 h2 h3
      by_cases g : ∃ e, 2 ≤ e ∧ e ∣ n ∧ e < d
      · obtain ⟨e, e1, e2, e3⟩ := g
        exact ih e e1 e2 (by omega)
      · exact ⟨d, h1, h2, fun e e1 e2 => Nat.le_of_not_lt fun h => g ⟨e, e1, e2, h⟩⟩
  obtain ⟨r, r1, r2, r3⟩ := ex n n h (Nat.dvd_refl n) (Nat.le_refl n)
  refine ⟨r, ⟨r1, fun d hd => ?_⟩, r2, ?_⟩
  · rcases Nat.lt_or_ge d 2 with h0 | h0
    · have : d ≠ 0 := fun h => by subst h; have := Nat.eq_zero_of_zero_dvd hd; omega
      omega
    · have := r3 d h0 (Nat.dvd_trans hd r2)
      have := Nat.le_of_dvd (by omega) hd
      omega
  · obtain ⟨q, hq⟩ := r2
    rcases Nat.lt_or_ge q 2 with h0 | h0
    · have : q ≠ 0 := fun h => by subst h; omega
      have : q = 1 := by omega
      subst this; exact .inl (by omega)
    · have := r3 q h0 ⟨r, by rw [hq]; exact Nat.mul_comm _ _⟩
      exact .inr (by rw [hq]; exact Nat.mul_le_mul_left r this)
theorem split2 (n : Nat) (h : 0 < n) : ∃ j m, n = 2 ^ j * (2 * m + 1) := by
  induction n using Nat.strongRecOn with
  | ind n ih =>
    by_cases h2 : n % 2 = 1
    · exact ⟨0, n / 2, by omega⟩
    · obtain ⟨j, m, e⟩ := ih (n / 2) (by omega) (by omega)
      refine ⟨j + 1, m, ?_⟩
      rw [Nat.pow_succ, Nat.mul_comm (2 ^ j) 2, Nat.mul_assoc, ← e]; omega
theorem odd_one {m : Nat} : ∀ (s : Nat) (d : Fin p), pw d (2 ^ s) = 1 → pw d (2 * m + 1) = 1 → d = 1 := by
  intro s
  induction s with
  | zero => intro d h _; rw [Nat.pow_zero, pw_1] at h; exact h
  | succ s ih =>
    intro d h1 h2
    refine ih d ?_ h2
    have e1 : pw (pw d (2 ^ s)) 2 = 1 := by rw [← pw_mul, ← Nat.pow_succ]; exact h1
    have e2 : pw (pw d (2 ^ s)) (2 * m + 1) = 1 := by rw [← pw_mul, Nat.mul_comm, pw_mul, h2, pw_one]
    rw [pw_add, pw_mul, e1, pw_one, pw_1] at e2
    grind
def down {n : Nat} (r : Nat) [NeZero r] (x : Fin n) : Fin r := Fin.ofNat r x.val
theorem down_mul {n r : Nat} [NeZero n] [NeZero r] (h : r ∣ n) (x y : Fin n) : down r (x * y) = down r x * down r y := by
  apply Fin.ext
  simp only [down, Fin.val_mul, Fin.val_ofNat]
  rw [Nat.mod_mod_of_dvd _ h, Nat.mul_mod]
theorem down_one {n r : Nat} [NeZero n] [NeZero r] (h : r ∣ n) : down r (1 : Fin n) = 1 := by
  apply Fin.ext
  show 1 % n % r = 1 % r
  rw [Nat.mod_mod_of_dvd _ h]
theorem down_pw {n r : Nat} [NeZero n] [NeZero r] (h : r ∣ n) (x : Fin n) (k : Nat) : down r (pw x k) = pw (down r x) k := by
  induction k with
  | zero => exact down_one h
  | succ k ih => simp only [pw, down_mul h, ih]
def sq (n : Nat) : Nat → Nat → Nat
  | 0, x => x
  | k + 1, x => sq n k (x * x % n)
theorem sq_pw (k : Nat) : ∀ x : Fin p, (pw x (2 ^ k)).val = sq p k x.val := by
  induction k with
  | zero => intro x; rw [Nat.pow_zero, pw_1]; rfl
  | succ k ih =>
    intro x
    rw [Nat.pow_succ, Nat.mul_comm, pw_mul, show pw x 2 = x * x by simp only [pw]; grind, ih]
    rfl
theorem pock (n k b : Nat) [NeZero n] (hb : b < n) (hk : n < 2 ^ k * 2 ^ k) (h0 : 0 < k) (hn : n % 2 = 1) (h2 : 2 ≤ n) (h : sq n (k - 1) b = n - 1) : Pr n := by
  obtain ⟨r, hr, hd, hle⟩ := factor n h2
  rcases hle with rfl | hle
  · exact hr
  exfalso
  haveI : NeZero r := ⟨by have := hr.1; omega⟩
  have hr2 : r ≠ 2 := by
    rintro rfl
    have := Nat.mod_eq_zero_of_dvd hd; omega
  have e1 : (pw (⟨b, hb⟩ : Fin n) (2 ^ (k - 1))).val = n - 1 := by rw [sq_pw]; exact h
  have e2 : pw (⟨b, hb⟩ : Fin n) (2 ^ (k - 1)) + 1 = 0 := by
    apply Fin.ext
    rw [Fin.val_add, e1]
    show (n - 1 + 1 % n) % n = 0
    rw [Nat.mod_eq_of_lt (show 1 < n by omega), show n - 1 + 1 = n by omega, Nat.mod_self]
  obtain ⟨c, hc⟩ : ∃ c, c = down r (⟨b, hb⟩ : Fin n) := ⟨_, rfl⟩
  have e3 : pw c (2 ^ (k - 1)) + 1 = 0 := by
    rw [hc, ← down_pw hd, ← down_one hd]
    have : down r (pw (⟨b, hb⟩ : Fin n) (2 ^ (k - 1))) + down r (1 : Fin n) = down r (pw (⟨b, hb⟩ : Fin n) (2 ^ (k - 1)) + 1) := by
      apply Fin.ext
      simp only [down, Fin.val_add, Fin.val_ofNat]
      rw [Nat.mod_mod_of_dvd _ hd, ← Nat.add_mod]
    rw [this, e2]
    apply Fin.ext
    show 0 % n % r = 0 % r
    simp
  have two : (1 : Fin r) + 1 ≠ 0 := by
    intro h
    have h1 := congrArg Fin.val h
    rw [Fin.val_add] at h1
    have h3 : ((1 : Fin r) : Nat) = 1 % r := rfl
    have hr1 := hr.1
    rw [h3, Nat.mod_eq_of_lt (show 1 < r by omega), Nat.mod_eq_of_lt (show 1 + 1 < r by omega)] at h1
    simp at h1
  have hne : pw c (2 ^ (k - 1)) ≠ 1 := fun h => two (by rw [h] at e3; exact e3)
  have hc0 : c ≠ 0 := by
    intro h0
    have h1 : pw c (2 ^ (k - 1)) = 0 := by
      have : 0 < 2 ^ (k - 1) := Nat.pow_pos (by omega)
      obtain ⟨t, ht⟩ : ∃ t, 2 ^ (k - 1) = t + 1 := ⟨2 ^ (k - 1) - 1, by omega⟩
      rw [ht]; simp only [pw, h0]; grind
    rw [h1] at e3
    exact pr_one_ne hr (by grind)
  have hf := fermat hr c hc0
  obtain ⟨j, m, hj⟩ := split2 (r - 1) (by have := hr.1; omega)
  rcases Nat.lt_or_ge j k with hjk | hjk
  · have e4 : pw (pw c (2 ^ j)) (2 * m + 1) = 1 := by rw [← pw_mul, ← hj]; exact hf
    have e5 : pw (pw c (2 ^ j)) (2 ^ (k - j)) = 1 := by
      rw [← pw_mul, ← Nat.pow_add, show j + (k - j) = (k - 1) + 1 by omega, Nat.pow_succ, pw_mul]
      simp only [pw]; grind
    have e6 := odd_one _ _ e5 e4
    apply hne
    rw [show k - 1 = j + (k - 1 - j) by omega, Nat.pow_add, pw_mul, e6, pw_one]
  · have h3 : 2 ^ k ≤ 2 ^ j := Nat.pow_le_pow_right (by omega) hjk
    have h4 : 2 ^ j ≤ r - 1 := by rw [hj]; exact Nat.le_mul_of_pos_right _ (by omega)
    have h5 : 2 ^ k * 2 ^ k ≤ r * r := Nat.mul_le_mul (by omega) (by omega)
    omega
theorem small_pr : Pr 2013265921 := pock 2013265921 27 440564289 (by decide) (by decide) (by decide) (by decide) (by decide) (by decide +kernel)
theorem large_pr : Pr 18446744069414584321 := pock 18446744069414584321 32 1753635133440165772 (by decide) (by decide) (by decide) (by decide) (by decide) (by decide +kernel)
def iv (x : Fin p) : Fin p := pw x (p - 2)
theorem mul_iv (hp : Pr p) {x : Fin p} (hx : x ≠ 0) : x * iv x = 1 := by
  have h := fermat hp x hx
  have h2 := hp.1
  rw [show p - 1 = (p - 2) + 1 by omega] at h
  exact h
theorem pw_sq (x : Fin p) (m : Nat) : pw (x * x) m = pw x (2 * m) := by
  rw [pw_mul, show pw x 2 = x * x by simp only [pw]; grind]
def cF (p : Nat) [NeZero p] (n : Nat) : Fin p := Fin.ofNat p n
theorem cF_val (n : Nat) : (cF p n).val = n % p := rfl
theorem cF_self (x : Fin p) : cF p x.val = x := Fin.ext (by rw [cF_val]; exact Nat.mod_eq_of_lt x.isLt)
theorem cF_add (a b : Nat) : cF p (a + b) = cF p a + cF p b := by
  apply Fin.ext; rw [Fin.val_add, cF_val, cF_val, cF_val, ← Nat.add_mod]
theorem cF_mul (a b : Nat) : cF p (a * b) = cF p a * cF p b := by
  apply Fin.ext; rw [Fin.val_mul, cF_val, cF_val, cF_val, ← Nat.mul_mod]
theorem cF_one : cF p 1 = 1 := rfl
theorem cF_zero : cF p 0 = 0 := Fin.ext (by rw [cF_val]; simp)
theorem cF_p : cF p p = 0 := Fin.ext (by rw [cF_val]; simp)
end Go.Proofs.Ytfkikfapbdlnjaa.Mth
