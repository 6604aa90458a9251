/- Numbers as bytes, and back; what is read is written as the bytes that were read; what is written is read: plain laws on the forms of lists and pieces. -/
import Derived.Test.YtclanpkekocndaaPureWireList
namespace Go.Proofs.Ytclanpkekocndaa.Plain
open Go.RowKit Go.Proofs.Ytclanpkekocndaa.P Go.Proofs.YtclanpkekocndaaW.PrintWords Go.Proofs.YtclanpkekocndaaW.PrintLast Go.Proofs.YtclanpkekocndaaW.PrintMore
set_option linter.unusedVariables false
set_option linter.unusedSimpArgs false

/-- The number of some bytes, without a bound. -/
def val : List Int → Int
  | [] => 0
  | c :: l => c * 2 ^ (8 * l.length) + val l
theorem pow8 (n : Nat) : (2 : Int) ^ (8 * (n + 1)) = 256 * 2 ^ (8 * n) := by
  rw [Nat.mul_add, Int.pow_add, Int.mul_comm]; rfl
theorem pow8_pos (n : Nat) : 0 < (2 : Int) ^ (8 * n) := Int.pow_pos (by omega)
theorem val_range {l : List Int} (h : Bytes l) : 0 ≤ val l ∧ val l < 2 ^ (8 * l.length) := by
  induction l with
  | nil => exact ⟨Int.le_refl _, by simp [val]⟩
  | cons c l ih =>
    have hc := h c (List.mem_cons_self ..)
    have hl := ih (fun x hx => h x (List.mem_cons_of_mem _ hx))
    have hp := pow8_pos l.length
    have h1 : c * 2 ^ (8 * l.length) ≤ 255 * 2 ^ (8 * l.length) := Int.mul_le_mul_of_nonneg_right (by omega) (by omega)
    have h0 : 0 ≤ c * 2 ^ (8 * l.length) := Int.mul_nonneg hc.1 (by omega)
    simp only [val, List.length_cons]
    rw [pow8]
    omega
theorem tk_val (l : List Int) : ∀ s : Int, tk s l = (s * 2 ^ (8 * l.length) + val l) % 18446744073709551616 ∨ l = [] := by
  induction l with
  | nil => intro s; exact .inr rfl
  | cons c l ih =>
    intro s
    refine .inl ?_
    rw [tk_cons]
    rcases ih ((s * 256 + c) % 18446744073709551616) with h | h
    · rw [h]
      simp only [val, List.length_cons]
      rw [pow8, Int.add_emod, Int.mul_emod, Int.emod_emod_of_dvd _ (Int.dvd_refl _), ← Int.mul_emod, ← Int.add_emod]
      congr 1
      rw [Int.add_mul]
      have : s * (256 * 2 ^ (8 * l.length)) = s * 256 * 2 ^ (8 * l.length) := by rw [Int.mul_assoc]
      omega
    · subst h
      simp [val, tk]
theorem pow8_le {n : Nat} (h : n ≤ 8) : (2 : Int) ^ (8 * n) ≤ 18446744073709551616 := by
  have : n = 0 ∨ n = 1 ∨ n = 2 ∨ n = 3 ∨ n = 4 ∨ n = 5 ∨ n = 6 ∨ n = 7 ∨ n = 8 := by omega
  rcases this with rfl | rfl | rfl | rfl | rfl | rfl | rfl | rfl | rfl <;> decide
theorem tk0_val {l : List Int} (h : Bytes l) (hl : l.length ≤ 8) : tk 0 l = val l := by
  rcases tk_val l 0 with e | e
  · have hv := val_range h
    have := pow8_le hl
    rw [e]; omega
  · subst e; rfl
theorem be_add (a v : Int) : ∀ s : Nat, be s (a * 2 ^ (8 * s) + v) = be s v := by
  intro s
  induction s generalizing a with
  | zero => rfl
  | succ s ih =>
    simp only [be]
    have hp := pow8_pos s
    have e : a * 2 ^ (8 * (s + 1)) = (a * 256) * 2 ^ (8 * s) := by rw [pow8, Int.mul_assoc]
    rw [e, ih, Int.add_comm, Int.add_mul_ediv_right _ _ (by omega)]
    congr 1
    omega
theorem be_val {l : List Int} (h : Bytes l) : be l.length (val l) = l := by
  induction l with
  | nil => rfl
  | cons c l ih =>
    have hc := h c (List.mem_cons_self ..)
    have hl : Bytes l := fun x hx => h x (List.mem_cons_of_mem _ hx)
    have hv := val_range hl
    have hp := pow8_pos l.length
    simp only [List.length_cons, be, val]
    rw [be_add, ih hl, Int.add_comm, Int.add_mul_ediv_right _ _ (by omega), Int.ediv_eq_zero_of_lt hv.1 hv.2]
    congr 1
    omega
theorem be_tk {l : List Int} (h : Bytes l) (hl : l.length ≤ 8) : be l.length (tk 0 l) = l := by rw [tk0_val h hl, be_val h]
theorem val_be (s : Nat) (n : Int) (h0 : 0 ≤ n) : val (be s n) = n % 2 ^ (8 * s) := by
  induction s with
  | zero => simp [be, val]
  | succ s ih =>
    have hp := pow8_pos s
    simp only [be, val, be_len, ih]
    rw [pow8]
    obtain ⟨P, hP⟩ : ∃ P, P = (2 : Int) ^ (8 * s) := ⟨_, rfl⟩
    rw [← hP] at hp ⊢
    have e1 := Int.mul_ediv_add_emod n P
    have r0 := Int.emod_nonneg n (show P ≠ 0 by omega)
    have r1 := Int.emod_lt_of_pos n hp
    obtain ⟨q, hq⟩ : ∃ q, q = n / P := ⟨_, rfl⟩
    obtain ⟨r, hr⟩ : ∃ r, r = n % P := ⟨_, rfl⟩
    rw [← hq, ← hr] at e1 ⊢
    rw [← hr] at r0 r1
    have e2 := Int.mul_ediv_add_emod q 256
    have h1 : q % 256 * P ≤ 255 * P := Int.mul_le_mul_of_nonneg_right (by omega) (by omega)
    have h2 : 0 ≤ q % 256 * P := Int.mul_nonneg (by omega) (by omega)
    have e3 : n = (q % 256 * P + r) + 256 * P * (q / 256) := by
      have : P * q = 256 * P * (q / 256) + q % 256 * P := by
        have e4 : P * q = P * (256 * (q / 256) + q % 256) := by rw [e2]
        rw [e4, Int.mul_add, Int.mul_comm P (q % 256), ← Int.mul_assoc, Int.mul_comm P 256]
      omega
    rw [e3, Int.add_mul_emod_self_left, Int.emod_eq_of_lt (a := q % 256 * P + r) (b := 256 * P) (by omega) (by omega)]
theorem tk_be (s : Nat) (hs : s ≤ 8) (n : Int) (h0 : 0 ≤ n) (h1 : n < 2 ^ (8 * s)) : tk 0 (be s n) = n := by
  rw [tk0_val (be_bytes s n) (by rw [be_len]; exact hs), val_be s n h0, Int.emod_eq_of_lt h0 h1]
theorem readCount_be {l : List Int} (hb : Bytes l) (h : (readCount l).2.2 = 0) : be 4 (readCount l).1 = l.take 4 := by
  obtain ⟨q1, _, _, _⟩ := readCount_ok hb h
  have e : (readCount l).1 = tk 0 (l.take 4) := by
    unfold readCount at h ⊢
    by_cases h0 : l.length < 4
    · omega
    · simp only [if_neg h0] at h ⊢
      by_cases h1 : tk 0 (l.take 4) > 2147483647
      · simp [if_pos h1] at h
      · simp only [if_neg h1]
  have hl : (l.take 4).length = 4 := by simp; omega
  have := be_tk (hb.take 4) (by omega)
  rw [hl] at this
  rw [e, this]
/-- What Unseal reads is written by Seal as the bytes that were read. -/
theorem seal_forms {b : List Int} (hb : Bytes b) (h : (unsealOf b).2.2 = 0) :
    12 ≤ (unsealOf b).2.1 ∧ (unsealOf b).2.1 ≤ b.length ∧ sealOf (unsealOf b).1 = (b.take (unsealOf b).2.1.toNat, 0) := by
  unfold unsealOf at h ⊢
  by_cases hc : (readCount b).2.2 = 0
  · obtain ⟨q1, q2, q3, q4⟩ := readCount_ok hb hc
    have hbe := readCount_be hb hc
    obtain ⟨n, hn⟩ := Int.eq_ofNat_of_zero_le q3
    rw [if_neg (fun h_ => h_ hc)] at h ⊢
    by_cases h1 : (readCount b).1 > 1048576
    · rw [if_pos h1] at h; simp at h
    · rw [if_neg h1] at h ⊢
      by_cases h2 : (b.length : Int) - 4 < (readCount b).1 + 8
      · rw [if_pos h2] at h; simp at h
      · rw [if_neg h2] at h ⊢
        rw [hn, Int.toNat_natCast] at h ⊢
        by_cases h3 : tk 0 ((b.drop (4 + n)).take 8) = sum (b.take (4 + n))
        · rw [if_pos h3]
          simp only
          refine ⟨by omega, by omega, ?_⟩
          have hl : ((b.take (4 + n)).drop 4).length = n := by simp; omega
          unfold sealOf
          rw [hl, if_neg (by omega)]
          rw [hn] at hbe
          have e1 : be 4 (n : Int) ++ (b.take (4 + n)).drop 4 = b.take (4 + n) := by
            rw [hbe]
            have := List.take_append_drop 4 (b.take (4 + n))
            rwa [List.take_take, Nat.min_eq_left (by omega)] at this
          rw [e1, ← h3]
          have hl8 : ((b.drop (4 + n)).take 8).length = 8 := by simp; omega
          have := be_tk ((hb.drop (4 + n)).take 8) (by omega)
          rw [hl8] at this
          rw [this, ← List.take_add, show ((12 : Int) + n).toNat = 4 + n + 8 by omega]
        · rw [if_neg h3] at h; simp at h
  · rw [if_pos hc] at h; exact absurd h hc
theorem els_rdEls (w : Nat) (hw : w ≤ 8) : ∀ (n : Nat) (b : List Int), Bytes b → n * w ≤ b.length → els w (rdEls w n b) = b.take (n * w) := by
  intro n
  induction n with
  | zero => intro b _ _; simp [els, rdEls]
  | succ n ih =>
    intro b hb hl
    rw [Nat.succ_mul] at hl
    have h1 : (b.take w).length = w := by simp; omega
    have h2 := be_tk (hb.take w) (by omega)
    rw [h1] at h2
    simp only [els, rdEls]
    rw [h2, ih (b.drop w) (hb.drop w) (by simp; omega), Nat.succ_mul, Nat.add_comm (n * w) w, List.take_add]
/-- What ReadList reads is written by List as the bytes that were read. -/
theorem list_forms {b : List Int} (hb : Bytes b) (h : (readListOf b).2.2.2 = 0) :
    5 ≤ (readListOf b).2.2.1 ∧ (readListOf b).2.2.1 ≤ b.length ∧ listOf (readListOf b).1 (readListOf b).2.1 = (b.take (readListOf b).2.2.1.toNat, 0) ∧ (readListOf b).2.1.length ≤ 4096 := by
  unfold readListOf at h ⊢
  by_cases h0 : b.length = 0
  · rw [if_pos h0] at h; simp at h
  · rw [if_neg h0] at h ⊢
    cases hf : isF (rd b 0) with
    | false => rw [hf, if_pos rfl] at h; simp at h
    | true =>
      rw [hf, if_neg (by simp)] at h
      rw [if_neg (by simp)]
      by_cases hc : (readCount (b.drop 1)).2.2 = 0
      · obtain ⟨q1, q2, q3, q4⟩ := readCount_ok (hb.drop 1) hc
        have hbe := readCount_be (hb.drop 1) hc
        rw [List.length_drop] at q1
        obtain ⟨n, hn⟩ := Int.eq_ofNat_of_zero_le q3
        rw [if_neg (fun h_ => h_ hc)] at h ⊢
        rw [hn] at h hbe ⊢
        by_cases h1 : (n : Int) > 4096
        · rw [if_pos h1] at h; simp at h
        · rw [if_neg h1] at h ⊢
          by_cases h2 : (b.length : Int) - 5 < (n : Int) * (wd (rd b 0) : Nat)
          · rw [if_pos h2] at h; simp at h
          · rw [if_neg h2] at h ⊢
            have hw := wd_le (rd b 0)
            have em : ((n * wd (rd b 0) : Nat) : Int) = (n : Int) * ((wd (rd b 0) : Nat) : Int) := by push_cast; rfl
            rw [← em] at h2 ⊢
            rw [Int.toNat_natCast] at h ⊢
            by_cases h3 : below (prime (rd b 0)) (rdEls (wd (rd b 0)) n (b.drop 5)) = false
            · rw [if_pos h3] at h; simp at h
            · rw [if_neg h3]
              simp only
              refine ⟨by omega, by omega, ?_, by rw [rdEls_len]; omega⟩
              unfold listOf
              rw [show inF (rd b 0) (rdEls (wd (rd b 0)) n (b.drop 5)) = true by unfold inF; rw [hf]; simpa using h3, if_pos rfl, rdEls_len, if_neg (by omega), hbe, els_rdEls _ hw n _ (hb.drop 5) (by simp; omega)]
              have e0 : b = rd b 0 :: b.drop 1 := by have := drop_at (l := b) (i := 0) (by omega); simpa using this
              have e1 : (rd b 0 :: ((b.drop 1).take 4 ++ (b.drop 5).take (n * wd (rd b 0)))) = b.take ((5 : Int) + ((n * wd (rd b 0) : Nat) : Int)).toNat := by
                rw [show ((5 : Int) + ((n * wd (rd b 0) : Nat) : Int)).toNat = (1 + 4) + n * wd (rd b 0) by omega, List.take_add, List.take_add]
                have e2 : b.take 1 = [rd b 0] := by rw [e0]; simp [rd]
                rw [e2, show (b.drop (1 + 4)) = b.drop 5 by rfl]
                simp
              rw [e1]
      · rw [if_pos hc] at h; exact absurd h hc
theorem readCount_back (n : Nat) (hn : n ≤ 2147483647) (r : List Int) : readCount (be 4 n ++ r) = ((n : Int), 4, 0) := by
  unfold readCount
  have h1 : (be 4 (n : Int) ++ r).take 4 = be 4 n := by
    rw [List.take_append_of_le_length (by rw [be_len]; exact Nat.le_refl _), List.take_of_length_le (by rw [be_len]; exact Nat.le_refl _)]
  rw [if_neg (by simp [be_len]), h1, tk_be 4 (by omega) n (by omega) (by simp; omega), if_neg (by omega)]
theorem seal_back (a r : List Int) (ha : Bytes a) (hl : a.length ≤ 1048576) : unsealOf ((sealOf a).1 ++ r) = (a, ((sealOf a).1.length : Int), 0) ∧ (sealOf a).2 = 0 := by
  have hs := sm_range (l := be 4 (a.length : Int) ++ a) (s := 14695981039346656037) (by omega) (by omega)
  unfold sealOf
  rw [if_neg (by omega)]
  refine ⟨?_, rfl⟩
  simp only
  obtain ⟨c, hc⟩ : ∃ c, c = sum (be 4 (a.length : Int) ++ a) := ⟨_, rfl⟩
  have hc0 : 0 ≤ c ∧ c < 18446744073709551616 := by rw [hc]; exact hs
  have e : be 4 (a.length : Int) ++ a ++ be 8 (sum (be 4 (a.length : Int) ++ a)) ++ r = be 4 (a.length : Int) ++ (a ++ (be 8 c ++ r)) := by rw [← hc]; simp
  rw [e]
  have hrc := readCount_back a.length (by omega) (a ++ (be 8 c ++ r))
  unfold unsealOf
  rw [hrc]
  simp only [Int.toNat_natCast]
  have hlen : (be 4 (a.length : Int) ++ (a ++ (be 8 c ++ r))).length = 4 + a.length + 8 + r.length := by simp [be_len]; omega
  have ht : (be 4 (a.length : Int) ++ (a ++ (be 8 c ++ r))).take (4 + a.length) = be 4 (a.length : Int) ++ a := by
    rw [← List.append_assoc, List.take_append_of_le_length (by simp [be_len]), List.take_of_length_le (by simp [be_len])]
  have hd : ((be 4 (a.length : Int) ++ (a ++ (be 8 c ++ r))).drop (4 + a.length)).take 8 = be 8 c := by
    rw [← List.append_assoc, List.drop_append_of_le_length (by simp [be_len]), List.drop_eq_nil_of_le (by simp [be_len]), List.nil_append, List.take_append_of_le_length (by rw [be_len]; exact Nat.le_refl _), List.take_of_length_le (by rw [be_len]; exact Nat.le_refl _)]
  rw [if_neg (by simp), if_neg (by omega), if_neg (by rw [hlen]; omega), hd, ht, tk_be 8 (by omega) c hc0.1 (by simpa using hc0.2), ← hc, if_pos rfl]
  refine Prod.ext ?_ (Prod.ext ?_ rfl)
  · simp only
    rw [List.drop_append_of_le_length (by rw [be_len]; exact Nat.le_refl _), List.drop_eq_nil_of_le (by rw [be_len]; exact Nat.le_refl _), List.nil_append]
  · simp [be_len]; omega
theorem rdEls_els (w : Nat) (hw : w ≤ 8) (r : List Int) : ∀ l : List Int, (∀ x ∈ l, 0 ≤ x ∧ x < 2 ^ (8 * w)) → rdEls w l.length (els w l ++ r) = l := by
  intro l
  induction l with
  | nil => intro _; rfl
  | cons x l ih =>
    intro h
    have hx := h x (List.mem_cons_self ..)
    simp only [List.length_cons, rdEls, els, List.append_assoc]
    rw [List.take_append_of_le_length (by rw [be_len]; exact Nat.le_refl _), List.take_of_length_le (by rw [be_len]; exact Nat.le_refl _), tk_be w hw x hx.1 hx.2, List.drop_append_of_le_length (by rw [be_len]; exact Nat.le_refl _), List.drop_eq_nil_of_le (by rw [be_len]; exact Nat.le_refl _), List.nil_append, ih (fun y hy => h y (List.mem_cons_of_mem _ hy))]
theorem prime_wd {f : Int} (h : isF f = true) : prime f ≤ 2 ^ (8 * wd f) := by
  rcases isF_or h with rfl | rfl <;> decide
theorem list_back (f : Int) (l r : List Int) (hu : U64 l) (hin : inF f l = true) (hl : l.length ≤ 4096) : readListOf ((listOf f l).1 ++ r) = (f, l, ((listOf f l).1.length : Int), 0) ∧ (listOf f l).2 = 0 := by
  have hf := inF_isF hin
  have hbel : below (prime f) l = true := by unfold inF at hin; exact (Bool.and_eq_true_iff.1 hin).2
  unfold listOf
  rw [if_pos hin, if_neg (by omega)]
  refine ⟨?_, rfl⟩
  simp only
  have e : f :: (be 4 (l.length : Int) ++ els (wd f) l) ++ r = f :: (be 4 (l.length : Int) ++ (els (wd f) l ++ r)) := by simp
  rw [e]
  have hrd : rd (f :: (be 4 (l.length : Int) ++ (els (wd f) l ++ r))) 0 = f := rfl
  have hrc : readCount ((f :: (be 4 (l.length : Int) ++ (els (wd f) l ++ r))).drop 1) = ((l.length : Int), 4, 0) := readCount_back l.length (by omega) _
  have hd5 : (f :: (be 4 (l.length : Int) ++ (els (wd f) l ++ r))).drop 5 = els (wd f) l ++ r := by
    simp only [List.drop_succ_cons]
    rw [List.drop_append_of_le_length (by rw [be_len]; exact Nat.le_refl _), List.drop_eq_nil_of_le (by rw [be_len]; exact Nat.le_refl _), List.nil_append]
  have hw := wd_le f
  have hp := prime_wd hf
  have hel : rdEls (wd f) l.length (els (wd f) l ++ r) = l := rdEls_els _ hw r l (fun x hx => ⟨(hu x hx).1, by have := below_iff.1 hbel x hx; omega⟩)
  unfold readListOf
  rw [hrd, hrc, hd5]
  simp only [Int.toNat_natCast]
  have em : ((l.length * wd f : Nat) : Int) = (l.length : Int) * ((wd f : Nat) : Int) := by push_cast; rfl
  have hlen : (f :: (be 4 (l.length : Int) ++ (els (wd f) l ++ r))).length = 5 + l.length * wd f + r.length := by simp [be_len, els_len]; omega
  rw [if_neg (by rw [hlen]; omega), if_neg (by simp [hf]), if_neg (by simp), if_neg (by omega), if_neg (by rw [hlen, ← em]; omega), hel, if_neg (by simp [hbel])]
  refine Prod.ext rfl (Prod.ext rfl (Prod.ext ?_ rfl))
  simp [be_len, els_len]; omega
end Go.Proofs.Ytclanpkekocndaa.Plain
