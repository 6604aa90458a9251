/- What List, ReadList, Seal, Unseal of the package wire come to, in plain words: for all bytes and numbers. -/
import Derived.Test.YtclanpkekocndaaPureWire
import Derived.Test.YtclanpkekocndaaPureField
import Derived.Test.YtclanpkekocndaaPx16
import Derived.Test.YtclanpkekocndaaPx18
import Derived.Test.YtclanpkekocndaaPx20
import Derived.Test.YtclanpkekocndaaPx21
namespace Go.Proofs.Ytclanpkekocndaa.Plain
open Go.RowKit Go.Proofs.Ytclanpkekocndaa.P Go.Proofs.YtclanpkekocndaaW.PrintWords Go.Proofs.YtclanpkekocndaaW.PrintLast Go.Proofs.YtclanpkekocndaaW.PrintMore
set_option linter.unusedVariables false
set_option linter.unusedSimpArgs false

/-- How many bytes an element has. -/
def wd (f : Int) : Nat := if f = 1 then 4 else 8
theorem wd_le (f : Int) : wd f ≤ 8 := by unfold wd; split <;> omega
theorem wd_ge (f : Int) : 4 ≤ wd f := by unfold wd; split <;> omega
theorem width_f (f : Int) : wire_width.f f = some ((wd f : Nat) : Int) := by unfold wire_width.f wd; split <;> rfl
/-- The elements as bytes. -/
def els (w : Nat) : List Int → List Int
  | [] => []
  | x :: l => be w x ++ els w l
theorem els_len (w : Nat) (l : List Int) : (els w l).length = l.length * w := by
  induction l with
  | nil => simp [els]
  | cons x l ih => simp only [els, List.length_append, be_len, ih, List.length_cons, Nat.succ_mul]; omega
theorem els_bytes (w : Nat) (l : List Int) : Bytes (els w l) := by
  induction l with
  | nil => intro x hx; simp [els] at hx
  | cons x l ih => exact (be_bytes w x).append ih
/-- List's answer. -/
def listOf (f : Int) (l : List Int) : List Int × Int := if inF f l then (if l.length > 4096 then ([], 4) else (f :: (be 4 l.length ++ els (wd f) l), 0)) else ([], 2)
theorem List_ev (f : Int) (l : List Int) (hl : l.length ≤ 4096) : ∀ (d i : Nat) (acc : List Int), i + d = l.length → acc.length ≤ 5 + 8 * i → Ev (fun k => wire_List.l0 k f acc l (l.length : Int) (i : Int)) (acc ++ els (wd f) (l.drop i), 0) := by
  intro d
  induction d with
  | zero =>
    intro i acc hi ha
    refine Ev.step (f := fun _ => some (acc, 0)) (fun k => ?_) (by rw [List.drop_eq_nil_of_le (by omega)]; simpa [els] using Ev.now _)
    simp only [wire_List.l0]
    rw [if_neg (by omega)]
  | succ d ih =>
    intro i acc hi ha
    have hlt : i < l.length := by omega
    have hw := wd_le f
    refine Ev.step (f := fun k => (wire_big.f k acc (rd l (i : Int)) ((wd f : Nat) : Int)).bind fun t => wire_List.l0 k f t l (l.length : Int) ((i + 1 : Nat) : Int)) (fun k => ?_) ?_
    · simp only [wire_List.l0]
      rw [if_pos (by omega), if_pos (by omega), if_pos (by omega), width_f]
      simp only [Option.bind_some]
      rw [w64 (by omega) (by omega)]; rfl
    · refine Ev.bind (f := fun k t => wire_List.l0 k f t l (l.length : Int) ((i + 1 : Nat) : Int)) (big_f acc (rd l (i : Int)) (wd f) hw (by omega)) ?_
      have := ih (i + 1) (acc ++ be (wd f) (rd l (i : Int))) (by omega) (by simp [be_len]; omega)
      rw [drop_at hlt]
      simpa [els] using this
theorem List_f (f : Int) (l : List Int) (hl : l.length ≤ 9223372036854775807) : Ev (fun k => wire_List.f k f l) (listOf f l) := by
  unfold wire_List.f listOf
  refine Ev.bind (f := fun k t => if t = true then _ else _) (In_f f l hl) ?_
  by_cases h : inF f l = true
  · simp only [h, if_true]
    by_cases h2 : l.length > 4096
    · rw [if_pos h2]
      refine Ev.congr (f := fun _ => some ([], 4)) (fun k => ?_) (Ev.now _)
      rw [if_pos (by omega)]
    · rw [if_neg h2]
      refine Ev.congr (f := fun k => (wire_big.f k [f] (l.length : Int) 4).bind fun t => wire_List.l0 k f t l (l.length : Int) 0) (fun k => ?_) ?_
      · rw [if_neg (by omega), wu64_in (by omega) (by omega)]
      · refine Ev.bind (f := fun k t => wire_List.l0 k f t l (l.length : Int) 0) (big_f [f] (l.length : Int) 4 (by omega) (by simp)) ?_
        have := List_ev f l (by omega) l.length 0 ([f] ++ be 4 (l.length : Int)) (by omega) (by simp [be_len])
        simpa using this
  · simp only [h, if_false]; exact Ev.now _
/-- Seal's answer. -/
def sealOf (a : List Int) : List Int × Int := if a.length > 1048576 then ([], 4) else ((be 4 a.length ++ a) ++ be 8 (sum (be 4 a.length ++ a)), 0)
theorem Seal_f (a : List Int) : Ev (fun k => wire_Seal.f k a) (sealOf a) := by
  unfold wire_Seal.f sealOf
  by_cases h : a.length > 1048576
  · rw [if_pos h]
    refine Ev.congr (f := fun _ => some ([], 4)) (fun k => ?_) (Ev.now _)
    rw [if_pos (by omega)]
  · rw [if_neg h]
    simp only [if_neg (show ¬ (a.length : Int) > 1048576 by omega), wu64_in (x := (a.length : Int)) (by omega) (by omega), Option.bind_some]
    refine Ev.bind (f := fun k t => _) (big_f [] (a.length : Int) 4 (by omega) (by simp)) ?_
    simp only [List.nil_append, be_len]
    simp only [if_pos (show 4 + a.length < 140737488355328 by omega)]
    refine Ev.bind (f := fun k t => _) (Sum_f (be 4 (a.length : Int) ++ a) (by simp [be_len]; omega)) ?_
    refine Ev.bind (f := fun k t => some (t, 0)) (big_f (be 4 (a.length : Int) ++ a) (sum (be 4 (a.length : Int) ++ a)) 8 (by omega) (by simp [be_len]; omega)) ?_
    exact Ev.now _
/-- The elements that so many bytes stand for. -/
def rdEls (w : Nat) : Nat → List Int → List Int
  | 0, _ => []
  | n + 1, b => tk 0 (b.take w) :: rdEls w n (b.drop w)
theorem rdEls_len (w n : Nat) : ∀ b, (rdEls w n b).length = n := by
  induction n with
  | zero => intro b; rfl
  | succ n ih => intro b; simp [rdEls, ih]
theorem rdEls_u64 (w n : Nat) : ∀ b, U64 (rdEls w n b) := by
  induction n with
  | zero => intro b x hx; simp [rdEls] at hx
  | succ n ih =>
    intro b x hx
    simp only [rdEls, List.mem_cons] at hx
    rcases hx with rfl | hx
    · exact tk_range (by omega) (by omega)
    · exact ih _ x hx
/-- ReadList's answer. -/
def readListOf (b : List Int) : Int × List Int × Int × Int :=
  if b.length = 0 then (0, [], 0, 7)
  else if isF (rd b 0) = false then (0, [], 0, 8)
  else if (readCount (b.drop 1)).2.2 ≠ 0 then (0, [], 0, (readCount (b.drop 1)).2.2)
  else if (readCount (b.drop 1)).1 > 4096 then (0, [], 0, 4)
  else if (b.length : Int) - 5 < (readCount (b.drop 1)).1 * (wd (rd b 0) : Nat) then (0, [], 0, 7)
  else if below (prime (rd b 0)) (rdEls (wd (rd b 0)) (readCount (b.drop 1)).1.toNat (b.drop 5)) = false then (0, [], 0, 8)
  else (rd b 0, rdEls (wd (rd b 0)) (readCount (b.drop 1)).1.toNat (b.drop 5), 5 + (readCount (b.drop 1)).1 * (wd (rd b 0) : Nat), 0)
theorem readCount_ok {l : List Int} (hb : Bytes l) (h : (readCount l).2.2 = 0) : 4 ≤ l.length ∧ (readCount l).2.1 = 4 ∧ 0 ≤ (readCount l).1 ∧ (readCount l).1 ≤ 2147483647 := by
  unfold readCount at h ⊢
  have hr := tk_range (l := l.take 4) (s := 0) (by omega) (by omega)
  by_cases h0 : l.length < 4
  · simp [if_pos h0] at h
  · simp only [if_neg h0] at h ⊢
    by_cases h1 : tk 0 (l.take 4) > 2147483647
    · simp [if_pos h1] at h
    · simp only [if_neg h1] at h ⊢; exact ⟨by omega, trivial, by omega, by omega⟩
set_option maxRecDepth 100000 in
theorem ReadList_ev (b : List Int) (hb : Bytes b) (hl : b.length ≤ 140737488351232) (n : Nat) (hn : n ≤ 4096) (hf : isF (rd b 0) = true) : ∀ (d i pos : Nat) (acc : List Int), i + d = n → acc.length = i → pos + d * wd (rd b 0) ≤ b.length →
    Ev (fun k => wire_ReadList.l0 k b (rd b 0) acc (n : Int) 5 (pos : Int) (n : Int) (i : Int)) (if below (prime (rd b 0)) (acc ++ rdEls (wd (rd b 0)) d (b.drop pos)) = false then (0, [], 0, 8) else (rd b 0, acc ++ rdEls (wd (rd b 0)) d (b.drop pos), 5 + (n : Int) * (wd (rd b 0) : Nat), 0)) := by
  have hw := wd_le (rd b 0)
  have hw4 := wd_ge (rd b 0)
  intro d
  induction d with
  | zero =>
    intro i pos acc hi ha hp
    refine Ev.step (f := fun k => (field_In.f k (rd b 0) acc).bind fun t => if t = true then some (rd b 0, acc, 5 + (n : Int) * (wd (rd b 0) : Nat), 0) else some (0, [], 0, 8)) (fun k => ?_) ?_
    · simp only [wire_ReadList.l0]
      rw [if_neg (by omega)]
      simp only [width_f, Option.bind_some]
      have h1 : (n : Int) * ((wd (rd b 0) : Nat) : Int) ≤ 4096 * 8 := by
        have := Nat.mul_le_mul hn hw
        exact_mod_cast this
      have h0 : 0 ≤ (n : Int) * ((wd (rd b 0) : Nat) : Int) := by exact_mod_cast Nat.zero_le _
      rw [w64 (x := (n : Int) * ((wd (rd b 0) : Nat) : Int)) (by omega) (by omega), w64 (by omega) (by omega)]
    · refine Ev.bind (f := fun k t => if t = true then some (rd b 0, acc, 5 + (n : Int) * (wd (rd b 0) : Nat), 0) else some (0, [], 0, 8)) (In_f (rd b 0) acc (by omega)) ?_
      simp only [rdEls, List.append_nil, inF, hf, Bool.true_and]
      cases hbl : below (prime (rd b 0)) acc with
      | true => exact Ev.now _
      | false => exact Ev.now _
  | succ d ih =>
    intro i pos acc hi ha hp
    rw [Nat.succ_mul] at hp
    refine Ev.step (f := fun k => (wire_taken.f k ((b.drop pos).take (wd (rd b 0)))).bind fun t => if acc.length < 17592186044416 then (wire_width.f (rd b 0)).bind fun t3 => wire_ReadList.l0 k b (rd b 0) (acc ++ [t]) (n : Int) 5 (wrap64 ((pos : Int) + t3)) (n : Int) (wrap64 ((i : Int) + 1)) else none) (fun k => ?_) ?_
    · simp only [wire_ReadList.l0]
      rw [if_pos (by omega), width_f, Option.bind_some]
      rw [if_pos (by omega), w64 (x := (pos : Int) + ((wd (rd b 0) : Nat) : Int)) (by omega) (by omega), if_pos (by omega), if_pos (by omega)]
      rw [show ((pos : Int) + ((wd (rd b 0) : Nat) : Int)).toNat = pos + wd (rd b 0) by omega, show (pos : Int).toNat = pos by omega, List.drop_take, show pos + wd (rd b 0) - pos = wd (rd b 0) by omega]
    · refine Ev.bind (f := fun k t => if acc.length < 17592186044416 then (wire_width.f (rd b 0)).bind fun t3 => wire_ReadList.l0 k b (rd b 0) (acc ++ [t]) (n : Int) 5 (wrap64 ((pos : Int) + t3)) (n : Int) (wrap64 ((i : Int) + 1)) else none) (taken_f _ ((hb.drop pos).take _) (by simp; omega)) ?_
      have := ih (i + 1) (pos + wd (rd b 0)) (acc ++ [tk 0 ((b.drop pos).take (wd (rd b 0)))]) (by omega) (by simp; omega) (by omega)
      refine Ev.congr (f := fun k => wire_ReadList.l0 k b (rd b 0) (acc ++ [tk 0 ((b.drop pos).take (wd (rd b 0)))]) (n : Int) 5 ((pos + wd (rd b 0) : Nat) : Int) (n : Int) ((i + 1 : Nat) : Int)) (fun k => ?_) (by simpa [rdEls, List.drop_drop, Nat.add_comm] using this)
      rw [if_pos (by omega), width_f, Option.bind_some, w64 (x := (pos : Int) + ((wd (rd b 0) : Nat) : Int)) (by omega) (by omega), w64 (x := (i : Int) + 1) (by omega) (by omega)]
      rw [show ((i : Int) + 1) = ((i + 1 : Nat) : Int) by omega, show ((pos : Int) + ((wd (rd b 0) : Nat) : Int)) = ((pos + wd (rd b 0) : Nat) : Int) by omega]
set_option maxRecDepth 100000 in
theorem ReadList_f (b : List Int) (hb : Bytes b) (hl : b.length ≤ 140737488351232) : Ev (fun k => wire_ReadList.f k b) (readListOf b) := by
  unfold wire_ReadList.f readListOf
  by_cases h0 : b.length = 0
  · rw [if_pos h0]
    refine Ev.congr (f := fun _ => some (0, [], 0, 7)) (fun k => ?_) (Ev.now _)
    rw [if_pos (by omega)]
  · rw [if_neg h0]
    simp only [if_neg (show ¬ (b.length : Int) = 0 by omega), if_pos (show 0 < (b.length : Int) by omega)]
    refine Ev.bind (f := fun k t => _) (In_f (rd b 0) [] (by simp)) ?_
    simp only [inF, below_nil, Bool.and_true]
    cases hf : isF (rd b 0) with
    | false => simp only [if_true, Bool.false_eq_true, if_false]; exact Ev.now _
    | true =>
      simp only [if_true, Bool.true_eq_false, if_false, if_pos (show 1 ≤ (b.length : Int) by omega)]
      refine Ev.bind (f := fun k t => _) (ReadCount_f (b.drop 1) (hb.drop 1)) ?_
      by_cases hc : (readCount (b.drop 1)).2.2 = 0
      · obtain ⟨q1, q2, q3, q4⟩ := readCount_ok (hb.drop 1) hc
        rw [List.length_drop] at q1
        have hw := wd_le (rd b 0)
        simp only [hc, if_true, ne_eq, not_true_eq_false, if_false]
        by_cases h4 : (readCount (b.drop 1)).1 > 4096
        · simp only [if_pos h4]; exact Ev.now _
        · simp only [if_neg h4, width_f, Option.bind_some, q2]
          obtain ⟨n, hn⟩ := Int.eq_ofNat_of_zero_le q3
          rw [hn] at h4 ⊢
          have h1 : (n : Int) * ((wd (rd b 0) : Nat) : Int) ≤ 4096 * 8 := by
            have := Nat.mul_le_mul (show n ≤ 4096 by omega) hw
            exact_mod_cast this
          have h2 : 0 ≤ (n : Int) * ((wd (rd b 0) : Nat) : Int) := by exact_mod_cast Nat.zero_le _
          rw [w64 (x := (4 : Int) + 1) (by omega) (by omega), w64 (x := (b.length : Int) - (4 + 1)) (by omega) (by omega), w64 (x := (n : Int) * ((wd (rd b 0) : Nat) : Int)) (by omega) (by omega)]
          simp only [show (4 : Int) + 1 = 5 by omega]
          by_cases h5 : (b.length : Int) - 5 < (n : Int) * ((wd (rd b 0) : Nat) : Int)
          · simp only [if_pos h5]; exact Ev.now _
          · simp only [if_neg h5]
            have h6 : 5 + n * wd (rd b 0) ≤ b.length := by
              have : ((n * wd (rd b 0) : Nat) : Int) = (n : Int) * ((wd (rd b 0) : Nat) : Int) := by push_cast; rfl
              omega
            have := ReadList_ev b hb hl n (by omega) hf n 0 5 [] (by omega) rfl h6
            simpa using this
      · simp only [if_neg hc, ne_eq, hc, not_false_eq_true, if_true]; exact Ev.now _
/-- Unseal's answer. -/
def unsealOf (b : List Int) : List Int × Int × Int :=
  if (readCount b).2.2 ≠ 0 then ([], 0, (readCount b).2.2)
  else if (readCount b).1 > 1048576 then ([], 0, 4)
  else if (b.length : Int) - 4 < (readCount b).1 + 8 then ([], 0, 7)
  else if tk 0 ((b.drop (4 + (readCount b).1.toNat)).take 8) = sum (b.take (4 + (readCount b).1.toNat)) then ((b.take (4 + (readCount b).1.toNat)).drop 4, 12 + (readCount b).1, 0)
  else ([], 0, 80)
set_option maxRecDepth 100000 in
theorem Unseal_f (b : List Int) (hb : Bytes b) (hl : b.length ≤ 140737488351232) : Ev (fun k => wire_Unseal.f k b) (unsealOf b) := by
  unfold wire_Unseal.f
  refine Ev.bind (f := fun k t => _) (ReadCount_f b hb) ?_
  by_cases hc : (readCount b).2.2 = 0
  · obtain ⟨q1, q2, q3, q4⟩ := readCount_ok hb hc
    obtain ⟨n, hn⟩ := Int.eq_ofNat_of_zero_le q3
    simp only [hc, if_true, q2, hn]
    by_cases h1 : (n : Int) > 1048576
    · simp only [if_pos h1]
      rw [show unsealOf b = ([], 0, 4) by unfold unsealOf; rw [if_neg (by simp [hc]), if_pos (by omega)]]
      exact Ev.now _
    · simp only [if_neg h1]
      rw [w64 (x := (b.length : Int) - 4) (by omega) (by omega), w64 (x := (n : Int) + 8) (by omega) (by omega), w64 (x := (4 : Int) + n) (by omega) (by omega)]
      by_cases h2 : (b.length : Int) - 4 < (n : Int) + 8
      · simp only [if_pos h2]
        rw [show unsealOf b = ([], 0, 7) by unfold unsealOf; rw [if_neg (by simp [hc]), if_neg (by omega), if_pos (by omega)]]
        exact Ev.now _
      · simp only [if_neg h2]
        rw [w64 (x := (4 : Int) + n + 8) (by omega) (by omega)]
        simp only [if_pos (show (0 : Int) ≤ 4 + n by omega), if_pos (show (4 : Int) + n ≤ 4 + n + 8 by omega), if_pos (show (4 : Int) + n + 8 ≤ b.length by omega), if_pos (show (4 : Int) + n ≤ b.length by omega), if_pos (show (0 : Int) ≤ 4 by omega), if_pos (show (4 : Int) ≤ 4 + n by omega)]
        have e1 : (b.take ((4 : Int) + n + 8).toNat).drop ((4 : Int) + n).toNat = (b.drop (4 + n)).take 8 := by
          rw [List.drop_take, show ((4 : Int) + n + 8).toNat - ((4 : Int) + n).toNat = 8 by omega, show ((4 : Int) + n).toNat = 4 + n by omega]
        have e2 : ((4 : Int) + n).toNat = 4 + n := by omega
        rw [e1, e2]
        refine Ev.bind (f := fun k t => _) (taken_f _ ((hb.drop _).take _) (by simp; omega)) ?_
        refine Ev.bind (f := fun k t => _) (Sum_f _ (by simp; omega)) ?_
        by_cases h3 : tk 0 ((b.drop (4 + n)).take 8) = sum (b.take (4 + n))
        · rw [show unsealOf b = ((b.take (4 + n)).drop 4, 12 + (n : Int), 0) by unfold unsealOf; rw [if_neg (by simp [hc]), if_neg (by omega), if_neg (by omega), hn, Int.toNat_natCast, if_pos h3]]
          simp only [if_pos h3]
          have e3 : ([] : List Int).length + ((b.take (4 + n)).drop (4 : Int).toNat).length < 140737488355328 := by simp; omega
          simp only [if_pos e3]
          have e4 : (4 : Int) + n + 8 = 12 + n := by omega
          rw [e4]
          exact Ev.now _
        · rw [show unsealOf b = ([], 0, 80) by unfold unsealOf; rw [if_neg (by simp [hc]), if_neg (by omega), if_neg (by omega), hn, Int.toNat_natCast, if_neg h3]]
          simp only [if_neg h3]
          exact Ev.now _
  · rw [show unsealOf b = ([], 0, (readCount b).2.2) by unfold unsealOf; rw [if_pos hc]]
    simp only [if_neg hc]; exact Ev.now _
end Go.Proofs.Ytclanpkekocndaa.Plain
