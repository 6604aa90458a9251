/- What List, ReadList, Seal, Unseal of the reference come to, in plain words. -/
import Derived.Test.YtclanpkekocndaaPureWireList
import Derived.Test.YtclanpkekocndaaPureWireRef
import Derived.Test.YtclanpkekocndaaPureFieldRef
import Derived.Test.YtclanpkekocndaaPureSame
import Derived.Test.YtclanpkekocndaaPx16
import Derived.Test.YtclanpkekocndaaPx17
import Derived.Test.YtclanpkekocndaaPx19
import Derived.Test.YtclanpkekocndaaPx20
import Derived.Test.YtclanpkekocndaaPx22
namespace Go.Proofs.Ytclanpkekocndaa.Plain
open Go.RowKit Go.Proofs.Ytclanpkekocndaa.P Go.Proofs.YtclanpkekocndaaW.PrintWords Go.Proofs.YtclanpkekocndaaW.PrintLast Go.Proofs.YtclanpkekocndaaW.PrintMore
set_option linter.unusedVariables false
set_option linter.unusedSimpArgs false

theorem rwidth_f {f : Int} (h : isF f = true) : conclaveref08_width.f f = some ((wd f : Nat) : Int) := by
  rcases isF_or h with rfl | rfl <;> simp [conclaveref08_width.f, wd, wrap64]
theorem rList_ev (f : Int) (hf : isF f = true) (l : List Int) (hl : l.length ≤ 4096) : ∀ (d i : Nat) (acc : List Int), i + d = l.length → acc.length ≤ 5 + 8 * i → Ev (fun k => conclaveref08_List.l0 k f l acc (i : Int)) (acc ++ els (wd f) (l.drop i), 0) := by
  intro d
  induction d with
  | zero =>
    intro i acc hi ha
    refine Ev.step (f := fun _ => some (acc, 0)) (fun k => ?_) (by rw [List.drop_eq_nil_of_le (by omega)]; simpa [els] using Ev.now _)
    simp only [conclaveref08_List.l0]
    rw [if_neg (by omega)]
  | succ d ih =>
    intro i acc hi ha
    have hlt : i < l.length := by omega
    have hw := wd_le f
    refine Ev.step (f := fun k => (conclaveref08_Wide.f k (rd l (i : Int)) ((wd f : Nat) : Int)).bind fun t => if acc.length + t.length < 140737488355328 then conclaveref08_List.l0 k f l (acc ++ t) ((i + 1 : Nat) : Int) else none) (fun k => ?_) ?_
    · simp only [conclaveref08_List.l0]
      rw [if_pos (by omega), if_pos (by omega), rwidth_f hf]
      simp only [Option.bind_some]
      rw [w64 (by omega) (by omega)]; rfl
    · refine Ev.bind (f := fun k t => if acc.length + t.length < 140737488355328 then conclaveref08_List.l0 k f l (acc ++ t) ((i + 1 : Nat) : Int) else none) (Wide_f (rd l (i : Int)) (wd f) hw) ?_
      have := ih (i + 1) (acc ++ be (wd f) (rd l (i : Int))) (by omega) (by simp [be_len]; omega)
      simp only [be_len]
      simp only [if_pos (show acc.length + wd f < 140737488355328 by omega)]
      rw [drop_at hlt]
      simpa [els] using this
theorem rList_f (f : Int) (l : List Int) (hu : U64 l) (hl : l.length ≤ 9223372036854775807) : Ev (fun k => conclaveref08_List.f k f l) (listOf f l) := by
  unfold conclaveref08_List.f listOf
  refine Ev.bind (f := fun k t => if t = true then _ else _) (rIn_f f l hu hl) ?_
  by_cases h : inF f l = true
  · simp only [h, if_true]
    by_cases h2 : l.length > 4096
    · rw [if_pos h2]
      refine Ev.congr (f := fun _ => some ([], 4)) (fun k => ?_) (Ev.now _)
      rw [if_pos (by omega)]
    · rw [if_neg h2]
      refine Ev.congr (f := fun k => (conclaveref08_Wide.f k (l.length : Int) 4).bind fun t => if ([f] : List Int).length + t.length < 140737488355328 then conclaveref08_List.l0 k f l ([f] ++ t) 0 else none) (fun k => ?_) ?_
      · rw [if_neg (by omega), wu64_in (by omega) (by omega)]; rfl
      · refine Ev.bind (f := fun k t => if ([f] : List Int).length + t.length < 140737488355328 then conclaveref08_List.l0 k f l ([f] ++ t) 0 else none) (Wide_f (l.length : Int) 4 (by omega)) ?_
        have := rList_ev f (inF_isF h) l (by omega) l.length 0 ([f] ++ be 4 (l.length : Int)) (by omega) (by simp [be_len])
        simp only [be_len]
        simp only [if_pos (show ([f] : List Int).length + 4 < 140737488355328 by simp)]
        simpa using this
  · simp only [h, if_false]; exact Ev.now _
theorem rSeal_f (a : List Int) : Ev (fun k => conclaveref08_Seal.f k a) (sealOf a) := by
  unfold conclaveref08_Seal.f sealOf
  by_cases h : a.length > 1048576
  · rw [if_pos h]
    refine Ev.congr (f := fun _ => some ([], 4)) (fun k => ?_) (Ev.now _)
    rw [if_pos (by omega)]
  · rw [if_neg h]
    simp only [if_neg (show ¬ (a.length : Int) > 1048576 by omega), wu64_in (x := (a.length : Int)) (by omega) (by omega), Option.bind_some]
    refine Ev.bind (f := fun k t => _) (Wide_f (a.length : Int) 4 (by omega)) ?_
    simp only [be_len]
    simp only [if_pos (show 4 + a.length < 140737488355328 by omega)]
    refine Ev.bind (f := fun k t => _) (rSum_f (be 4 (a.length : Int) ++ a) (by simp [be_len]; omega)) ?_
    refine Ev.bind (f := fun k t => _) (Wide_f (sum (be 4 (a.length : Int) ++ a)) 8 (by omega)) ?_
    simp only [be_len, List.length_append]
    simp only [if_pos (show 4 + a.length + 8 < 140737488355328 by omega)]
    exact Ev.now _
set_option maxRecDepth 100000 in
theorem rUnseal_f (b : List Int) (hb : Bytes b) (hl : b.length ≤ 140737488351232) : Ev (fun k => conclaveref08_Unseal.f k b) (unsealOf b) := by
  unfold conclaveref08_Unseal.f
  refine Ev.bind (f := fun k t => _) (rReadCount_f b hb) ?_
  have fin : ∀ x5 e : Int, e ≠ 0 → Ev (fun k => conclaveref08_Unseal.j1 k b x5 e) ([], 0, e) := by
    intro x5 e he
    refine Ev.step (f := fun k => conclaveref08_Unseal.j2 k b x5 e false) (fun k => by simp only [conclaveref08_Unseal.j1, if_neg he]) ?_
    refine Ev.step (f := fun k => conclaveref08_Unseal.j3 k b x5 e) (fun k => by simp only [conclaveref08_Unseal.j2, Bool.false_eq_true, if_false]) ?_
    refine Ev.step (f := fun k => conclaveref08_Unseal.j4 k b x5 e false) (fun k => by simp only [conclaveref08_Unseal.j3, if_neg he]) ?_
    exact Ev.step (f := fun k => some ([], 0, e)) (fun k => by simp only [conclaveref08_Unseal.j4, Bool.false_eq_true, if_false, if_neg he]) (Ev.now _)
  by_cases hc : (readCount b).2.2 = 0
  · obtain ⟨q1, q2, q3, q4⟩ := readCount_ok hb hc
    obtain ⟨n, hn⟩ := Int.eq_ofNat_of_zero_le q3
    simp only [hc, if_true, hn]
    by_cases h1 : (n : Int) > 1048576
    · rw [show unsealOf b = ([], 0, 4) by unfold unsealOf; rw [if_neg (by simp [hc]), if_pos (by omega)]]
      refine Ev.step (f := fun k => conclaveref08_Unseal.j1 k b n 4) (fun k => by simp only [conclaveref08_Unseal.j0, decide_eq_true h1, if_true]) (fin n 4 (by omega))
    · refine Ev.step (f := fun k => conclaveref08_Unseal.j1 k b n 0) (fun k => by simp only [conclaveref08_Unseal.j0, decide_eq_false h1, Bool.false_eq_true, if_false]) ?_
      refine Ev.step (f := fun k => conclaveref08_Unseal.j2 k b n 0 (decide ((b.length : Int) < (4 + n) + 8))) (fun k => by simp only [conclaveref08_Unseal.j1, if_true]; rw [w64 (x := (4 : Int) + n) (by omega) (by omega), w64 (x := (4 : Int) + n + 8) (by omega) (by omega)]) ?_
      by_cases h2 : (b.length : Int) - 4 < (n : Int) + 8
      · rw [show unsealOf b = ([], 0, 7) by unfold unsealOf; rw [if_neg (by simp [hc]), if_neg (by omega), if_pos (by omega)]]
        have h2' : (b.length : Int) < (4 + n) + 8 := by omega
        refine Ev.step (f := fun k => conclaveref08_Unseal.j3 k b n 7) (fun k => by simp only [conclaveref08_Unseal.j2, decide_eq_true h2', if_true]) ?_
        refine Ev.step (f := fun k => conclaveref08_Unseal.j4 k b n 7 false) (fun k => by simp only [conclaveref08_Unseal.j3, if_neg (show ¬ (7 : Int) = 0 by omega)]) ?_
        exact Ev.step (f := fun k => some ([], 0, 7)) (fun k => by simp only [conclaveref08_Unseal.j4, Bool.false_eq_true, if_false, if_neg (show ¬ (7 : Int) = 0 by omega)]) (Ev.now _)
      · have h2' : ¬ (b.length : Int) < (4 + n) + 8 := by omega
        refine Ev.step (f := fun k => conclaveref08_Unseal.j3 k b n 0) (fun k => by simp only [conclaveref08_Unseal.j2, decide_eq_false h2', Bool.false_eq_true, if_false]) ?_
        have e1 : (b.take ((12 : Int) + n).toNat).drop ((4 : Int) + n).toNat = (b.drop (4 + n)).take 8 := by
          rw [List.drop_take, show ((12 : Int) + n).toNat - ((4 : Int) + n).toNat = 8 by omega, show ((4 : Int) + n).toNat = 4 + n by omega]
        have e2 : ((4 : Int) + n).toNat = 4 + n := by omega
        refine Ev.step (f := fun k => (conclaveref08_Taken.f k ((b.drop (4 + n)).take 8)).bind fun t => (conclaveref08_Sum.f k (b.take (4 + n))).bind fun t2 => conclaveref08_Unseal.j4 k b n 0 (t != t2)) (fun k => ?_) ?_
        · simp only [conclaveref08_Unseal.j3, if_true]
          rw [w64 (x := (4 : Int) + n) (by omega) (by omega), w64 (x := (12 : Int) + n) (by omega) (by omega)]
          rw [if_pos (by omega), if_pos (by omega), if_pos (by omega)]
          simp only [if_pos (show (4 : Int) + n ≤ b.length by omega)]
          rw [e1, e2]
        · refine Ev.bind (f := fun k t => (conclaveref08_Sum.f k (b.take (4 + n))).bind fun t2 => conclaveref08_Unseal.j4 k b n 0 (t != t2)) (Taken_f _ ((hb.drop _).take _) (by simp; omega)) ?_
          refine Ev.bind (f := fun k t2 => conclaveref08_Unseal.j4 k b n 0 (tk 0 ((b.drop (4 + n)).take 8) != t2)) (rSum_f _ (by simp; omega)) ?_
          by_cases h3 : tk 0 ((b.drop (4 + n)).take 8) = sum (b.take (4 + n))
          · rw [show unsealOf b = ((b.take (4 + n)).drop 4, 12 + (n : Int), 0) by unfold unsealOf; rw [if_neg (by simp [hc]), if_neg (by omega), if_neg (by omega), hn, Int.toNat_natCast, if_pos h3]]
            refine Ev.step (f := fun k => some ((b.take (4 + n)).drop 4, 12 + (n : Int), 0)) (fun k => ?_) (Ev.now _)
            have h3' : (tk 0 ((b.drop (4 + n)).take 8) != sum (b.take (4 + n))) = false := by simpa using h3
            simp only [conclaveref08_Unseal.j4, h3', Bool.false_eq_true, if_false, if_true]
            rw [w64 (x := (4 : Int) + n) (by omega) (by omega), w64 (x := (12 : Int) + n) (by omega) (by omega), if_pos (by omega), if_pos (by omega), e2, Bytes_f _ (by simp; omega), Option.bind_some]
          · rw [show unsealOf b = ([], 0, 80) by unfold unsealOf; rw [if_neg (by simp [hc]), if_neg (by omega), if_neg (by omega), hn, Int.toNat_natCast, if_neg h3]]
            refine Ev.step (f := fun k => some ([], 0, 80)) (fun k => ?_) (Ev.now _)
            have h3' : (tk 0 ((b.drop (4 + n)).take 8) != sum (b.take (4 + n))) = true := by simpa using h3
            simp only [conclaveref08_Unseal.j4, h3', if_true]
            rw [if_neg (by omega)]
  · rw [show unsealOf b = ([], 0, (readCount b).2.2) by unfold unsealOf; rw [if_pos hc]]
    simp only [if_neg hc]
    exact Ev.step (f := fun k => conclaveref08_Unseal.j1 k b (readCount b).1 (readCount b).2.2) (fun k => by simp only [conclaveref08_Unseal.j0, Bool.false_eq_true, if_false]) (fin _ _ hc)
theorem rReadList_end (b : List Int) (f n : Int) (pos : Int) (e : Int) (acc : List Int) (i : Int) (h : ¬ (i < n ∧ e = 0)) : Ev (fun k => conclaveref08_ReadList.l0 k b f n pos e acc i) (if e = 0 then (f, acc, pos, 0) else (0, [], 0, e)) := by
  have h6 : Ev (fun k => conclaveref08_ReadList.j6 k b f n pos e acc i false) (if e = 0 then (f, acc, pos, 0) else (0, [], 0, e)) := by
    refine Ev.step (f := fun k => some (if e = 0 then (f, acc, pos, 0) else (0, [], 0, e))) (fun k => ?_) (Ev.now _)
    simp only [conclaveref08_ReadList.j6, Bool.false_eq_true, if_false]
    by_cases he : e = 0
    · rw [if_pos he, if_pos he]
    · rw [if_neg he, if_neg he]
  by_cases hi : i < n
  · have he : ¬ e = 0 := fun he => h ⟨hi, he⟩
    refine Ev.step (f := fun k => conclaveref08_ReadList.j6 k b f n pos e acc i false) (fun k => ?_) h6
    simp only [conclaveref08_ReadList.l0, if_pos hi]
    rw [show (e == 0) = false by simpa using he]
  · refine Ev.step (f := fun k => conclaveref08_ReadList.j6 k b f n pos e acc i false) (fun k => ?_) h6
    simp only [conclaveref08_ReadList.l0, if_neg hi]
theorem rReadList_ev (b : List Int) (hb : Bytes b) (hl : b.length ≤ 140737488351232) (n : Nat) (hn : n ≤ 4096) (hf : isF (rd b 0) = true) : ∀ (d i pos : Nat) (acc : List Int), i + d = n → acc.length = i → pos + d * wd (rd b 0) ≤ b.length → below (prime (rd b 0)) acc = true →
    Ev (fun k => conclaveref08_ReadList.l0 k b (rd b 0) (n : Int) (pos : Int) 0 acc (i : Int)) (if below (prime (rd b 0)) (acc ++ rdEls (wd (rd b 0)) d (b.drop pos)) = false then (0, [], 0, 8) else (rd b 0, acc ++ rdEls (wd (rd b 0)) d (b.drop pos), (pos : Int) + (d : Int) * (wd (rd b 0) : Nat), 0)) := by
  have hw := wd_le (rd b 0)
  have hw4 := wd_ge (rd b 0)
  intro d
  induction d with
  | zero =>
    intro i pos acc hi ha hp hacc
    have := rReadList_end b (rd b 0) n pos 0 acc i (by omega)
    simpa [rdEls, hacc] using this
  | succ d ih =>
    intro i pos acc hi ha hp hacc
    rw [Nat.succ_mul] at hp
    have e1 : (b.take ((pos : Int) + ((wd (rd b 0) : Nat) : Int)).toNat).drop (pos : Int).toNat = (b.drop pos).take (wd (rd b 0)) := by
      rw [show ((pos : Int) + ((wd (rd b 0) : Nat) : Int)).toNat = pos + wd (rd b 0) by omega, show (pos : Int).toNat = pos by omega, List.drop_take, show pos + wd (rd b 0) - pos = wd (rd b 0) by omega]
    have hx := tk_range (l := (b.drop pos).take (wd (rd b 0))) (s := 0) (by omega) (by omega)
    obtain ⟨x, hxe⟩ : ∃ x, x = tk 0 ((b.drop pos).take (wd (rd b 0))) := ⟨_, rfl⟩
    rw [← hxe] at hx
    have hin : inF (rd b 0) [x] = decide (x < prime (rd b 0)) := by simp [inF, hf, below]
    refine Ev.step (f := fun k => conclaveref08_ReadList.j6 k b (rd b 0) (n : Int) (pos : Int) 0 acc (i : Int) true) (fun k => by simp only [conclaveref08_ReadList.l0, if_pos (show (i : Int) < n by omega)]; rfl) ?_
    refine Ev.step (f := fun k => (conclaveref08_Taken.f k ((b.drop pos).take (wd (rd b 0)))).bind fun t => (conclaveref01_In.f k (rd b 0) [t]).bind fun t2 => if t2 = true then (if acc.length < 17592186044416 then ((conclaveref08_width.f (rd b 0)).bind fun t347 => (conclaveref08_ReadList.l0 k b (rd b 0) n (wrap64 (pos + t347)) 0 (acc ++ [t]) (wrap64 (i + 1)))) else (none)) else (if acc.length < 17592186044416 then ((conclaveref08_width.f (rd b 0)).bind fun t351 => (conclaveref08_ReadList.l0 k b (rd b 0) n (wrap64 (pos + t351)) 8 (acc ++ [t]) (wrap64 (i + 1)))) else (none))) (fun k => ?_) ?_
    · simp only [conclaveref08_ReadList.j6, if_true]
      rw [rwidth_f hf, Option.bind_some, if_pos (by omega), w64 (x := (pos : Int) + ((wd (rd b 0) : Nat) : Int)) (by omega) (by omega), if_pos (by omega), if_pos (by omega), e1]
    · refine Ev.bind (f := fun k t => (conclaveref01_In.f k (rd b 0) [t]).bind fun t2 => if t2 = true then (if acc.length < 17592186044416 then ((conclaveref08_width.f (rd b 0)).bind fun t347 => (conclaveref08_ReadList.l0 k b (rd b 0) n (wrap64 (pos + t347)) 0 (acc ++ [t]) (wrap64 (i + 1)))) else (none)) else (if acc.length < 17592186044416 then ((conclaveref08_width.f (rd b 0)).bind fun t351 => (conclaveref08_ReadList.l0 k b (rd b 0) n (wrap64 (pos + t351)) 8 (acc ++ [t]) (wrap64 (i + 1)))) else (none))) (Taken_f _ ((hb.drop pos).take _) (by simp; omega)) ?_
      rw [← hxe]
      refine Ev.bind (f := fun k t2 => if t2 = true then (if acc.length < 17592186044416 then ((conclaveref08_width.f (rd b 0)).bind fun t347 => (conclaveref08_ReadList.l0 k b (rd b 0) n (wrap64 (pos + t347)) 0 (acc ++ [x]) (wrap64 (i + 1)))) else (none)) else (if acc.length < 17592186044416 then ((conclaveref08_width.f (rd b 0)).bind fun t351 => (conclaveref08_ReadList.l0 k b (rd b 0) n (wrap64 (pos + t351)) 8 (acc ++ [x]) (wrap64 (i + 1)))) else (none))) (rIn_f (rd b 0) [x] (fun y hy => by simp at hy; subst hy; exact hx) (by simp)) ?_
      rw [hin]
      by_cases hlt : x < prime (rd b 0)
      · have := ih (i + 1) (pos + wd (rd b 0)) (acc ++ [x]) (by omega) (by simp; omega) (by omega) (by rw [below_append, hacc]; simpa [below] using hlt)
        refine Ev.congr (f := fun k => conclaveref08_ReadList.l0 k b (rd b 0) n ((pos + wd (rd b 0) : Nat) : Int) 0 (acc ++ [x]) ((i + 1 : Nat) : Int)) (fun k => ?_) ?_
        · rw [if_pos (decide_eq_true hlt), if_pos (by omega), rwidth_f hf, Option.bind_some, w64 (x := (pos : Int) + ((wd (rd b 0) : Nat) : Int)) (by omega) (by omega), w64 (x := (i : Int) + 1) (by omega) (by omega)]
          rw [show ((i : Int) + 1) = ((i + 1 : Nat) : Int) by omega, show ((pos : Int) + ((wd (rd b 0) : Nat) : Int)) = ((pos + wd (rd b 0) : Nat) : Int) by omega]
        · rw [List.append_assoc] at this
          simp only [rdEls, ← hxe, List.drop_drop]
          rw [show ((pos + wd (rd b 0) : Nat) : Int) + (d : Int) * ((wd (rd b 0) : Nat) : Int) = (pos : Int) + ((d + 1 : Nat) : Int) * ((wd (rd b 0) : Nat) : Int) by push_cast; rw [Int.add_mul]; omega] at this
          simpa using this
      · refine Ev.congr (f := fun k => conclaveref08_ReadList.l0 k b (rd b 0) n ((pos + wd (rd b 0) : Nat) : Int) 8 (acc ++ [x]) ((i + 1 : Nat) : Int)) (fun k => ?_) ?_
        · rw [if_neg (by simpa using hlt), if_pos (by omega), rwidth_f hf, Option.bind_some, w64 (x := (pos : Int) + ((wd (rd b 0) : Nat) : Int)) (by omega) (by omega), w64 (x := (i : Int) + 1) (by omega) (by omega)]
          rw [show ((i : Int) + 1) = ((i + 1 : Nat) : Int) by omega, show ((pos : Int) + ((wd (rd b 0) : Nat) : Int)) = ((pos + wd (rd b 0) : Nat) : Int) by omega]
        · have := rReadList_end b (rd b 0) n ((pos + wd (rd b 0) : Nat) : Int) 8 (acc ++ [x]) ((i + 1 : Nat) : Int) (by omega)
          rw [if_neg (by omega)] at this
          rw [if_pos]
          · exact this
          · simp only [rdEls, ← hxe]
            rw [below_append, below_cons, show decide (x < prime (rd b 0)) = false by simpa using hlt]; simp
set_option maxRecDepth 100000 in
theorem rReadList_f (b : List Int) (hb : Bytes b) (hl : b.length ≤ 140737488351232) : Ev (fun k => conclaveref08_ReadList.f k b) (readListOf b) := by
  unfold conclaveref08_ReadList.f
  by_cases h0 : b.length = 0
  · rw [show readListOf b = (0, [], 0, 7) by unfold readListOf; rw [if_pos h0]]
    simp only [if_pos (show (b.length : Int) = 0 by omega)]
    exact Ev.now _
  · simp only [if_neg (show ¬ (b.length : Int) = 0 by omega), if_pos (show 0 < (b.length : Int) by omega)]
    have key : isF (rd b 0) = true → Ev (fun k => conclaveref08_ReadList.j0 k b (rd b 0) false) (readListOf b) := by
      intro hf
      refine Ev.step (f := fun k => (conclaveref08_ReadCount.f k (b.drop 1)).bind fun r => if r.2.2 = 0 then conclaveref08_ReadList.j1 k b (rd b 0) r.1 r.2.1 r.2.2 (decide (r.1 > 4096)) else conclaveref08_ReadList.j1 k b (rd b 0) r.1 r.2.1 r.2.2 false) (fun k => by simp only [conclaveref08_ReadList.j0, Bool.false_eq_true, if_false, if_pos (show 1 ≤ (b.length : Int) by omega)]) ?_
      refine Ev.bind (f := fun k r => if r.2.2 = 0 then conclaveref08_ReadList.j1 k b (rd b 0) r.1 r.2.1 r.2.2 (decide (r.1 > 4096)) else conclaveref08_ReadList.j1 k b (rd b 0) r.1 r.2.1 r.2.2 false) (rReadCount_f (b.drop 1) (hb.drop 1)) ?_
      have fin : ∀ (x7 x8 e : Int), e ≠ 0 → Ev (fun k => conclaveref08_ReadList.j2 k b (rd b 0) x7 x8 e) (0, [], 0, e) := by
        intro x7 x8 e he
        refine Ev.step (f := fun k => conclaveref08_ReadList.j3 k b (rd b 0) x7 (wrap64 (x8 + 1)) e false) (fun k => by simp only [conclaveref08_ReadList.j2, if_neg he]) ?_
        refine Ev.step (f := fun k => conclaveref08_ReadList.j4 k b (rd b 0) x7 (wrap64 (x8 + 1)) e) (fun k => by simp only [conclaveref08_ReadList.j3, Bool.false_eq_true, if_false]) ?_
        refine Ev.step (f := fun k => conclaveref08_ReadList.l0 k b (rd b 0) x7 (wrap64 (x8 + 1)) e [] 0) (fun k => by simp only [conclaveref08_ReadList.j4]) ?_
        have := rReadList_end b (rd b 0) x7 (wrap64 (x8 + 1)) e [] 0 (fun h => he h.2)
        rw [if_neg he] at this; exact this
      by_cases hc : (readCount (b.drop 1)).2.2 = 0
      · obtain ⟨q1, q2, q3, q4⟩ := readCount_ok (hb.drop 1) hc
        rw [List.length_drop] at q1
        have hw := wd_le (rd b 0)
        obtain ⟨n, hn⟩ := Int.eq_ofNat_of_zero_le q3
        simp only [hc, if_true, q2, hn]
        by_cases h4 : (n : Int) > 4096
        · rw [show readListOf b = (0, [], 0, 4) by unfold readListOf; rw [if_neg h0, if_neg (by simp [hf]), if_neg (fun h_ => h_ hc), if_pos (by omega)]]
          exact Ev.step (f := fun k => conclaveref08_ReadList.j2 k b (rd b 0) n 4 4) (fun k => by simp only [conclaveref08_ReadList.j1, decide_eq_true h4, if_true]) (fin n 4 4 (by omega))
        · have h1 : (n : Int) * ((wd (rd b 0) : Nat) : Int) ≤ 4096 * 8 := by
            have := Nat.mul_le_mul (show n ≤ 4096 by omega) hw
            exact_mod_cast this
          have h2 : 0 ≤ (n : Int) * ((wd (rd b 0) : Nat) : Int) := by exact_mod_cast Nat.zero_le _
          refine Ev.step (f := fun k => conclaveref08_ReadList.j2 k b (rd b 0) n 4 0) (fun k => by simp only [conclaveref08_ReadList.j1, decide_eq_false h4, Bool.false_eq_true, if_false]) ?_
          refine Ev.step (f := fun k => conclaveref08_ReadList.j3 k b (rd b 0) n 5 0 (decide ((b.length : Int) - 5 < (n : Int) * ((wd (rd b 0) : Nat) : Int)))) (fun k => ?_) ?_
          · simp only [conclaveref08_ReadList.j2, if_true]
            rw [rwidth_f hf, Option.bind_some, w64 (x := (4 : Int) + 1) (by omega) (by omega), w64 (x := (b.length : Int) - (4 + 1)) (by omega) (by omega), w64 (x := (n : Int) * ((wd (rd b 0) : Nat) : Int)) (by omega) (by omega)]
            rfl
          · by_cases h5 : (b.length : Int) - 5 < (n : Int) * ((wd (rd b 0) : Nat) : Int)
            · rw [show readListOf b = (0, [], 0, 7) by unfold readListOf; rw [if_neg h0, if_neg (by simp [hf]), if_neg (fun h_ => h_ hc), if_neg (by omega), hn, if_pos h5]]
              refine Ev.step (f := fun k => conclaveref08_ReadList.j4 k b (rd b 0) n 5 7) (fun k => by simp only [conclaveref08_ReadList.j3, decide_eq_true h5, if_true]) ?_
              refine Ev.step (f := fun k => conclaveref08_ReadList.l0 k b (rd b 0) n 5 7 [] 0) (fun k => by simp only [conclaveref08_ReadList.j4]) ?_
              have := rReadList_end b (rd b 0) n 5 7 [] 0 (by omega)
              rw [if_neg (by omega)] at this; exact this
            · refine Ev.step (f := fun k => conclaveref08_ReadList.j4 k b (rd b 0) n 5 0) (fun k => by simp only [conclaveref08_ReadList.j3, decide_eq_false h5, Bool.false_eq_true, if_false]) ?_
              refine Ev.step (f := fun k => conclaveref08_ReadList.l0 k b (rd b 0) n 5 0 [] 0) (fun k => by simp only [conclaveref08_ReadList.j4]) ?_
              have h6 : 5 + n * wd (rd b 0) ≤ b.length := by
                have : ((n * wd (rd b 0) : Nat) : Int) = (n : Int) * ((wd (rd b 0) : Nat) : Int) := by push_cast; rfl
                omega
              have := rReadList_ev b hb hl n (by omega) hf n 0 5 [] (by omega) rfl h6 rfl
              rw [show readListOf b = (if below (prime (rd b 0)) ([] ++ rdEls (wd (rd b 0)) n (b.drop 5)) = false then (0, [], 0, 8) else (rd b 0, [] ++ rdEls (wd (rd b 0)) n (b.drop 5), ((5 : Nat) : Int) + (n : Int) * (wd (rd b 0) : Nat), 0)) by
                unfold readListOf; rw [if_neg h0, if_neg (by simp [hf]), if_neg (fun h_ => h_ hc), if_neg (by omega), hn, if_neg h5, Int.toNat_natCast, List.nil_append]; rfl]
              exact this
      · rw [show readListOf b = (0, [], 0, (readCount (b.drop 1)).2.2) by unfold readListOf; rw [if_neg h0, if_neg (by simp [hf]), if_pos hc]]
        simp only [if_neg hc]
        exact Ev.step (f := fun k => conclaveref08_ReadList.j2 k b (rd b 0) (readCount (b.drop 1)).1 (readCount (b.drop 1)).2.1 (readCount (b.drop 1)).2.2) (fun k => by simp only [conclaveref08_ReadList.j1, Bool.false_eq_true, if_false]) (fin _ _ _ hc)
    by_cases h1 : rd b 0 = 1
    · simp only [if_pos h1]
      exact key (by simp [isF, h1])
    · simp only [if_neg h1]
      by_cases h2 : rd b 0 = 2
      · rw [show (rd b 0 != 2) = false by simpa using h2]
        exact key (by simp [isF, h2])
      · rw [show (rd b 0 != 2) = true by simpa using h2]
        rw [show readListOf b = (0, [], 0, 8) by unfold readListOf; rw [if_neg h0, if_pos (by simp [isF, h1, h2])]]
        exact Ev.step (f := fun k => some (0, [], 0, 8)) (fun k => by simp only [conclaveref08_ReadList.j0, if_true]) (Ev.now _)
end Go.Proofs.Ytclanpkekocndaa.Plain
