/- Proved: WireTurned: for all bytes, a sealed piece of which one byte is another one is not unsealed as what it was. No condition beyond the statement's own. -/
import Derived.Test.YtclanpkekocndaaPureWireBackLaws
import Derived.Test.YtclanpkekocndaaPureWireAnchor
import Derived.Test.YtclanpkekocndaaPx24
namespace Go.Proofs.Ytclanpkekocndaa.Pure
open Go.RowKit Go.Proofs.Ytclanpkekocndaa.P Go.Proofs.Ytclanpkekocndaa.Plain Go.Proofs.YtclanpkekocndaaW.PrintWords Go.Proofs.YtclanpkekocndaaW.PrintLast
set_option linter.unusedVariables false
set_option linter.unusedSimpArgs false

theorem bits_xor (k : IntKind) (a b : Nat) (ha : a < 2 ^ k.bits) (hb : b < 2 ^ k.bits) : Go.bits .xor k (a : Int) (b : Int) = k.wrap ((a ^^^ b : Nat) : Int) := by
  have ha' : a % 2 ^ k.bits = a := Nat.mod_eq_of_lt ha
  have hb' : b % 2 ^ k.bits = b := Nat.mod_eq_of_lt hb
  simp only [Go.bits, BitVec.ofInt_natCast, BitVec.toNat_xor, BitVec.toNat_ofNat, ha', hb']
theorem xor_nat (a b : Nat) (ha : a < 256) (hb : b < 256) : Go.bits .xor .u8 (a : Int) (b : Int) = ((a ^^^ b : Nat) : Int) := by
  have hx : a ^^^ b < 2 ^ 8 := Nat.xor_lt_two_pow (by omega) (by omega)
  rw [bits_xor .u8 a b (by simpa [IntKind.bits] using ha) (by simpa [IntKind.bits] using hb), IntKind.wrap_u8]
  omega
theorem xor_byte {a b : Int} (ha : 0 ≤ a ∧ a < 256) (hb : 0 ≤ b ∧ b < 256) : 0 ≤ Go.bits .xor .u8 a b ∧ Go.bits .xor .u8 a b < 256 := by
  obtain ⟨a, rfl⟩ := Int.eq_ofNat_of_zero_le ha.1
  obtain ⟨b, rfl⟩ := Int.eq_ofNat_of_zero_le hb.1
  have hx : a ^^^ b < 2 ^ 8 := Nat.xor_lt_two_pow (by omega) (by omega)
  rw [xor_nat a b (by omega) (by omega)]
  omega
theorem xor_ne {a b : Int} (ha : 0 ≤ a ∧ a < 256) (hb : 0 ≤ b ∧ b < 256) (h : b ≠ 0) : Go.bits .xor .u8 a b ≠ a := by
  obtain ⟨a, rfl⟩ := Int.eq_ofNat_of_zero_le ha.1
  obtain ⟨b, rfl⟩ := Int.eq_ofNat_of_zero_le hb.1
  rw [xor_nat a b (by omega) (by omega)]
  intro e
  have e' : a ^^^ b = a := by omega
  have : a ^^^ (a ^^^ b) = a ^^^ a := by rw [e']
  rw [← Nat.xor_assoc, Nat.xor_self, Nat.zero_xor] at this
  omega
theorem turned (a : List Int) (ha : Bytes a) (hl : a.length ≤ 1048576) (i : Nat) (hi : i < (sealOf a).1.length) (t : Int) (ht : 0 ≤ t ∧ t < 256) (h0 : t ≠ 0) (hS : Bytes (sealOf a).1)
    (h : (unsealOf ((sealOf a).1.set i (Go.bits .xor .u8 (rd (sealOf a).1 (i : Int)) t))).2.2 = 0) (hs : (unsealOf ((sealOf a).1.set i (Go.bits .xor .u8 (rd (sealOf a).1 (i : Int)) t))).1 = a)
    (hn : (unsealOf ((sealOf a).1.set i (Go.bits .xor .u8 (rd (sealOf a).1 (i : Int)) t))).2.1 = ((sealOf a).1.length : Int)) : False := by
  have hx := hS _ (List.getElem_mem hi)
  rw [← rd_at hi] at hx
  obtain ⟨s, hse⟩ : ∃ s, s = (sealOf a).1 := ⟨_, rfl⟩
  rw [← hse] at h hs hn hi hx hS
  obtain ⟨x, hxe⟩ : ∃ x, x = Go.bits .xor .u8 (rd s (i : Int)) t := ⟨_, rfl⟩
  rw [← hxe] at h hs hn
  have hB : Bytes (s.set i x) := by
    intro y hy
    rcases List.mem_or_eq_of_mem_set hy with hy | hy
    · exact hS y hy
    · rw [hy, hxe]; exact xor_byte hx ht
  obtain ⟨_, _, h3⟩ := seal_forms hB h
  rw [hs, hn, Int.toNat_natCast] at h3
  have e1 : (sealOf a).1 = (s.set i x).take s.length := by rw [h3]
  rw [← hse, List.take_of_length_le (by simp)] at e1
  have e2 : s[i]? = (s.set i x)[i]? := by rw [← e1]
  rw [List.getElem?_set_self hi, List.getElem?_eq_getElem hi] at e2
  have e3 : s[i] = x := by injection e2
  rw [← rd_at hi] at e3
  exact xor_ne hx ht h0 (by rw [← hxe, e3])
theorem sealOf_bytes (a : List Int) (ha : Bytes a) : Bytes (sealOf a).1 := by
  unfold sealOf; split
  · intro x hx; simp at hx
  · exact ((be_bytes _ _).append ha).append (be_bytes _ _)
theorem sealOf_ok {a : List Int} (hl : a.length ≤ 1048576) : (sealOf a).2 = 0 ∧ (sealOf a).1.length = a.length + 12 := by
  unfold sealOf; rw [if_neg (by omega)]; simp [be_len]; omega
set_option maxRecDepth 100000 in
theorem WireTurned : conclavelaw08_WireTurned.Pure := by
  intro b at_ turn _ hm hb _ ht
  have hB := bytes_of_wf hb
  have hT := wf_u8 ht
  refine Ev.rounds ?_
  unfold conclavelaw08_WireTurned.f
  by_cases h0 : b.length > 1048576
  · simp only [if_pos (show (b.length : Int) > 1048576 by omega)]
    exact Ev.bind (f := fun k t => some t) anchored_f (Ev.now _)
  · simp only [if_neg (show ¬ (b.length : Int) > 1048576 by omega)]
    refine Ev.bind (f := fun k r => _) (Seal_f b) ?_
    obtain ⟨o1, o2⟩ := sealOf_ok (a := b) (by omega)
    have hS := sealOf_bytes b hB
    simp only [o1, if_true]
    rw [w64 (x := (b.length : Int) + 12) (by omega) (by omega), show (((sealOf b).1.length : Int) != (b.length : Int) + 12) = false by rw [o2]; simp]
    have fin : Ev (fun k => conclavelaw08_WireTurned.j1 k b at_ turn (sealOf b).1 true) true := by
      refine Ev.step (f := fun k => (conclavelaw08_anchored.f k).bind fun t => some t) (fun k => by simp only [conclavelaw08_WireTurned.j1, if_true]) ?_
      exact Ev.bind (f := fun k t => some t) anchored_f (Ev.now _)
    by_cases h1 : at_ < 0
    · exact Ev.step (f := fun k => conclavelaw08_WireTurned.j1 k b at_ turn (sealOf b).1 true) (fun k => by simp only [conclavelaw08_WireTurned.j0, Bool.false_eq_true, if_false, if_pos h1]) fin
    · by_cases h2 : at_ ≥ ((sealOf b).1.length : Int)
      · exact Ev.step (f := fun k => conclavelaw08_WireTurned.j1 k b at_ turn (sealOf b).1 true) (fun k => by simp only [conclavelaw08_WireTurned.j0, Bool.false_eq_true, if_false, if_neg h1, if_pos h2]) fin
      · refine Ev.step (f := fun k => conclavelaw08_WireTurned.j1 k b at_ turn (sealOf b).1 (turn == 0)) (fun k => by simp only [conclavelaw08_WireTurned.j0, Bool.false_eq_true, if_false, if_neg h1, if_neg h2]) ?_
        by_cases h3 : turn = 0
        · rw [show (turn == 0) = true by simpa using h3]; exact fin
        · rw [show (turn == 0) = false by simpa using h3]
          obtain ⟨i, rfl⟩ := Int.eq_ofNat_of_zero_le (show 0 ≤ at_ by omega)
          have hi : i < (sealOf b).1.length := by omega
          have hx := hS _ (List.getElem_mem hi)
          rw [← rd_at hi] at hx
          have hB2 : Bytes ((sealOf b).1.set i (Go.bits .xor .u8 (rd (sealOf b).1 (i : Int)) turn)) := by
            intro y hy
            rcases List.mem_or_eq_of_mem_set hy with hy | hy
            · exact hS y hy
            · rw [hy]; exact xor_byte hx hT
          have key := turned b hB (by omega) i hi turn hT h3 hS
          refine Ev.step (f := fun k => (wire_Unseal.f k ((sealOf b).1.set i (Go.bits .xor .u8 (rd (sealOf b).1 (i : Int)) turn))).bind fun r => (conclavelaw08_anchored.f k).bind fun t481 => if t481 = true then (if r.2.2 = 0 then ((conclaveref08_Same.f r.1 b).bind fun t482 => (if t482 = true then (some (r.2.1 != ((sealOf b).1.length : Int))) else (some true))) else (some true)) else (some false)) (fun k => ?_) ?_
          · simp only [conclavelaw08_WireTurned.j1, Bool.false_eq_true, if_false]
            rw [if_pos (by omega), if_pos (by omega), Int.toNat_natCast]
          · refine Ev.bind (f := fun k r => _) (Unseal_f _ hB2 (by simp; omega)) ?_
            refine Ev.bind (f := fun k t => _) anchored_f ?_
            simp only [if_true]
            obtain ⟨u, hu⟩ : ∃ u, u = unsealOf ((sealOf b).1.set i (Go.bits .xor .u8 (rd (sealOf b).1 (i : Int)) turn)) := ⟨_, rfl⟩
            rw [← hu] at key ⊢
            by_cases g0 : u.2.2 = 0
            · simp only [if_pos g0]
              by_cases g1 : u.1 = b
              · rw [g1]
                simp only [Same_f, Option.bind_some, if_true]
                have g2 : (u.2.1 != ((sealOf b).1.length : Int)) = true := by
                  simp only [bne_iff_ne, ne_eq]
                  intro g3
                  exact key g0 g1 g3
                rw [g2]; exact Ev.now _
              · have hub : Bytes u.1 := by
                  rw [hu]
                  unfold unsealOf
                  repeat' split
                  all_goals first
                    | (intro x hx; simp at hx; done)
                    | exact (hB2.take _).drop _
                have g2 : conclaveref08_Same.f u.1 b = some false := by
                  rw [Same_any u.1 b hub hB, decide_eq_false g1]
                simp only [g2, Option.bind_some, Bool.false_eq_true, if_false]; exact Ev.now _
            · simp only [if_neg g0]; exact Ev.now _

end Go.Proofs.Ytclanpkekocndaa.Pure
