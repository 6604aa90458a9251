import Derived.Test.YtfkikfapbdlnjaaSShareRowsZ
import Derived.Test.YtfkikfapbdlnjaaSShareRows17
import Derived.Test.YtfkikfapbdlnjaaSShareRows18
section
namespace Go.Proofs.Ytfkikfapbdlnjaa.P
open Go.RowKit Go.Proofs.YtfkikfapbdlnjaaW.PrintWords Go.Proofs.YtfkikfapbdlnjaaW.PrintLast Go.Proofs.YtfkikfapbdlnjaaW.PrintMore
attribute [local go_sem] max2_int min2_int max_two min_two max_three min_three max_four min_four
set_option linter.unusedVariables false
set_option linter.unusedSimpArgs false
mutual
def interp_twice.l0 : Nat → List Int → Int → Option (Int)
 | 0, _, _ => none
 | k + 1, x0, x3 => if x3 < (x0.length : Int) then (interp_twice.l1 k x0 x3 0) else (some 0)
def interp_twice.l1 : Nat → List Int → Int → Int → Option (Int)
 | 0, _, _, _ => none
 | k + 1, x0, x3, x4 => if x4 < x3 then (if 0 ≤ x3 then (if x3 < (x0.length : Int) then (if 0 ≤ x4 then (if x4 < (x0.length : Int) then (if (rd x0 x3) = (rd x0 x4) then (some 6) else (interp_twice.l1 k x0 x3 (wrap64 (x4 + 1)))) else (none)) else (none)) else (none)) else (none)) else (interp_twice.l0 k x0 (wrap64 (x3 + 1)))
end
def interp_twice.f (k : Nat) (l0 : List Int) : Option (Int) := if (l0.all fun x => decide (0 ≤ x) && decide (x < 18446744073709551616)) = true then (interp_twice.l0 k l0 0) else none
def interp_may.j0 : Nat → List Int → List Int → List Int → Bool → Option (Int)
 | 0, _, _, _, _ => none
 | k + 1, x1, x2, x3, x12 => if x12 = true then (some 2) else (if (x1.length : Int) = (x2.length : Int) then (if (x1.length : Int) > 512 then (some 4) else (if (x3.length : Int) > 512 then (some 4) else ((interp_twice.f k x1).bind fun t147 => (some t147)))) else (some 3))
def interp_may.f (k : Nat) (a0 : Int) (l1 : List Int) (l2 : List Int) (l3 : List Int) : Option (Int) := (field_In.f k a0 l1).bind fun t144 => (if t144 = true then ((field_In.f k a0 l2).bind fun t145 => (if t145 = true then ((field_In.f k a0 l3).bind fun t146 => (interp_may.j0 k l1 l2 l3 (!t146))) else (interp_may.j0 k l1 l2 l3 true))) else (interp_may.j0 k l1 l2 l3 true))
theorem twice_in (l : List Int) (hm : l.length ≤ 9223372036854775807) (r : Int) (k : Nat) : ∀ (j i : Nat), j ≤ i → i < l.length → (∀ j' : Nat, j' < j → ∀ (hi : i < l.length) (hj : j' < l.length), l[j'] ≠ l[i]) → interp_twice.l1 k l (i : Int) (j : Int) = some r →
  (r = 6 ∧ ¬ Hand.Uniq l) ∨ ((∀ j' : Nat, j' < i → ∀ (hi : i < l.length) (hj : j' < l.length), l[j'] ≠ l[i]) ∧ ∃ k', k' < k ∧ interp_twice.l0 k' l ((i + 1 : Nat) : Int) = some r) := by
 induction k with
 | zero => intro j i _ _ _ h; simp [interp_twice.l1] at h
 | succ k ih =>
  intro j i hji hi hall h; simp only [interp_twice.l1] at h; by_cases c : (j : Int) < (i : Int)
  ·rw [if_pos c, if_pos Z121, if_pos Z121, if_pos Z121, if_pos Z121] at h; have r1 : rd l (i : Int) = l[i] := by simp [rd, hi]
   have r2 : rd l (j : Int) = l[j] := by simp [rd, show j < l.length by omega]
   rw [r1, r2] at h; by_cases e : l[i] = l[j]
   ·rw [if_pos e] at h; refine .inl ⟨(Option.some.inj h).symm, fun hu => hu j i Z121 hi Z121 e.symm⟩
   ·rw [if_neg e, show wrap64 ((j : Int) + 1) = ((j + 1 : Nat) : Int) from by unfold wrap64; omega] at h; rcases ih (j + 1) i Z121 hi (fun j' hj' hi' hj2 => by
     by_cases e2 : j' = j
     ·subst e2; exact fun h => e h.symm
     ·exact hall j' Z121 hi' hj2) h with h | ⟨h1, k', h2, h3⟩
    ·exact .inl h
    ·exact .inr ⟨h1, k', Z121, h3⟩
  ·rw [if_neg c, show wrap64 ((i : Int) + 1) = ((i + 1 : Nat) : Int) from by unfold wrap64; omega] at h; exact .inr ⟨fun j' hj' => hall j' Z121, k, Z121, h⟩
theorem twice_out (l : List Int) (hm : l.length ≤ 9223372036854775807) (r : Int) : ∀ (n k i : Nat), k ≤ n → i ≤ l.length → Hand.Uniq (l.take i) → interp_twice.l0 k l (i : Int) = some r → (r = 6 ∧ ¬ Hand.Uniq l) ∨ (r = 0 ∧ Hand.Uniq l) := by
 intro n; induction n with
 | zero =>
  intro k i hk _ _ h; obtain rfl : k = 0 := by omega
  simp [interp_twice.l0] at h
 | succ n ih =>
  intro k i hk hi hu h; cases k with
  | zero => simp [interp_twice.l0] at h
  | succ k =>
   simp only [interp_twice.l0] at h; by_cases c : (i : Int) < (l.length : Int)
   ·rw [if_pos c] at h; rcases twice_in l hm r k 0 i Z121 Z121 (fun j' h => absurd h Z121) h with h | ⟨h1, k', h2, h3⟩
    ·exact .inl h
    ·refine ih k' (i + 1) Z121 Z121 (hu.step Z121 ?_) h3; intro hmem; obtain ⟨j, hj, e⟩ := List.mem_iff_getElem.1 hmem; rw [List.length_take] at hj; rw [List.getElem_take] at e; exact h1 j Z121 Z121 Z121 e
   ·rw [if_neg c] at h; rw [List.take_of_length_le Z121] at hu; exact .inr ⟨(Option.some.inj h).symm, hu⟩
theorem twice_is (k : Nat) (l : List Int) (r : Int) (hm : l.length ≤ 9223372036854775807) (h : interp_twice.f k l = some r) : (∀ x ∈ l, 0 ≤ x ∧ x < 18446744073709551616) ∧ ((r = 6 ∧ ¬ Hand.Uniq l) ∨ (r = 0 ∧ Hand.Uniq l)) := by
 unfold interp_twice.f at h; split at h
 ·rename_i hw
  refine ⟨by simpa using hw, twice_out l hm r k k 0 (Nat.le_refl _) Z121 (fun i j _ hj _ => absurd hj (by simp)) h⟩
 ·cases h
set_option maxHeartbeats 8000000 in
set_option maxRecDepth 100000 in
theorem interp_may.calls (k : Nat) (a0 : Int) (A1 : Option Addr) (c1 : Nat) (l1 : List Int) (A2 : Option Addr) (c2 : Nat) (l2 : List Int) (A3 : Option Addr) (c3 : Nat) (l3 : List Int) (r : Int) (w : World) (hr1 : Kd.C (Kd.int .u64) w A1 l1.length l1) (hc1 : l1.length ≤ c1) (hr2 : Kd.C (Kd.int .u64) w A2 l2.length l2) (hc2 : l2.length ≤ c2) (hr3 : Kd.C (Kd.int .u64) w A3 l3.length l3) (hc3 : l3.length ≤ c3) (h : interp_may.f k a0 l1 l2 l3 = some r) :
  Calls Try.prog 67 #[.int .u8 a0, .slice A1 l1.length c1, .slice A2 l2.length c2, .slice A3 l3.length c3] w fun e w' => e = .returned (.int .i64 r) ∧ Below w.heap.size w w' := by
 have HR1 := am hr1; have HC1 := am hc1; clear hr1 hc1; have HR2 := am hr2; have HC2 := am hc2; clear hr2 hc2; have HR3 := am hr3; have HC3 := am hc3; clear hr3 hc3; have HB := am (Below.refl w.heap.size w); have H : ((field_In.f k a0 l1).bind fun t144 => (if t144 = true then ((field_In.f k a0 l2).bind fun t145 => (if t145 = true then ((field_In.f k a0 l3).bind fun t146 => (interp_may.j0 k l1 l2 l3 (!t146))) else (interp_may.j0 k l1 l2 l3 true))) else (interp_may.j0 k l1 l2 l3 true))) = some r := h; clear h; have HC5 := am H; clear H; go_enter Try.func67, Try.ntmps67
 go_upto_region 1 with (fail)
 go_cut [12] (fun v12 wc => ∃ (kq : Nat) (x12_4 : Bool), v12 = .bool x12_4 ∧ Aside0 (interp_may.j0 kq l1 l2 l3 x12_4 = some r) ∧ Aside0 (kq ≤ k) ∧ Aside0 (Below w.heap.size w wc))
 case first =>
  have H := HC5.out; clear HC5; replace H := Option.bind_eq_some_iff.mp H; obtain ⟨t144, A60, H⟩ := H; replace H : (if t144 = true then ((field_In.f k a0 l2).bind fun t145 => (if t145 = true then ((field_In.f k a0 l3).bind fun t146 => (interp_may.j0 k l1 l2 l3 (!t146))) else (interp_may.j0 k l1 l2 l3 true))) else (interp_may.j0 k l1 l2 l3 true)) = some r := H; have A6 := am A60; clear A60; by_cases c7 : t144 = true
  ·subst c7; have H1 : ((field_In.f k a0 l2).bind fun t145 => (if t145 = true then ((field_In.f k a0 l3).bind fun t146 => (interp_may.j0 k l1 l2 l3 (!t146))) else (interp_may.j0 k l1 l2 l3 true))) = some r := by rw [if_pos rfl] at H; exact H
   clear H; have H := H1; clear H1; replace H := Option.bind_eq_some_iff.mp H; obtain ⟨t145, A80, H⟩ := H; replace H : (if t145 = true then ((field_In.f k a0 l3).bind fun t146 => (interp_may.j0 k l1 l2 l3 (!t146))) else (interp_may.j0 k l1 l2 l3 true)) = some r := H; have A8 := am A80; clear A80; by_cases c9 : t145 = true
   ·subst c9; have H1 : ((field_In.f k a0 l3).bind fun t146 => (interp_may.j0 k l1 l2 l3 (!t146))) = some r := by rw [if_pos rfl] at H; exact H
    clear H; have H := H1; clear H1; replace H := Option.bind_eq_some_iff.mp H; obtain ⟨t146, A100, H⟩ := H; replace H : (interp_may.j0 k l1 l2 l3 (!t146)) = some r := H; have A10 := am A100; clear A100; have H' := am H; clear H; go_wp2_with (first | ((with_reducible refine gate_callee (f := 65) rfl ?_); refine goesL_ (some 15) rfl rfl Try.func65 Z12 rfl #[.int .u8 a0, .slice A1 l1.length c1] rfl Z2 ?_; (with_reducible refine (field_In.calls k a0 _ _ l1 true _ ?side1 ?side2 A6.out).mono ?_); (case side1 => repeat (first | exact (Kd.C_below HR1.out HB.out) | (with_reducible refine Kd.C_alloc ?_ _) | (with_reducible refine Kd.C_drewN ?_ _) | (with_reducible refine Kd.C_drew ?_))); (case side2 => exact HC1.out); rintro e w11 ⟨rfl, hb⟩; refine ⟨_, rfl, ?_⟩; replace HB := am (below_step Z1 hb); (try clear hb)) | (go_at_call 65; (with_reducible refine (field_In.calls k a0 _ _ l2 true _ ?side1 ?side2 A8.out).mono ?_); (case side1 => repeat (first | exact (Kd.C_below HR2.out HB.out) | (with_reducible refine Kd.C_alloc ?_ _) | (with_reducible refine Kd.C_drewN ?_ _) | (with_reducible refine Kd.C_drew ?_))); (case side2 => exact HC2.out); rintro e w12 ⟨rfl, hb⟩; replace HB := am (below_step Z1 hb); (try clear hb)) | (go_at_call 65; (with_reducible refine (field_In.calls k a0 _ _ l3 t146 _ ?side1 ?side2 A10.out).mono ?_); (case side1 => repeat (first | exact (Kd.C_below HR3.out HB.out) | (with_reducible refine Kd.C_alloc ?_ _) | (with_reducible refine Kd.C_drewN ?_ _) | (with_reducible refine Kd.C_drew ?_))); (case side2 => exact HC3.out); rintro e w13 ⟨rfl, hb⟩; replace HB := am (below_step Z1 hb); (try clear hb)))
    go_meet
    case rel => exact ⟨_, (!t146), Z5, H', ⟨Z76⟩, ⟨Z1⟩⟩
   ·replace c9 := Bool.eq_false_iff.mpr c9; subst c9; have H1 : (interp_may.j0 k l1 l2 l3 true) = some r := by rw [if_neg (show ¬ (false = true) by decide)] at H; exact H
    clear H; have H := H1; clear H1; have H' := am H; clear H; go_wp2_with (first | ((with_reducible refine gate_callee (f := 65) rfl ?_); refine goesL_ (some 15) rfl rfl Try.func65 Z12 rfl #[.int .u8 a0, .slice A1 l1.length c1] rfl Z2 ?_; (with_reducible refine (field_In.calls k a0 _ _ l1 true _ ?side1 ?side2 A6.out).mono ?_); (case side1 => repeat (first | exact (Kd.C_below HR1.out HB.out) | (with_reducible refine Kd.C_alloc ?_ _) | (with_reducible refine Kd.C_drewN ?_ _) | (with_reducible refine Kd.C_drew ?_))); (case side2 => exact HC1.out); rintro e w14 ⟨rfl, hb⟩; refine ⟨_, rfl, ?_⟩; replace HB := am (below_step Z1 hb); (try clear hb)) | (go_at_call 65; (with_reducible refine (field_In.calls k a0 _ _ l2 false _ ?side1 ?side2 A8.out).mono ?_); (case side1 => repeat (first | exact (Kd.C_below HR2.out HB.out) | (with_reducible refine Kd.C_alloc ?_ _) | (with_reducible refine Kd.C_drewN ?_ _) | (with_reducible refine Kd.C_drew ?_))); (case side2 => exact HC2.out); rintro e w15 ⟨rfl, hb⟩; replace HB := am (below_step Z1 hb); (try clear hb)))
    go_meet
    case rel => exact ⟨_, (true), Z5, H', ⟨Z76⟩, ⟨Z1⟩⟩
  ·replace c7 := Bool.eq_false_iff.mpr c7; subst c7; have H1 : (interp_may.j0 k l1 l2 l3 true) = some r := by rw [if_neg (show ¬ (false = true) by decide)] at H; exact H
   clear H; have H := H1; clear H1; have H' := am H; clear H; go_wp2_with (first | ((with_reducible refine gate_callee (f := 65) rfl ?_); refine goesL_ (some 15) rfl rfl Try.func65 Z12 rfl #[.int .u8 a0, .slice A1 l1.length c1] rfl Z2 ?_; (with_reducible refine (field_In.calls k a0 _ _ l1 false _ ?side1 ?side2 A6.out).mono ?_); (case side1 => repeat (first | exact (Kd.C_below HR1.out HB.out) | (with_reducible refine Kd.C_alloc ?_ _) | (with_reducible refine Kd.C_drewN ?_ _) | (with_reducible refine Kd.C_drew ?_))); (case side2 => exact HC1.out); rintro e w16 ⟨rfl, hb⟩; refine ⟨_, rfl, ?_⟩; replace HB := am (below_step Z1 hb); (try clear hb)))
   go_meet
   case rel => exact ⟨_, (true), Z5, H', ⟨Z76⟩, ⟨Z1⟩⟩
 case rest =>
  clear HC5; (try clear c1); (try clear c2); (try clear p2); (try clear c3); (try clear c6); (try clear c7); (try clear c9); obtain ⟨kq, x12_4, rfl, HA, HJ4, HB⟩ := hcut; cases kq with
  | zero => exact absurd HA.out (by simp [interp_may.j0])
  | succ kj4 =>
   have H := HA.out; clear HA; simp only [interp_may.j0] at H; by_cases c17 : x12_4 = true
   ·subst c17; have H1 : (some 2) = some r := by rw [if_pos rfl] at H; exact H
    clear H; have H := H1; clear H1; obtain rfl := Option.some.inj H; go_wp2; go_ret; exact ⟨Z3, Z1⟩
   ·replace c17 := Bool.eq_false_iff.mpr c17; subst c17; have H1 : (if (l1.length : Int) = (l2.length : Int) then (if (l1.length : Int) > 512 then (some 4) else (if (l3.length : Int) > 512 then (some 4) else ((interp_twice.f kj4 l1).bind fun t147 => (some t147)))) else (some 3)) = some r := by rw [if_neg (show ¬ (false = true) by decide)] at H; exact H
    clear H; have H := H1; clear H1; by_cases c18 : (l1.length : Int) = (l2.length : Int)
    ·rw [if_pos c18] at H; have c18b0 : ((l1.length : Int) == (l2.length : Int)) = true := beq_iff_eq.mpr c18; have c18b1 : ((l1.length : Int) != (l2.length : Int)) = false := bne_eq_false_iff_eq.mpr c18; have c18b2 : (l1.length == l2.length) = true := by first | simpa using c18 | (simp at c18 ⊢; omega)
     clear c18; by_cases c19 : (l1.length : Int) > 512
     ·rw [if_pos c19] at H; have c19b0 : decide (512 < (l1.length : Int)) = true := decide_eq_true c19; have c19b1 : decide (512 < l1.length) = true := decide_eq_true Z121; clear c19; obtain rfl := Option.some.inj H; go_wp2; go_ret; exact ⟨Z3, Z1⟩
     ·rw [if_neg c19] at H; have c19b0 : decide (512 < (l1.length : Int)) = false := decide_eq_false c19; have c19b1 : decide (512 < l1.length) = false := decide_eq_false Z121; clear c19; by_cases c20 : (l3.length : Int) > 512
      ·rw [if_pos c20] at H; have c20b0 : decide (512 < (l3.length : Int)) = true := decide_eq_true c20; have c20b1 : decide (512 < l3.length) = true := decide_eq_true Z121; clear c20; obtain rfl := Option.some.inj H; go_wp2; go_ret; exact ⟨Z3, Z1⟩
      ·rw [if_neg c20] at H; have c20b0 : decide (512 < (l3.length : Int)) = false := decide_eq_false c20; have c20b1 : decide (512 < l3.length) = false := decide_eq_false Z121; clear c20; replace H := Option.bind_eq_some_iff.mp H; obtain ⟨t147, A210, H⟩ := H; replace H : (some t147) = some r := H; have A21 := am A210; clear A210; obtain rfl := Option.some.inj H; have hmm_ := @run_makeMap Try.prog; have hlen_ : l1.length ≤ 9223372036854775807 := by have := HR1.out.2.1; omega
       have hreach_ : l1.length ≤ 512 := by have := of_decide_eq_false (by assumption : decide (512 < l1.length) = false); omega
       have TW := am (twice_is kj4 l1 t147 hlen_ A21.out); have hz_ : ∀ W : World, (zeroValue 3).run Try.prog W = .ok (.int .i64 0) W := fun W => by kernel_rfl
       have HL := am (And.intro hlen_ hreach_); clear hlen_ hreach_; go_wp2; have HGM := am HB.out.size; go_loopw [47] (fun v wr => ∃ i : Int, v = .int .i64 i ∧ Aside0 (0 ≤ i ∧ i ≤ l1.length) ∧ Aside0 (Hand.Uniq (l1.take i.toNat)) ∧ Aside0 (wr.ownsMap Try.prog 36 (plainElem (H := Unit) Try.prog 3) wc.heap.size i.toNat (Hand.cntMap (l1.take i.toNat))) ∧ Aside0 (Below w.heap.size w wr)) (fun v _ => l1.length - (intOf v).toNat)
       case atStart => exact ⟨0, rfl, ⟨Z121⟩, ⟨fun i j _ hj _ => absurd hj (by simp)⟩, ⟨World.ownsMap_made _ _ _ _⟩, ⟨below_alloc HB.out _⟩⟩
       case round =>
        clear H hmm_; obtain ⟨i, rfl, HI, HU, HM, HB⟩ := hrel; by_cases c : i < (l1.length : Int)
        ·have cb : decide (i < (l1.length : Int)) = true := decide_eq_true c; have p0 : 0 ≤ i := HI.out.1; obtain ⟨ad, e1, hx⟩ := Kd.at_int HR1.out i p0 c; cases e1; replace hx := (HB.out.cell (World.block_lt_of_cell? w _ hx)).trans hx; have hin : i.toNat < l1.length := by omega
         have hrd : rd l1 i = l1[i.toNat] := by simp [rd, hin]
         obtain ⟨x, hxe⟩ : ∃ x, x = rd l1 i := ⟨_, rfl⟩; rw [← hxe] at hx hrd; have hkey : keyOf Try.prog 36 (.int .u64 x) = some (.int .u64 x) := Go.Maps.keyOf_int_mk Try.underlying36 (by
          have h_ := TW.out.1 x (by rw [hrd]; exact List.getElem_mem _); simp [Lit.wf, IntKind.min, IntKind.max, IntKind.bits, IntKind.signed]; omega)
         have hat0 := Hand.cntMap_at x (l1.take i.toNat); have HN := am (show ∃ h_ : i.toNat < l1.length, x = l1[i.toNat] from ⟨hin, hrd⟩); have HE : i + 1 ≤ 9223372036854775807 := by have := HL.out; omega
         have EW := am (show wrap64 (i + 1) = i + 1 from by unfold wrap64; omega); have HM2 := am (show i.toNat < maxLen from by unfold maxLen; have := HL.out; omega); replace p0 := eq_true p0; have q0 := eq_true c; clear c hin hrd hxe; by_cases hm : x ∈ l1.take i.toNat
         ·rw [if_pos hm] at hat0; have HAT := am hat0; obtain rfl : t147 = 6 := by
           rcases TW.out.2 with ⟨h_, _⟩ | ⟨_, hu⟩
           ·exact h_
           ·obtain ⟨hn1, hn2⟩ := HN.out; exact absurd hu (Hand.Uniq.no hn1 (by rw [← hn2]; exact hm))
          clear hat0 hm TW; go_wp2_with (first | (at_lookup; refine wpList_lookup_own_int _ rfl (.tmp 51) (.tmp 52) 125 rfl 36 3 .i64 (Go.Maps.int_keyed Try.underlying36) Try.underlying125 Try.underlying3 (hz_ _) wc.heap.size i.toNat _ rfl HM.out _ _ rfl hkey ?_; intro c1_ hat1 hwc1; obtain rfl : c1_ = 1 := (by have h_ := HAT.out.symm.trans hat1; injection h_ with h_; injection h_ with _ h_; exact h_.symm); clear hat1 hwc1) | (at_mapUpdate; refine wpList_mapUpdate_own _ rfl (.tmp 51) (.tmp 52) (.tmp 54) 125 rfl 36 3 (Go.Maps.int_keyed Try.underlying36) Try.underlying125 _ wc.heap.size i.toNat _ rfl HM.out HM2.out _ _ _ rfl rfl hkey _ [] (plainElem_int Try.underlying3 (by first | decide | exact wrap64_wf _)) ?_; intro w1 hown1 hgrow1; have HO1 := am hown1; have HG1 := am hgrow1; clear hown1 hgrow1) | (at_lookup; refine wpList_lookup_own_int _ rfl (.tmp 55) (.tmp 56) 125 rfl 36 3 .i64 (Go.Maps.int_keyed Try.underlying36) Try.underlying125 Try.underlying3 (hz_ _) wc.heap.size (i.toNat + 1) _ rfl HO1.out _ _ rfl hkey ?_; intro c2_ hat2 hwc2; obtain rfl : c2_ = 2 := Z101; clear hat2 hwc2))
          go_ret; exact ⟨by first | rfl | simp, HB.out.grown HG1.out HB.out.size (fun j hj => by cases hj; exact HGM.out)⟩
         ·rw [if_neg hm] at hat0; have HAT := am hat0; have HNM := am hm; clear hat0 hm; go_wp2_with (first | (at_lookup; refine wpList_lookup_own_int _ rfl (.tmp 51) (.tmp 52) 125 rfl 36 3 .i64 (Go.Maps.int_keyed Try.underlying36) Try.underlying125 Try.underlying3 (hz_ _) wc.heap.size i.toNat _ rfl HM.out _ _ rfl hkey ?_; intro c1_ hat1 hwc1; obtain rfl : c1_ = 0 := (by have h_ := HAT.out.symm.trans hat1; injection h_ with h_; injection h_ with _ h_; exact h_.symm); clear hat1 hwc1) | (at_mapUpdate; refine wpList_mapUpdate_own _ rfl (.tmp 51) (.tmp 52) (.tmp 54) 125 rfl 36 3 (Go.Maps.int_keyed Try.underlying36) Try.underlying125 _ wc.heap.size i.toNat _ rfl HM.out HM2.out _ _ _ rfl rfl hkey _ [] (plainElem_int Try.underlying3 (by first | decide | exact wrap64_wf _)) ?_; intro w1 hown1 hgrow1; have HO1 := am hown1; have HG1 := am hgrow1; clear hown1 hgrow1) | (at_lookup; refine wpList_lookup_own_int _ rfl (.tmp 55) (.tmp 56) 125 rfl 36 3 .i64 (Go.Maps.int_keyed Try.underlying36) Try.underlying125 Try.underlying3 (hz_ _) wc.heap.size (i.toNat + 1) _ rfl HO1.out _ _ rfl hkey ?_; intro c2_ hat2 hwc2; obtain rfl : c2_ = 1 := Z101; clear hat2 hwc2))
          go_roundw
          case rel =>
           have e2 : (i + 1).toNat = i.toNat + 1 := by have := HI.out.1; omega
           obtain ⟨hn1, hn2⟩ := HN.out; refine ⟨i + 1, (by first | rfl | (rw [EW.out])), ⟨by have := HI.out; omega⟩, ⟨?_⟩, ⟨?_⟩, ⟨HB.out.grown HG1.out HB.out.size (fun j hj => by cases hj; exact HGM.out)⟩⟩
           ·rw [e2]; exact HU.out.step hn1 (by rw [← hn2]; exact HNM.out)
           ·rw [e2, List.take_succ_eq_append_getElem hn1, ← hn2, Hand.cntMap_snoc]; exact HO1.out
          case measure => obtain ⟨hn1, _⟩ := HN.out; have := HI.out; simp [intOf, EW.out]; omega
        ·have cb : decide (i < (l1.length : Int)) = false := decide_eq_false c; obtain rfl : t147 = 0 := by
          rcases TW.out.2 with ⟨_, hn⟩ | ⟨h_, _⟩
          ·exact absurd (by have h2 := HU.out; rwa [List.take_of_length_le Z121] at h2) hn
          ·exact h_
         clear c TW; go_wp2; go_ret; exact ⟨by first | rfl | simp, HB.out⟩
    ·rw [if_neg c18] at H; have c18b0 : ((l1.length : Int) == (l2.length : Int)) = false := beq_eq_false_iff_ne.mpr c18; have c18b1 : ((l1.length : Int) != (l2.length : Int)) = true := bne_iff_ne.mpr c18; have c18b2 : (l1.length == l2.length) = false := by first | simpa using c18 | (simp at c18 ⊢; omega)
     obtain rfl := Option.some.inj H; go_wp2; go_ret; exact ⟨Z3, Z1⟩
end Go.Proofs.Ytfkikfapbdlnjaa.P
end
section
namespace Go.Proofs.Ytfkikfapbdlnjaa.P
open Go.RowKit Go.Proofs.YtfkikfapbdlnjaaW.PrintWords Go.Proofs.YtfkikfapbdlnjaaW.PrintLast Go.Proofs.YtfkikfapbdlnjaaW.PrintMore
attribute [local go_sem] max2_int min2_int max_two min_two max_three min_three max_four min_four
set_option linter.unusedVariables false
set_option linter.unusedSimpArgs false
def field_reckoner_add.f (a0_0 : Int) (a0_1 : Bool) (a1 : Int) (a2 : Int) : Option (Int) := if 0 ≤ a1 ∧ 0 ≤ a2 ∧ a1 < 18446744073709551616 ∧ a2 < 18446744073709551616 then (if 18446744073709551616 ≤ a1 + a2 then (some (IntKind.u64.wrap (a1 + a2 - 18446744073709551616 - a0_0))) else (if a0_0 ≤ a1 + a2 then (some (IntKind.u64.wrap (a1 + a2 - a0_0))) else (some (a1 + a2)))) else none
set_option maxHeartbeats 8000000 in
set_option maxRecDepth 100000 in
theorem field_reckoner_add.calls (a0_0 : Int) (a0_1 : Bool) (a1 : Int) (a2 : Int) (r : Int) (w : World) (h : field_reckoner_add.f a0_0 a0_1 a1 a2 = some r) :
  Calls Try.prog 86 #[.agg #[.int .u64 a0_0, .bool a0_1], .int .u64 a1, .int .u64 a2] w fun e w' => e = .returned (.int .u64 r) ∧ Below w.heap.size w w' := by
 have hu78 := Try.underlying118; unfold field_reckoner_add.f at h; by_cases hw : 0 ≤ a1 ∧ 0 ≤ a2 ∧ a1 < 18446744073709551616 ∧ a2 < 18446744073709551616
 case neg => rw [if_neg hw] at h; cases h
 rw [if_pos hw] at h; obtain ⟨h1, h2, h3, h4⟩ := hw; have he : ∀ W : World, (callFunc 107 #[.int .u64 a1, .int .u64 a2, .int .u64 0]).run Try.prog W = .ok (.value (.tuple #[.int .u64 ((a1 + a2 + 0) % 18446744073709551616), .int .u64 ((a1 + a2 + 0) / 18446744073709551616)])) W := by
  intro W; rw [run_callFunc_extern Try.func107 Z12 Z12 Z12 (e := add64Entry) Z12, run_add64 a1 a2 0 h1 h2 Z121 Z121]; rfl
 by_cases c : 18446744073709551616 ≤ a1 + a2
 ·rw [if_pos c] at h; obtain rfl := Option.some.inj h; have he2 : ∀ W : World, (callFunc 107 #[.int .u64 a1, .int .u64 a2, .int .u64 0]).run Try.prog W = .ok (.value (.tuple #[.int .u64 (a1 + a2 - 18446744073709551616), .int .u64 1])) W := by
   intro W; rw [he W, show (a1 + a2 + 0) % 18446744073709551616 = a1 + a2 - 18446744073709551616 by omega, show (a1 + a2 + 0) / 18446744073709551616 = 1 by omega]
  clear he h1 h2 h3 h4 c h; go_enter Try.func86, Try.ntmps86
  go_wp2; go_ret; exact ⟨by first | rfl | simp, (Below.refl _ _).alloc (Nat.le_refl _) _⟩
 ·rw [if_neg c] at h; have he2 : ∀ W : World, (callFunc 107 #[.int .u64 a1, .int .u64 a2, .int .u64 0]).run Try.prog W = .ok (.value (.tuple #[.int .u64 (a1 + a2), .int .u64 0])) W := by
   intro W; rw [he W, show (a1 + a2 + 0) % 18446744073709551616 = a1 + a2 by omega, show (a1 + a2 + 0) / 18446744073709551616 = 0 by omega]
  by_cases c2 : a0_0 ≤ a1 + a2
  ·rw [if_pos c2] at h; obtain rfl := Option.some.inj h; have cb : decide (a0_0 ≤ a1 + a2) = true := decide_eq_true c2; clear he h1 h2 h3 h4 c c2 h; go_enter Try.func86, Try.ntmps86
   go_wp2; go_ret; exact ⟨by first | rfl | simp, (Below.refl _ _).alloc (Nat.le_refl _) _⟩
  ·rw [if_neg c2] at h; obtain rfl := Option.some.inj h; have cb : decide (a0_0 ≤ a1 + a2) = false := decide_eq_false c2; clear he h1 h2 h3 h4 c c2 h; go_enter Try.func86, Try.ntmps86
   go_wp2; go_ret; exact ⟨by first | rfl | simp, (Below.refl _ _).alloc (Nat.le_refl _) _⟩
def bits_Mul64.f (a0 : Int) (a1 : Int) : Option (Int × Int) := some (IntKind.u64.wrap ((IntKind.u64.wrap ((IntKind.u64.wrap ((a0 / 4294967296) * (a1 / 4294967296))) + ((IntKind.u64.wrap ((IntKind.u64.wrap ((a0 / 4294967296) * (Go.bits .and .u64 a1 4294967295))) + ((IntKind.u64.wrap ((Go.bits .and .u64 a0 4294967295) * (Go.bits .and .u64 a1 4294967295))) / 4294967296))) / 4294967296))) + ((IntKind.u64.wrap ((Go.bits .and .u64 (IntKind.u64.wrap ((IntKind.u64.wrap ((a0 / 4294967296) * (Go.bits .and .u64 a1 4294967295))) + ((IntKind.u64.wrap ((Go.bits .and .u64 a0 4294967295) * (Go.bits .and .u64 a1 4294967295))) / 4294967296))) 4294967295) + (IntKind.u64.wrap ((Go.bits .and .u64 a0 4294967295) * (a1 / 4294967296))))) / 4294967296)), IntKind.u64.wrap (a0 * a1))
set_option maxHeartbeats 8000000 in
set_option maxRecDepth 100000 in
theorem bits_Mul64.calls (a0 : Int) (a1 : Int) (r1 : Int) (r2 : Int) (w : World) (h : bits_Mul64.f a0 a1 = some (r1, r2)) :
  Calls Try.prog 108 #[.int .u64 a0, .int .u64 a1] w fun e w' => e = .returned (.tuple #[.int .u64 r1, .int .u64 r2]) ∧ Drawn0 w w' := by
 have H : (some (IntKind.u64.wrap ((IntKind.u64.wrap ((IntKind.u64.wrap ((a0 / 4294967296) * (a1 / 4294967296))) + ((IntKind.u64.wrap ((IntKind.u64.wrap ((a0 / 4294967296) * (Go.bits .and .u64 a1 4294967295))) + ((IntKind.u64.wrap ((Go.bits .and .u64 a0 4294967295) * (Go.bits .and .u64 a1 4294967295))) / 4294967296))) / 4294967296))) + ((IntKind.u64.wrap ((Go.bits .and .u64 (IntKind.u64.wrap ((IntKind.u64.wrap ((a0 / 4294967296) * (Go.bits .and .u64 a1 4294967295))) + ((IntKind.u64.wrap ((Go.bits .and .u64 a0 4294967295) * (Go.bits .and .u64 a1 4294967295))) / 4294967296))) 4294967295) + (IntKind.u64.wrap ((Go.bits .and .u64 a0 4294967295) * (a1 / 4294967296))))) / 4294967296)), IntKind.u64.wrap (a0 * a1))) = some (r1, r2) := h; clear h; simp only [Option.some.injEq, Prod.mk.injEq] at H; obtain ⟨rfl, rfl⟩ := H; go_enter Try.func108, Try.ntmps108
 go_wp2; go_ret2; exact ⟨Z5, Z14⟩
def field_reckoner_sub.f (a0_0 : Int) (a0_1 : Bool) (a1 : Int) (a2 : Int) : Option (Int) := if 0 ≤ a1 ∧ 0 ≤ a2 ∧ a1 < 18446744073709551616 ∧ a2 < 18446744073709551616 then (if a1 < a2 then (some (IntKind.u64.wrap (a1 + 18446744073709551616 - a2 + a0_0))) else (some (a1 - a2))) else none
set_option maxHeartbeats 8000000 in
set_option maxRecDepth 100000 in
theorem field_reckoner_sub.calls (a0_0 : Int) (a0_1 : Bool) (a1 : Int) (a2 : Int) (r : Int) (w : World) (h : field_reckoner_sub.f a0_0 a0_1 a1 a2 = some r) :
  Calls Try.prog 110 #[.agg #[.int .u64 a0_0, .bool a0_1], .int .u64 a1, .int .u64 a2] w fun e w' => e = .returned (.int .u64 r) ∧ Below w.heap.size w w' := by
 have hu78 := Try.underlying118; unfold field_reckoner_sub.f at h; by_cases hw : 0 ≤ a1 ∧ 0 ≤ a2 ∧ a1 < 18446744073709551616 ∧ a2 < 18446744073709551616
 case neg => rw [if_neg hw] at h; cases h
 rw [if_pos hw] at h; obtain ⟨h1, h2, h3, h4⟩ := hw; have he : ∀ W : World, (callFunc 116 #[.int .u64 a1, .int .u64 a2, .int .u64 0]).run Try.prog W = .ok (.value (.tuple #[.int .u64 (((a1.toNat + 18446744073709551616 - a2.toNat - 0) % 18446744073709551616 : Nat) : Int), .int .u64 ((if a1.toNat < a2.toNat + 0 then 1 else 0 : Nat) : Int)])) W := by
  intro W; obtain ⟨x, rfl⟩ := Int.eq_ofNat_of_zero_le h1; obtain ⟨y, rfl⟩ := Int.eq_ofNat_of_zero_le h2; rw [run_callFunc_extern Try.func116 Z12 Z12 Z12 (e := sub64Entry) Z12, show (Value.int IntKind.u64 0) = Value.int IntKind.u64 ((0 : Nat) : Int) from rfl, run_sub64 x y 0 Z121]; rfl
 by_cases c : a1 < a2
 ·rw [if_pos c] at h; obtain rfl := Option.some.inj h; have he2 : ∀ W : World, (callFunc 116 #[.int .u64 a1, .int .u64 a2, .int .u64 0]).run Try.prog W = .ok (.value (.tuple #[.int .u64 (a1 + 18446744073709551616 - a2), .int .u64 1])) W := by
   intro W; rw [he W, if_pos Z121, show (((a1.toNat + 18446744073709551616 - a2.toNat - 0) % 18446744073709551616 : Nat) : Int) = a1 + 18446744073709551616 - a2 by omega]; rfl
  clear he h1 h2 h3 h4 c h; go_enter Try.func110, Try.ntmps110
  go_wp2; go_ret; exact ⟨by first | rfl | simp, (Below.refl _ _).alloc (Nat.le_refl _) _⟩
 ·rw [if_neg c] at h; obtain rfl := Option.some.inj h; have he2 : ∀ W : World, (callFunc 116 #[.int .u64 a1, .int .u64 a2, .int .u64 0]).run Try.prog W = .ok (.value (.tuple #[.int .u64 (a1 - a2), .int .u64 0])) W := by
   intro W; rw [he W, if_neg Z121, show (((a1.toNat + 18446744073709551616 - a2.toNat - 0) % 18446744073709551616 : Nat) : Int) = a1 - a2 by omega]; rfl
  clear he h1 h2 h3 h4 c h; go_enter Try.func110, Try.ntmps110
  go_wp2; go_ret; exact ⟨by first | rfl | simp, (Below.refl _ _).alloc (Nat.le_refl _) _⟩
end Go.Proofs.Ytfkikfapbdlnjaa.P
end
section
namespace Go.Proofs.Ytfkikfapbdlnjaa.P
open Go.RowKit Go.Proofs.YtfkikfapbdlnjaaW.PrintWords Go.Proofs.YtfkikfapbdlnjaaW.PrintLast Go.Proofs.YtfkikfapbdlnjaaW.PrintMore
attribute [local go_sem] max2_int min2_int max_two min_two max_three min_three max_four min_four
set_option linter.unusedVariables false
set_option linter.unusedSimpArgs false
def field_reckoner_mul.f (a0_0 : Int) (a0_1 : Bool) (a1 : Int) (a2 : Int) : Option (Int) := (bits_Mul64.f a1 a2).bind fun bt151 => (if a0_1 = true then (if bt151.2 ≥ a0_0 then ((field_reckoner_sub.f a0_0 a0_1 (IntKind.u64.wrap (bt151.2 - a0_0)) (bt151.1 / 4294967296)).bind fun t153 => ((field_reckoner_add.f a0_0 a0_1 t153 (IntKind.u64.wrap ((IntKind.u64.wrap ((Go.bits .and .u64 bt151.1 4294967295) * 4294967296)) - (Go.bits .and .u64 bt151.1 4294967295)))).bind fun t154 => (some t154))) else ((field_reckoner_sub.f a0_0 a0_1 bt151.2 (bt151.1 / 4294967296)).bind fun t155 => ((field_reckoner_add.f a0_0 a0_1 t155 (IntKind.u64.wrap ((IntKind.u64.wrap ((Go.bits .and .u64 bt151.1 4294967295) * 4294967296)) - (Go.bits .and .u64 bt151.1 4294967295)))).bind fun t156 => (some t156)))) else (if bt151.1 = 0 then (if a0_0 > 0 then (if a0_0 = 0 then (none) else (some (Int.tmod bt151.2 a0_0))) else (none)) else (none)))
def field_reckoner_mul.T7 : Bool × List (List Nat × List Nat) := (true, [([], []), ([], []), ([], []), ([], []), ([1, 2, 3], [1, 2, 3]), ([], []), ([5], [5]), ([], []), ([6, 7], [6, 7]), ([0, 4, 8, 4], [0, 4, 8]), ([9, 9, 0, 1, 2, 3, 4, 5, 6, 7, 8, 9], [9])])
def field_reckoner_mul.B7 : List Nat := [0, 0, 0, 0, 14, 0, 32, 0, 224, 511, 1023]
theorem field_reckoner_mul.tab7 : rtab .any (opsOf Try.f87 7) = field_reckoner_mul.T7 := by kernel_rfl
theorem field_reckoner_mul.bits7 : waitsOk field_reckoner_mul.T7.2 field_reckoner_mul.B7 = true := by kernel_rfl
set_option maxHeartbeats 1000000 in
theorem div64_small (lo p : Int) (w : World) (hp : 0 < p) : Calls Try.prog 115 #[.int .u64 0, .int .u64 lo, .int .u64 p] w fun e w' => e = .returned (.tuple #[.int .u64 (IntKind.u64.wrap (lo.tdiv p)), .int .u64 (lo.tmod p)]) ∧ Drawn0 w w' := by
 have b1 : (p == 0) = false := beq_eq_false_iff_ne.mpr Z121; have b2 : decide (p ≤ 0) = false := decide_eq_false Z121; have b3 : ¬ p = 0 := by omega
 go_enter Try.func115, Try.ntmps115
 go_wp2; go_quiet (fail)
 go_wp2; go_ret2; exact ⟨rfl, Z14⟩
set_option maxHeartbeats 1000000 in
theorem rem64_small (hi lo p : Int) (w : World) (hh : hi = 0) (hp : 0 < p) : Calls Try.prog 109 #[.int .u64 hi, .int .u64 lo, .int .u64 p] w fun e w' => e = .returned (.int .u64 (lo.tmod p)) ∧ Drawn0 w w' := by
 subst hh; have b3 : ¬ p = 0 := by omega
 have HP := am hp; clear hp; go_enter Try.func109, Try.ntmps109
 go_wp2_with (go_at_call 115; (try simp only [Int.zero_tmod, Int.zero_emod]); ((with_reducible refine (div64_small lo p _ HP.out).mono ?_); rintro e w' ⟨rfl, ⟨nd, rfl⟩⟩))
 go_ret; exact ⟨rfl, Z14⟩
set_option maxHeartbeats 8000000 in
set_option maxRecDepth 100000 in
theorem field_reckoner_mul.calls (a0_0 : Int) (a0_1 : Bool) (a1 : Int) (a2 : Int) (r : Int) (w : World) (h : field_reckoner_mul.f a0_0 a0_1 a1 a2 = some r) :
  Calls Try.prog 87 #[.agg #[.int .u64 a0_0, .bool a0_1], .int .u64 a1, .int .u64 a2] w fun e w' => e = .returned (.int .u64 r) ∧ Below w.heap.size w w' := by
 have hu118 := Try.underlying118; have HB := am (Below.refl w.heap.size w); have H : ((bits_Mul64.f a1 a2).bind fun bt151 => (if a0_1 = true then (if bt151.2 ≥ a0_0 then ((field_reckoner_sub.f a0_0 a0_1 (IntKind.u64.wrap (bt151.2 - a0_0)) (bt151.1 / 4294967296)).bind fun t153 => ((field_reckoner_add.f a0_0 a0_1 t153 (IntKind.u64.wrap ((IntKind.u64.wrap ((Go.bits .and .u64 bt151.1 4294967295) * 4294967296)) - (Go.bits .and .u64 bt151.1 4294967295)))).bind fun t154 => (some t154))) else ((field_reckoner_sub.f a0_0 a0_1 bt151.2 (bt151.1 / 4294967296)).bind fun t155 => ((field_reckoner_add.f a0_0 a0_1 t155 (IntKind.u64.wrap ((IntKind.u64.wrap ((Go.bits .and .u64 bt151.1 4294967295) * 4294967296)) - (Go.bits .and .u64 bt151.1 4294967295)))).bind fun t156 => (some t156)))) else (if bt151.1 = 0 then (if a0_0 > 0 then (if a0_0 = 0 then (none) else (some (Int.tmod bt151.2 a0_0))) else (none)) else (none)))) = some r := h; clear h; replace H := Option.bind_eq_some_iff.mp H; obtain ⟨⟨t151, t152⟩, A40, H⟩ := H; replace H : (if a0_1 = true then (if t152 ≥ a0_0 then ((field_reckoner_sub.f a0_0 a0_1 (IntKind.u64.wrap (t152 - a0_0)) (t151 / 4294967296)).bind fun t153 => ((field_reckoner_add.f a0_0 a0_1 t153 (IntKind.u64.wrap ((IntKind.u64.wrap ((Go.bits .and .u64 t151 4294967295) * 4294967296)) - (Go.bits .and .u64 t151 4294967295)))).bind fun t154 => (some t154))) else ((field_reckoner_sub.f a0_0 a0_1 t152 (t151 / 4294967296)).bind fun t155 => ((field_reckoner_add.f a0_0 a0_1 t155 (IntKind.u64.wrap ((IntKind.u64.wrap ((Go.bits .and .u64 t151 4294967295) * 4294967296)) - (Go.bits .and .u64 t151 4294967295)))).bind fun t156 => (some t156)))) else (if t151 = 0 then (if a0_0 > 0 then (if a0_0 = 0 then (none) else (some (Int.tmod t152 a0_0))) else (none)) else (none))) = some r := H; have A4 := am A40; clear A40; by_cases c5 : a0_1 = true
 ·subst c5; have H1 : (if t152 ≥ a0_0 then ((field_reckoner_sub.f a0_0 true (IntKind.u64.wrap (t152 - a0_0)) (t151 / 4294967296)).bind fun t153 => ((field_reckoner_add.f a0_0 true t153 (IntKind.u64.wrap ((IntKind.u64.wrap ((Go.bits .and .u64 t151 4294967295) * 4294967296)) - (Go.bits .and .u64 t151 4294967295)))).bind fun t154 => (some t154))) else ((field_reckoner_sub.f a0_0 true t152 (t151 / 4294967296)).bind fun t155 => ((field_reckoner_add.f a0_0 true t155 (IntKind.u64.wrap ((IntKind.u64.wrap ((Go.bits .and .u64 t151 4294967295) * 4294967296)) - (Go.bits .and .u64 t151 4294967295)))).bind fun t156 => (some t156)))) = some r := by rw [if_pos rfl] at H; exact H
  clear H; have H := H1; clear H1; by_cases c6 : t152 ≥ a0_0
  ·rw [if_pos c6] at H; have c6b0 : decide (a0_0 ≤ t152) = true := decide_eq_true c6; clear c6; replace H := Option.bind_eq_some_iff.mp H; obtain ⟨t153, A70, H⟩ := H; replace H : ((field_reckoner_add.f a0_0 true t153 (IntKind.u64.wrap ((IntKind.u64.wrap ((Go.bits .and .u64 t151 4294967295) * 4294967296)) - (Go.bits .and .u64 t151 4294967295)))).bind fun t154 => (some t154)) = some r := H; have A7 := am A70; clear A70; replace H := Option.bind_eq_some_iff.mp H; obtain ⟨t154, A80, H⟩ := H; replace H : (some t154) = some r := H; have A8 := am A80; clear A80; obtain rfl := Option.some.inj H; go_enter Try.func87, Try.ntmps87
   (try go_wp2_with (first | ((with_reducible refine gate_dst (N := 3) rfl ?_); refine box_event ?hg (N := 3) ?hd (cs := #[.int .u64 a0_0, .bool true]) (t := 118) ?hr ?_; (case hd => rfl); (case hg => rfl); (case hr => first | (go_simp; done) | (go_simp; rfl)); intro gb150 hg w9 hbox hb; have BK150 := am (hbox); have GW150 := am ((Z58 : w.heap.size ≤ gb150)); have GE150 := am ((Z58 : w.heap.size ≤ gb150)); replace HB := am (below_step Z1 hb); clear hb hbox hg) | ((with_reducible refine gate_callee (f := 108) rfl ?_); refine goesL_ (some 14) rfl rfl Try.func108 Z12 rfl #[.int .u64 a1, .int .u64 a2] rfl Z2 ?_; (with_reducible refine (bits_Mul64.calls a1 a2 t151 t152 _ A4.out).mono ?_); rintro e w' ⟨rfl, ⟨nd, rfl⟩⟩; refine ⟨_, rfl, ?_⟩; have hcz10_0 : w9.cell? ⟨gb150, 0, none⟩ = some (.int .u64 a0_0) := (blk_cell BK150.out 0).trans rfl; have hcz10_1 : w9.cell? ⟨gb150, 1, none⟩ = some (.bool true) := (blk_cell BK150.out 1).trans rfl; have hfz10_0 := blk_frozen BK150.out 0; have hfz10_1 := blk_frozen BK150.out 1) | (go_at_call 109; ((with_reducible refine (rem64_small _ _ _ _ (eq_of_beq (by assumption)) (of_decide_eq_true (by assumption))).mono ?_); rintro e w' ⟨rfl, ⟨nd, rfl⟩⟩)))); (try (rw [drewN_self w9]; generalize hq_ : World.drewN w9 _ = w9; replace BK150 : Aside0 (w9.heap[gb150]? = some (.cells #[.int .u64 a0_0, .bool true] 118 (0, 0))) := ⟨by rw [← hq_]; exact Z63⟩; replace HB : Aside0 (Below w.heap.size w w9) := ⟨by rw [← hq_]; exact Z29⟩; clear hq_))
   replace BK150 := am (blk_drew BK150.out); replace HB := am (below_drew1 HB.out); refine start_ (n := 11) (S := fun w' => w'.cell? ⟨gb150, 0, none⟩ = some (.int .u64 a0_0) ∧ w'.cell? ⟨gb150, 1, none⟩ = some (.bool true)) (ds := []) #[false, false, false, false, false, false, false, false, false, false, false] Z12 rfl rfl ⟨(blk_cell BK150.out 0).trans rfl, (blk_cell BK150.out 1).trans rfl⟩ (fun hHeld => ?_); refine with_tabW field_reckoner_mul.tab7 field_reckoner_mul.bits7 (fun HT_ HW_ => ?_)
   generalize w9.drew = w11 at BK150 HB hHeld ⊢
   refine pure_ (i := 2) (N := some 39) (v := ?_) (a' := ?_) #[false, false, true, false, false, false, false, false, false, false, false] rfl rfl (any_of HT_.out Z12) (fun _ _ _ h => h) (Or.inl ⟨by rfl, ?_⟩) ?_ ?_; rotate_left
   ·intro w'; go_simp; with_reducible rfl
   rotate_left
   ·simp only [Act.put, List.setIfInBounds_toArray, List.set_cons_zero, List.set_cons_succ, i64_w, i32_w]; rfl
   refine pure_ (i := 3) (N := some 40) (v := ?_) (a' := ?_) #[false, false, true, true, false, false, false, false, false, false, false] rfl rfl (any_of HT_.out Z12) (fun _ _ _ h => h) (Or.inl ⟨by rfl, ?_⟩) ?_ ?_; rotate_left
   ·intro w'; go_simp; with_reducible rfl
   rotate_left
   ·simp only [Act.put, List.setIfInBounds_toArray, List.set_cons_zero, List.set_cons_succ, i64_w, i32_w]; rfl
   refine pure_ (i := 5) (N := some 42) (v := ?_) (a' := ?_) #[false, false, true, true, false, true, false, false, false, false, false] rfl rfl (any_of HT_.out Z12) (fun _ _ _ h => h) (Or.inl ⟨by rfl, ?_⟩) ?_ ?_; rotate_left
   ·intro w'; go_simp; with_reducible rfl
   rotate_left
   ·simp only [Act.put, List.setIfInBounds_toArray, List.set_cons_zero, List.set_cons_succ, i64_w, i32_w]; rfl
   refine pure_ (i := 6) (N := some 43) (v := ?_) (a' := ?_) #[false, false, true, true, false, true, true, false, false, false, false] rfl rfl (any_of HT_.out Z12) (fun _ _ _ h => h) (Or.inl ⟨by rfl, ?_⟩) ?_ ?_; rotate_left
   ·intro w'; go_simp; with_reducible rfl
   rotate_left
   ·simp only [Act.put, List.setIfInBounds_toArray, List.set_cons_zero, List.set_cons_succ, i64_w, i32_w]; rfl
   refine pure_ (i := 7) (N := some 44) (v := ?_) (a' := ?_) #[false, false, true, true, false, true, true, true, false, false, false] rfl rfl (any_of HT_.out Z12) (fun _ _ _ h => h) (Or.inl ⟨by rfl, ?_⟩) ?_ ?_; rotate_left
   ·intro w'; go_simp; with_reducible rfl
   rotate_left
   ·simp only [Act.put, List.setIfInBounds_toArray, List.set_cons_zero, List.set_cons_succ, i64_w, i32_w]; rfl
   refine pure_ (i := 8) (N := some 45) (v := ?_) (a' := ?_) #[false, false, true, true, false, true, true, true, true, false, false] rfl rfl (any_of HT_.out Z12) (fun _ _ _ h => h) (Or.inl ⟨by rfl, ?_⟩) ?_ ?_; rotate_left
   ·intro w'; go_simp; with_reducible rfl
   rotate_left
   ·simp only [Act.put, List.setIfInBounds_toArray, List.set_cons_zero, List.set_cons_succ, i64_w, i32_w]; rfl
   refine take_ (i := 0) (N := some 37) (v := ?_) (a' := ?_) #[true, false, true, true, false, true, true, true, true, false, false] rfl rfl (take_ofW HT_.out HW_.out Z12) (fun _ _ _ h => h) (Or.inl ⟨by rfl, ?_⟩) hHeld ?_ ?_; rotate_left
   ·rintro w' ⟨s0, s1⟩; go_simp; with_reducible rfl
   rotate_left
   ·simp only [Act.put, List.setIfInBounds_toArray, List.set_cons_zero, List.set_cons_succ, i64_w, i32_w]; rfl
   refine take_ (i := 1) (N := some 38) (v := ?_) (a' := ?_) #[true, true, true, true, false, true, true, true, true, false, false] rfl rfl (take_ofW HT_.out HW_.out Z12) (fun _ _ _ h => h) (Or.inl ⟨by rfl, ?_⟩) hHeld ?_ ?_; rotate_left
   ·rintro w' ⟨s0, s1⟩; go_simp; with_reducible rfl
   rotate_left
   ·simp only [Act.put, List.setIfInBounds_toArray, List.set_cons_zero, List.set_cons_succ, i64_w, i32_w]; rfl
   refine one_ (i := 4) (N := some 41) #[true, true, true, true, true, true, true, true, true, false, false] rfl rfl (one_of HT_.out Z12) Z117 (fun K hK => ?_); refine goes_ Try.func110 Z12 rfl #[.agg #[.int .u64 a0_0, .bool true], .int .u64 (IntKind.u64.wrap (t152 - a0_0)), .int .u64 (t151 / 4294967296)] (by rfl) rfl rfl Z2 ?_; (with_reducible refine (field_reckoner_sub.calls a0_0 true (IntKind.u64.wrap (t152 - a0_0)) (t151 / 4294967296) t153 _ A7.out).mono ?_); rintro e w12 ⟨rfl, hb⟩; refine ⟨_, rfl, ?_⟩; replace BK150 := am (blk_below (g := gb150) (o := .cells #[.int .u64 a0_0, .bool true] 118 (0, 0)) Z63 hb); replace HB := am (below_step Z29 hb); (try clear hb)
   (try clear hb2)
   (try clear hk)
   (try clear hi)
   refine hK.out _ _ ⟨(blk_cell BK150.out 0).trans rfl, (blk_cell BK150.out 1).trans rfl⟩ (fun hHeld => ?_); clear hK K; refine norm_ (a' := ?_) ?_ ?_; rotate_left
   ·show Act.put _ (some 41) _ = _
    simp only [Act.put, List.setIfInBounds_toArray, List.set_cons_zero, List.set_cons_succ, i64_w, i32_w]; rfl
   refine one_ (i := 9) (N := some 46) #[true, true, true, true, true, true, true, true, true, true, false] rfl rfl (one_of HT_.out Z12) Z117 (fun K hK => ?_); refine goes_ Try.func86 Z12 rfl #[.agg #[.int .u64 a0_0, .bool true], .int .u64 t153, .int .u64 (IntKind.u64.wrap ((IntKind.u64.wrap ((Go.bits .and .u64 t151 4294967295) * 4294967296)) - (Go.bits .and .u64 t151 4294967295)))] (by rfl) rfl rfl Z2 ?_; (with_reducible refine (field_reckoner_add.calls a0_0 true t153 (IntKind.u64.wrap ((IntKind.u64.wrap ((Go.bits .and .u64 t151 4294967295) * 4294967296)) - (Go.bits .and .u64 t151 4294967295))) t154 _ A8.out).mono ?_); rintro e w13 ⟨rfl, hb⟩; refine ⟨_, rfl, ?_⟩; replace BK150 := am (blk_below (g := gb150) (o := .cells #[.int .u64 a0_0, .bool true] 118 (0, 0)) Z63 hb); replace HB := am (below_step Z29 hb); (try clear hb)
   (try clear hb2)
   (try clear hk)
   (try clear hi)
   refine hK.out _ _ ⟨(blk_cell BK150.out 0).trans rfl, (blk_cell BK150.out 1).trans rfl⟩ (fun hHeld => ?_); clear hK K; refine norm_ (a' := ?_) ?_ ?_; rotate_left
   ·show Act.put _ (some 46) _ = _
    simp only [Act.put, List.setIfInBounds_toArray, List.set_cons_zero, List.set_cons_succ, i64_w, i32_w]; rfl
   refine pure_ (i := 10) (N := some 6) (v := ?_) (a' := ?_) #[true, true, true, true, true, true, true, true, true, true, true] rfl rfl (any_of HT_.out Z12) (fun _ _ _ h => h) (Or.inl ⟨by rfl, ?_⟩) ?_ ?_; rotate_left
   ·intro w'; go_simp; with_reducible rfl
   rotate_left
   ·simp only [Act.put, List.setIfInBounds_toArray, List.set_cons_zero, List.set_cons_succ, i64_w, i32_w]; rfl
   refine done_ (done_of HT_.out Z12) ?_; (try go_wp2); go_ret; exact ⟨Z3, Z29⟩
  ·rw [if_neg c6] at H; have c6b0 : decide (a0_0 ≤ t152) = false := decide_eq_false c6; clear c6; replace H := Option.bind_eq_some_iff.mp H; obtain ⟨t155, A140, H⟩ := H; replace H : ((field_reckoner_add.f a0_0 true t155 (IntKind.u64.wrap ((IntKind.u64.wrap ((Go.bits .and .u64 t151 4294967295) * 4294967296)) - (Go.bits .and .u64 t151 4294967295)))).bind fun t156 => (some t156)) = some r := H; have A14 := am A140; clear A140; replace H := Option.bind_eq_some_iff.mp H; obtain ⟨t156, A150, H⟩ := H; replace H : (some t156) = some r := H; have A15 := am A150; clear A150; obtain rfl := Option.some.inj H; go_enter Try.func87, Try.ntmps87
   (try go_wp2_with (first | ((with_reducible refine gate_dst (N := 3) rfl ?_); refine box_event ?hg (N := 3) ?hd (cs := #[.int .u64 a0_0, .bool true]) (t := 118) ?hr ?_; (case hd => rfl); (case hg => rfl); (case hr => first | (go_simp; done) | (go_simp; rfl)); intro gb150 hg w16 hbox hb; have BK150 := am (hbox); have GW150 := am ((Z58 : w.heap.size ≤ gb150)); have GE150 := am ((Z58 : w.heap.size ≤ gb150)); replace HB := am (below_step Z1 hb); clear hb hbox hg) | ((with_reducible refine gate_callee (f := 108) rfl ?_); refine goesL_ (some 14) rfl rfl Try.func108 Z12 rfl #[.int .u64 a1, .int .u64 a2] rfl Z2 ?_; (with_reducible refine (bits_Mul64.calls a1 a2 t151 t152 _ A4.out).mono ?_); rintro e w' ⟨rfl, ⟨nd, rfl⟩⟩; refine ⟨_, rfl, ?_⟩; have hcz17_0 : w16.cell? ⟨gb150, 0, none⟩ = some (.int .u64 a0_0) := (blk_cell BK150.out 0).trans rfl; have hcz17_1 : w16.cell? ⟨gb150, 1, none⟩ = some (.bool true) := (blk_cell BK150.out 1).trans rfl; have hfz17_0 := blk_frozen BK150.out 0; have hfz17_1 := blk_frozen BK150.out 1) | (go_at_call 109; ((with_reducible refine (rem64_small _ _ _ _ (eq_of_beq (by assumption)) (of_decide_eq_true (by assumption))).mono ?_); rintro e w' ⟨rfl, ⟨nd, rfl⟩⟩)))); (try (rw [drewN_self w16]; generalize hq_ : World.drewN w16 _ = w16; replace BK150 : Aside0 (w16.heap[gb150]? = some (.cells #[.int .u64 a0_0, .bool true] 118 (0, 0))) := ⟨by rw [← hq_]; exact Z63⟩; replace HB : Aside0 (Below w.heap.size w w16) := ⟨by rw [← hq_]; exact Z29⟩; clear hq_))
   replace BK150 := am (blk_drew BK150.out); replace HB := am (below_drew1 HB.out); refine start_ (n := 11) (S := fun w' => w'.cell? ⟨gb150, 0, none⟩ = some (.int .u64 a0_0) ∧ w'.cell? ⟨gb150, 1, none⟩ = some (.bool true)) (ds := []) #[false, false, false, false, false, false, false, false, false, false, false] Z12 rfl rfl ⟨(blk_cell BK150.out 0).trans rfl, (blk_cell BK150.out 1).trans rfl⟩ (fun hHeld => ?_); refine with_tabW field_reckoner_mul.tab7 field_reckoner_mul.bits7 (fun HT_ HW_ => ?_)
   generalize w16.drew = w18 at BK150 HB hHeld ⊢
   refine pure_ (i := 2) (N := some 39) (v := ?_) (a' := ?_) #[false, false, true, false, false, false, false, false, false, false, false] rfl rfl (any_of HT_.out Z12) (fun _ _ _ h => h) (Or.inl ⟨by rfl, ?_⟩) ?_ ?_; rotate_left
   ·intro w'; go_simp; with_reducible rfl
   rotate_left
   ·simp only [Act.put, List.setIfInBounds_toArray, List.set_cons_zero, List.set_cons_succ, i64_w, i32_w]; rfl
   refine pure_ (i := 3) (N := some 40) (v := ?_) (a' := ?_) #[false, false, true, true, false, false, false, false, false, false, false] rfl rfl (any_of HT_.out Z12) (fun _ _ _ h => h) (Or.inl ⟨by rfl, ?_⟩) ?_ ?_; rotate_left
   ·intro w'; go_simp; with_reducible rfl
   rotate_left
   ·simp only [Act.put, List.setIfInBounds_toArray, List.set_cons_zero, List.set_cons_succ, i64_w, i32_w]; rfl
   refine pure_ (i := 5) (N := some 42) (v := ?_) (a' := ?_) #[false, false, true, true, false, true, false, false, false, false, false] rfl rfl (any_of HT_.out Z12) (fun _ _ _ h => h) (Or.inl ⟨by rfl, ?_⟩) ?_ ?_; rotate_left
   ·intro w'; go_simp; with_reducible rfl
   rotate_left
   ·simp only [Act.put, List.setIfInBounds_toArray, List.set_cons_zero, List.set_cons_succ, i64_w, i32_w]; rfl
   refine pure_ (i := 6) (N := some 43) (v := ?_) (a' := ?_) #[false, false, true, true, false, true, true, false, false, false, false] rfl rfl (any_of HT_.out Z12) (fun _ _ _ h => h) (Or.inl ⟨by rfl, ?_⟩) ?_ ?_; rotate_left
   ·intro w'; go_simp; with_reducible rfl
   rotate_left
   ·simp only [Act.put, List.setIfInBounds_toArray, List.set_cons_zero, List.set_cons_succ, i64_w, i32_w]; rfl
   refine pure_ (i := 7) (N := some 44) (v := ?_) (a' := ?_) #[false, false, true, true, false, true, true, true, false, false, false] rfl rfl (any_of HT_.out Z12) (fun _ _ _ h => h) (Or.inl ⟨by rfl, ?_⟩) ?_ ?_; rotate_left
   ·intro w'; go_simp; with_reducible rfl
   rotate_left
   ·simp only [Act.put, List.setIfInBounds_toArray, List.set_cons_zero, List.set_cons_succ, i64_w, i32_w]; rfl
   refine pure_ (i := 8) (N := some 45) (v := ?_) (a' := ?_) #[false, false, true, true, false, true, true, true, true, false, false] rfl rfl (any_of HT_.out Z12) (fun _ _ _ h => h) (Or.inl ⟨by rfl, ?_⟩) ?_ ?_; rotate_left
   ·intro w'; go_simp; with_reducible rfl
   rotate_left
   ·simp only [Act.put, List.setIfInBounds_toArray, List.set_cons_zero, List.set_cons_succ, i64_w, i32_w]; rfl
   refine take_ (i := 0) (N := some 37) (v := ?_) (a' := ?_) #[true, false, true, true, false, true, true, true, true, false, false] rfl rfl (take_ofW HT_.out HW_.out Z12) (fun _ _ _ h => h) (Or.inl ⟨by rfl, ?_⟩) hHeld ?_ ?_; rotate_left
   ·rintro w' ⟨s0, s1⟩; go_simp; with_reducible rfl
   rotate_left
   ·simp only [Act.put, List.setIfInBounds_toArray, List.set_cons_zero, List.set_cons_succ, i64_w, i32_w]; rfl
   refine take_ (i := 1) (N := some 38) (v := ?_) (a' := ?_) #[true, true, true, true, false, true, true, true, true, false, false] rfl rfl (take_ofW HT_.out HW_.out Z12) (fun _ _ _ h => h) (Or.inl ⟨by rfl, ?_⟩) hHeld ?_ ?_; rotate_left
   ·rintro w' ⟨s0, s1⟩; go_simp; with_reducible rfl
   rotate_left
   ·simp only [Act.put, List.setIfInBounds_toArray, List.set_cons_zero, List.set_cons_succ, i64_w, i32_w]; rfl
   refine one_ (i := 4) (N := some 41) #[true, true, true, true, true, true, true, true, true, false, false] rfl rfl (one_of HT_.out Z12) Z117 (fun K hK => ?_); refine goes_ Try.func110 Z12 rfl #[.agg #[.int .u64 a0_0, .bool true], .int .u64 t152, .int .u64 (t151 / 4294967296)] (by rfl) rfl rfl Z2 ?_; (with_reducible refine (field_reckoner_sub.calls a0_0 true t152 (t151 / 4294967296) t155 _ A14.out).mono ?_); rintro e w19 ⟨rfl, hb⟩; refine ⟨_, rfl, ?_⟩; replace BK150 := am (blk_below (g := gb150) (o := .cells #[.int .u64 a0_0, .bool true] 118 (0, 0)) Z63 hb); replace HB := am (below_step Z29 hb); (try clear hb)
   (try clear hb2)
   (try clear hk)
   (try clear hi)
   refine hK.out _ _ ⟨(blk_cell BK150.out 0).trans rfl, (blk_cell BK150.out 1).trans rfl⟩ (fun hHeld => ?_); clear hK K; refine norm_ (a' := ?_) ?_ ?_; rotate_left
   ·show Act.put _ (some 41) _ = _
    simp only [Act.put, List.setIfInBounds_toArray, List.set_cons_zero, List.set_cons_succ, i64_w, i32_w]; rfl
   refine one_ (i := 9) (N := some 46) #[true, true, true, true, true, true, true, true, true, true, false] rfl rfl (one_of HT_.out Z12) Z117 (fun K hK => ?_); refine goes_ Try.func86 Z12 rfl #[.agg #[.int .u64 a0_0, .bool true], .int .u64 t155, .int .u64 (IntKind.u64.wrap ((IntKind.u64.wrap ((Go.bits .and .u64 t151 4294967295) * 4294967296)) - (Go.bits .and .u64 t151 4294967295)))] (by rfl) rfl rfl Z2 ?_; (with_reducible refine (field_reckoner_add.calls a0_0 true t155 (IntKind.u64.wrap ((IntKind.u64.wrap ((Go.bits .and .u64 t151 4294967295) * 4294967296)) - (Go.bits .and .u64 t151 4294967295))) t156 _ A15.out).mono ?_); rintro e w20 ⟨rfl, hb⟩; refine ⟨_, rfl, ?_⟩; replace BK150 := am (blk_below (g := gb150) (o := .cells #[.int .u64 a0_0, .bool true] 118 (0, 0)) Z63 hb); replace HB := am (below_step Z29 hb); (try clear hb)
   (try clear hb2)
   (try clear hk)
   (try clear hi)
   refine hK.out _ _ ⟨(blk_cell BK150.out 0).trans rfl, (blk_cell BK150.out 1).trans rfl⟩ (fun hHeld => ?_); clear hK K; refine norm_ (a' := ?_) ?_ ?_; rotate_left
   ·show Act.put _ (some 46) _ = _
    simp only [Act.put, List.setIfInBounds_toArray, List.set_cons_zero, List.set_cons_succ, i64_w, i32_w]; rfl
   refine pure_ (i := 10) (N := some 6) (v := ?_) (a' := ?_) #[true, true, true, true, true, true, true, true, true, true, true] rfl rfl (any_of HT_.out Z12) (fun _ _ _ h => h) (Or.inl ⟨by rfl, ?_⟩) ?_ ?_; rotate_left
   ·intro w'; go_simp; with_reducible rfl
   rotate_left
   ·simp only [Act.put, List.setIfInBounds_toArray, List.set_cons_zero, List.set_cons_succ, i64_w, i32_w]; rfl
   refine done_ (done_of HT_.out Z12) ?_; (try go_wp2); go_ret; exact ⟨Z3, Z29⟩
 ·replace c5 := Bool.eq_false_iff.mpr c5; subst c5; have H1 : (if t151 = 0 then (if a0_0 > 0 then (if a0_0 = 0 then (none) else (some (Int.tmod t152 a0_0))) else (none)) else (none)) = some r := by rw [if_neg (show ¬ (false = true) by decide)] at H; exact H
  clear H; have H := H1; clear H1; by_cases c21 : t151 = 0
  ·rw [if_pos c21] at H; have c21b0 : (t151 == 0) = true := beq_iff_eq.mpr c21; have c21b1 : (t151 != 0) = false := bne_eq_false_iff_eq.mpr c21; clear c21; by_cases c22 : a0_0 > 0
   ·rw [if_pos c22] at H; have c22b0 : decide (0 < a0_0) = true := decide_eq_true c22; clear c22; by_cases c23 : a0_0 = 0
    ·rw [if_pos c23] at H; exact absurd H (by simp)
    ·rw [if_neg c23] at H; have c23b0 : (a0_0 == 0) = false := beq_eq_false_iff_ne.mpr c23; have c23b1 : (a0_0 != 0) = true := bne_iff_ne.mpr c23; obtain rfl := Option.some.inj H; go_enter Try.func87, Try.ntmps87
     go_wp2_with (first | ((with_reducible refine gate_dst (N := 3) rfl ?_); refine box_event ?hg (N := 3) ?hd (cs := #[.int .u64 a0_0, .bool false]) (t := 118) ?hr ?_; (case hd => rfl); (case hg => rfl); (case hr => first | (go_simp; done) | (go_simp; rfl)); intro gb150 hg w24 hbox hb; have BK150 := am (hbox); have GW150 := am ((Z58 : w.heap.size ≤ gb150)); have GE150 := am ((Z58 : w.heap.size ≤ gb150)); replace HB := am (below_step Z1 hb); clear hb hbox hg) | ((with_reducible refine gate_callee (f := 108) rfl ?_); refine goesL_ (some 14) rfl rfl Try.func108 Z12 rfl #[.int .u64 a1, .int .u64 a2] rfl Z2 ?_; (with_reducible refine (bits_Mul64.calls a1 a2 t151 t152 _ A4.out).mono ?_); rintro e w' ⟨rfl, ⟨nd, rfl⟩⟩; refine ⟨_, rfl, ?_⟩; have hcz25_0 : w24.cell? ⟨gb150, 0, none⟩ = some (.int .u64 a0_0) := (blk_cell BK150.out 0).trans rfl; have hcz25_1 : w24.cell? ⟨gb150, 1, none⟩ = some (.bool false) := (blk_cell BK150.out 1).trans rfl; have hfz25_0 := blk_frozen BK150.out 0; have hfz25_1 := blk_frozen BK150.out 1) | (go_at_call 109; ((with_reducible refine (rem64_small _ _ _ _ (eq_of_beq (by assumption)) (of_decide_eq_true (by assumption))).mono ?_); rintro e w' ⟨rfl, ⟨nd, rfl⟩⟩)))
     go_ret; exact ⟨Z3, Z29⟩
   ·rw [if_neg c22] at H; exact absurd H (by simp)
  ·rw [if_neg c21] at H; exact absurd H (by simp)
end Go.Proofs.Ytfkikfapbdlnjaa.P
end
section
namespace Go.Proofs.Ytfkikfapbdlnjaa.P
open Go.RowKit Go.Proofs.YtfkikfapbdlnjaaW.PrintWords Go.Proofs.YtfkikfapbdlnjaaW.PrintLast Go.Proofs.YtfkikfapbdlnjaaW.PrintMore
attribute [local go_sem] max2_int min2_int max_two min_two max_three min_three max_four min_four
set_option linter.unusedVariables false
set_option linter.unusedSimpArgs false
def field_Mul.f (k : Nat) (a0 : Int) (a1 : Int) (a2 : Int) : Option (Int × Int) := (field_asked.f k a0 (([a1, a2] : List Int))).bind fun bt160 => (if bt160.2.2 = 0 then ((field_reckoner_mul.f bt160.1 bt160.2.1 a1 a2).bind fun t164 => (some (t164, 0))) else (some (0, bt160.2.2)))
set_option maxHeartbeats 8000000 in
set_option maxRecDepth 100000 in
theorem field_Mul.calls (k : Nat) (a0 : Int) (a1 : Int) (a2 : Int) (r1 : Int) (r2 : Int) (w : World) (h : field_Mul.f k a0 a1 a2 = some (r1, r2)) :
  Calls Try.prog 111 #[.int .u8 a0, .int .u64 a1, .int .u64 a2] w fun e w' => e = .returned (.tuple #[.int .u64 r1, .int .i64 r2]) ∧ Below w.heap.size w w' := by
 have hu118 := Try.underlying118; have HB := am (Below.refl w.heap.size w); have H : ((field_asked.f k a0 (([a1, a2] : List Int))).bind fun bt160 => (if bt160.2.2 = 0 then ((field_reckoner_mul.f bt160.1 bt160.2.1 a1 a2).bind fun t164 => (some (t164, 0))) else (some (0, bt160.2.2)))) = some (r1, r2) := h; clear h; obtain ⟨y157, hy157⟩ : ∃ y_ : List Int, y_ = (([a1, a2] : List Int)) := ⟨_, rfl⟩; replace H : ((field_asked.f k a0 y157).bind fun bt160 => (if bt160.2.2 = 0 then ((field_reckoner_mul.f bt160.1 bt160.2.1 a1 a2).bind fun t164 => (some (t164, 0))) else (some (0, bt160.2.2)))) = some (r1, r2) := by first | (rw [hy157]; with_reducible exact H) | (have H2_ := (Option.bind_some _ _).symm.trans H; rw [hy157]; with_reducible exact H2_) | (have H2_ := (Option.bind_some _ _).symm.trans H; with_reducible exact H2_) | with_reducible exact H | (rw [hy157]; exact H) | exact H
 have Ny157 := am hy157; clear hy157; replace H := Option.bind_eq_some_iff.mp H; obtain ⟨⟨t160, t161, t162⟩, A40, H⟩ := H; replace H : (if t162 = 0 then ((field_reckoner_mul.f t160 t161 a1 a2).bind fun t164 => (some (t164, 0))) else (some (0, t162))) = some (r1, r2) := H; have A4 := am A40; clear A40; by_cases c5 : t162 = 0
 ·rw [if_pos c5] at H; have c5b0 : (t162 == 0) = true := beq_iff_eq.mpr c5; have c5b1 : (t162 != 0) = false := bne_eq_false_iff_eq.mpr c5; clear c5; replace H := Option.bind_eq_some_iff.mp H; obtain ⟨t164, A60, H⟩ := H; replace H : (some (t164, 0)) = some (r1, r2) := H; have A6 := am A60; clear A60; simp only [Option.some.injEq, Prod.mk.injEq] at H; obtain ⟨rfl, rfl⟩ := H; go_enter Try.func111, Try.ntmps111
  go_wp2_with (first | ((with_reducible refine gate_dst (N := 14) rfl ?_); refine Kd.R_lit (Kd.int .u64) _ 36 ?hg (N := 14) ?hd (xs := ([a1, a2] : List Int)) (inner := [.int .u64 a1, .int .u64 a2]) (ok := fun _ => True) (okp := fun _ => True) ?hr ?hp (fun _ hk => hk) trivial (Below.refl _ _) (Nat.le_refl _) (by simp) ?_; (case hd => rfl); (case hg => rfl); (case hr => first | (go_simp; done) | (go_simp; rfl)); (case hp => exact (Reps.one (show Kd.M (Kd.int .u64) _ _ _ a1 [.int .u64 a1] from rfl) (Reps.one (show Kd.M (Kd.int .u64) _ _ _ a2 [.int .u64 a2] from rfl) (Reps.none _ _)))); intro v158 w7 ho8 hb hg_ hnew_; clear hg_ hnew_; (first | rw [← Ny157.out] at ho8 | (simp only [Int.reduceToNat] at ho8; rw [← Ny157.out] at ho8)); have HO159 := am (Kd.R_lower ho8 (below_size Z1)); replace HB := am (below_step Z1 hb); clear hb ho8; obtain ⟨Ao9, co9, eo9⟩ := Kd.R_slice HO159.out; subst eo9) | ((with_reducible refine gate_callee (f := 84) rfl ?_); refine goesL_ (some 15) rfl rfl Try.func84 Z12 rfl #[.int .u8 a0, .slice Ao9 y157.length co9] rfl Z2 ?_; (with_reducible refine (field_asked.calls k a0 _ _ y157 t160 t161 t162 _ ?side1 ?side2 A4.out).mono ?_); (case side1 => repeat (first | exact (Kd.R_reads' HO159.out).2.2 | (with_reducible refine Kd.C_alloc ?_ _) | (with_reducible refine Kd.C_drewN ?_ _) | (with_reducible refine Kd.C_drew ?_))); (case side2 => exact (Kd.R_reads' HO159.out).2.1); rintro e w10 ⟨rfl, hb⟩; refine ⟨_, rfl, ?_⟩; replace HO159 := am (Kd.R_below Z97 hb); replace HB := am (below_step Z1 hb); (try clear hb)) | ((with_reducible refine gate_dst (N := 8) rfl ?_); refine box_event ?hg (N := 8) ?hd (cs := #[.int .u64 0, .bool false]) (t := 118) ?hr ?_; (case hd => rfl); (case hg => rfl); (case hr => first | (go_simp; done) | (go_simp; rfl)); intro gb163 hg w11 hbox hb; replace HO159 := am (Kd.R_below Z97 hb); have BK163 := am (hbox); have GW163 := am ((Z58 : w.heap.size ≤ gb163)); have GE163 := am ((Z58 : w.heap.size ≤ gb163)); replace HB := am (below_step Z1 hb); clear hb hbox hg; have hcz12_0 : w11.cell? ⟨gb163, 0, none⟩ = some (.int .u64 0) := (blk_cell BK163.out 0).trans rfl; have hcz12_1 : w11.cell? ⟨gb163, 1, none⟩ = some (.bool false) := (blk_cell BK163.out 1).trans rfl; have hfz12_0 := blk_frozen BK163.out 0; have hfz12_1 := blk_frozen BK163.out 1) | ((with_reducible refine gate_callee (f := 87) rfl ?_); refine goesL_ (some 24) rfl rfl Try.func87 Z12 rfl #[.agg #[.int .u64 t160, .bool t161], .int .u64 a1, .int .u64 a2] rfl Z2 ?_; (with_reducible refine (field_reckoner_mul.calls t160 t161 a1 a2 t164 _ A6.out).mono ?_); rintro e w13 ⟨rfl, hb⟩; refine ⟨_, rfl, ?_⟩; replace HO159 := am (Kd.R_below (by (with_reducible repeat (first | apply Kd.R_alloc | apply Kd.R_drewN | apply Kd.R_drew)); exact (Kd.R_mono (Kd.R_far (p := ⟨gb163, 1, none⟩) (Kd.R_far (p := ⟨gb163, 0, none⟩) (Kd.R_types HO159.out BK163.out Z117) (fun _ hk => hk.2) (.int .u64 t160)) (fun _ hk => hk.2) (.bool t161)) (fun _ h_ => h_.1))) hb); replace BK163 := am (blk_below (g := gb163) (o := .cells #[.int .u64 t160, .bool t161] 118 (0, 0)) (by (with_reducible repeat (first | refine blk_drewN ?_ _ | refine blk_drew ?_ | refine blk_alloc ?_ _)); refine blk_put (cs := #[.int .u64 t160, .bool false]) ?_ 1 _ rfl; (with_reducible repeat (first | refine blk_drewN ?_ _ | refine blk_drew ?_ | refine blk_alloc ?_ _)); refine blk_put (cs := #[.int .u64 0, .bool false]) ?_ 0 _ rfl; (with_reducible repeat (first | refine blk_drewN ?_ _ | refine blk_drew ?_ | refine blk_alloc ?_ _)); exact BK163.out) hb); replace HB := am (below_step Z90 hb); (try clear hb); (try clear hk)))
  go_ret2; exact ⟨Z3, Z90⟩
 ·rw [if_neg c5] at H; have c5b0 : (t162 == 0) = false := beq_eq_false_iff_ne.mpr c5; have c5b1 : (t162 != 0) = true := bne_iff_ne.mpr c5; simp only [Option.some.injEq, Prod.mk.injEq] at H; obtain ⟨rfl, rfl⟩ := H; go_enter Try.func111, Try.ntmps111
  go_wp2_with (first | ((with_reducible refine gate_dst (N := 14) rfl ?_); refine Kd.R_lit (Kd.int .u64) _ 36 ?hg (N := 14) ?hd (xs := ([a1, a2] : List Int)) (inner := [.int .u64 a1, .int .u64 a2]) (ok := fun _ => True) (okp := fun _ => True) ?hr ?hp (fun _ hk => hk) trivial (Below.refl _ _) (Nat.le_refl _) (by simp) ?_; (case hd => rfl); (case hg => rfl); (case hr => first | (go_simp; done) | (go_simp; rfl)); (case hp => exact (Reps.one (show Kd.M (Kd.int .u64) _ _ _ a1 [.int .u64 a1] from rfl) (Reps.one (show Kd.M (Kd.int .u64) _ _ _ a2 [.int .u64 a2] from rfl) (Reps.none _ _)))); intro v158 w14 ho15 hb hg_ hnew_; clear hg_ hnew_; (first | rw [← Ny157.out] at ho15 | (simp only [Int.reduceToNat] at ho15; rw [← Ny157.out] at ho15)); have HO159 := am (Kd.R_lower ho15 (below_size Z1)); replace HB := am (below_step Z1 hb); clear hb ho15; obtain ⟨Ao16, co16, eo16⟩ := Kd.R_slice HO159.out; subst eo16) | ((with_reducible refine gate_callee (f := 84) rfl ?_); refine goesL_ (some 15) rfl rfl Try.func84 Z12 rfl #[.int .u8 a0, .slice Ao16 y157.length co16] rfl Z2 ?_; (with_reducible refine (field_asked.calls k a0 _ _ y157 t160 t161 t162 _ ?side1 ?side2 A4.out).mono ?_); (case side1 => repeat (first | exact (Kd.R_reads' HO159.out).2.2 | (with_reducible refine Kd.C_alloc ?_ _) | (with_reducible refine Kd.C_drewN ?_ _) | (with_reducible refine Kd.C_drew ?_))); (case side2 => exact (Kd.R_reads' HO159.out).2.1); rintro e w17 ⟨rfl, hb⟩; refine ⟨_, rfl, ?_⟩; replace HO159 := am (Kd.R_below Z97 hb); replace HB := am (below_step Z1 hb); (try clear hb)) | ((with_reducible refine gate_dst (N := 8) rfl ?_); refine box_event ?hg (N := 8) ?hd (cs := #[.int .u64 0, .bool false]) (t := 118) ?hr ?_; (case hd => rfl); (case hg => rfl); (case hr => first | (go_simp; done) | (go_simp; rfl)); intro gb163 hg w18 hbox hb; replace HO159 := am (Kd.R_below Z97 hb); have BK163 := am (hbox); have GW163 := am ((Z58 : w.heap.size ≤ gb163)); have GE163 := am ((Z58 : w.heap.size ≤ gb163)); replace HB := am (below_step Z1 hb); clear hb hbox hg; have hcz19_0 : w18.cell? ⟨gb163, 0, none⟩ = some (.int .u64 0) := (blk_cell BK163.out 0).trans rfl; have hcz19_1 : w18.cell? ⟨gb163, 1, none⟩ = some (.bool false) := (blk_cell BK163.out 1).trans rfl; have hfz19_0 := blk_frozen BK163.out 0; have hfz19_1 := blk_frozen BK163.out 1))
  go_ret2; exact ⟨Z3, Z90⟩
def interp_reckoner_mul.f (k : Nat) (a0_0 : Int) (a1 : Int) (a2 : Int) : Option (Int) := (field_Mul.f k a0_0 a1 a2).bind fun bt166 => (some bt166.1)
set_option maxHeartbeats 8000000 in
set_option maxRecDepth 100000 in
theorem interp_reckoner_mul.calls (k : Nat) (a0_0 : Int) (a1 : Int) (a2 : Int) (r : Int) (w : World) (h : interp_reckoner_mul.f k a0_0 a1 a2 = some r) :
  Calls Try.prog 93 #[.agg #[.int .u8 a0_0], .int .u64 a1, .int .u64 a2] w fun e w' => e = .returned (.int .u64 r) ∧ Below w.heap.size w w' := by
 have hu127 := Try.underlying127; have HB := am (Below.refl w.heap.size w); have H : ((field_Mul.f k a0_0 a1 a2).bind fun bt166 => (some bt166.1)) = some r := h; clear h; replace H := Option.bind_eq_some_iff.mp H; obtain ⟨⟨t166, t167⟩, A40, H⟩ := H; replace H : (some t166) = some r := H; have A4 := am A40; clear A40; obtain rfl := Option.some.inj H; go_enter Try.func93, Try.ntmps93
 go_wp2_with (first | ((with_reducible refine gate_dst (N := 3) rfl ?_); refine box_event ?hg (N := 3) ?hd (cs := #[.int .u8 a0_0]) (t := 127) ?hr ?_; (case hd => rfl); (case hg => rfl); (case hr => first | (go_simp; done) | (go_simp; rfl)); intro gb165 hg w5 hbox hb; have BK165 := am (hbox); have GW165 := am ((Z58 : w.heap.size ≤ gb165)); have GE165 := am ((Z58 : w.heap.size ≤ gb165)); replace HB := am (below_step Z1 hb); clear hb hbox hg; have hcz6_0 : w5.cell? ⟨gb165, 0, none⟩ = some (.int .u8 a0_0) := (blk_cell BK165.out 0).trans rfl; have hfz6_0 := blk_frozen BK165.out 0) | ((with_reducible refine gate_callee (f := 111) rfl ?_); refine goesL_ (some 14) rfl rfl Try.func111 Z12 rfl #[.int .u8 a0_0, .int .u64 a1, .int .u64 a2] rfl Z2 ?_; (with_reducible refine (field_Mul.calls k a0_0 a1 a2 t166 t167 _ A4.out).mono ?_); rintro e w7 ⟨rfl, hb⟩; refine ⟨_, rfl, ?_⟩; replace BK165 := am (blk_below (g := gb165) (o := .cells #[.int .u8 a0_0] 127 (0, 0)) (by (with_reducible repeat (first | refine blk_drewN ?_ _ | refine blk_drew ?_ | refine blk_alloc ?_ _)); exact BK165.out) hb); replace HB := am (below_step Z118 hb); (try clear hb)))
 go_ret; exact ⟨Z3, Z118⟩
def field_Sub.f (k : Nat) (a0 : Int) (a1 : Int) (a2 : Int) : Option (Int × Int) := (field_asked.f k a0 (([a1, a2] : List Int))).bind fun bt171 => (if bt171.2.2 = 0 then ((field_reckoner_sub.f bt171.1 bt171.2.1 a1 a2).bind fun t175 => (some (t175, 0))) else (some (0, bt171.2.2)))
set_option maxHeartbeats 8000000 in
set_option maxRecDepth 100000 in
theorem field_Sub.calls (k : Nat) (a0 : Int) (a1 : Int) (a2 : Int) (r1 : Int) (r2 : Int) (w : World) (h : field_Sub.f k a0 a1 a2 = some (r1, r2)) :
  Calls Try.prog 112 #[.int .u8 a0, .int .u64 a1, .int .u64 a2] w fun e w' => e = .returned (.tuple #[.int .u64 r1, .int .i64 r2]) ∧ Below w.heap.size w w' := by
 have hu118 := Try.underlying118; have HB := am (Below.refl w.heap.size w); have H : ((field_asked.f k a0 (([a1, a2] : List Int))).bind fun bt171 => (if bt171.2.2 = 0 then ((field_reckoner_sub.f bt171.1 bt171.2.1 a1 a2).bind fun t175 => (some (t175, 0))) else (some (0, bt171.2.2)))) = some (r1, r2) := h; clear h; obtain ⟨y168, hy168⟩ : ∃ y_ : List Int, y_ = (([a1, a2] : List Int)) := ⟨_, rfl⟩; replace H : ((field_asked.f k a0 y168).bind fun bt171 => (if bt171.2.2 = 0 then ((field_reckoner_sub.f bt171.1 bt171.2.1 a1 a2).bind fun t175 => (some (t175, 0))) else (some (0, bt171.2.2)))) = some (r1, r2) := by first | (rw [hy168]; with_reducible exact H) | (have H2_ := (Option.bind_some _ _).symm.trans H; rw [hy168]; with_reducible exact H2_) | (have H2_ := (Option.bind_some _ _).symm.trans H; with_reducible exact H2_) | with_reducible exact H | (rw [hy168]; exact H) | exact H
 have Ny168 := am hy168; clear hy168; replace H := Option.bind_eq_some_iff.mp H; obtain ⟨⟨t171, t172, t173⟩, A40, H⟩ := H; replace H : (if t173 = 0 then ((field_reckoner_sub.f t171 t172 a1 a2).bind fun t175 => (some (t175, 0))) else (some (0, t173))) = some (r1, r2) := H; have A4 := am A40; clear A40; by_cases c5 : t173 = 0
 ·rw [if_pos c5] at H; have c5b0 : (t173 == 0) = true := beq_iff_eq.mpr c5; have c5b1 : (t173 != 0) = false := bne_eq_false_iff_eq.mpr c5; clear c5; replace H := Option.bind_eq_some_iff.mp H; obtain ⟨t175, A60, H⟩ := H; replace H : (some (t175, 0)) = some (r1, r2) := H; have A6 := am A60; clear A60; simp only [Option.some.injEq, Prod.mk.injEq] at H; obtain ⟨rfl, rfl⟩ := H; go_enter Try.func112, Try.ntmps112
  go_wp2_with (first | ((with_reducible refine gate_dst (N := 14) rfl ?_); refine Kd.R_lit (Kd.int .u64) _ 36 ?hg (N := 14) ?hd (xs := ([a1, a2] : List Int)) (inner := [.int .u64 a1, .int .u64 a2]) (ok := fun _ => True) (okp := fun _ => True) ?hr ?hp (fun _ hk => hk) trivial (Below.refl _ _) (Nat.le_refl _) (by simp) ?_; (case hd => rfl); (case hg => rfl); (case hr => first | (go_simp; done) | (go_simp; rfl)); (case hp => exact (Reps.one (show Kd.M (Kd.int .u64) _ _ _ a1 [.int .u64 a1] from rfl) (Reps.one (show Kd.M (Kd.int .u64) _ _ _ a2 [.int .u64 a2] from rfl) (Reps.none _ _)))); intro v169 w7 ho8 hb hg_ hnew_; clear hg_ hnew_; (first | rw [← Ny168.out] at ho8 | (simp only [Int.reduceToNat] at ho8; rw [← Ny168.out] at ho8)); have HO170 := am (Kd.R_lower ho8 (below_size Z1)); replace HB := am (below_step Z1 hb); clear hb ho8; obtain ⟨Ao9, co9, eo9⟩ := Kd.R_slice HO170.out; subst eo9) | ((with_reducible refine gate_callee (f := 84) rfl ?_); refine goesL_ (some 15) rfl rfl Try.func84 Z12 rfl #[.int .u8 a0, .slice Ao9 y168.length co9] rfl Z2 ?_; (with_reducible refine (field_asked.calls k a0 _ _ y168 t171 t172 t173 _ ?side1 ?side2 A4.out).mono ?_); (case side1 => repeat (first | exact (Kd.R_reads' HO170.out).2.2 | (with_reducible refine Kd.C_alloc ?_ _) | (with_reducible refine Kd.C_drewN ?_ _) | (with_reducible refine Kd.C_drew ?_))); (case side2 => exact (Kd.R_reads' HO170.out).2.1); rintro e w10 ⟨rfl, hb⟩; refine ⟨_, rfl, ?_⟩; replace HO170 := am (Kd.R_below Z96 hb); replace HB := am (below_step Z1 hb); (try clear hb)) | ((with_reducible refine gate_dst (N := 8) rfl ?_); refine box_event ?hg (N := 8) ?hd (cs := #[.int .u64 0, .bool false]) (t := 118) ?hr ?_; (case hd => rfl); (case hg => rfl); (case hr => first | (go_simp; done) | (go_simp; rfl)); intro gb174 hg w11 hbox hb; replace HO170 := am (Kd.R_below Z96 hb); have BK174 := am (hbox); have GW174 := am ((Z58 : w.heap.size ≤ gb174)); have GE174 := am ((Z58 : w.heap.size ≤ gb174)); replace HB := am (below_step Z1 hb); clear hb hbox hg; have hcz12_0 : w11.cell? ⟨gb174, 0, none⟩ = some (.int .u64 0) := (blk_cell BK174.out 0).trans rfl; have hcz12_1 : w11.cell? ⟨gb174, 1, none⟩ = some (.bool false) := (blk_cell BK174.out 1).trans rfl; have hfz12_0 := blk_frozen BK174.out 0; have hfz12_1 := blk_frozen BK174.out 1) | ((with_reducible refine gate_callee (f := 110) rfl ?_); refine goesL_ (some 24) rfl rfl Try.func110 Z12 rfl #[.agg #[.int .u64 t171, .bool t172], .int .u64 a1, .int .u64 a2] rfl Z2 ?_; (with_reducible refine (field_reckoner_sub.calls t171 t172 a1 a2 t175 _ A6.out).mono ?_); rintro e w13 ⟨rfl, hb⟩; refine ⟨_, rfl, ?_⟩; replace HO170 := am (Kd.R_below (by (with_reducible repeat (first | apply Kd.R_alloc | apply Kd.R_drewN | apply Kd.R_drew)); exact (Kd.R_mono (Kd.R_far (p := ⟨gb174, 1, none⟩) (Kd.R_far (p := ⟨gb174, 0, none⟩) (Kd.R_types HO170.out BK174.out Z117) (fun _ hk => hk.2) (.int .u64 t171)) (fun _ hk => hk.2) (.bool t172)) (fun _ h_ => h_.1))) hb); replace BK174 := am (blk_below (g := gb174) (o := .cells #[.int .u64 t171, .bool t172] 118 (0, 0)) (by (with_reducible repeat (first | refine blk_drewN ?_ _ | refine blk_drew ?_ | refine blk_alloc ?_ _)); refine blk_put (cs := #[.int .u64 t171, .bool false]) ?_ 1 _ rfl; (with_reducible repeat (first | refine blk_drewN ?_ _ | refine blk_drew ?_ | refine blk_alloc ?_ _)); refine blk_put (cs := #[.int .u64 0, .bool false]) ?_ 0 _ rfl; (with_reducible repeat (first | refine blk_drewN ?_ _ | refine blk_drew ?_ | refine blk_alloc ?_ _)); exact BK174.out) hb); replace HB := am (below_step Z89 hb); (try clear hb); (try clear hk)))
  go_ret2; exact ⟨Z3, Z89⟩
 ·rw [if_neg c5] at H; have c5b0 : (t173 == 0) = false := beq_eq_false_iff_ne.mpr c5; have c5b1 : (t173 != 0) = true := bne_iff_ne.mpr c5; simp only [Option.some.injEq, Prod.mk.injEq] at H; obtain ⟨rfl, rfl⟩ := H; go_enter Try.func112, Try.ntmps112
  go_wp2_with (first | ((with_reducible refine gate_dst (N := 14) rfl ?_); refine Kd.R_lit (Kd.int .u64) _ 36 ?hg (N := 14) ?hd (xs := ([a1, a2] : List Int)) (inner := [.int .u64 a1, .int .u64 a2]) (ok := fun _ => True) (okp := fun _ => True) ?hr ?hp (fun _ hk => hk) trivial (Below.refl _ _) (Nat.le_refl _) (by simp) ?_; (case hd => rfl); (case hg => rfl); (case hr => first | (go_simp; done) | (go_simp; rfl)); (case hp => exact (Reps.one (show Kd.M (Kd.int .u64) _ _ _ a1 [.int .u64 a1] from rfl) (Reps.one (show Kd.M (Kd.int .u64) _ _ _ a2 [.int .u64 a2] from rfl) (Reps.none _ _)))); intro v169 w14 ho15 hb hg_ hnew_; clear hg_ hnew_; (first | rw [← Ny168.out] at ho15 | (simp only [Int.reduceToNat] at ho15; rw [← Ny168.out] at ho15)); have HO170 := am (Kd.R_lower ho15 (below_size Z1)); replace HB := am (below_step Z1 hb); clear hb ho15; obtain ⟨Ao16, co16, eo16⟩ := Kd.R_slice HO170.out; subst eo16) | ((with_reducible refine gate_callee (f := 84) rfl ?_); refine goesL_ (some 15) rfl rfl Try.func84 Z12 rfl #[.int .u8 a0, .slice Ao16 y168.length co16] rfl Z2 ?_; (with_reducible refine (field_asked.calls k a0 _ _ y168 t171 t172 t173 _ ?side1 ?side2 A4.out).mono ?_); (case side1 => repeat (first | exact (Kd.R_reads' HO170.out).2.2 | (with_reducible refine Kd.C_alloc ?_ _) | (with_reducible refine Kd.C_drewN ?_ _) | (with_reducible refine Kd.C_drew ?_))); (case side2 => exact (Kd.R_reads' HO170.out).2.1); rintro e w17 ⟨rfl, hb⟩; refine ⟨_, rfl, ?_⟩; replace HO170 := am (Kd.R_below Z96 hb); replace HB := am (below_step Z1 hb); (try clear hb)) | ((with_reducible refine gate_dst (N := 8) rfl ?_); refine box_event ?hg (N := 8) ?hd (cs := #[.int .u64 0, .bool false]) (t := 118) ?hr ?_; (case hd => rfl); (case hg => rfl); (case hr => first | (go_simp; done) | (go_simp; rfl)); intro gb174 hg w18 hbox hb; replace HO170 := am (Kd.R_below Z96 hb); have BK174 := am (hbox); have GW174 := am ((Z58 : w.heap.size ≤ gb174)); have GE174 := am ((Z58 : w.heap.size ≤ gb174)); replace HB := am (below_step Z1 hb); clear hb hbox hg; have hcz19_0 : w18.cell? ⟨gb174, 0, none⟩ = some (.int .u64 0) := (blk_cell BK174.out 0).trans rfl; have hcz19_1 : w18.cell? ⟨gb174, 1, none⟩ = some (.bool false) := (blk_cell BK174.out 1).trans rfl; have hfz19_0 := blk_frozen BK174.out 0; have hfz19_1 := blk_frozen BK174.out 1))
  go_ret2; exact ⟨Z3, Z89⟩
def interp_reckoner_sub.f (k : Nat) (a0_0 : Int) (a1 : Int) (a2 : Int) : Option (Int) := (field_Sub.f k a0_0 a1 a2).bind fun bt177 => (some bt177.1)
set_option maxHeartbeats 8000000 in
set_option maxRecDepth 100000 in
theorem interp_reckoner_sub.calls (k : Nat) (a0_0 : Int) (a1 : Int) (a2 : Int) (r : Int) (w : World) (h : interp_reckoner_sub.f k a0_0 a1 a2 = some r) :
  Calls Try.prog 94 #[.agg #[.int .u8 a0_0], .int .u64 a1, .int .u64 a2] w fun e w' => e = .returned (.int .u64 r) ∧ Below w.heap.size w w' := by
 have hu127 := Try.underlying127; have HB := am (Below.refl w.heap.size w); have H : ((field_Sub.f k a0_0 a1 a2).bind fun bt177 => (some bt177.1)) = some r := h; clear h; replace H := Option.bind_eq_some_iff.mp H; obtain ⟨⟨t177, t178⟩, A40, H⟩ := H; replace H : (some t177) = some r := H; have A4 := am A40; clear A40; obtain rfl := Option.some.inj H; go_enter Try.func94, Try.ntmps94
 go_wp2_with (first | ((with_reducible refine gate_dst (N := 3) rfl ?_); refine box_event ?hg (N := 3) ?hd (cs := #[.int .u8 a0_0]) (t := 127) ?hr ?_; (case hd => rfl); (case hg => rfl); (case hr => first | (go_simp; done) | (go_simp; rfl)); intro gb176 hg w5 hbox hb; have BK176 := am (hbox); have GW176 := am ((Z58 : w.heap.size ≤ gb176)); have GE176 := am ((Z58 : w.heap.size ≤ gb176)); replace HB := am (below_step Z1 hb); clear hb hbox hg; have hcz6_0 : w5.cell? ⟨gb176, 0, none⟩ = some (.int .u8 a0_0) := (blk_cell BK176.out 0).trans rfl; have hfz6_0 := blk_frozen BK176.out 0) | ((with_reducible refine gate_callee (f := 112) rfl ?_); refine goesL_ (some 14) rfl rfl Try.func112 Z12 rfl #[.int .u8 a0_0, .int .u64 a1, .int .u64 a2] rfl Z2 ?_; (with_reducible refine (field_Sub.calls k a0_0 a1 a2 t177 t178 _ A4.out).mono ?_); rintro e w7 ⟨rfl, hb⟩; refine ⟨_, rfl, ?_⟩; replace BK176 := am (blk_below (g := gb176) (o := .cells #[.int .u8 a0_0] 127 (0, 0)) (by (with_reducible repeat (first | refine blk_drewN ?_ _ | refine blk_drew ?_ | refine blk_alloc ?_ _)); exact BK176.out) hb); replace HB := am (below_step Z115 hb); (try clear hb)))
 go_ret; exact ⟨Z3, Z115⟩
def field_reckoner_pow.l0 : Nat → Int → Int → Int → Int → Bool → Option (Int)
 | 0, _, _, _, _, _ => none
 | k + 1, x1, x2, x7, x180000, x180001 => if x2 > 0 then (if (Go.bits .and .u64 x2 1) = 1 then ((field_reckoner_mul.f x180000 x180001 x7 x1).bind fun t180 => ((field_reckoner_mul.f x180000 x180001 x1 x1).bind fun t181 => (field_reckoner_pow.l0 k t181 (x2 / 2) t180 x180000 x180001))) else ((field_reckoner_mul.f x180000 x180001 x1 x1).bind fun t182 => (field_reckoner_pow.l0 k t182 (x2 / 2) x7 x180000 x180001))) else (some x7)
def field_reckoner_pow.f (k : Nat) (a0_0 : Int) (a0_1 : Bool) (a1 : Int) (a2 : Int) : Option (Int) := field_reckoner_pow.l0 k a1 a2 1 a0_0 a0_1
set_option maxHeartbeats 8000000 in
set_option maxRecDepth 100000 in
theorem field_reckoner_pow.calls (k : Nat) (a0_0 : Int) (a0_1 : Bool) (a1 : Int) (a2 : Int) (r : Int) (w : World) (h : field_reckoner_pow.f k a0_0 a0_1 a1 a2 = some r) :
  Calls Try.prog 117 #[.agg #[.int .u64 a0_0, .bool a0_1], .int .u64 a1, .int .u64 a2] w fun e w' => e = .returned (.int .u64 r) ∧ Below w.heap.size w w' := by
 have hu118 := Try.underlying118; have HB := am (Below.refl w.heap.size w); have H : (field_reckoner_pow.l0 k a1 a2 1 a0_0 a0_1) = some r := h; clear h; have H' := am H; clear H; go_enter Try.func117, Try.ntmps117
 go_wp2_with (first | ((with_reducible refine gate_dst (N := 3) rfl ?_); refine box_event ?hg (N := 3) ?hd (cs := #[.int .u64 a0_0, .bool a0_1]) (t := 118) ?hr ?_; (case hd => rfl); (case hg => rfl); (case hr => first | (go_simp; done) | (go_simp; rfl)); intro gb179 hg w4 hbox hb; have BK179 := am (hbox); have GW179 := am ((Z58 : w.heap.size ≤ gb179)); have GE179 := am ((Z58 : w.heap.size ≤ gb179)); replace HB := am (below_step Z1 hb); clear hb hbox hg))
 go_loopg [1, 2, 7] k (fun kq v1 v2 v7 w' => ∃ (x1_1 : Int) (x2_1 : Int) (x7_1 : Int), v1 = .int .u64 x1_1 ∧ v2 = .int .u64 x2_1 ∧ v7 = .int .u64 x7_1 ∧ Aside0 (field_reckoner_pow.l0 kq x1_1 x2_1 x7_1 a0_0 a0_1 = some r) ∧ Aside0 (kq ≤ k) ∧ Aside0 (w'.heap[gb179]? = some (.cells #[.int .u64 a0_0, .bool a0_1] 118 (0, 0))) ∧ Aside0 (Below w.heap.size w w'))
 case atStart => exact ⟨(a1), (a2), (1), Z5, Z5, Z5, H', ⟨Nat.le_refl _⟩, ⟨Z62⟩, ⟨Z45⟩⟩
 case round =>
  clear H'; (try clear c1); (try clear p2); obtain ⟨x1_1, x2_1, x7_1, rfl, rfl, rfl, HA, HK1, BK179, HB⟩ := hrel; cases gk with
  | zero => exact absurd HA.out (by simp [field_reckoner_pow.l0])
  | succ k1 =>
   have H := HA.out; clear HA; simp only [field_reckoner_pow.l0] at H; by_cases c5 : x2_1 > 0
   ·rw [if_pos c5] at H; have c5b0 : decide (0 < x2_1) = true := decide_eq_true c5; clear c5; by_cases c6 : (Go.bits .and .u64 x2_1 1) = 1
    ·rw [if_pos c6] at H; have c6b0 : ((Go.bits .and .u64 x2_1 1) == 1) = true := beq_iff_eq.mpr c6; have c6b1 : ((Go.bits .and .u64 x2_1 1) != 1) = false := bne_eq_false_iff_eq.mpr c6; clear c6; replace H := Option.bind_eq_some_iff.mp H; obtain ⟨t180, A70, H⟩ := H; replace H : ((field_reckoner_mul.f a0_0 a0_1 x1_1 x1_1).bind fun t181 => (field_reckoner_pow.l0 k1 t181 (x2_1 / 2) t180 a0_0 a0_1)) = some r := H; have A7 := am A70; clear A70; replace H := Option.bind_eq_some_iff.mp H; obtain ⟨t181, A80, H⟩ := H; replace H : (field_reckoner_pow.l0 k1 t181 (x2_1 / 2) t180 a0_0 a0_1) = some r := H; have A8 := am A80; clear A80; have H' := am H; clear H; have hcz9_0 : wr.cell? ⟨gb179, 0, none⟩ = some (.int .u64 a0_0) := (blk_cell BK179.out 0).trans rfl; have hcz9_1 : wr.cell? ⟨gb179, 1, none⟩ = some (.bool a0_1) := (blk_cell BK179.out 1).trans rfl; have hfz9_0 := blk_frozen BK179.out 0; have hfz9_1 := blk_frozen BK179.out 1; go_wp2_with (first | ((with_reducible refine gate_callee (f := 87) rfl ?_); refine goesL_ (some 18) rfl rfl Try.func87 Z12 rfl #[.agg #[.int .u64 a0_0, .bool a0_1], .int .u64 x7_1, .int .u64 x1_1] rfl Z2 ?_; (with_reducible refine (field_reckoner_mul.calls a0_0 a0_1 x7_1 x1_1 t180 _ A7.out).mono ?_); rintro e w10 ⟨rfl, hb⟩; refine ⟨_, rfl, ?_⟩; replace BK179 := am (blk_below (g := gb179) (o := .cells #[.int .u64 a0_0, .bool a0_1] 118 (0, 0)) Z62 hb); replace HB := am (below_step Z45 hb); (try clear hb); have hcz11_0 : w10.cell? ⟨gb179, 0, none⟩ = some (.int .u64 a0_0) := (blk_cell BK179.out 0).trans rfl; have hcz11_1 : w10.cell? ⟨gb179, 1, none⟩ = some (.bool a0_1) := (blk_cell BK179.out 1).trans rfl; have hfz11_0 := blk_frozen BK179.out 0; have hfz11_1 := blk_frozen BK179.out 1) | ((with_reducible refine gate_callee (f := 87) rfl ?_); refine goesL_ (some 22) rfl rfl Try.func87 Z12 rfl #[.agg #[.int .u64 a0_0, .bool a0_1], .int .u64 x1_1, .int .u64 x1_1] rfl Z2 ?_; (with_reducible refine (field_reckoner_mul.calls a0_0 a0_1 x1_1 x1_1 t181 _ A8.out).mono ?_); rintro e w12 ⟨rfl, hb⟩; refine ⟨_, rfl, ?_⟩; replace BK179 := am (blk_below (g := gb179) (o := .cells #[.int .u64 a0_0, .bool a0_1] 118 (0, 0)) Z62 hb); replace HB := am (below_step Z45 hb); (try clear hb)))
     go_roundg k1
     case measure => have := HK1.out; omega
     case rel => exact ⟨(t181), (x2_1 / 2), (t180), Z5, Z5, Z5, H', ⟨Z99⟩, ⟨Z62⟩, ⟨Z45⟩⟩
    ·rw [if_neg c6] at H; have c6b0 : ((Go.bits .and .u64 x2_1 1) == 1) = false := beq_eq_false_iff_ne.mpr c6; have c6b1 : ((Go.bits .and .u64 x2_1 1) != 1) = true := bne_iff_ne.mpr c6; replace H := Option.bind_eq_some_iff.mp H; obtain ⟨t182, A130, H⟩ := H; replace H : (field_reckoner_pow.l0 k1 t182 (x2_1 / 2) x7_1 a0_0 a0_1) = some r := H; have A13 := am A130; clear A130; have H' := am H; clear H; have hcz14_0 : wr.cell? ⟨gb179, 0, none⟩ = some (.int .u64 a0_0) := (blk_cell BK179.out 0).trans rfl; have hcz14_1 : wr.cell? ⟨gb179, 1, none⟩ = some (.bool a0_1) := (blk_cell BK179.out 1).trans rfl; have hfz14_0 := blk_frozen BK179.out 0; have hfz14_1 := blk_frozen BK179.out 1; go_wp2_with (first | ((with_reducible refine gate_callee (f := 87) rfl ?_); refine goesL_ (some 22) rfl rfl Try.func87 Z12 rfl #[.agg #[.int .u64 a0_0, .bool a0_1], .int .u64 x1_1, .int .u64 x1_1] rfl Z2 ?_; (with_reducible refine (field_reckoner_mul.calls a0_0 a0_1 x1_1 x1_1 t182 _ A13.out).mono ?_); rintro e w15 ⟨rfl, hb⟩; refine ⟨_, rfl, ?_⟩; replace BK179 := am (blk_below (g := gb179) (o := .cells #[.int .u64 a0_0, .bool a0_1] 118 (0, 0)) Z62 hb); replace HB := am (below_step Z45 hb); (try clear hb)))
     go_roundg k1
     case measure => have := HK1.out; omega
     case rel => exact ⟨(t182), (x2_1 / 2), (x7_1), Z5, Z5, Z5, H', ⟨Z99⟩, ⟨Z62⟩, ⟨Z45⟩⟩
   ·rw [if_neg c5] at H; have c5b0 : decide (0 < x2_1) = false := decide_eq_false c5; clear c5; obtain rfl := Option.some.inj H; go_wp2; go_ret; exact ⟨Z3, Z45⟩
def field_reckoner_inv.f (k : Nat) (a0_0 : Int) (a0_1 : Bool) (a1 : Int) : Option (Int) := (field_reckoner_pow.f k a0_0 a0_1 a1 (IntKind.u64.wrap (a0_0 - 2))).bind fun t184 => (some t184)
set_option maxHeartbeats 8000000 in
set_option maxRecDepth 100000 in
theorem field_reckoner_inv.calls (k : Nat) (a0_0 : Int) (a0_1 : Bool) (a1 : Int) (r : Int) (w : World) (h : field_reckoner_inv.f k a0_0 a0_1 a1 = some r) :
  Calls Try.prog 113 #[.agg #[.int .u64 a0_0, .bool a0_1], .int .u64 a1] w fun e w' => e = .returned (.int .u64 r) ∧ Below w.heap.size w w' := by
 have hu118 := Try.underlying118; have HB := am (Below.refl w.heap.size w); have H : ((field_reckoner_pow.f k a0_0 a0_1 a1 (IntKind.u64.wrap (a0_0 - 2))).bind fun t184 => (some t184)) = some r := h; clear h; replace H := Option.bind_eq_some_iff.mp H; obtain ⟨t184, A30, H⟩ := H; replace H : (some t184) = some r := H; have A3 := am A30; clear A30; obtain rfl := Option.some.inj H; go_enter Try.func113, Try.ntmps113
 go_wp2_with (first | ((with_reducible refine gate_dst (N := 2) rfl ?_); refine box_event ?hg (N := 2) ?hd (cs := #[.int .u64 a0_0, .bool a0_1]) (t := 118) ?hr ?_; (case hd => rfl); (case hg => rfl); (case hr => first | (go_simp; done) | (go_simp; rfl)); intro gb183 hg w4 hbox hb; have BK183 := am (hbox); have GW183 := am ((Z58 : w.heap.size ≤ gb183)); have GE183 := am ((Z58 : w.heap.size ≤ gb183)); replace HB := am (below_step Z1 hb); clear hb hbox hg; have hcz5_0 : w4.cell? ⟨gb183, 0, none⟩ = some (.int .u64 a0_0) := (blk_cell BK183.out 0).trans rfl; have hcz5_1 : w4.cell? ⟨gb183, 1, none⟩ = some (.bool a0_1) := (blk_cell BK183.out 1).trans rfl; have hfz5_0 := blk_frozen BK183.out 0; have hfz5_1 := blk_frozen BK183.out 1) | ((with_reducible refine gate_callee (f := 117) rfl ?_); refine goesL_ (some 10) rfl rfl Try.func117 Z12 rfl #[.agg #[.int .u64 a0_0, .bool a0_1], .int .u64 a1, .int .u64 (IntKind.u64.wrap (a0_0 - 2))] rfl Z2 ?_; (with_reducible refine (field_reckoner_pow.calls k a0_0 a0_1 a1 (IntKind.u64.wrap (a0_0 - 2)) t184 _ A3.out).mono ?_); rintro e w6 ⟨rfl, hb⟩; refine ⟨_, rfl, ?_⟩; replace BK183 := am (blk_below (g := gb183) (o := .cells #[.int .u64 a0_0, .bool a0_1] 118 (0, 0)) (by (with_reducible repeat (first | refine blk_drewN ?_ _ | refine blk_drew ?_ | refine blk_alloc ?_ _)); exact BK183.out) hb); replace HB := am (below_step Z114 hb); (try clear hb)))
 go_ret; exact ⟨Z3, Z114⟩
end Go.Proofs.Ytfkikfapbdlnjaa.P
end
