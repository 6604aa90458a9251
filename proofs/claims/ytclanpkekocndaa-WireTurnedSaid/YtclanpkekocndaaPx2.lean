-- Written by the kit's printer, called by a program of ours; the proofs of some functions are our own. Not trusted: Lean checks it.
import Derived.Test.YtclanpkekocndaaPx0
namespace Go.Proofs.Ytclanpkekocndaa.P
open Go.RowKit Go.Proofs.YtclanpkekocndaaW.PrintWords Go.Proofs.YtclanpkekocndaaW.PrintLast Go.Proofs.YtclanpkekocndaaW.PrintMore
attribute [local go_sem] max2_int min2_int max_two min_two max_three min_three max_four min_four   -- for this text's walks alone
set_option linter.unusedVariables false
set_option linter.unusedSimpArgs false

/-! ### wire_taken: function 79 -/
def wire_taken.l0 : Nat → Int → List Int → Int → Int → Option (Int)
  | 0, _, _, _, _ => none
  | k + 1, x3, x6, x7, x8 => if x8 < x7 then (if 0 ≤ x8 then (if x8 < (x6.length : Int) then (wire_taken.l0 k (Go.bits .or .u64 (IntKind.u64.wrap (x3 * 256)) (IntKind.u64.wrap (rd x6 x8))) x6 x7 (wrap64 (x8 + 1))) else (none)) else (none)) else (some x3)
def wire_taken.f (k : Nat) (l0 : List Int) : Option (Int) := wire_taken.l0 k 0 l0 (l0.length : Int) 0
theorem wire_taken.mono_l : ∀ k, (∀ y0 y1 y2 y3, LeO (wire_taken.l0 k y0 y1 y2 y3) (wire_taken.l0 (k + 1) y0 y1 y2 y3))
  | 0 => fun _ _ _ _ r h => by simp [wire_taken.l0] at h
  | k + 1 => by
    have ih0 := wire_taken.mono_l k
    · intro y0 y1 y2 y3
      unfold wire_taken.l0
      repeat' first
      | (with_reducible exact ih0 _ _ _ _)
      | (with_reducible exact LeO.refl _)
      | (with_reducible exact LeO.none _)
      | (with_reducible refine LeO.ite ?_ ?_)
      | (with_reducible refine LeO.bind ?_ (fun _ => ?_))
      | exact ih0 _ _ _ _
      | exact LeO.none _
      | refine LeO.ite ?_ ?_
      | refine LeO.bind ?_ (fun _ => ?_)
theorem wire_taken.mono : ∀ a0 k, LeO (wire_taken.f k a0) (wire_taken.f (k + 1) a0) := by
  intro a0 k
  have ih0 := wire_taken.mono_l k
  unfold wire_taken.f
  repeat' first
      | (with_reducible exact ih0 _ _ _ _)
      | (with_reducible exact LeO.refl _)
      | (with_reducible exact LeO.none _)
      | (with_reducible refine LeO.ite ?_ ?_)
      | (with_reducible refine LeO.bind ?_ (fun _ => ?_))
      | exact ih0 _ _ _ _
      | exact LeO.none _
      | refine LeO.ite ?_ ?_
      | refine LeO.bind ?_ (fun _ => ?_)
/-! ### wire_ReadCount: function 15 -/
def wire_ReadCount.f (k : Nat) (l0 : List Int) : Option (Int × Int × Int) := if (l0.length : Int) < 4 then (some (0, 0, 7)) else (if 4 ≤ (l0.length : Int) then ((wire_taken.f k (l0.take 4)).bind fun t115 => (if t115 > 2147483647 then (some (0, 0, 8)) else (some (wrap64 (t115), 4, 0)))) else (none))
theorem wire_ReadCount.mono : ∀ a0 k, LeO (wire_ReadCount.f k a0) (wire_ReadCount.f (k + 1) a0) := by
  intro a0 k
  unfold wire_ReadCount.f
  repeat' first
      | (with_reducible exact wire_taken.mono _ _)
      | (with_reducible exact LeO.refl _)
      | (with_reducible exact LeO.none _)
      | (with_reducible refine LeO.ite ?_ ?_)
      | (with_reducible refine LeO.bind ?_ (fun _ => ?_))
      | exact wire_taken.mono _ _
      | exact LeO.none _
      | refine LeO.ite ?_ ?_
      | refine LeO.bind ?_ (fun _ => ?_)
theorem cut_max {P : Program} (t e : TypeId) (kl kh km : IntKind) {i : TypeInfo} (ht : P.underlying t = some (.slice e)) (hi : P.info? e = some i) (size : Nat) (hsz : i.size = size) (A : Option Addr) (n c : Nat) (lo m : Int) (h0 : 0 ≤ lo) (h1 : lo ≤ m) (h2 : m ≤ c) :
    ∀ W : World, (Instr.slice t (.slice A n c) (some (.int kl lo)) (some (.int kh m)) (some (.int km m))).run P W = .ok (.slice (if m.toNat = lo.toNat then A else A.map (·.add (lo.toNat * size))) (m.toNat - lo.toNat) (m.toNat - lo.toNat)) W := by
  intro W
  have hel : P.elem t = e := by simp [Program.elem, ht]
  have hu : P.underlying t = some (.slice (P.elem t)) := by rw [hel]; exact ht
  rw [run_slice_lhm W t A n c hu kl kh km lo m m h0 h1 (Int.le_refl _) h2, hel]
  simp [sizeOf, typeInfo, hi, hsz, sliced, Result.andThen]
theorem C_cutmax {α : Type} {k : Kd α} {w : World} {A : Option Addr} {xs : List α} {lo hi : Nat} (h : k.C w A xs.length xs) (h1 : lo ≤ hi) (h2 : hi ≤ xs.length) : k.C w (if hi = lo then A else A.map (·.add (lo * k.sz))) ((xs.take hi).drop lo).length ((xs.take hi).drop lo) := by
  have hl : (xs.take hi).length = hi := by rw [List.length_take]; omega
  exact Kd.C_drop (Kd.C_take h h2) (by omega) (by omega)
set_option maxHeartbeats 8000000 in
set_option maxRecDepth 100000 in
theorem wire_taker1.calls (k : Nat) (A : Option Addr) (c g : Nat) (m : Int) (l : List Int) (r : Int) (w : World) (hg : w.heap[g]? = some (.cells #[.slice A l.length c] 22 (0, 0))) (hr : Kd.C (Kd.int .u8) w A l.length l) (hc : l.length ≤ c) (hm0 : 0 ≤ m) (hm1 : m ≤ l.length) (h : wire_taken.f k (l.take m.toNat) = some r) :
    Calls Try.prog 56 #[.int .i64 m, .pointer (some ⟨g, 0, none⟩)] w fun e w' => e = .returned (.int .u64 r) ∧ ∃ A', (∀ W, Kd.C (Kd.int .u8) W A l.length l → Kd.C (Kd.int .u8) W A' (l.length - m.toNat) (l.drop m.toNat)) ∧ w.setCell ⟨g, 0, none⟩ (.slice A' (l.length - m.toNat) (l.length - m.toNat)) = w' := by
  obtain ⟨m, rfl⟩ := Int.eq_ofNat_of_zero_le hm0
  simp only [Int.toNat_natCast] at h ⊢
  have hm : m ≤ l.length := by omega
  clear hm0 hm1
  have HD := Aside0.mk (fun (W : World) (hr : Kd.C (Kd.int .u8) W A l.length l) => Kd.C_drop (c := l.length) hr hm (Nat.le_refl _))
  have HR0 := Aside0.mk (Kd.C_take hr hm)
  have HC0 := Aside0.mk hc
  have hgc := cell_of_one hg
  have hgf := free_of_one hg
  have hlen : l.length ≤ 9223372036854775807 := hr.2.1
  clear hr
  have hlt : (l.take m).length = m := by rw [List.length_take]; omega
  have H : (wire_taken.l0 k 0 (l.take m) ((l.take m).length : Int) 0) = some r := h
  clear h
  have H' := Aside0.mk H
  clear H
  have hl2 := Aside0.mk hlt
  clear hlt
  obtain ⟨i0, hi0, _, hsz0, _⟩ := info_parts info5
  have hcut1 := print_take_of (P := Try.prog) (Value.int .u8) 0 22 5 .i64 Try.underlying22 hi0 hsz0 A c l (m : Int) (by omega) (by omega) hc
  simp only [Int.toNat_natCast] at hcut1
  replace hcut1 := hcut1.1
  rw [hl2.out] at hcut1
  have hcut2 := cut_max (P := Try.prog) 22 5 .i64 .i64 .i64 Try.underlying22 hi0 1 hsz0 A l.length c (m : Int) (l.length : Int) (by omega) (by omega) (by omega)
  simp only [Int.toNat_natCast] at hcut2
  obtain ⟨A', hA'⟩ : ∃ A', (if l.length = m then A else A.map (·.add (m * 1))) = A' := ⟨_, rfl⟩
  rw [hA'] at hcut2
  replace HD := Aside0.mk (show ∀ W, Kd.C (Kd.int .u8) W A l.length l → Kd.C (Kd.int .u8) W A' (l.length - m) (l.drop m) from fun W h => by have z := HD.out W h; rw [List.length_drop] at z; exact hA' ▸ z)
  clear hA'
  clear hi0 hsz0 hc
  go_enter Try.func56, Try.ntmps56
  go_wp2
  go_loopg [4, 11] k (fun kq v4 v11 w' => ∃ (x4 : Int) (x11 : Int), v4 = .int .u64 x4 ∧ v11 = .int .i64 x11 ∧ Aside0 (wire_taken.l0 kq x4 (l.take m) ((l.take m).length : Int) x11 = some r) ∧ Aside0 (kq ≤ k) ∧ w = w')
  case atStart => exact ⟨0, 0, rfl, rfl, H', ⟨Nat.le_refl _⟩, rfl⟩
  case round =>
    clear H'
    obtain ⟨x4, x11, rfl, rfl, HA, HK1, rfl⟩ := hrel
    cases gk with
    | zero => exact absurd HA.out (by simp [wire_taken.l0])
    | succ k1 =>
      have H := HA.out
      clear HA
      simp only [wire_taken.l0] at H
      by_cases c2 : x11 < ((l.take m).length : Int)
      · rw [if_pos c2] at H
        by_cases c3 : 0 ≤ x11
        · rw [if_pos c3, if_pos c2] at H
          have H' := Aside0.mk H
          clear H
          obtain ⟨ad, e101, hx101⟩ := Kd.at_int HR0.out x11 c3 c2
          cases e101
          rw [hl2.out] at c2
          have q101 := eq_true c2
          have p101 := eq_true c3
          have c2b : decide (x11 < (m : Int)) = true := decide_eq_true c2
          have c3b : decide (0 ≤ x11) = true := decide_eq_true c3
          clear c2 c3
          go_wp2
          go_roundg k1
          case measure => have := HK1.out; omega
          case rel => exact ⟨Go.bits .or .u64 (IntKind.u64.wrap (x4 * 256)) (IntKind.u64.wrap (rd (l.take m) x11)), wrap64 (x11 + 1), (by first | rfl | (simp; done) | (simp [*]; done)), (by first | rfl | (simp; done) | (simp [*]; done)), H', ⟨by have := HK1.out; omega⟩, rfl⟩
        · rw [if_neg c3] at H
          exact absurd H (by simp)
      · rw [if_neg c2] at H
        obtain rfl := Option.some.inj H
        rw [hl2.out] at c2
        have c2b0 : decide (x11 < (m : Int)) = false := decide_eq_false c2
        clear c2
        go_wp2
        go_ret
        exact ⟨rfl, A', HD.out, rfl⟩

set_option maxRecDepth 100000 in
theorem wire_takerC.calls (A : Option Addr) (n c : Nat) (w : World) :
    Calls Try.prog 46 #[.slice A n c] w fun e w' => e = .returned (.func (Fn.func 56) #[] #[.pointer (some ⟨w.heap.size, 0, none⟩)]) ∧ w.alloc (.cells #[.slice A n c] 22) = w' := by
  have hmf : ∀ (fn : Fn) (first cap : Array Value) (w : World), (Instr.makeFunc fn first cap).run Try.prog w = .ok (.func fn first cap) w := fun _ _ _ _ => rfl
  go_enter Try.func46, Try.ntmps46
  go_wp2
  go_ret
  exact ⟨rfl, rfl⟩
set_option maxHeartbeats 8000000 in
set_option maxRecDepth 100000 in
theorem wire_ReadCount.calls (k : Nat) (A0 : Option Addr) (c0 : Nat) (l0 : List Int) (r1 : Int) (r2 : Int) (r3 : Int) (w : World) (hr0 : Kd.C (Kd.int .u8) w A0 l0.length l0) (hc0 : l0.length ≤ c0) (h : wire_ReadCount.f k l0 = some (r1, r2, r3)) :
    Calls Try.prog 15 #[.slice A0 l0.length c0] w fun e w' => e = .returned (.tuple #[.int .i64 r1, .int .i64 r2, .int .i64 r3]) ∧ Below w.heap.size w w' := by
  have HR0 := Aside0.mk hr0
  have HC0 := Aside0.mk hc0
  have hlen : l0.length ≤ 9223372036854775807 := hr0.2.1
  clear hr0 hc0
  have HB := Aside0.mk (Below.refl w.heap.size w)
  unfold wire_ReadCount.f at h
  by_cases c2 : (l0.length : Int) < 4
  · rw [if_pos c2] at h
    have c2b0 : decide ((l0.length : Int) < 4) = true := decide_eq_true c2
    have c2b1 : decide (l0.length < 4) = true := decide_eq_true (by omega)
    clear c2
    simp only [Option.some.injEq, Prod.mk.injEq] at h
    obtain ⟨rfl, rfl, rfl⟩ := h
    go_enter Try.func15, Try.ntmps15
    go_wp2
    go_ret3
    exact ⟨rfl, HB.out⟩
  · rw [if_neg c2, if_pos (by omega)] at h
    have c2b0 : decide ((l0.length : Int) < 4) = false := decide_eq_false c2
    have c2b1 : decide (l0.length < 4) = false := decide_eq_false (by omega)
    obtain ⟨t, ht, h⟩ := Option.bind_eq_some_iff.mp h
    have HT := Aside0.mk ht
    have H := Aside0.mk h
    clear h
    have h4 : 4 ≤ l0.length := by omega
    clear c2 ht
    go_enter Try.func15, Try.ntmps15
    go_wp2_with (go_at_call 46; refine (wire_takerC.calls _ _ _ _).mono ?_; rintro e w' ⟨rfl, rfl⟩)
    refine (wire_taker1.calls k A0 c0 w.heap.size 4 l0 t _ (heap_alloc_new _ _) (Kd.C_alloc HR0.out _) HC0.out (by omega) (by omega) HT.out).mono ?_
    rintro e w' ⟨rfl, A', -, rfl⟩
    have H := H.out
    by_cases c5 : t > 2147483647
    · rw [if_pos c5] at H
      have c5b0 : decide (2147483647 < t) = true := decide_eq_true c5
      clear c5
      simp only [Option.some.injEq, Prod.mk.injEq] at H
      obtain ⟨rfl, rfl, rfl⟩ := H
      go_wp2
      go_ret3
      exact ⟨rfl, below_alloc HB.out _⟩
    · rw [if_neg c5] at H
      have c5b0 : decide (2147483647 < t) = false := decide_eq_false c5
      clear c5
      simp only [Option.some.injEq, Prod.mk.injEq] at H
      obtain ⟨rfl, rfl, rfl⟩ := H
      go_wp2
      go_ret3
      exact ⟨rfl, below_alloc HB.out _⟩

/-! ### conclaveref08_Taken: function 47 -/
def conclaveref08_Taken.l0 : Nat → List Int → Int → Int → Option (Int)
  | 0, _, _, _ => none
  | k + 1, x0, x3, x4 => if x4 < (x0.length : Int) then (if 0 ≤ x4 then (conclaveref08_Taken.l0 k x0 (IntKind.u64.wrap ((IntKind.u64.wrap (x3 * 256)) + (IntKind.u64.wrap (rd x0 x4)))) (wrap64 (x4 + 1))) else (none)) else (some x3)
def conclaveref08_Taken.f (k : Nat) (l0 : List Int) : Option (Int) := conclaveref08_Taken.l0 k l0 0 0
theorem conclaveref08_Taken.mono_l : ∀ k, (∀ y0 y1 y2, LeO (conclaveref08_Taken.l0 k y0 y1 y2) (conclaveref08_Taken.l0 (k + 1) y0 y1 y2))
  | 0 => fun _ _ _ r h => by simp [conclaveref08_Taken.l0] at h
  | k + 1 => by
    have ih0 := conclaveref08_Taken.mono_l k
    · intro y0 y1 y2
      unfold conclaveref08_Taken.l0
      repeat' first
      | (with_reducible exact ih0 _ _ _)
      | (with_reducible exact LeO.refl _)
      | (with_reducible exact LeO.none _)
      | (with_reducible refine LeO.ite ?_ ?_)
      | (with_reducible refine LeO.bind ?_ (fun _ => ?_))
      | exact ih0 _ _ _
      | exact LeO.none _
      | refine LeO.ite ?_ ?_
      | refine LeO.bind ?_ (fun _ => ?_)
theorem conclaveref08_Taken.mono : ∀ a0 k, LeO (conclaveref08_Taken.f k a0) (conclaveref08_Taken.f (k + 1) a0) := by
  intro a0 k
  have ih0 := conclaveref08_Taken.mono_l k
  unfold conclaveref08_Taken.f
  repeat' first
      | (with_reducible exact ih0 _ _ _)
      | (with_reducible exact LeO.refl _)
      | (with_reducible exact LeO.none _)
      | (with_reducible refine LeO.ite ?_ ?_)
      | (with_reducible refine LeO.bind ?_ (fun _ => ?_))
      | exact ih0 _ _ _
      | exact LeO.none _
      | refine LeO.ite ?_ ?_
      | refine LeO.bind ?_ (fun _ => ?_)
set_option maxHeartbeats 8000000 in
set_option maxRecDepth 100000 in
theorem conclaveref08_Taken.calls (k : Nat) (A0 : Option Addr) (c0 : Nat) (l0 : List Int) (r : Int) (w : World) (hr0 : Kd.C (Kd.int .u8) w A0 l0.length l0) (hc0 : l0.length ≤ c0) (h : conclaveref08_Taken.f k l0 = some r) :
    Calls Try.prog 47 #[.slice A0 l0.length c0] w fun e w' => e = .returned (.int .u64 r) ∧ Drawn0 w w' := by
  have HR0 := Aside0.mk hr0
  have HC0 := Aside0.mk hc0
  clear hr0 hc0
  have H : (conclaveref08_Taken.l0 k l0 0 0) = some r := h
  clear h
  have H' := Aside0.mk H
  clear H
  go_enter Try.func47, Try.ntmps47
  go_wp2
  go_loopg [3, 4] k (fun kq v3 v4 w' => ∃ (x3_1 : Int) (x4_1 : Int), v3 = .int .u64 x3_1 ∧ v4 = .int .i64 x4_1 ∧ Aside0 (conclaveref08_Taken.l0 kq l0 x3_1 x4_1 = some r) ∧ Aside0 (kq ≤ k) ∧ Drawn0 w w')
  case atStart => exact ⟨(0), (0), (by first | rfl | (simp; done) | (simp [*]; done)), (by first | rfl | (simp; done) | (simp [*]; done)), H', ⟨Nat.le_refl _⟩, by repeat (first | exact Drawn0.refl _ | apply Drawn0.step)⟩
  case round =>
    clear H'
    obtain ⟨x3_1, x4_1, rfl, rfl, HA, HK1, ⟨m1, rfl⟩⟩ := hrel
    cases gk with
    | zero => exact absurd HA.out (by simp [conclaveref08_Taken.l0])
    | succ k1 =>
      have H := HA.out
      clear HA
      simp only [conclaveref08_Taken.l0] at H
      by_cases c2 : x4_1 < (l0.length : Int)
      · rw [if_pos c2] at H
        have c2b0 : decide (x4_1 < (l0.length : Int)) = true := decide_eq_true c2
        clear c2
        by_cases c3 : 0 ≤ x4_1
        · rw [if_pos c3] at H
          have c3b0 : decide (0 ≤ x4_1) = true := decide_eq_true c3
          clear c3
          have H' := Aside0.mk H
          clear H
          have p116 : 0 ≤ (x4_1 : Int) := of_decide_eq_true (by first | (with_reducible assumption) | assumption)
          have q116 : x4_1 < (l0.length : Int) := of_decide_eq_true (by first | (with_reducible assumption) | assumption)
          obtain ⟨ad116, e116, hx116_0⟩ := Kd.at_int HR0.out x4_1 p116 q116
          cases e116
          replace p116 := eq_true p116
          replace q116 := eq_true q116
          go_wp2
          go_roundg k1
          case measure => have := HK1.out; omega
          case rel => exact ⟨(IntKind.u64.wrap ((IntKind.u64.wrap (x3_1 * 256)) + (IntKind.u64.wrap (rd l0 x4_1)))), (wrap64 (x4_1 + 1)), (by first | rfl | (simp; done) | (simp [*]; done)), (by first | rfl | (simp; done) | (simp [*]; done)), H', ⟨by have := HK1.out; omega⟩, by repeat (first | exact Drawn0.refl _ | apply Drawn0.step)⟩
        · rw [if_neg c3] at H
          exact absurd H (by simp)
      · rw [if_neg c2] at H
        have c2b0 : decide (x4_1 < (l0.length : Int)) = false := decide_eq_false c2
        clear c2
        obtain rfl := Option.some.inj H
        go_wp2
        go_ret
        exact ⟨by first | rfl | (simp; done) | (simp [*]; done), by repeat (first | exact Drawn0.refl _ | apply Drawn0.step)⟩

/-! ### conclaveref08_ReadCount: function 16 -/
def conclaveref08_ReadCount.f (k : Nat) (l0 : List Int) : Option (Int × Int × Int) := if (l0.length : Int) < 4 then (some (0, 0, 7)) else (if 4 ≤ (l0.length : Int) then ((conclaveref08_Taken.f k (l0.take 4)).bind fun t118 => (if t118 > 2147483647 then (some (0, 0, 8)) else (some (wrap64 (t118), 4, 0)))) else (none))
theorem conclaveref08_ReadCount.mono : ∀ a0 k, LeO (conclaveref08_ReadCount.f k a0) (conclaveref08_ReadCount.f (k + 1) a0) := by
  intro a0 k
  unfold conclaveref08_ReadCount.f
  repeat' first
      | (with_reducible exact conclaveref08_Taken.mono _ _)
      | (with_reducible exact LeO.refl _)
      | (with_reducible exact LeO.none _)
      | (with_reducible refine LeO.ite ?_ ?_)
      | (with_reducible refine LeO.bind ?_ (fun _ => ?_))
      | exact conclaveref08_Taken.mono _ _
      | exact LeO.none _
      | refine LeO.ite ?_ ?_
      | refine LeO.bind ?_ (fun _ => ?_)
set_option maxHeartbeats 8000000 in
set_option maxRecDepth 100000 in
theorem conclaveref08_ReadCount.calls (k : Nat) (A0 : Option Addr) (c0 : Nat) (l0 : List Int) (r1 : Int) (r2 : Int) (r3 : Int) (w : World) (hr0 : Kd.C (Kd.int .u8) w A0 l0.length l0) (hc0 : l0.length ≤ c0) (h : conclaveref08_ReadCount.f k l0 = some (r1, r2, r3)) :
    Calls Try.prog 16 #[.slice A0 l0.length c0] w fun e w' => e = .returned (.tuple #[.int .i64 r1, .int .i64 r2, .int .i64 r3]) ∧ Drawn0 w w' := by
  have HR0 := Aside0.mk hr0
  have HC0 := Aside0.mk hc0
  clear hr0 hc0
  have H : (if (l0.length : Int) < 4 then (some (0, 0, 7)) else (if 4 ≤ (l0.length : Int) then ((conclaveref08_Taken.f k (l0.take 4)).bind fun t118 => (if t118 > 2147483647 then (some (0, 0, 8)) else (some (wrap64 (t118), 4, 0)))) else (none))) = some (r1, r2, r3) := h
  clear h
  by_cases c2 : (l0.length : Int) < 4
  · rw [if_pos c2] at H
    have c2b0 : decide ((l0.length : Int) < 4) = true := decide_eq_true c2
    have c2b1 : decide (l0.length < 4) = true := decide_eq_true (by omega)
    clear c2
    simp only [Option.some.injEq, Prod.mk.injEq] at H
    obtain ⟨rfl, rfl, rfl⟩ := H
    go_enter Try.func16, Try.ntmps16
    go_wp2
    go_ret3
    exact ⟨by first | rfl | (simp; done) | (simp [*]; done), by repeat (first | exact Drawn0.refl _ | apply Drawn0.step)⟩
  · rw [if_neg c2] at H
    have c2b0 : decide ((l0.length : Int) < 4) = false := decide_eq_false c2
    have c2b1 : decide (l0.length < 4) = false := decide_eq_false (by omega)
    clear c2
    by_cases c3 : 4 ≤ (l0.length : Int)
    · rw [if_pos c3] at H
      have c3b0 := eq_true c3
      have c3b1 : decide (4 ≤ (l0.length : Int)) = true := decide_eq_true c3
      clear c3
      replace H := Option.bind_eq_some_iff.mp H
      obtain ⟨t118, A40, H⟩ := H
      replace H : (if t118 > 2147483647 then (some (0, 0, 8)) else (some (wrap64 (t118), 4, 0))) = some (r1, r2, r3) := H
      have A4 := Aside0.mk A40
      clear A40
      by_cases c5 : t118 > 2147483647
      · rw [if_pos c5] at H
        have c5b0 : decide (2147483647 < t118) = true := decide_eq_true c5
        clear c5
        simp only [Option.some.injEq, Prod.mk.injEq] at H
        obtain ⟨rfl, rfl, rfl⟩ := H
        obtain ⟨i06, hi06, _, hsz6, _⟩ := info_parts info5
        obtain ⟨hcut6, hA6, hC6⟩ := print_take_of (P := Try.prog) (Value.int .u8) 0 22 5 .i64 Try.underlying22 hi06 hsz6 A0 c0 l0 4 (by omega) (of_decide_eq_true (by first | (with_reducible assumption) | assumption)) HC0.out
        have HR117 := Aside0.mk (Kd.C_of_reads (h1 := fun _ => rfl) (hA6 _ (Kd.reads_of_C HR0.out)))
        have HC117 := Aside0.mk hC6
        clear hA6 hC6 hi06 hsz6
        go_enter Try.func16, Try.ntmps16
        go_wp2_with (first | ((with_reducible refine gate_callee (f := 47) rfl ?_); refine goesL_ (some 11) rfl rfl Try.func47 (by kernel_rfl) rfl #[.slice A0 (l0.take 4).length c0] rfl (by (try simp only [List.map_toArray, List.map_cons, List.map_nil]); first | done | (rw [show (l0.take 4).length = 4 from (by rw [List.length_take]; have h_ : (4 : Int) ≤ (l0.length : Int) := of_decide_eq_true (by first | (with_reducible assumption) | assumption); omega)] <;> rfl) | rfl | (simp only [List.length_drop, List.length_take]; rfl)) ?_; (with_reducible refine (conclaveref08_Taken.calls k _ _ (l0.take 4) t118 _ ?side1 ?side2 A4.out).mono ?_); (case side1 => repeat (first | exact HR117.out | (with_reducible refine Kd.C_alloc ?_ _) | (with_reducible refine Kd.C_drewN ?_ _) | (with_reducible refine Kd.C_drew ?_))); (case side2 => exact HC117.out); rintro e w' ⟨rfl, ⟨nd, rfl⟩⟩; refine ⟨_, rfl, ?_⟩))
        go_ret3
        exact ⟨by first | rfl | (simp; done) | (simp [*]; done), by repeat (first | exact Drawn0.refl _ | apply Drawn0.step)⟩
      · rw [if_neg c5] at H
        have c5b0 : decide (2147483647 < t118) = false := decide_eq_false c5
        clear c5
        simp only [Option.some.injEq, Prod.mk.injEq] at H
        obtain ⟨rfl, rfl, rfl⟩ := H
        obtain ⟨i07, hi07, _, hsz7, _⟩ := info_parts info5
        obtain ⟨hcut7, hA7, hC7⟩ := print_take_of (P := Try.prog) (Value.int .u8) 0 22 5 .i64 Try.underlying22 hi07 hsz7 A0 c0 l0 4 (by omega) (of_decide_eq_true (by first | (with_reducible assumption) | assumption)) HC0.out
        have HR117 := Aside0.mk (Kd.C_of_reads (h1 := fun _ => rfl) (hA7 _ (Kd.reads_of_C HR0.out)))
        have HC117 := Aside0.mk hC7
        clear hA7 hC7 hi07 hsz7
        go_enter Try.func16, Try.ntmps16
        go_wp2_with (first | ((with_reducible refine gate_callee (f := 47) rfl ?_); refine goesL_ (some 11) rfl rfl Try.func47 (by kernel_rfl) rfl #[.slice A0 (l0.take 4).length c0] rfl (by (try simp only [List.map_toArray, List.map_cons, List.map_nil]); first | done | (rw [show (l0.take 4).length = 4 from (by rw [List.length_take]; have h_ : (4 : Int) ≤ (l0.length : Int) := of_decide_eq_true (by first | (with_reducible assumption) | assumption); omega)] <;> rfl) | rfl | (simp only [List.length_drop, List.length_take]; rfl)) ?_; (with_reducible refine (conclaveref08_Taken.calls k _ _ (l0.take 4) t118 _ ?side1 ?side2 A4.out).mono ?_); (case side1 => repeat (first | exact HR117.out | (with_reducible refine Kd.C_alloc ?_ _) | (with_reducible refine Kd.C_drewN ?_ _) | (with_reducible refine Kd.C_drew ?_))); (case side2 => exact HC117.out); rintro e w' ⟨rfl, ⟨nd, rfl⟩⟩; refine ⟨_, rfl, ?_⟩))
        go_ret3
        exact ⟨by first | rfl | (simp; done) | (simp [*]; done), by repeat (first | exact Drawn0.refl _ | apply Drawn0.step)⟩
    · rw [if_neg c3] at H
      exact absurd H (by simp)

end Go.Proofs.Ytclanpkekocndaa.P
