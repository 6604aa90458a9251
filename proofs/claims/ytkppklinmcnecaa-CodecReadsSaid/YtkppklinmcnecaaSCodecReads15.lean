import Derived.Test.YtkppklinmcnecaaSCodecReadsZ
import Derived.Test.YtkppklinmcnecaaSCodecReads0
import Derived.Test.YtkppklinmcnecaaSCodecReads1
import Derived.Test.YtkppklinmcnecaaSCodecReads2
import Derived.Test.YtkppklinmcnecaaSCodecReads3
import Derived.Test.YtkppklinmcnecaaSCodecReads4
import Derived.Test.YtkppklinmcnecaaSCodecReads5
import Derived.Test.YtkppklinmcnecaaSCodecReads6
import Derived.Test.YtkppklinmcnecaaSCodecReads7
import Derived.Test.YtkppklinmcnecaaSCodecReads8
import Derived.Test.YtkppklinmcnecaaSCodecReads9
import Derived.Test.YtkppklinmcnecaaSCodecReads10
import Derived.Test.YtkppklinmcnecaaSCodecReads11
import Derived.Test.YtkppklinmcnecaaSCodecReads12
import Derived.Test.YtkppklinmcnecaaSCodecReads13
import Derived.Laws.StructEq
import Derived.Test.YtkppklinmcnecaaProg
import Derived.Below
import Derived.Deep.Draws
import Derived.Deep.AppendLies
import Derived.Maps.AppendAt
import Derived.OwnWalk
import Derived.Laws.BytesArg
import Derived.Laws.MakeOwn
import Derived.Laws.OwnMore
import Derived.Deep.OwnRows
import Derived.Tactics
import Derived.Lib.ConvBytes
import Derived.Laws.Slices
import Derived.WalkKit
import Derived.KernelRfl
import Derived.RowKit3
import Derived.Deep.LoopGhost
import Derived.Deep.QuietTactic
import Derived.BigQuiet
import Derived.WideLaws
import Derived.Deep.DeepCutAuto
import Derived.Deep.CutBlock
import Derived.Deep.RegionHeld3
import Derived.Laws.Rows
import Derived.Lib.AppendStr
import Derived.ArgAppend
import Derived.Laws.IdiomCopy
import Derived.OrdersHeld
import Derived.Laws.BitsLemmas
import Derived.RowKit
section
namespace Go.Proofs.Ytkppklinmcnecaa.P
open Go.RowKit Go.Proofs.YtkppklinmcnecaaW.PrintWords Go.Proofs.YtkppklinmcnecaaW.PrintLast Go.Proofs.YtkppklinmcnecaaW.PrintMore
attribute [local go_sem] max2_int min2_int max_two min_two max_three min_three max_four min_four
set_option linter.unusedVariables false
set_option linter.unusedSimpArgs false
def errW : Option Int → Value
 | none => .nilIface
 | some c => .iface 0 (.int .i64 c)
theorem errW_none : errW none = .nilIface := rfl
theorem errW_some (c : Int) : errW (some c) = .iface 0 (.int .i64 c) := rfl
theorem info5 : (Try.prog.info? 5).map (fun i => (i.zero, i.size, i.bytes)) = some (some (.int .u8 0), 1, 1) := by kernel_rfl
theorem info107 : (Try.prog.info? 107).map (fun i => (i.zero, i.size, i.bytes)) = some (some (.int .u64 0), 1, 8) := by kernel_rfl
def rd_L1 (xs : List (List Int)) (i : Int) : (List Int) := xs.getD i.toNat ([] : List Int)
theorem at_L1 {w : World} {A : Option Addr} {n : Nat} {xs : List (List Int)} (h : Kd.C (Kd.slice 5 (Kd.int .u8)) w A n xs) (i : Int) (h0 : 0 ≤ i) (h1 : i < n) : ∃ ad A0 c0, A = some ad ∧ w.cell? (ad.add i.toNat) = some (.slice A0 (rd_L1 xs i).length c0) ∧ (rd_L1 xs i).length ≤ c0 ∧ (Kd.int .u8).C w A0 (rd_L1 xs i).length (rd_L1 xs i) := by
 obtain ⟨ad, c, e, _, hK, hc0⟩ := Kd.C_get h ([] : List Int) i h0 h1; have hc : ∀ j u, c[j]? = some u → w.cell? (ad.add (i.toNat * 1 + j)) = some u := hc0; obtain ⟨A0, c0, rfl, l0, g0⟩ := hK; exact ⟨ad, A0, c0, e, by have hq := hc 0 _ rfl; rwa [Nat.mul_one, Nat.add_zero] at hq, l0, g0⟩
end Go.Proofs.Ytkppklinmcnecaa.P
end
section
namespace Go.Proofs.Ytkppklinmcnecaa.P
open Go.RowKit Go.Proofs.YtkppklinmcnecaaW.PrintWords Go.Proofs.YtkppklinmcnecaaW.PrintLast Go.Proofs.YtkppklinmcnecaaW.PrintMore
attribute [local go_sem] max2_int min2_int max_two min_two max_three min_three max_four min_four
set_option linter.unusedVariables false
set_option linter.unusedSimpArgs false
def wire_taken.l0 : Nat → Int → List Int → Int → Int → Option (Int)
 | 0, _, _, _, _ => none
 | k + 1, x3, x6, x7, x8 => if x8 < x7 then (if 0 ≤ x8 then (if x8 < (x6.length : Int) then (wire_taken.l0 k (Go.bits .or .u64 (IntKind.u64.wrap (x3 * 256)) (IntKind.u64.wrap (rd x6 x8))) x6 x7 (wrap64 (x8 + 1))) else (none)) else (none)) else (some x3)
def wire_taken.f (k : Nat) (l0 : List Int) : Option (Int) := wire_taken.l0 k 0 l0 (l0.length : Int) 0
end Go.Proofs.Ytkppklinmcnecaa.P
end
section
namespace Go.Proofs.Ytkppklinmcnecaa.P
open Go.RowKit Go.Proofs.YtkppklinmcnecaaW.PrintWords Go.Proofs.YtkppklinmcnecaaW.PrintLast Go.Proofs.YtkppklinmcnecaaW.PrintMore
attribute [local go_sem] max2_int min2_int max_two min_two max_three min_three max_four min_four
set_option linter.unusedVariables false
set_option linter.unusedSimpArgs false
def wire_ReadCount.f (k : Nat) (l0 : List Int) : Option (Int × Int × Int) := if (l0.length : Int) < 4 then (some (0, 0, 7)) else (if 4 ≤ (l0.length : Int) then ((wire_taken.f k (l0.take 4)).bind fun t156 => (if t156 > 2147483647 then (some (0, 0, 8)) else (some (wrap64 (t156), 4, 0)))) else (none))
theorem cut_max {P : Program} (t e : TypeId) (kl kh km : IntKind) {i : TypeInfo} (ht : P.underlying t = some (.slice e)) (hi : P.info? e = some i) (size : Nat) (hsz : i.size = size) (A : Option Addr) (n c : Nat) (lo m : Int) (h0 : 0 ≤ lo) (h1 : lo ≤ m) (h2 : m ≤ c) :
    ∀ W : World, (Instr.slice t (.slice A n c) (some (.int kl lo)) (some (.int kh m)) (some (.int km m))).run P W = .ok (.slice (if m.toNat = lo.toNat then A else A.map (·.add (lo.toNat * size))) (m.toNat - lo.toNat) (m.toNat - lo.toNat)) W := by
  intro W; have hel : P.elem t = e := by simp [Program.elem, ht]
  have hu : P.underlying t = some (.slice (P.elem t)) := by rw [hel]; exact ht
  rw [run_slice_lhm W t A n c hu kl kh km lo m m h0 h1 (Int.le_refl _) h2, hel]; simp [sizeOf, typeInfo, hi, hsz, sliced, Result.andThen]
set_option maxHeartbeats 8000000 in
set_option maxRecDepth 100000 in
theorem wire_taker1.calls (k : Nat) (A : Option Addr) (c g : Nat) (m : Int) (l : List Int) (r : Int) (w : World) (hg : w.heap[g]? = some (.cells #[.slice A l.length c] 22 (0, 0))) (hr : Kd.C (Kd.int .u8) w A l.length l) (hc : l.length ≤ c) (hm0 : 0 ≤ m) (hm1 : m ≤ l.length) (h : wire_taken.f k (l.take m.toNat) = some r) :
  Calls Try.prog 108 #[.int .i64 m, .pointer (some ⟨g, 0, none⟩)] w fun e w' => e = .returned (.int .u64 r) ∧ ∃ A', (∀ W, Kd.C (Kd.int .u8) W A l.length l → Kd.C (Kd.int .u8) W A' (l.length - m.toNat) (l.drop m.toNat)) ∧ w.setCell ⟨g, 0, none⟩ (.slice A' (l.length - m.toNat) (l.length - m.toNat)) = w' := by
 obtain ⟨m, rfl⟩ := Int.eq_ofNat_of_zero_le hm0; simp only [Int.toNat_natCast] at h ⊢; have hm : m ≤ l.length := by omega
 clear hm0 hm1; have HD := am (fun (W : World) (hr : Kd.C (Kd.int .u8) W A l.length l) => Kd.C_drop (c := l.length) hr hm (Nat.le_refl _)); have HR0 := am (Kd.C_take hr hm); have HC0 := am hc; have hgc := cell_of_one hg; have hgf := free_of_one hg; have hlen : l.length ≤ 9223372036854775807 := hr.2.1; clear hr; have hlt : (l.take m).length = m := by rw [List.length_take]; omega
 have H : (wire_taken.l0 k 0 (l.take m) ((l.take m).length : Int) 0) = some r := h; clear h; have H' := am H; clear H; have hl2 := am hlt; clear hlt; obtain ⟨i0, hi0, _, hsz0, _⟩ := info_parts info5; have hcut1 := print_take_of (P := Try.prog) (Value.int .u8) 0 22 5 .i64 Try.underlying22 hi0 hsz0 A c l (m : Int) Z144 Z144 hc; simp only [Int.toNat_natCast] at hcut1; replace hcut1 := hcut1.1; rw [hl2.out] at hcut1; have hcut2 := cut_max (P := Try.prog) 22 5 .i64 .i64 .i64 Try.underlying22 hi0 1 hsz0 A l.length c (m : Int) (l.length : Int) Z144 Z144 Z144; simp only [Int.toNat_natCast] at hcut2; obtain ⟨A', hA'⟩ : ∃ A', (if l.length = m then A else A.map (·.add (m * 1))) = A' := ⟨_, rfl⟩; rw [hA'] at hcut2; replace HD := am (show ∀ W, Kd.C (Kd.int .u8) W A l.length l → Kd.C (Kd.int .u8) W A' (l.length - m) (l.drop m) from fun W h => by have z := HD.out W h; rw [List.length_drop] at z; exact hA' ▸ z); clear hA'; clear hi0 hsz0 hc; go_enter Try.func108, Try.ntmps108
 go_wp2; go_loopg [4, 11] k (fun kq v4 v11 w' => ∃ (x4 : Int) (x11 : Int), v4 = .int .u64 x4 ∧ v11 = .int .i64 x11 ∧ Aside0 (wire_taken.l0 kq x4 (l.take m) ((l.take m).length : Int) x11 = some r) ∧ Aside0 (kq ≤ k) ∧ w = w')
 case atStart => exact ⟨0, 0, rfl, rfl, H', ⟨Nat.le_refl _⟩, rfl⟩
 case round =>
  clear H'; obtain ⟨x4, x11, rfl, rfl, HA, HK1, rfl⟩ := hrel; cases gk with
  | zero => exact absurd HA.out (by simp [wire_taken.l0])
  | succ k1 =>
   have H := HA.out; clear HA; simp only [wire_taken.l0] at H; by_cases c2 : x11 < ((l.take m).length : Int)
   ·rw [if_pos c2] at H; by_cases c3 : 0 ≤ x11
    ·rw [if_pos c3, if_pos c2] at H; have H' := am H; clear H; obtain ⟨ad, e101, hx101⟩ := Kd.at_int HR0.out x11 c3 c2; cases e101; rw [hl2.out] at c2; have q101 := eq_true c2; have p101 := eq_true c3; have c2b : decide (x11 < (m : Int)) = true := decide_eq_true c2; have c3b : decide (0 ≤ x11) = true := decide_eq_true c3; clear c2 c3; go_wp2; go_roundg k1
     case measure => have := HK1.out; omega
     case rel => exact ⟨Go.bits .or .u64 (IntKind.u64.wrap (x4 * 256)) (IntKind.u64.wrap (rd (l.take m) x11)), wrap64 (x11 + 1), Z17, Z17, H', ⟨Z110⟩, rfl⟩
    ·rw [if_neg c3] at H; exact absurd H (by simp)
   ·rw [if_neg c2] at H; obtain rfl := Option.some.inj H; rw [hl2.out] at c2; have c2b0 : decide (x11 < (m : Int)) = false := decide_eq_false c2; clear c2; go_wp2; go_ret; exact ⟨rfl, A', HD.out, rfl⟩
set_option maxRecDepth 100000 in
theorem wire_takerC.calls (A : Option Addr) (n c : Nat) (w : World) :
  Calls Try.prog 89 #[.slice A n c] w fun e w' => e = .returned (.func (Fn.func 108) #[] #[.pointer (some ⟨w.heap.size, 0, none⟩)]) ∧ w.alloc (.cells #[.slice A n c] 22) = w' := by
 have hmf : ∀ (fn : Fn) (first cap : Array Value) (w : World), (Instr.makeFunc fn first cap).run Try.prog w = .ok (.func fn first cap) w := fun _ _ _ _ => rfl
 go_enter Try.func89, Try.ntmps89
 go_wp2; go_ret; exact ⟨rfl, rfl⟩
set_option maxHeartbeats 8000000 in
set_option maxRecDepth 100000 in
theorem wire_ReadCount.calls (k : Nat) (A0 : Option Addr) (c0 : Nat) (l0 : List Int) (r1 : Int) (r2 : Int) (r3 : Int) (w : World) (hr0 : Kd.C (Kd.int .u8) w A0 l0.length l0) (hc0 : l0.length ≤ c0) (h : wire_ReadCount.f k l0 = some (r1, r2, r3)) :
  Calls Try.prog 88 #[.slice A0 l0.length c0] w fun e w' => e = .returned (.tuple #[.int .i64 r1, .int .i64 r2, .int .i64 r3]) ∧ Below w.heap.size w w' := by
 have HR0 := am hr0; have HC0 := am hc0; have hlen : l0.length ≤ 9223372036854775807 := hr0.2.1; clear hr0 hc0; have HB := am (Below.refl w.heap.size w); unfold wire_ReadCount.f at h; by_cases c2 : (l0.length : Int) < 4
 ·rw [if_pos c2] at h; have c2b0 : decide ((l0.length : Int) < 4) = true := decide_eq_true c2; have c2b1 : decide (l0.length < 4) = true := decide_eq_true Z144; clear c2; simp only [Option.some.injEq, Prod.mk.injEq] at h; obtain ⟨rfl, rfl, rfl⟩ := h; go_enter Try.func88, Try.ntmps88
  go_wp2; go_ret3
  exact ⟨rfl, HB.out⟩
 ·rw [if_neg c2, if_pos Z144] at h; have c2b0 : decide ((l0.length : Int) < 4) = false := decide_eq_false c2; have c2b1 : decide (l0.length < 4) = false := decide_eq_false Z144; obtain ⟨t, ht, h⟩ := Option.bind_eq_some_iff.mp h; have HT := am ht; have H := am h; clear h; have h4 : 4 ≤ l0.length := by omega
  clear c2 ht; go_enter Try.func88, Try.ntmps88
  go_wp2_with (go_at_call 89; refine (wire_takerC.calls _ _ _ _).mono ?_; rintro e w' ⟨rfl, rfl⟩)
  refine (wire_taker1.calls k A0 c0 w.heap.size 4 l0 t _ (heap_alloc_new _ _) (Kd.C_alloc HR0.out _) HC0.out Z144 Z144 HT.out).mono ?_; rintro e w' ⟨rfl, A', -, rfl⟩; have H := H.out; by_cases c5 : t > 2147483647
  ·rw [if_pos c5] at H; have c5b0 : decide (2147483647 < t) = true := decide_eq_true c5; clear c5; simp only [Option.some.injEq, Prod.mk.injEq] at H; obtain ⟨rfl, rfl, rfl⟩ := H; go_wp2; go_ret3
   exact ⟨rfl, below_alloc HB.out _⟩
  ·rw [if_neg c5] at H; have c5b0 : decide (2147483647 < t) = false := decide_eq_false c5; clear c5; simp only [Option.some.injEq, Prod.mk.injEq] at H; obtain ⟨rfl, rfl, rfl⟩ := H; go_wp2; go_ret3
   exact ⟨rfl, below_alloc HB.out _⟩
def wire_Sum.l0 : Nat → Int → List Int → Int → Int → Option (Int)
 | 0, _, _, _, _ => none
 | k + 1, x3, x6, x7, x8 => if x8 < x7 then (if 0 ≤ x8 then (if x8 < (x6.length : Int) then (wire_Sum.l0 k (IntKind.u64.wrap ((Go.bits .xor .u64 x3 (IntKind.u64.wrap (rd x6 x8))) * 1099511628211)) x6 x7 (wrap64 (x8 + 1))) else (none)) else (none)) else (some x3)
def wire_Sum.f (k : Nat) (l0 : List Int) : Option (Int) := wire_Sum.l0 k 14695981039346656037 l0 (l0.length : Int) 0
set_option maxHeartbeats 8000000 in
set_option maxRecDepth 100000 in
theorem wire_Sum.calls (k : Nat) (A0 : Option Addr) (c0 : Nat) (l0 : List Int) (r : Int) (w : World) (hr0 : Kd.C (Kd.int .u8) w A0 l0.length l0) (hc0 : l0.length ≤ c0) (h : wire_Sum.f k l0 = some r) :
  Calls Try.prog 90 #[.slice A0 l0.length c0] w fun e w' => e = .returned (.int .u64 r) ∧ Drawn0 w w' := by
 have HR0 := am hr0; have HC0 := am hc0; clear hr0 hc0; have H : (wire_Sum.l0 k 14695981039346656037 l0 (l0.length : Int) 0) = some r := h; clear h; have H' := am H; clear H; go_enter Try.func90, Try.ntmps90
 go_wp2; go_loopg [3, 8] k (fun kq v3 v8 w' => ∃ (x3_1 : Int) (x8_1 : Int), v3 = .int .u64 x3_1 ∧ v8 = .int .i64 x8_1 ∧ Aside0 (wire_Sum.l0 kq x3_1 l0 (l0.length : Int) x8_1 = some r) ∧ Aside0 (kq ≤ k) ∧ Drawn0 w w')
 case atStart => exact ⟨(14695981039346656037), (0), Z17, Z17, H', ⟨Nat.le_refl _⟩, Z33⟩
 case round =>
  clear H'; obtain ⟨x3_1, x8_1, rfl, rfl, HA, HK1, ⟨m1, rfl⟩⟩ := hrel; cases gk with
  | zero => exact absurd HA.out (by simp [wire_Sum.l0])
  | succ k1 =>
   have H := HA.out; clear HA; simp only [wire_Sum.l0] at H; by_cases c2 : x8_1 < (l0.length : Int)
   ·rw [if_pos c2] at H; have c2b0 : decide (x8_1 < (l0.length : Int)) = true := decide_eq_true c2; clear c2; by_cases c3 : 0 ≤ x8_1
    ·rw [if_pos c3] at H; have c3b0 : decide (0 ≤ x8_1) = true := decide_eq_true c3; clear c3; by_cases c4 : x8_1 < (l0.length : Int)
     ·rw [if_pos c4] at H; have c4b0 : decide (x8_1 < (l0.length : Int)) = true := decide_eq_true c4; clear c4; have H' := am H; clear H; have p157 : 0 ≤ (x8_1 : Int) := of_decide_eq_true Z19; have q157 : x8_1 < (l0.length : Int) := of_decide_eq_true Z19; obtain ⟨ad157, e157, hx157_0⟩ := Kd.at_int HR0.out x8_1 p157 q157; cases e157; replace p157 := eq_true p157; replace q157 := eq_true q157; go_wp2; go_roundg k1
      case measure => have := HK1.out; omega
      case rel => exact ⟨(IntKind.u64.wrap ((Go.bits .xor .u64 x3_1 (IntKind.u64.wrap (rd l0 x8_1))) * 1099511628211)), (wrap64 (x8_1 + 1)), Z17, Z17, H', ⟨Z110⟩, Z33⟩
     ·rw [if_neg c4] at H; exact absurd H (by simp)
    ·rw [if_neg c3] at H; exact absurd H (by simp)
   ·rw [if_neg c2] at H; have c2b0 : decide (x8_1 < (l0.length : Int)) = false := decide_eq_false c2; clear c2; obtain rfl := Option.some.inj H; go_wp2; go_ret; exact ⟨Z17, Z33⟩
def wire_Unseal.f (k : Nat) (l0 : List Int) : Option (List Int × Int × Int) := (wire_ReadCount.f k l0).bind fun bt158 => (if bt158.2.2 = 0 then (if bt158.1 > 1048576 then (some (([] : List Int), 0, 4)) else (if (wrap64 ((l0.length : Int) - bt158.2.1)) < (wrap64 (bt158.1 + 8)) then (some (([] : List Int), 0, 7)) else (if 0 ≤ (wrap64 (bt158.2.1 + bt158.1)) then (if (wrap64 (bt158.2.1 + bt158.1)) ≤ (wrap64 ((wrap64 (bt158.2.1 + bt158.1)) + 8)) then (if (wrap64 ((wrap64 (bt158.2.1 + bt158.1)) + 8)) ≤ (l0.length : Int) then ((wire_taken.f k ((l0.take ((wrap64 ((wrap64 (bt158.2.1 + bt158.1)) + 8)) : Int).toNat).drop ((wrap64 (bt158.2.1 + bt158.1)) : Int).toNat)).bind fun t162 => (if (wrap64 (bt158.2.1 + bt158.1)) ≤ (l0.length : Int) then ((wire_Sum.f k (l0.take ((wrap64 (bt158.2.1 + bt158.1)) : Int).toNat)).bind fun t164 => (if t162 = t164 then (if 0 ≤ bt158.2.1 then (if bt158.2.1 ≤ (wrap64 (bt158.2.1 + bt158.1)) then (if ([] : List Int).length + ((l0.take ((wrap64 (bt158.2.1 + bt158.1)) : Int).toNat).drop (bt158.2.1 : Int).toNat).length < 140737488355328 then (some ((([] : List Int) ++ ((l0.take ((wrap64 (bt158.2.1 + bt158.1)) : Int).toNat).drop (bt158.2.1 : Int).toNat)), wrap64 ((wrap64 (bt158.2.1 + bt158.1)) + 8), 0)) else (none)) else (none)) else (none)) else (some (([] : List Int), 0, 80)))) else (none))) else (none)) else (none)) else (none)))) else (some (([] : List Int), 0, bt158.2.2)))
set_option maxHeartbeats 8000000 in
set_option maxRecDepth 100000 in
theorem wire_Unseal.calls (k : Nat) (A0 : Option Addr) (c0 : Nat) (l0 : List Int) (r1 : List Int) (r2 : Int) (r3 : Int) (w : World) (hr0 : Kd.C (Kd.int .u8) w A0 l0.length l0) (hc0 : l0.length ≤ c0) (h : wire_Unseal.f k l0 = some (r1, r2, r3)) :
  Calls Try.prog 62 #[.slice A0 l0.length c0] w fun e w' => ∃ v0_ : Value, e = .returned (.tuple #[v0_, .int .i64 r2, .int .i64 r3]) ∧ Kd.R (Kd.int .u8) 5 w' w.heap.size (fun _ => True) v0_ r1 ∧ Below w.heap.size w w' := by
 have HR0 := am hr0; have HC0 := am hc0; clear hr0 hc0; have HB := am (Below.refl w.heap.size w); have H : ((wire_ReadCount.f k l0).bind fun bt158 => (if bt158.2.2 = 0 then (if bt158.1 > 1048576 then (some (([] : List Int), 0, 4)) else (if (wrap64 ((l0.length : Int) - bt158.2.1)) < (wrap64 (bt158.1 + 8)) then (some (([] : List Int), 0, 7)) else (if 0 ≤ (wrap64 (bt158.2.1 + bt158.1)) then (if (wrap64 (bt158.2.1 + bt158.1)) ≤ (wrap64 ((wrap64 (bt158.2.1 + bt158.1)) + 8)) then (if (wrap64 ((wrap64 (bt158.2.1 + bt158.1)) + 8)) ≤ (l0.length : Int) then ((wire_taken.f k ((l0.take ((wrap64 ((wrap64 (bt158.2.1 + bt158.1)) + 8)) : Int).toNat).drop ((wrap64 (bt158.2.1 + bt158.1)) : Int).toNat)).bind fun t162 => (if (wrap64 (bt158.2.1 + bt158.1)) ≤ (l0.length : Int) then ((wire_Sum.f k (l0.take ((wrap64 (bt158.2.1 + bt158.1)) : Int).toNat)).bind fun t164 => (if t162 = t164 then (if 0 ≤ bt158.2.1 then (if bt158.2.1 ≤ (wrap64 (bt158.2.1 + bt158.1)) then (if ([] : List Int).length + ((l0.take ((wrap64 (bt158.2.1 + bt158.1)) : Int).toNat).drop (bt158.2.1 : Int).toNat).length < 140737488355328 then (some ((([] : List Int) ++ ((l0.take ((wrap64 (bt158.2.1 + bt158.1)) : Int).toNat).drop (bt158.2.1 : Int).toNat)), wrap64 ((wrap64 (bt158.2.1 + bt158.1)) + 8), 0)) else (none)) else (none)) else (none)) else (some (([] : List Int), 0, 80)))) else (none))) else (none)) else (none)) else (none)))) else (some (([] : List Int), 0, bt158.2.2)))) = some (r1, r2, r3) := h; clear h; replace H := Option.bind_eq_some_iff.mp H; obtain ⟨⟨t158, t159, t160⟩, A20, H⟩ := H; replace H : (if t160 = 0 then (if t158 > 1048576 then (some (([] : List Int), 0, 4)) else (if (wrap64 ((l0.length : Int) - t159)) < (wrap64 (t158 + 8)) then (some (([] : List Int), 0, 7)) else (if 0 ≤ (wrap64 (t159 + t158)) then (if (wrap64 (t159 + t158)) ≤ (wrap64 ((wrap64 (t159 + t158)) + 8)) then (if (wrap64 ((wrap64 (t159 + t158)) + 8)) ≤ (l0.length : Int) then ((wire_taken.f k ((l0.take ((wrap64 ((wrap64 (t159 + t158)) + 8)) : Int).toNat).drop ((wrap64 (t159 + t158)) : Int).toNat)).bind fun t162 => (if (wrap64 (t159 + t158)) ≤ (l0.length : Int) then ((wire_Sum.f k (l0.take ((wrap64 (t159 + t158)) : Int).toNat)).bind fun t164 => (if t162 = t164 then (if 0 ≤ t159 then (if t159 ≤ (wrap64 (t159 + t158)) then (if ([] : List Int).length + ((l0.take ((wrap64 (t159 + t158)) : Int).toNat).drop (t159 : Int).toNat).length < 140737488355328 then (some ((([] : List Int) ++ ((l0.take ((wrap64 (t159 + t158)) : Int).toNat).drop (t159 : Int).toNat)), wrap64 ((wrap64 (t159 + t158)) + 8), 0)) else (none)) else (none)) else (none)) else (some (([] : List Int), 0, 80)))) else (none))) else (none)) else (none)) else (none)))) else (some (([] : List Int), 0, t160))) = some (r1, r2, r3) := H
 have A2 := am A20; clear A20; by_cases c3 : t160 = 0
 ·rw [if_pos c3] at H; have c3b0 : (t160 == 0) = true := beq_iff_eq.mpr c3; have c3b1 : (t160 != 0) = false := bne_eq_false_iff_eq.mpr c3; clear c3; by_cases c4 : t158 > 1048576
  ·rw [if_pos c4] at H; have c4b0 : decide (1048576 < t158) = true := decide_eq_true c4; clear c4; simp only [Option.some.injEq, Prod.mk.injEq] at H; obtain ⟨rfl, rfl, rfl⟩ := H; go_enter Try.func62, Try.ntmps62
   go_wp2_with (first | (go_at_call 88; (with_reducible refine (wire_ReadCount.calls k _ _ l0 t158 t159 t160 _ ?side1 ?side2 A2.out).mono ?_); (case side1 => repeat (first | exact HR0.out | (with_reducible refine Kd.C_alloc ?_ _) | (with_reducible refine Kd.C_drewN ?_ _) | (with_reducible refine Kd.C_drew ?_))); (case side2 => exact HC0.out); rintro e w5 ⟨rfl, hb⟩; replace HB := am (below_step Z1 hb); (try clear hb)))
   repeat (go_quiet (first | (go_at_call 88; (with_reducible refine (wire_ReadCount.calls k _ _ l0 t158 t159 t160 _ ?side1 ?side2 A2.out).mono ?_); (case side1 => repeat (first | exact HR0.out | (with_reducible refine Kd.C_alloc ?_ _) | (with_reducible refine Kd.C_drewN ?_ _) | (with_reducible refine Kd.C_drew ?_))); (case side2 => exact HC0.out); rintro e w5 ⟨rfl, hb⟩; replace HB := am (below_step Z1 hb); (try clear hb))); try go_wp2_with (first | (go_at_call 88; (with_reducible refine (wire_ReadCount.calls k _ _ l0 t158 t159 t160 _ ?side1 ?side2 A2.out).mono ?_); (case side1 => repeat (first | exact HR0.out | (with_reducible refine Kd.C_alloc ?_ _) | (with_reducible refine Kd.C_drewN ?_ _) | (with_reducible refine Kd.C_drew ?_))); (case side2 => exact HC0.out); rintro e w5 ⟨rfl, hb⟩; replace HB := am (below_step Z1 hb); (try clear hb))))
   go_ret3
   exact ⟨_, Z3, Z9, Z1⟩
  ·rw [if_neg c4] at H; have c4b0 : decide (1048576 < t158) = false := decide_eq_false c4; clear c4; by_cases c6 : (wrap64 ((l0.length : Int) - t159)) < (wrap64 (t158 + 8))
   ·rw [if_pos c6] at H; have c6b0 : decide ((wrap64 ((l0.length : Int) - t159)) < (wrap64 (t158 + 8))) = true := decide_eq_true c6; clear c6; simp only [Option.some.injEq, Prod.mk.injEq] at H; obtain ⟨rfl, rfl, rfl⟩ := H; go_enter Try.func62, Try.ntmps62
    go_wp2_with (first | (go_at_call 88; (with_reducible refine (wire_ReadCount.calls k _ _ l0 t158 t159 t160 _ ?side1 ?side2 A2.out).mono ?_); (case side1 => repeat (first | exact HR0.out | (with_reducible refine Kd.C_alloc ?_ _) | (with_reducible refine Kd.C_drewN ?_ _) | (with_reducible refine Kd.C_drew ?_))); (case side2 => exact HC0.out); rintro e w7 ⟨rfl, hb⟩; replace HB := am (below_step Z1 hb); (try clear hb)))
    repeat (go_quiet (first | (go_at_call 88; (with_reducible refine (wire_ReadCount.calls k _ _ l0 t158 t159 t160 _ ?side1 ?side2 A2.out).mono ?_); (case side1 => repeat (first | exact HR0.out | (with_reducible refine Kd.C_alloc ?_ _) | (with_reducible refine Kd.C_drewN ?_ _) | (with_reducible refine Kd.C_drew ?_))); (case side2 => exact HC0.out); rintro e w7 ⟨rfl, hb⟩; replace HB := am (below_step Z1 hb); (try clear hb))); try go_wp2_with (first | (go_at_call 88; (with_reducible refine (wire_ReadCount.calls k _ _ l0 t158 t159 t160 _ ?side1 ?side2 A2.out).mono ?_); (case side1 => repeat (first | exact HR0.out | (with_reducible refine Kd.C_alloc ?_ _) | (with_reducible refine Kd.C_drewN ?_ _) | (with_reducible refine Kd.C_drew ?_))); (case side2 => exact HC0.out); rintro e w7 ⟨rfl, hb⟩; replace HB := am (below_step Z1 hb); (try clear hb))))
    go_ret3
    exact ⟨_, Z3, Z9, Z1⟩
   ·rw [if_neg c6] at H; have c6b0 : decide ((wrap64 ((l0.length : Int) - t159)) < (wrap64 (t158 + 8))) = false := decide_eq_false c6; clear c6; obtain ⟨ji8, hji8⟩ : ∃ j_ : Int, (wrap64 (t159 + t158)) = j_ := ⟨_, rfl⟩; replace H : (if 0 ≤ (ji8) then (if (ji8) ≤ (wrap64 ((ji8) + 8)) then (if (wrap64 ((ji8) + 8)) ≤ (l0.length : Int) then ((wire_taken.f k ((l0.take ((wrap64 ((ji8) + 8)) : Int).toNat).drop ((ji8) : Int).toNat)).bind fun t162 => (if (ji8) ≤ (l0.length : Int) then ((wire_Sum.f k (l0.take ((ji8) : Int).toNat)).bind fun t164 => (if t162 = t164 then (if 0 ≤ t159 then (if t159 ≤ (ji8) then (if ([] : List Int).length + ((l0.take ((ji8) : Int).toNat).drop (t159 : Int).toNat).length < 140737488355328 then (some ((([] : List Int) ++ ((l0.take ((ji8) : Int).toNat).drop (t159 : Int).toNat)), wrap64 ((ji8) + 8), 0)) else (none)) else (none)) else (none)) else (some (([] : List Int), 0, 80)))) else (none))) else (none)) else (none)) else (none)) = some (r1, r2, r3) := by first | (rw [hji8] at H; exact H) | (simp only [hji8] at H ⊢; exact H)
    (try rw [hji8] at A2)
    have hji8w : (IntKind.i64.wrap (t159 + t158)) = ji8 := (i64_w _).trans hji8; by_cases c9 : 0 ≤ (ji8)
    ·rw [if_pos c9] at H; have c9b0 := eq_true c9; have c9b1 : decide (0 ≤ (ji8)) = true := decide_eq_true c9; clear c9; by_cases c10 : (ji8) ≤ (wrap64 ((ji8) + 8))
     ·rw [if_pos c10] at H; have c10b0 := eq_true c10; have c10b1 : decide ((ji8) ≤ (wrap64 ((ji8) + 8))) = true := decide_eq_true c10; by_cases c11 : (wrap64 ((ji8) + 8)) ≤ (l0.length : Int)
      ·rw [if_pos c11] at H; have c11b0 := eq_true c11; have c11b1 : decide ((wrap64 ((ji8) + 8)) ≤ (l0.length : Int)) = true := decide_eq_true c11; replace H := Option.bind_eq_some_iff.mp H; obtain ⟨t162, A120, H⟩ := H; replace H : (if (ji8) ≤ (l0.length : Int) then ((wire_Sum.f k (l0.take ((ji8) : Int).toNat)).bind fun t164 => (if t162 = t164 then (if 0 ≤ t159 then (if t159 ≤ (ji8) then (if ([] : List Int).length + ((l0.take ((ji8) : Int).toNat).drop (t159 : Int).toNat).length < 140737488355328 then (some ((([] : List Int) ++ ((l0.take ((ji8) : Int).toNat).drop (t159 : Int).toNat)), wrap64 ((ji8) + 8), 0)) else (none)) else (none)) else (none)) else (some (([] : List Int), 0, 80)))) else (none)) = some (r1, r2, r3) := H; have A12 := am A120; clear A120; have c13b0 := eq_true (of_decide_eq_true Z19 : 0 ≤ (ji8)); by_cases c14 : (ji8) ≤ (l0.length : Int)
       ·rw [if_pos c14] at H; have c14b0 := eq_true c14; have c14b1 : decide ((ji8) ≤ (l0.length : Int)) = true := decide_eq_true c14; clear c14; replace H := Option.bind_eq_some_iff.mp H; obtain ⟨t164, A150, H⟩ := H; replace H : (if t162 = t164 then (if 0 ≤ t159 then (if t159 ≤ (ji8) then (if ([] : List Int).length + ((l0.take ((ji8) : Int).toNat).drop (t159 : Int).toNat).length < 140737488355328 then (some ((([] : List Int) ++ ((l0.take ((ji8) : Int).toNat).drop (t159 : Int).toNat)), wrap64 ((ji8) + 8), 0)) else (none)) else (none)) else (none)) else (some (([] : List Int), 0, 80))) = some (r1, r2, r3) := H; have A15 := am A150; clear A150; have qA : 0 ≤ ji8 := of_decide_eq_true (by assumption); have qB : ji8 ≤ l0.length := of_decide_eq_true (by assumption); have qC : ji8 ≤ wrap64 (ji8 + 8) := of_decide_eq_true (by assumption); have qD : wrap64 (ji8 + 8) ≤ l0.length := of_decide_eq_true (by assumption); have hl0 : l0.length ≤ 9223372036854775807 := HR0.out.2.1; have ew : wrap64 (ji8 + 8) = ji8 + 8 := by unfold wrap64 at qC ⊢; omega
        have HT := am (show wire_taken.f k ((l0.drop ji8.toNat).take 8) = some t162 from by rw [← A12.out, List.drop_take, ew, show (ji8 + 8).toNat - ji8.toNat = 8 by omega]); obtain ⟨iX, hiX, _, hszX, _⟩ := info_parts info5; obtain ⟨AB, hcutB, hAB, hCB⟩ := print_drop_of (P := Try.prog) (Value.int .u8) 0 22 5 .i64 Try.underlying22 hiX hszX A0 c0 l0 ji8 qA qB HC0.out; obtain ⟨hcutS, hAS, hCS⟩ := print_take_of (P := Try.prog) (Value.int .u8) 0 22 5 .i64 Try.underlying22 hiX hszX A0 c0 l0 ji8 qA qB HC0.out; have HRB := am (show Kd.C (Kd.int .u8) w AB (l0.drop ji8.toNat).length (l0.drop ji8.toNat) from Kd.C_of_reads (h1 := fun _ => rfl) (hAB _ (Kd.reads_of_C HR0.out))); have HRS := am (show Kd.C (Kd.int .u8) w A0 (l0.take ji8.toNat).length (l0.take ji8.toNat) from Kd.C_of_reads (h1 := fun _ => rfl) (hAS _ (Kd.reads_of_C HR0.out))); have HCB := am hCB; have HCS := am hCS; have HZ := am A15.out; have HN := am (show (8 : Int) ≤ (l0.drop ji8.toNat).length from by rw [List.length_drop]; omega); obtain ⟨lb, hlb⟩ : ∃ x, x = l0.drop ji8.toNat := ⟨_, rfl⟩; obtain ⟨ls, hls⟩ : ∃ x, x = l0.take ji8.toNat := ⟨_, rfl⟩; rw [← hlb] at hcutB HRB HCB HT HN; rw [← hls] at hcutS HRS HCS HZ; have HEW := am ew; clear hlb hls hAB hAS hCB hCS hiX hszX qA qB qC qD hl0 ew; by_cases c16 : t162 = t164
        ·rw [if_pos c16] at H; have c16b0 : (t162 == t164) = true := beq_iff_eq.mpr c16; have c16b1 : (t162 != t164) = false := bne_eq_false_iff_eq.mpr c16; clear c16; by_cases c17 : 0 ≤ t159
         ·rw [if_pos c17] at H; by_cases c18 : t159 ≤ ji8
          ·rw [if_pos c18] at H; by_cases c20 : ([] : List Int).length + ((l0.take ji8.toNat).drop t159.toNat).length < 140737488355328
           ·rw [if_pos c20] at H; have qB : ji8 ≤ l0.length := of_decide_eq_true (by assumption); obtain ⟨iX, hiX, _, hszX, _⟩ := info_parts info5; obtain ⟨AM, hcutM, hAM, hCM⟩ := Go.Proofs.Ytkppklinmcnecaa.Max.print_mid3_of (P := Try.prog) (Value.int .u8) 0 22 5 .i64 .i64 Try.underlying22 hiX hszX A0 c0 l0 t159 ji8 c17 c18 qB HC0.out; have HRM := am (show Kd.C (Kd.int .u8) w AM ((l0.take ji8.toNat).drop t159.toNat).length ((l0.take ji8.toNat).drop t159.toNat) from Kd.C_of_reads (h1 := fun _ => rfl) (hAM _ (Kd.reads_of_C HR0.out))); have hlm : ((l0.take ji8.toNat).drop t159.toNat).length = ji8.toNat - t159.toNat := by rw [List.length_drop, List.length_take]; omega
            obtain ⟨lm, hlm2⟩ : ∃ x, x = (l0.take ji8.toNat).drop t159.toNat := ⟨_, rfl⟩; rw [← hlm2] at hcutM HRM c20 hlm H; rw [← hlm] at hcutM; have LM := am c20; simp only [Option.some.injEq, Prod.mk.injEq] at H; obtain ⟨rfl, rfl, rfl⟩ := H; clear hlm hlm2 hAM hCM hiX hszX c17 c18 c20 qB; go_enter Try.func62, Try.ntmps62
            go_wp2_with fail
            refine (wire_ReadCount.calls k A0 c0 l0 t158 t159 t160 _ HR0.out HC0.out A2.out).mono ?_; rintro e w9 ⟨rfl, hb9⟩; have HB9 := am hb9; clear hb9; replace HRB := am (Kd.C_below HRB.out HB9.out); replace HRS := am (Kd.C_below HRS.out HB9.out); go_wp2_with fail
            replace HRM := am (Kd.C_below HRM.out HB9.out); go_region_with (first | (go_at_call 89; refine (wire_takerC.calls _ _ _ _).mono ?_; rintro e w8 ⟨rfl, rfl⟩) | (go_at_call 108; refine (wire_taker1.calls k AB _ _ 8 lb t162 _ (by repeat (first | exact heap_alloc_new _ _ | refine blk_drewN ?_ _ | refine blk_drew ?_)) (by repeat (first | exact HRB.out | refine Kd.C_alloc ?_ _ | refine Kd.C_drewN ?_ _ | refine Kd.C_drew ?_)) HCB.out Z144 HN.out HT.out).mono ?_; rintro e w8 ⟨rfl, A8, -, rfl⟩) | (go_at_call 90; refine (wire_Sum.calls k A0 c0 ls t164 _ (by repeat (first | exact HRS.out | refine Kd.C_alloc ?_ _ | refine Kd.C_drewN ?_ _ | refine Kd.C_drew ?_)) HCS.out HZ.out).mono ?_; rintro e w8 ⟨rfl, ⟨m8, rfl⟩⟩))
            all_goals go_wp2_with ((with_reducible refine gate_builtin (b := .append) (xs := #[.const (.slice none 0 0), .tmp 46]) rfl ?_); at_builtin; refine Kd.R_append_rows (Kd.int .u8) (w0 := w) w.heap.size rfl (.const (.slice none 0 0)) (.tmp 46) 22 5 (.int .u8 0) 1 rfl Try.underlying22 info5 rfl Z145 Z144 (.slice none 0 0) ([] : List Int) lm _ _ _ (fun _ => True) (fun _ => False) rfl rfl ?aO ?aR (fun _ _ h => h) (fun _ h => h.elim) ?aF ?aB ?aS ?aL ?_; (case aR => repeat (first | exact HRM.out | refine Kd.C_alloc ?_ _ | refine Kd.C_drewN ?_ _ | refine Kd.C_drew ?_)); (case aB => exact Z118); (case aF => exact (fun _ _ => trivial)); (case aO => exact Kd.R_nil _ _ _ _ _); (case aS => exact (below_size Z118)); (case aL => have := LM.out; simp only [List.length_nil] at this ⊢; omega); intro v7 w7 ho hb hg hat; have HB7 := am hb; have HO7 := am ho; clear ho hb hg hat)
            all_goals go_ret3
            all_goals exact ⟨_, rfl, HO7.out, HB7.out⟩
           ·rw [if_neg c20] at H; exact absurd H (by simp)
          ·rw [if_neg c18] at H; exact absurd H (by simp)
         ·rw [if_neg c17] at H; exact absurd H (by simp)
        ·rw [if_neg c16] at H; have c16b0 : (t162 == t164) = false := beq_eq_false_iff_ne.mpr c16; have c16b1 : (t162 != t164) = true := bne_iff_ne.mpr c16; clear c16; simp only [Option.some.injEq, Prod.mk.injEq] at H; obtain ⟨rfl, rfl, rfl⟩ := H; go_enter Try.func62, Try.ntmps62
         go_wp2_with fail
         refine (wire_ReadCount.calls k A0 c0 l0 t158 t159 t160 _ HR0.out HC0.out A2.out).mono ?_; rintro e w9 ⟨rfl, hb9⟩; have HB9 := am hb9; clear hb9; replace HRB := am (Kd.C_below HRB.out HB9.out); replace HRS := am (Kd.C_below HRS.out HB9.out); go_wp2_with fail
         go_region_with (first | (go_at_call 89; refine (wire_takerC.calls _ _ _ _).mono ?_; rintro e w8 ⟨rfl, rfl⟩) | (go_at_call 108; refine (wire_taker1.calls k AB _ _ 8 lb t162 _ (by repeat (first | exact heap_alloc_new _ _ | refine blk_drewN ?_ _ | refine blk_drew ?_)) (by repeat (first | exact HRB.out | refine Kd.C_alloc ?_ _ | refine Kd.C_drewN ?_ _ | refine Kd.C_drew ?_)) HCB.out Z144 HN.out HT.out).mono ?_; rintro e w8 ⟨rfl, A8, -, rfl⟩) | (go_at_call 90; refine (wire_Sum.calls k A0 c0 ls t164 _ (by repeat (first | exact HRS.out | refine Kd.C_alloc ?_ _ | refine Kd.C_drewN ?_ _ | refine Kd.C_drew ?_)) HCS.out HZ.out).mono ?_; rintro e w8 ⟨rfl, ⟨m8, rfl⟩⟩))
         all_goals go_wp2_with fail
         all_goals go_ret3
         all_goals exact ⟨_, rfl, Kd.R_nil _ _ _ _ _, Z118⟩
       ·rw [if_neg c14] at H; exact absurd H (by simp)
      ·rw [if_neg c11] at H; exact absurd H (by simp)
     ·rw [if_neg c10] at H; exact absurd H (by simp)
    ·rw [if_neg c9] at H; exact absurd H (by simp)
 ·rw [if_neg c3] at H; have c3b0 : (t160 == 0) = false := beq_eq_false_iff_ne.mpr c3; have c3b1 : (t160 != 0) = true := bne_iff_ne.mpr c3; simp only [Option.some.injEq, Prod.mk.injEq] at H; obtain ⟨rfl, rfl, rfl⟩ := H; go_enter Try.func62, Try.ntmps62
  go_wp2_with (first | (go_at_call 88; (with_reducible refine (wire_ReadCount.calls k _ _ l0 t158 t159 t160 _ ?side1 ?side2 A2.out).mono ?_); (case side1 => repeat (first | exact HR0.out | (with_reducible refine Kd.C_alloc ?_ _) | (with_reducible refine Kd.C_drewN ?_ _) | (with_reducible refine Kd.C_drew ?_))); (case side2 => exact HC0.out); rintro e w29 ⟨rfl, hb⟩; replace HB := am (below_step Z1 hb); (try clear hb)))
  repeat (go_quiet (first | (go_at_call 88; (with_reducible refine (wire_ReadCount.calls k _ _ l0 t158 t159 t160 _ ?side1 ?side2 A2.out).mono ?_); (case side1 => repeat (first | exact HR0.out | (with_reducible refine Kd.C_alloc ?_ _) | (with_reducible refine Kd.C_drewN ?_ _) | (with_reducible refine Kd.C_drew ?_))); (case side2 => exact HC0.out); rintro e w29 ⟨rfl, hb⟩; replace HB := am (below_step Z1 hb); (try clear hb))); try go_wp2_with (first | (go_at_call 88; (with_reducible refine (wire_ReadCount.calls k _ _ l0 t158 t159 t160 _ ?side1 ?side2 A2.out).mono ?_); (case side1 => repeat (first | exact HR0.out | (with_reducible refine Kd.C_alloc ?_ _) | (with_reducible refine Kd.C_drewN ?_ _) | (with_reducible refine Kd.C_drew ?_))); (case side2 => exact HC0.out); rintro e w29 ⟨rfl, hb⟩; replace HB := am (below_step Z1 hb); (try clear hb))))
  go_ret3
  exact ⟨_, Z3, Z9, Z1⟩
end Go.Proofs.Ytkppklinmcnecaa.P
end
section
namespace Go.Proofs.Ytkppklinmcnecaa.P
open Go.RowKit Go.Proofs.YtkppklinmcnecaaW.PrintWords Go.Proofs.YtkppklinmcnecaaW.PrintLast Go.Proofs.YtkppklinmcnecaaW.PrintMore
attribute [local go_sem] max2_int min2_int max_two min_two max_three min_three max_four min_four
set_option linter.unusedVariables false
set_option linter.unusedSimpArgs false
def conclaveref08_Taken.l0 : Nat → List Int → Int → Int → Option (Int)
 | 0, _, _, _ => none
 | k + 1, x0, x3, x4 => if x4 < (x0.length : Int) then (if 0 ≤ x4 then (conclaveref08_Taken.l0 k x0 (IntKind.u64.wrap ((IntKind.u64.wrap (x3 * 256)) + (IntKind.u64.wrap (rd x0 x4)))) (wrap64 (x4 + 1))) else (none)) else (some x3)
def conclaveref08_Taken.f (k : Nat) (l0 : List Int) : Option (Int) := conclaveref08_Taken.l0 k l0 0 0
set_option maxHeartbeats 8000000 in
set_option maxRecDepth 100000 in
theorem conclaveref08_Taken.calls (k : Nat) (A0 : Option Addr) (c0 : Nat) (l0 : List Int) (r : Int) (w : World) (hr0 : Kd.C (Kd.int .u8) w A0 l0.length l0) (hc0 : l0.length ≤ c0) (h : conclaveref08_Taken.f k l0 = some r) :
  Calls Try.prog 73 #[.slice A0 l0.length c0] w fun e w' => e = .returned (.int .u64 r) ∧ Drawn0 w w' := by
 have HR0 := am hr0; have HC0 := am hc0; clear hr0 hc0; have H : (conclaveref08_Taken.l0 k l0 0 0) = some r := h; clear h; have H' := am H; clear H; go_enter Try.func73, Try.ntmps73
 go_wp2; go_loopg [3, 4] k (fun kq v3 v4 w' => ∃ (x3_1 : Int) (x4_1 : Int), v3 = .int .u64 x3_1 ∧ v4 = .int .i64 x4_1 ∧ Aside0 (conclaveref08_Taken.l0 kq l0 x3_1 x4_1 = some r) ∧ Aside0 (kq ≤ k) ∧ Drawn0 w w')
 case atStart => exact ⟨(0), (0), Z17, Z17, H', ⟨Nat.le_refl _⟩, Z33⟩
 case round =>
  clear H'; obtain ⟨x3_1, x4_1, rfl, rfl, HA, HK1, ⟨m1, rfl⟩⟩ := hrel; cases gk with
  | zero => exact absurd HA.out (by simp [conclaveref08_Taken.l0])
  | succ k1 =>
   have H := HA.out; clear HA; simp only [conclaveref08_Taken.l0] at H; by_cases c2 : x4_1 < (l0.length : Int)
   ·rw [if_pos c2] at H; have c2b0 : decide (x4_1 < (l0.length : Int)) = true := decide_eq_true c2; clear c2; by_cases c3 : 0 ≤ x4_1
    ·rw [if_pos c3] at H; have c3b0 : decide (0 ≤ x4_1) = true := decide_eq_true c3; clear c3; have H' := am H; clear H; have p169 : 0 ≤ (x4_1 : Int) := of_decide_eq_true Z19; have q169 : x4_1 < (l0.length : Int) := of_decide_eq_true Z19; obtain ⟨ad169, e169, hx169_0⟩ := Kd.at_int HR0.out x4_1 p169 q169; cases e169; replace p169 := eq_true p169; replace q169 := eq_true q169; go_wp2; go_roundg k1
     case measure => have := HK1.out; omega
     case rel => exact ⟨(IntKind.u64.wrap ((IntKind.u64.wrap (x3_1 * 256)) + (IntKind.u64.wrap (rd l0 x4_1)))), (wrap64 (x4_1 + 1)), Z17, Z17, H', ⟨Z110⟩, Z33⟩
    ·rw [if_neg c3] at H; exact absurd H (by simp)
   ·rw [if_neg c2] at H; have c2b0 : decide (x4_1 < (l0.length : Int)) = false := decide_eq_false c2; clear c2; obtain rfl := Option.some.inj H; go_wp2; go_ret; exact ⟨Z17, Z33⟩
def conclaveref08_ReadCount.f (k : Nat) (l0 : List Int) : Option (Int × Int × Int) := if (l0.length : Int) < 4 then (some (0, 0, 7)) else (if 4 ≤ (l0.length : Int) then ((conclaveref08_Taken.f k (l0.take 4)).bind fun t171 => (if t171 > 2147483647 then (some (0, 0, 8)) else (some (wrap64 (t171), 4, 0)))) else (none))
set_option maxHeartbeats 8000000 in
set_option maxRecDepth 100000 in
theorem conclaveref08_ReadCount.calls (k : Nat) (A0 : Option Addr) (c0 : Nat) (l0 : List Int) (r1 : Int) (r2 : Int) (r3 : Int) (w : World) (hr0 : Kd.C (Kd.int .u8) w A0 l0.length l0) (hc0 : l0.length ≤ c0) (h : conclaveref08_ReadCount.f k l0 = some (r1, r2, r3)) :
  Calls Try.prog 92 #[.slice A0 l0.length c0] w fun e w' => e = .returned (.tuple #[.int .i64 r1, .int .i64 r2, .int .i64 r3]) ∧ Drawn0 w w' := by
 have HR0 := am hr0; have HC0 := am hc0; clear hr0 hc0; have H : (if (l0.length : Int) < 4 then (some (0, 0, 7)) else (if 4 ≤ (l0.length : Int) then ((conclaveref08_Taken.f k (l0.take 4)).bind fun t171 => (if t171 > 2147483647 then (some (0, 0, 8)) else (some (wrap64 (t171), 4, 0)))) else (none))) = some (r1, r2, r3) := h; clear h; by_cases c2 : (l0.length : Int) < 4
 ·rw [if_pos c2] at H; have c2b0 : decide ((l0.length : Int) < 4) = true := decide_eq_true c2; have c2b1 : decide (l0.length < 4) = true := decide_eq_true Z144; clear c2; simp only [Option.some.injEq, Prod.mk.injEq] at H; obtain ⟨rfl, rfl, rfl⟩ := H; go_enter Try.func92, Try.ntmps92
  go_wp2; go_ret3
  exact ⟨Z17, Z33⟩
 ·rw [if_neg c2] at H; have c2b0 : decide ((l0.length : Int) < 4) = false := decide_eq_false c2; have c2b1 : decide (l0.length < 4) = false := decide_eq_false Z144; clear c2; by_cases c3 : 4 ≤ (l0.length : Int)
  ·rw [if_pos c3] at H; have c3b0 := eq_true c3; have c3b1 : decide (4 ≤ (l0.length : Int)) = true := decide_eq_true c3; clear c3; replace H := Option.bind_eq_some_iff.mp H; obtain ⟨t171, A40, H⟩ := H; replace H : (if t171 > 2147483647 then (some (0, 0, 8)) else (some (wrap64 (t171), 4, 0))) = some (r1, r2, r3) := H; have A4 := am A40; clear A40; by_cases c5 : t171 > 2147483647
   ·rw [if_pos c5] at H; have c5b0 : decide (2147483647 < t171) = true := decide_eq_true c5; clear c5; simp only [Option.some.injEq, Prod.mk.injEq] at H; obtain ⟨rfl, rfl, rfl⟩ := H; obtain ⟨i06, hi06, _, hsz6, _⟩ := info_parts info5; obtain ⟨hcut6, hA6, hC6⟩ := print_take_of (P := Try.prog) (Value.int .u8) 0 22 5 .i64 Try.underlying22 hi06 hsz6 A0 c0 l0 4 Z144 (of_decide_eq_true Z19) HC0.out; have HR170 := am (Kd.C_of_reads (h1 := fun _ => rfl) (hA6 _ (Kd.reads_of_C HR0.out))); have HC170 := am hC6; clear hA6 hC6 hi06 hsz6; go_enter Try.func92, Try.ntmps92
    go_wp2_with (first | ((with_reducible refine gate_callee (f := 73) rfl ?_); refine goesL_ (some 11) rfl rfl Try.func73 Z40 rfl #[.slice A0 (l0.take 4).length c0] rfl Z104 ?_; (with_reducible refine (conclaveref08_Taken.calls k _ _ (l0.take 4) t171 _ ?side1 ?side2 A4.out).mono ?_); (case side1 => repeat (first | exact HR170.out | (with_reducible refine Kd.C_alloc ?_ _) | (with_reducible refine Kd.C_drewN ?_ _) | (with_reducible refine Kd.C_drew ?_))); (case side2 => exact HC170.out); rintro e w' ⟨rfl, ⟨nd, rfl⟩⟩; refine ⟨_, rfl, ?_⟩))
    go_ret3
    exact ⟨Z17, Z33⟩
   ·rw [if_neg c5] at H; have c5b0 : decide (2147483647 < t171) = false := decide_eq_false c5; clear c5; simp only [Option.some.injEq, Prod.mk.injEq] at H; obtain ⟨rfl, rfl, rfl⟩ := H; obtain ⟨i07, hi07, _, hsz7, _⟩ := info_parts info5; obtain ⟨hcut7, hA7, hC7⟩ := print_take_of (P := Try.prog) (Value.int .u8) 0 22 5 .i64 Try.underlying22 hi07 hsz7 A0 c0 l0 4 Z144 (of_decide_eq_true Z19) HC0.out; have HR170 := am (Kd.C_of_reads (h1 := fun _ => rfl) (hA7 _ (Kd.reads_of_C HR0.out))); have HC170 := am hC7; clear hA7 hC7 hi07 hsz7; go_enter Try.func92, Try.ntmps92
    go_wp2_with (first | ((with_reducible refine gate_callee (f := 73) rfl ?_); refine goesL_ (some 11) rfl rfl Try.func73 Z40 rfl #[.slice A0 (l0.take 4).length c0] rfl Z104 ?_; (with_reducible refine (conclaveref08_Taken.calls k _ _ (l0.take 4) t171 _ ?side1 ?side2 A4.out).mono ?_); (case side1 => repeat (first | exact HR170.out | (with_reducible refine Kd.C_alloc ?_ _) | (with_reducible refine Kd.C_drewN ?_ _) | (with_reducible refine Kd.C_drew ?_))); (case side2 => exact HC170.out); rintro e w' ⟨rfl, ⟨nd, rfl⟩⟩; refine ⟨_, rfl, ?_⟩))
    go_ret3
    exact ⟨Z17, Z33⟩
  ·rw [if_neg c3] at H; exact absurd H (by simp)
def conclaveref08_Sum.l0 : Nat → List Int → Int → Int → Option (Int)
 | 0, _, _, _ => none
 | k + 1, x0, x3, x4 => if x4 < (x0.length : Int) then (if 0 ≤ x4 then (conclaveref08_Sum.l0 k x0 (IntKind.u64.wrap ((Go.bits .xor .u64 x3 (IntKind.u64.wrap (rd x0 x4))) * 1099511628211)) (wrap64 (x4 + 1))) else (none)) else (some x3)
def conclaveref08_Sum.f (k : Nat) (l0 : List Int) : Option (Int) := conclaveref08_Sum.l0 k l0 14695981039346656037 0
set_option maxHeartbeats 8000000 in
set_option maxRecDepth 100000 in
theorem conclaveref08_Sum.calls (k : Nat) (A0 : Option Addr) (c0 : Nat) (l0 : List Int) (r : Int) (w : World) (hr0 : Kd.C (Kd.int .u8) w A0 l0.length l0) (hc0 : l0.length ≤ c0) (h : conclaveref08_Sum.f k l0 = some r) :
  Calls Try.prog 93 #[.slice A0 l0.length c0] w fun e w' => e = .returned (.int .u64 r) ∧ Drawn0 w w' := by
 have HR0 := am hr0; have HC0 := am hc0; clear hr0 hc0; have H : (conclaveref08_Sum.l0 k l0 14695981039346656037 0) = some r := h; clear h; have H' := am H; clear H; go_enter Try.func93, Try.ntmps93
 go_wp2; go_loopg [3, 4] k (fun kq v3 v4 w' => ∃ (x3_1 : Int) (x4_1 : Int), v3 = .int .u64 x3_1 ∧ v4 = .int .i64 x4_1 ∧ Aside0 (conclaveref08_Sum.l0 kq l0 x3_1 x4_1 = some r) ∧ Aside0 (kq ≤ k) ∧ Drawn0 w w')
 case atStart => exact ⟨(14695981039346656037), (0), Z17, Z17, H', ⟨Nat.le_refl _⟩, Z33⟩
 case round =>
  clear H'; obtain ⟨x3_1, x4_1, rfl, rfl, HA, HK1, ⟨m1, rfl⟩⟩ := hrel; cases gk with
  | zero => exact absurd HA.out (by simp [conclaveref08_Sum.l0])
  | succ k1 =>
   have H := HA.out; clear HA; simp only [conclaveref08_Sum.l0] at H; by_cases c2 : x4_1 < (l0.length : Int)
   ·rw [if_pos c2] at H; have c2b0 : decide (x4_1 < (l0.length : Int)) = true := decide_eq_true c2; clear c2; by_cases c3 : 0 ≤ x4_1
    ·rw [if_pos c3] at H; have c3b0 : decide (0 ≤ x4_1) = true := decide_eq_true c3; clear c3; have H' := am H; clear H; have p172 : 0 ≤ (x4_1 : Int) := of_decide_eq_true Z19; have q172 : x4_1 < (l0.length : Int) := of_decide_eq_true Z19; obtain ⟨ad172, e172, hx172_0⟩ := Kd.at_int HR0.out x4_1 p172 q172; cases e172; replace p172 := eq_true p172; replace q172 := eq_true q172; go_wp2; go_roundg k1
     case measure => have := HK1.out; omega
     case rel => exact ⟨(IntKind.u64.wrap ((Go.bits .xor .u64 x3_1 (IntKind.u64.wrap (rd l0 x4_1))) * 1099511628211)), (wrap64 (x4_1 + 1)), Z17, Z17, H', ⟨Z110⟩, Z33⟩
    ·rw [if_neg c3] at H; exact absurd H (by simp)
   ·rw [if_neg c2] at H; have c2b0 : decide (x4_1 < (l0.length : Int)) = false := decide_eq_false c2; clear c2; obtain rfl := Option.some.inj H; go_wp2; go_ret; exact ⟨Z17, Z33⟩
end Go.Proofs.Ytkppklinmcnecaa.P
end
section
namespace Go.Proofs.Ytkppklinmcnecaa.P
open Go.RowKit Go.Proofs.YtkppklinmcnecaaW.PrintWords Go.Proofs.YtkppklinmcnecaaW.PrintLast Go.Proofs.YtkppklinmcnecaaW.PrintMore
attribute [local go_sem] max2_int min2_int max_two min_two max_three min_three max_four min_four
set_option linter.unusedVariables false
set_option linter.unusedSimpArgs false
def conclaveref08_Wide.l0 : Nat → Int → List Int → Int → Option (List Int)
 | 0, _, _, _ => none
 | k + 1, x0, x5, x6 => if x6 ≥ 0 then (if 0 ≤ (IntKind.u64.wrap (wrap64 (8 * x6))) then (if x5.length < 140737488355328 then (conclaveref08_Wide.l0 k x0 (x5 ++ [(shr .u64 x0 (IntKind.u64.wrap (wrap64 (8 * x6)))) % 256]) (wrap64 (x6 - 1))) else (none)) else (none)) else (some x5)
def conclaveref08_Wide.f (k : Nat) (a0 : Int) (a1 : Int) : Option (List Int) := conclaveref08_Wide.l0 k a0 ([] : List Int) (wrap64 (a1 - 1))
set_option maxHeartbeats 8000000 in
set_option maxRecDepth 100000 in
theorem conclaveref08_Wide.calls (k : Nat) (a0 : Int) (a1 : Int) (r : List Int) (w : World) (h : conclaveref08_Wide.f k a0 a1 = some r) :
  Calls Try.prog 80 #[.int .u64 a0, .int .i64 a1] w fun e w' => ∃ v0_ : Value, e = .returned (v0_) ∧ Kd.R (Kd.int .u8) 5 w' w.heap.size (fun _ => True) v0_ r ∧ Below w.heap.size w w' := by
 have HB := am (Below.refl w.heap.size w); have H : (conclaveref08_Wide.l0 k a0 ([] : List Int) (wrap64 (a1 - 1))) = some r := h; clear h; have H' := am H; clear H; go_enter Try.func80, Try.ntmps80
 go_wp2; go_loopg [5, 6] k (fun kq v5 v6 w' => ∃ (x5_1 : List Int) (x6_1 : Int), v6 = .int .i64 x6_1 ∧ Aside0 (conclaveref08_Wide.l0 kq a0 x5_1 x6_1 = some r) ∧ Aside0 (kq ≤ k) ∧ Aside0 (Kd.R (Kd.int .u8) 5 w' w.heap.size (fun _ => True) v5 x5_1) ∧ Aside0 (Below w.heap.size w w'))
 case atStart => exact ⟨(([] : List Int)), (wrap64 (a1 - 1)), Z17, H', ⟨Nat.le_refl _⟩, ⟨Z9⟩, ⟨Z1⟩⟩
 case round =>
  clear H'; (try clear p2); obtain ⟨x5_1, x6_1, rfl, HA, HK1, HO_5, HB⟩ := hrel; cases gk with
  | zero => exact absurd HA.out (by simp [conclaveref08_Wide.l0])
  | succ k1 =>
   have H := HA.out; clear HA; simp only [conclaveref08_Wide.l0] at H; by_cases c3 : x6_1 ≥ 0
   ·rw [if_pos c3] at H; have c3b0 : decide (0 ≤ x6_1) = true := decide_eq_true c3; clear c3; obtain ⟨ji4, hji4⟩ : ∃ j_ : Int, (IntKind.u64.wrap (wrap64 (8 * x6_1))) = j_ := ⟨_, rfl⟩; replace H : (if 0 ≤ (ji4) then (if x5_1.length < 140737488355328 then (conclaveref08_Wide.l0 k1 a0 (x5_1 ++ [(shr .u64 a0 (ji4)) % 256]) (wrap64 (x6_1 - 1))) else (none)) else (none)) = some r := by first | (rw [hji4] at H; exact H) | (simp only [hji4] at H ⊢; exact H)
    by_cases c5 : 0 ≤ (ji4)
    ·rw [if_pos c5] at H; have c5b0 := eq_true c5; have c5b1 : decide (0 ≤ (ji4)) = true := decide_eq_true c5; clear c5; obtain ⟨ji6, hji6⟩ : ∃ j_ : Int, (shr .u64 a0 (ji4)) = j_ := ⟨_, rfl⟩; replace H : (if x5_1.length < 140737488355328 then (conclaveref08_Wide.l0 k1 a0 (x5_1 ++ [(ji6) % 256]) (wrap64 (x6_1 - 1))) else (none)) = some r := by first | (rw [hji6] at H; exact H) | (simp only [hji6] at H ⊢; exact H)
     have hji6_ : (a0 / 2 ^ min (ji4).toNat 64) = ji6 := hji6; have hji6z : (ji4) ≤ 64 → (a0 / 2 ^ (ji4).toNat) = ji6 := shr_small hji6; by_cases c7 : x5_1.length < 140737488355328
     ·rw [if_pos c7] at H; have LMc7 := am c7; clear c7; obtain ⟨y188, hy188⟩ : ∃ y_ : List Int, y_ = (x5_1 ++ [(ji6) % 256]) := ⟨_, rfl⟩; replace H : (conclaveref08_Wide.l0 k1 a0 y188 (wrap64 (x6_1 - 1))) = some r := by first | (rw [hy188]; with_reducible exact H) | (have H2_ := (Option.bind_some _ _).symm.trans H; rw [hy188]; with_reducible exact H2_) | (have H2_ := (Option.bind_some _ _).symm.trans H; with_reducible exact H2_) | with_reducible exact H | (rw [hy188]; exact H) | exact H
      have Ny188 := am hy188; clear hy188; have H' := am H; clear H; go_wp2_with (first | ((with_reducible refine gate_builtin (b := .append) (xs := #[.tmp 13, .tmp 20]) rfl ?_); at_builtin; refine Kd.R_append (Kd.int .u8) (w0 := w) w.heap.size rfl (.tmp 13) (.tmp 20) 22 5 (.int .u8 0) 1 rfl Try.underlying22 info5 rfl Z145 Z144 u5 x5_1 ((ji6) % 256) [.int .u8 ((ji6) % 256)] (fun _ => True) (fun _ => False) rfl rfl ?aP (fun _ hk => hk.elim) ?aF ?aO ?aB ?aS ?aL ?_; (case aP => exact rfl); (case aB => exact Z1); (case aF => exact (fun _ _ => trivial)); (case aO => exact (by (with_reducible repeat (first | apply Kd.R_alloc | apply Kd.R_drewN | apply Kd.R_drew)); exact HO_5.out)); (case aS => exact (below_size Z1)); (case aL => have := LMc7.out; omega); intro v189 w8 ho hb hg hat; rw [← Ny188.out] at ho; replace HB := am (hb); have HO190 := am (ho); clear HO_5; clear ho hb hg hat))
      go_roundg k1
      case measure => have := HK1.out; omega
      case rel => exact ⟨(y188), (wrap64 (x6_1 - 1)), Z17, H', ⟨Z110⟩, ⟨by (with_reducible repeat (first | apply Kd.R_alloc | apply Kd.R_drewN | apply Kd.R_drew)); exact HO190.out⟩, ⟨Z1⟩⟩
     ·rw [if_neg c7] at H; exact absurd H (by simp)
    ·rw [if_neg c5] at H; exact absurd H (by simp)
   ·rw [if_neg c3] at H; have c3b0 : decide (0 ≤ x6_1) = false := decide_eq_false c3; clear c3; obtain rfl := Option.some.inj H; go_wp2; go_ret; exact ⟨_, Z3, by (with_reducible repeat (first | apply Kd.R_alloc | apply Kd.R_drewN | apply Kd.R_drew)); exact HO_5.out, Z1⟩
end Go.Proofs.Ytkppklinmcnecaa.P
end
section
namespace Go.Proofs.Ytkppklinmcnecaa.P
open Go.RowKit Go.Proofs.YtkppklinmcnecaaW.PrintWords Go.Proofs.YtkppklinmcnecaaW.PrintLast Go.Proofs.YtkppklinmcnecaaW.PrintMore
attribute [local go_sem] max2_int min2_int max_two min_two max_three min_three max_four min_four
set_option linter.unusedVariables false
set_option linter.unusedSimpArgs false
def wire_big.l0 : Nat → List Int → Int → Int → Option (List Int)
 | 0, _, _, _ => none
 | k + 1, x0, x1, x7 => if x7 ≥ 0 then (if 0 ≤ (wrap64 (8 * x7)) then (if x0.length < 140737488355328 then (wire_big.l0 k (x0 ++ [(shr .u64 x1 (wrap64 (8 * x7))) % 256]) x1 (wrap64 (x7 - 1))) else (none)) else (none)) else (some x0)
def wire_big.f (k : Nat) (l0 : List Int) (a1 : Int) (a2 : Int) : Option (List Int) := wire_big.l0 k l0 a1 (wrap64 (a2 - 1))
set_option maxHeartbeats 8000000 in
set_option maxRecDepth 100000 in
theorem wire_big.calls (k : Nat) (P0_ : Nat → Prop) (u9000_ : Value) (l0 : List Int) (a1 : Int) (a2 : Int) (r : List Int) (w0 w : World) (hB : Below w0.heap.size w0 w) (ho0 : Kd.R (Kd.int .u8) 5 w w0.heap.size P0_ u9000_ l0) (h : wire_big.f k l0 a1 a2 = some r) :
  Calls Try.prog 94 #[u9000_, .int .u64 a1, .int .i64 a2] w fun e w' => ∃ v0_ : Value, e = .returned (v0_) ∧ Kd.R (Kd.int .u8) 5 w' w0.heap.size (fun k_ => (P0_ k_ ∨ w.heap.size ≤ k_)) v0_ r ∧ Below w0.heap.size w0 w' ∧ Kept w w' (fun k_ => P0_ k_) := by
 have HO0 := am (show Kd.R (Kd.int .u8) 5 w w0.heap.size (fun k_ => (P0_ k_ ∨ w.heap.size ≤ k_)) u9000_ l0 from Kd.R_mono ho0 (fun k_ hk => (.inl hk))); have HK := am (Kept.refl w (fun k_ => P0_ k_)); have HW0 := am hB.size; have HB := am hB; clear hB; have H : (wire_big.l0 k l0 a1 (wrap64 (a2 - 1))) = some r := h; clear h; have H' := am H; clear H; go_enter Try.func94, Try.ntmps94
 go_wp2; go_loopg [0, 7] k (fun kq v0 v7 w' => ∃ (x0_1 : List Int) (x7_1 : Int), v7 = .int .i64 x7_1 ∧ Aside0 (wire_big.l0 kq x0_1 a1 x7_1 = some r) ∧ Aside0 (kq ≤ k) ∧ Aside0 (Kd.R (Kd.int .u8) 5 w' w0.heap.size (fun k_ => (P0_ k_ ∨ w.heap.size ≤ k_)) v0 x0_1) ∧ Aside0 (Kept w w' (fun k_ => P0_ k_)) ∧ Aside0 (Below w0.heap.size w0 w'))
 case atStart => exact ⟨(l0), (wrap64 (a2 - 1)), Z17, H', ⟨Nat.le_refl _⟩, ⟨by (with_reducible repeat (first | apply Kd.R_alloc | apply Kd.R_drewN | apply Kd.R_drew)); exact HO0.out⟩, ⟨Z98⟩, ⟨Z1⟩⟩
 case round =>
  clear H'; (try clear p2); obtain ⟨x0_1, x7_1, rfl, HA, HK1, HO_0, HK, HB⟩ := hrel; cases gk with
  | zero => exact absurd HA.out (by simp [wire_big.l0])
  | succ k1 =>
   have H := HA.out; clear HA; simp only [wire_big.l0] at H; by_cases c4 : x7_1 ≥ 0
   ·rw [if_pos c4] at H; have c4b0 : decide (0 ≤ x7_1) = true := decide_eq_true c4; clear c4; obtain ⟨ji5, hji5⟩ : ∃ j_ : Int, (wrap64 (8 * x7_1)) = j_ := ⟨_, rfl⟩; replace H : (if 0 ≤ (ji5) then (if x0_1.length < 140737488355328 then (wire_big.l0 k1 (x0_1 ++ [(shr .u64 a1 (ji5)) % 256]) a1 (wrap64 (x7_1 - 1))) else (none)) else (none)) = some r := by first | (rw [hji5] at H; exact H) | (simp only [hji5] at H ⊢; exact H)
    have hji5w : (IntKind.i64.wrap (8 * x7_1)) = ji5 := (i64_w _).trans hji5; by_cases c6 : 0 ≤ (ji5)
    ·rw [if_pos c6] at H; have c6b0 := eq_true c6; have c6b1 : decide (0 ≤ (ji5)) = true := decide_eq_true c6; clear c6; obtain ⟨ji7, hji7⟩ : ∃ j_ : Int, (shr .u64 a1 (ji5)) = j_ := ⟨_, rfl⟩; replace H : (if x0_1.length < 140737488355328 then (wire_big.l0 k1 (x0_1 ++ [(ji7) % 256]) a1 (wrap64 (x7_1 - 1))) else (none)) = some r := by first | (rw [hji7] at H; exact H) | (simp only [hji7] at H ⊢; exact H)
     have hji7_ : (a1 / 2 ^ min (ji5).toNat 64) = ji7 := hji7; have hji7z : (ji5) ≤ 64 → (a1 / 2 ^ (ji5).toNat) = ji7 := shr_small hji7; by_cases c8 : x0_1.length < 140737488355328
     ·rw [if_pos c8] at H; have LMc8 := am c8; clear c8; obtain ⟨y235, hy235⟩ : ∃ y_ : List Int, y_ = (x0_1 ++ [(ji7) % 256]) := ⟨_, rfl⟩; replace H : (wire_big.l0 k1 y235 a1 (wrap64 (x7_1 - 1))) = some r := by first | (rw [hy235]; with_reducible exact H) | (have H2_ := (Option.bind_some _ _).symm.trans H; rw [hy235]; with_reducible exact H2_) | (have H2_ := (Option.bind_some _ _).symm.trans H; with_reducible exact H2_) | with_reducible exact H | (rw [hy235]; exact H) | exact H
      have Ny235 := am hy235; clear hy235; have H' := am H; clear H; go_wp2_with (first | ((with_reducible refine gate_builtin (b := .append) (xs := #[.tmp 14, .tmp 20]) rfl ?_); at_builtin; refine Kd.R_append (Kd.int .u8) (w0 := w0) w0.heap.size rfl (.tmp 14) (.tmp 20) 22 5 (.int .u8 0) 1 rfl Try.underlying22 info5 rfl Z145 Z144 u0 x0_1 ((ji7) % 256) [.int .u8 ((ji7) % 256)] (fun k_ => (P0_ k_ ∨ w.heap.size ≤ k_)) (fun _ => False) rfl rfl ?aP (fun _ hk => hk.elim) ?aF ?aO ?aB ?aS ?aL ?_; (case aP => exact rfl); (case aB => exact Z1); (case aF => exact (fun k_ hk => (.inr (Nat.le_trans (by first | exact HK.out.1 | exact (show Kept w _ (fun k_ => P0_ k_) from by repeat (first | (with_reducible first | exact HK.out | apply Kept.alloc | apply Kept.drewN | apply Kept.drew) | exact HK.out)).1) hk)))); (case aO => exact (by (with_reducible repeat (first | apply Kd.R_alloc | apply Kd.R_drewN | apply Kd.R_drew)); exact HO_0.out)); (case aS => exact (below_size Z1)); (case aL => have := LMc8.out; omega); intro v236 w9 ho hb hg hat; rw [← Ny235.out] at ho; replace HB := am (hb); replace HK := am (Kept.of_grown (S := (fun k_ => P0_ k_)) hg Z98 (fun k_ e_ => (HO_0.out.1 k_ e_))); have HO237 := am (ho); clear HO_0; clear ho hb hg hat))
      go_roundg k1
      case measure => have := HK1.out; omega
      case rel => exact ⟨(y235), (wrap64 (x7_1 - 1)), Z17, H', ⟨Z110⟩, ⟨by (with_reducible repeat (first | apply Kd.R_alloc | apply Kd.R_drewN | apply Kd.R_drew)); exact HO237.out⟩, ⟨Z98⟩, ⟨Z1⟩⟩
     ·rw [if_neg c8] at H; exact absurd H (by simp)
    ·rw [if_neg c6] at H; exact absurd H (by simp)
   ·rw [if_neg c4] at H; have c4b0 : decide (0 ≤ x7_1) = false := decide_eq_false c4; clear c4; obtain rfl := Option.some.inj H; go_wp2; go_ret; exact ⟨_, Z3, by (with_reducible repeat (first | apply Kd.R_alloc | apply Kd.R_drewN | apply Kd.R_drew)); exact HO_0.out, Z1, Z98⟩
def wire_Seal.f (k : Nat) (l0 : List Int) : Option (List Int × Int) := if (l0.length : Int) > 1048576 then (some (([] : List Int), 4)) else ((wire_big.f k ([] : List Int) (IntKind.u64.wrap ((l0.length : Int))) 4).bind fun t238 => (if t238.length + l0.length < 140737488355328 then ((some (t238 ++ l0 : List Int)).bind fun y241 => ((wire_Sum.f k y241).bind fun t244 => ((wire_big.f k y241 t244 8).bind fun t245 => (some (t245, 0))))) else (none)))
set_option maxHeartbeats 8000000 in
set_option maxRecDepth 100000 in
theorem wire_Seal.calls (k : Nat) (A0 : Option Addr) (c0 : Nat) (l0 : List Int) (r1 : List Int) (r2 : Int) (w : World) (hr0 : Kd.C (Kd.int .u8) w A0 l0.length l0) (hc0 : l0.length ≤ c0) (h : wire_Seal.f k l0 = some (r1, r2)) :
  Calls Try.prog 68 #[.slice A0 l0.length c0] w fun e w' => ∃ v0_ : Value, e = .returned (.tuple #[v0_, .int .i64 r2]) ∧ Kd.R (Kd.int .u8) 5 w' w.heap.size (fun _ => True) v0_ r1 ∧ Below w.heap.size w w' := by
 have HR0 := am hr0; have HC0 := am hc0; clear hr0 hc0; have HB := am (Below.refl w.heap.size w); have H : (if (l0.length : Int) > 1048576 then (some (([] : List Int), 4)) else ((wire_big.f k ([] : List Int) (IntKind.u64.wrap ((l0.length : Int))) 4).bind fun t238 => (if t238.length + l0.length < 140737488355328 then ((some (t238 ++ l0 : List Int)).bind fun y241 => ((wire_Sum.f k y241).bind fun t244 => ((wire_big.f k y241 t244 8).bind fun t245 => (some (t245, 0))))) else (none)))) = some (r1, r2) := h; clear h; by_cases c2 : (l0.length : Int) > 1048576
 ·rw [if_pos c2] at H; have c2b0 : decide (1048576 < (l0.length : Int)) = true := decide_eq_true c2; have c2b1 : decide (1048576 < l0.length) = true := decide_eq_true Z144; clear c2; simp only [Option.some.injEq, Prod.mk.injEq] at H; obtain ⟨rfl, rfl⟩ := H; go_enter Try.func68, Try.ntmps68
  go_wp2; go_ret2; exact ⟨_, Z3, Z9, Z1⟩
 ·rw [if_neg c2] at H; have c2b0 : decide (1048576 < (l0.length : Int)) = false := decide_eq_false c2; have c2b1 : decide (1048576 < l0.length) = false := decide_eq_false Z144; clear c2; replace H := Option.bind_eq_some_iff.mp H; obtain ⟨t238, A30, H⟩ := H; replace H : (if t238.length + l0.length < 140737488355328 then ((some (t238 ++ l0 : List Int)).bind fun y241 => ((wire_Sum.f k y241).bind fun t244 => ((wire_big.f k y241 t244 8).bind fun t245 => (some (t245, 0))))) else (none)) = some (r1, r2) := H; have A3 := am A30; clear A30; by_cases c4 : t238.length + l0.length < 140737488355328
  ·rw [if_pos c4] at H; have LMc4 := am c4; clear c4; obtain ⟨y241, hy241⟩ : ∃ y_ : List Int, y_ = (t238 ++ l0) := ⟨_, rfl⟩; replace H : ((wire_Sum.f k y241).bind fun t244 => ((wire_big.f k y241 t244 8).bind fun t245 => (some (t245, 0)))) = some (r1, r2) := by first | (rw [hy241]; with_reducible exact H) | (have H2_ := (Option.bind_some _ _).symm.trans H; rw [hy241]; with_reducible exact H2_) | (have H2_ := (Option.bind_some _ _).symm.trans H; with_reducible exact H2_) | with_reducible exact H | (rw [hy241]; exact H) | exact H
   have Ny241 := am hy241; clear hy241; replace H := Option.bind_eq_some_iff.mp H; obtain ⟨t244, A50, H⟩ := H; replace H : ((wire_big.f k y241 t244 8).bind fun t245 => (some (t245, 0))) = some (r1, r2) := H; have A5 := am A50; clear A50; replace H := Option.bind_eq_some_iff.mp H; obtain ⟨t245, A60, H⟩ := H; replace H : (some (t245, 0)) = some (r1, r2) := H; have A6 := am A60; clear A60; simp only [Option.some.injEq, Prod.mk.injEq] at H; obtain ⟨rfl, rfl⟩ := H; go_enter Try.func68, Try.ntmps68
   go_wp2_with (first | ((with_reducible refine gate_callee (f := 94) rfl ?_); refine goesL_ (some 11) rfl rfl Try.func94 Z40 rfl #[.slice none 0 0, .int .u64 (IntKind.u64.wrap ((l0.length : Int))), .int .i64 4] rfl Z2 ?_; (refine (wire_big.calls k (fun k_ => some k_ = (.slice none 0 0 : Value).ownBlock) (.slice none 0 0) ([] : List Int) (IntKind.u64.wrap ((l0.length : Int))) 4 t238 w _ ?side1 ?side2 A3.out).mono ?_); (case side1 => repeat (first | (with_reducible first | exact HB.out | apply below_alloc | apply pw_below_drewN | apply below_drew1) | exact HB.out)); (case side2 => exact Kd.R_nil _ _ _ _ _); rintro e w7 ⟨v239, rfl, ho0, hb, hkp⟩; refine ⟨_, rfl, ?_⟩; have HO240 := am (Kd.R_mono (ok' := fun k_ => True) ho0 (fun k_ hk_ => trivial)); replace HB := am (hb); (try clear hb); (try clear hkp); (try clear ho0)) | ((with_reducible refine gate_builtin (b := .append) (xs := #[.tmp 11, .tmp 12]) rfl ?_); at_builtin; refine Kd.R_append_rows (Kd.int .u8) (w0 := w) w.heap.size rfl (.tmp 11) (.tmp 12) 22 5 (.int .u8 0) 1 rfl Try.underlying22 info5 rfl Z145 Z144 v239 t238 l0 _ _ _ (fun _ => True) (fun _ => False) rfl rfl ?aO ?aR (fun _ _ h => h) (fun _ h => h.elim) ?aF ?aB ?aS ?aL ?_; (case aR => repeat (first | exact (Kd.C_below HR0.out HB.out) | (with_reducible refine Kd.C_alloc ?_ _) | (with_reducible refine Kd.C_drewN ?_ _) | (with_reducible refine Kd.C_drew ?_))); (case aB => exact Z1); (case aF => exact (fun _ _ => trivial)); (case aO => exact (by (with_reducible repeat (first | apply Kd.R_alloc | apply Kd.R_drewN | apply Kd.R_drew)); exact HO240.out)); (case aS => exact (below_size Z1)); (case aL => have := LMc4.out; omega); intro v242 w8 ho hb hg hat; rw [← Ny241.out] at ho; replace HB := am (hb); have HO243 := am (ho); clear HO240; clear ho hb hg hat; obtain ⟨Ao9, co9, eo9⟩ := Kd.R_slice HO243.out; subst eo9) | ((with_reducible refine gate_callee (f := 90) rfl ?_); refine goesL_ (some 16) rfl rfl Try.func90 Z40 rfl #[.slice Ao9 y241.length co9] rfl Z2 ?_; (with_reducible refine (wire_Sum.calls k _ _ y241 t244 _ ?side1 ?side2 A5.out).mono ?_); (case side1 => repeat (first | exact (Kd.R_reads' HO243.out).2.2 | (with_reducible refine Kd.C_alloc ?_ _) | (with_reducible refine Kd.C_drewN ?_ _) | (with_reducible refine Kd.C_drew ?_))); (case side2 => exact (Kd.R_reads' HO243.out).2.1); rintro e w' ⟨rfl, ⟨nd, rfl⟩⟩; refine ⟨_, rfl, ?_⟩) | ((with_reducible refine gate_callee (f := 94) rfl ?_); refine goesL_ (some 17) rfl rfl Try.func94 Z40 rfl #[.slice Ao9 y241.length co9, .int .u64 t244, .int .i64 8] rfl Z2 ?_; (with_reducible refine (wire_big.calls k (fun k_ => some k_ = (.slice Ao9 y241.length co9 : Value).ownBlock) (.slice Ao9 y241.length co9) y241 t244 8 t245 w _ ?side1 ?side2 A6.out).mono ?_); (case side1 => repeat (first | (with_reducible first | exact HB.out | apply below_alloc | apply pw_below_drewN | apply below_drew1) | exact HB.out)); (case side2 => exact Kd.R_tight rfl HO243.out); rintro e w10 ⟨v246, rfl, ho0, hb, hkp⟩; refine ⟨_, rfl, ?_⟩; have HO247 := am (Kd.R_mono (ok' := fun k_ => True) ho0 (fun k_ hk_ => trivial)); replace HB := am (hb); clear HO243; (try clear hb); (try clear hkp); (try clear ho0)))
   go_ret2; exact ⟨_, Z3, by (with_reducible repeat (first | apply Kd.R_alloc | apply Kd.R_drewN | apply Kd.R_drew)); exact HO247.out, Z1⟩
  ·rw [if_neg c4] at H; exact absurd H (by simp)
def field_of.f (a0 : Int) : Option (Int × Bool × Bool) := if a0 = 1 then (some (2013265921, false, true)) else (if a0 = 2 then (some (18446744069414584321, true, true)) else (some (0, false, false)))
set_option maxHeartbeats 8000000 in
set_option maxRecDepth 100000 in
theorem field_of.calls (a0 : Int) (r1 : Int) (r2 : Bool) (r3 : Bool) (w : World) (h : field_of.f a0 = some (r1, r2, r3)) :
  Calls Try.prog 109 #[.int .u8 a0] w fun e w' => e = .returned (.tuple #[.agg #[.int .u64 r1, .bool r2], .bool r3]) ∧ Below w.heap.size w w' := by
 have hu142 := Try.underlying142; have HB := am (Below.refl w.heap.size w); have H : (if a0 = 1 then (some (2013265921, false, true)) else (if a0 = 2 then (some (18446744069414584321, true, true)) else (some (0, false, false)))) = some (r1, r2, r3) := h; clear h; by_cases c2 : a0 = 1
 ·rw [if_pos c2] at H; have c2b0 : (a0 == 1) = true := beq_iff_eq.mpr c2; have c2b1 : (a0 != 1) = false := bne_eq_false_iff_eq.mpr c2; clear c2; simp only [Option.some.injEq, Prod.mk.injEq] at H; obtain ⟨rfl, rfl, rfl⟩ := H; go_enter Try.func109, Try.ntmps109
  go_wp2_with (first | ((with_reducible refine gate_dst (N := 2) rfl ?_); refine box_event ?hg (N := 2) ?hd (cs := #[.int .u64 0, .bool false]) (t := 142) ?hr ?_; (case hd => rfl); (case hg => rfl); (case hr => first | (go_simp; done) | (go_simp; rfl)); intro gb248 hg w3 hbox hb; have BK248 := am (hbox); have GW248 := am ((Z49 : w.heap.size ≤ gb248)); have GE248 := am ((Z49 : w.heap.size ≤ gb248)); replace HB := am (below_step Z1 hb); clear hb hbox hg; have hcz4_0 : w3.cell? ⟨gb248, 0, none⟩ = some (.int .u64 0) := (blk_cell BK248.out 0).trans rfl; have hcz4_1 : w3.cell? ⟨gb248, 1, none⟩ = some (.bool false) := (blk_cell BK248.out 1).trans rfl; have hfz4_0 := blk_frozen BK248.out 0; have hfz4_1 := blk_frozen BK248.out 1))
  refine bodyPost_ret (results_ct rfl _ _ gb248 142 #[.int .u64 2013265921, .bool false] (0, 0) _ rfl (by (with_reducible repeat (first | refine blk_drewN ?_ _ | refine blk_drew ?_ | refine blk_alloc ?_ _)); refine blk_put (cs := #[.int .u64 2013265921, .bool false]) ?_ 1 _ rfl; (with_reducible repeat (first | refine blk_drewN ?_ _ | refine blk_drew ?_ | refine blk_alloc ?_ _)); refine blk_put (cs := #[.int .u64 0, .bool false]) ?_ 0 _ rfl; (with_reducible repeat (first | refine blk_drewN ?_ _ | refine blk_drew ?_ | refine blk_alloc ?_ _)); exact BK248.out) Try.underlying142 rfl Z40) rfl ?_; exact ⟨Z3, Z100⟩
 ·rw [if_neg c2] at H; have c2b0 : (a0 == 1) = false := beq_eq_false_iff_ne.mpr c2; have c2b1 : (a0 != 1) = true := bne_iff_ne.mpr c2; by_cases c5 : a0 = 2
  ·rw [if_pos c5] at H; have c5b0 : (a0 == 2) = true := beq_iff_eq.mpr c5; have c5b1 : (a0 != 2) = false := bne_eq_false_iff_eq.mpr c5; clear c5; simp only [Option.some.injEq, Prod.mk.injEq] at H; obtain ⟨rfl, rfl, rfl⟩ := H; go_enter Try.func109, Try.ntmps109
   go_wp2_with (first | ((with_reducible refine gate_dst (N := 2) rfl ?_); refine box_event ?hg (N := 2) ?hd (cs := #[.int .u64 0, .bool false]) (t := 142) ?hr ?_; (case hd => rfl); (case hg => rfl); (case hr => first | (go_simp; done) | (go_simp; rfl)); intro gb248 hg w6 hbox hb; have BK248 := am (hbox); have GW248 := am ((Z49 : w.heap.size ≤ gb248)); have GE248 := am ((Z49 : w.heap.size ≤ gb248)); replace HB := am (below_step Z1 hb); clear hb hbox hg; have hcz7_0 : w6.cell? ⟨gb248, 0, none⟩ = some (.int .u64 0) := (blk_cell BK248.out 0).trans rfl; have hcz7_1 : w6.cell? ⟨gb248, 1, none⟩ = some (.bool false) := (blk_cell BK248.out 1).trans rfl; have hfz7_0 := blk_frozen BK248.out 0; have hfz7_1 := blk_frozen BK248.out 1))
   refine bodyPost_ret (results_ct rfl _ _ gb248 142 #[.int .u64 18446744069414584321, .bool true] (0, 0) _ rfl (by (with_reducible repeat (first | refine blk_drewN ?_ _ | refine blk_drew ?_ | refine blk_alloc ?_ _)); refine blk_put (cs := #[.int .u64 18446744069414584321, .bool false]) ?_ 1 _ rfl; (with_reducible repeat (first | refine blk_drewN ?_ _ | refine blk_drew ?_ | refine blk_alloc ?_ _)); refine blk_put (cs := #[.int .u64 0, .bool false]) ?_ 0 _ rfl; (with_reducible repeat (first | refine blk_drewN ?_ _ | refine blk_drew ?_ | refine blk_alloc ?_ _)); exact BK248.out) Try.underlying142 rfl Z40) rfl ?_; exact ⟨Z3, Z100⟩
  ·rw [if_neg c5] at H; have c5b0 : (a0 == 2) = false := beq_eq_false_iff_ne.mpr c5; have c5b1 : (a0 != 2) = true := bne_iff_ne.mpr c5; simp only [Option.some.injEq, Prod.mk.injEq] at H; obtain ⟨rfl, rfl, rfl⟩ := H; go_enter Try.func109, Try.ntmps109
   go_wp2_with (first | ((with_reducible refine gate_dst (N := 2) rfl ?_); refine box_event ?hg (N := 2) ?hd (cs := #[.int .u64 0, .bool false]) (t := 142) ?hr ?_; (case hd => rfl); (case hg => rfl); (case hr => first | (go_simp; done) | (go_simp; rfl)); intro gb248 hg w8 hbox hb; have BK248 := am (hbox); have GW248 := am ((Z49 : w.heap.size ≤ gb248)); have GE248 := am ((Z49 : w.heap.size ≤ gb248)); replace HB := am (below_step Z1 hb); clear hb hbox hg; have hcz9_0 : w8.cell? ⟨gb248, 0, none⟩ = some (.int .u64 0) := (blk_cell BK248.out 0).trans rfl; have hcz9_1 : w8.cell? ⟨gb248, 1, none⟩ = some (.bool false) := (blk_cell BK248.out 1).trans rfl; have hfz9_0 := blk_frozen BK248.out 0; have hfz9_1 := blk_frozen BK248.out 1))
   refine bodyPost_ret (results_ct rfl _ _ gb248 142 #[.int .u64 0, .bool false] (0, 0) _ rfl (by (with_reducible repeat (first | refine blk_drewN ?_ _ | refine blk_drew ?_ | refine blk_alloc ?_ _)); refine blk_put (cs := #[.int .u64 0, .bool false]) ?_ 1 _ rfl; (with_reducible repeat (first | refine blk_drewN ?_ _ | refine blk_drew ?_ | refine blk_alloc ?_ _)); refine blk_put (cs := #[.int .u64 0, .bool false]) ?_ 0 _ rfl; (with_reducible repeat (first | refine blk_drewN ?_ _ | refine blk_drew ?_ | refine blk_alloc ?_ _)); exact BK248.out) Try.underlying142 rfl Z40) rfl ?_; exact ⟨Z3, Z100⟩
def field_reckoner_in.l0 : Nat → List Int → Int → Int → Int → Bool → Option (Bool)
 | 0, _, _, _, _, _ => none
 | k + 1, x7, x8, x9, x250000, x250001 => if x9 < x8 then (if 0 ≤ x9 then (if x9 < (x7.length : Int) then (if (rd x7 x9) ≥ x250000 then (some false) else (field_reckoner_in.l0 k x7 x8 (wrap64 (x9 + 1)) x250000 x250001)) else (none)) else (none)) else (some true)
def field_reckoner_in.f (k : Nat) (a0_0 : Int) (a0_1 : Bool) (l1 : List Int) : Option (Bool) := field_reckoner_in.l0 k l1 (l1.length : Int) 0 a0_0 a0_1
set_option maxHeartbeats 8000000 in
set_option maxRecDepth 100000 in
theorem field_reckoner_in.calls (k : Nat) (a0_0 : Int) (a0_1 : Bool) (A1 : Option Addr) (c1 : Nat) (l1 : List Int) (r : Bool) (w : World) (hr1 : Kd.C (Kd.int .u64) w A1 l1.length l1) (hc1 : l1.length ≤ c1) (h : field_reckoner_in.f k a0_0 a0_1 l1 = some r) :
  Calls Try.prog 110 #[.agg #[.int .u64 a0_0, .bool a0_1], .slice A1 l1.length c1] w fun e w' => e = .returned (.bool r) ∧ Below w.heap.size w w' := by
 have hu142 := Try.underlying142; have HR1 := am hr1; have HC1 := am hc1; clear hr1 hc1; have HB := am (Below.refl w.heap.size w); have H : (field_reckoner_in.l0 k l1 (l1.length : Int) 0 a0_0 a0_1) = some r := h; clear h; have H' := am H; clear H; go_enter Try.func110, Try.ntmps110
 go_wp2_with (first | ((with_reducible refine gate_dst (N := 2) rfl ?_); refine box_event ?hg (N := 2) ?hd (cs := #[.int .u64 a0_0, .bool a0_1]) (t := 142) ?hr ?_; (case hd => rfl); (case hg => rfl); (case hr => first | (go_simp; done) | (go_simp; rfl)); intro gb249 hg w3 hbox hb; have BK249 := am (hbox); have GW249 := am ((Z49 : w.heap.size ≤ gb249)); have GE249 := am ((Z49 : w.heap.size ≤ gb249)); replace HB := am (below_step Z1 hb); clear hb hbox hg))
 go_loopg [9] k (fun kq v9 w' => ∃ (x9_1 : Int), v9 = .int .i64 x9_1 ∧ Aside0 (field_reckoner_in.l0 kq l1 (l1.length : Int) x9_1 a0_0 a0_1 = some r) ∧ Aside0 (kq ≤ k) ∧ Aside0 (w'.heap[gb249]? = some (.cells #[.int .u64 a0_0, .bool a0_1] 142 (0, 0))) ∧ Aside0 (Below w.heap.size w w'))
 case atStart => exact ⟨(0), Z17, H', ⟨Nat.le_refl _⟩, ⟨Z143⟩, ⟨Z90⟩⟩
 case round =>
  clear H'; (try clear c1); (try clear p2); obtain ⟨x9_1, rfl, HA, HK1, BK249, HB⟩ := hrel; cases gk with
  | zero => exact absurd HA.out (by simp [field_reckoner_in.l0])
  | succ k1 =>
   have H := HA.out; clear HA; simp only [field_reckoner_in.l0] at H; by_cases c4 : x9_1 < (l1.length : Int)
   ·rw [if_pos c4] at H; have c4b0 : decide (x9_1 < (l1.length : Int)) = true := decide_eq_true c4; clear c4; by_cases c5 : 0 ≤ x9_1
    ·rw [if_pos c5] at H; have c5b0 : decide (0 ≤ x9_1) = true := decide_eq_true c5; clear c5; by_cases c6 : x9_1 < (l1.length : Int)
     ·rw [if_pos c6] at H; have c6b0 : decide (x9_1 < (l1.length : Int)) = true := decide_eq_true c6; clear c6; by_cases c7 : (rd l1 x9_1) ≥ a0_0
      ·rw [if_pos c7] at H; have c7b0 : decide (a0_0 ≤ (rd l1 x9_1)) = true := decide_eq_true c7; clear c7; obtain rfl := Option.some.inj H; have p250 : 0 ≤ (x9_1 : Int) := of_decide_eq_true Z19; have q250 : x9_1 < (l1.length : Int) := of_decide_eq_true Z19; obtain ⟨ad250, e250, hx250_0⟩ := Kd.at_int HR1.out x9_1 p250 q250; cases e250; replace hx250_0 := (HB.out.cell (World.block_lt_of_cell? w _ hx250_0)).trans hx250_0; replace p250 := eq_true p250; replace q250 := eq_true q250; have hcz8_0 : wr.cell? ⟨gb249, 0, none⟩ = some (.int .u64 a0_0) := (blk_cell BK249.out 0).trans rfl; have hcz8_1 : wr.cell? ⟨gb249, 1, none⟩ = some (.bool a0_1) := (blk_cell BK249.out 1).trans rfl; have hfz8_0 := blk_frozen BK249.out 0; have hfz8_1 := blk_frozen BK249.out 1; go_wp2; go_ret; exact ⟨Z3, Z90⟩
      ·rw [if_neg c7] at H; have c7b0 : decide (a0_0 ≤ (rd l1 x9_1)) = false := decide_eq_false c7; clear c7; have H' := am H; clear H; have p250 : 0 ≤ (x9_1 : Int) := of_decide_eq_true Z19; have q250 : x9_1 < (l1.length : Int) := of_decide_eq_true Z19; obtain ⟨ad250, e250, hx250_0⟩ := Kd.at_int HR1.out x9_1 p250 q250; cases e250; replace hx250_0 := (HB.out.cell (World.block_lt_of_cell? w _ hx250_0)).trans hx250_0; replace p250 := eq_true p250; replace q250 := eq_true q250; have hcz9_0 : wr.cell? ⟨gb249, 0, none⟩ = some (.int .u64 a0_0) := (blk_cell BK249.out 0).trans rfl; have hcz9_1 : wr.cell? ⟨gb249, 1, none⟩ = some (.bool a0_1) := (blk_cell BK249.out 1).trans rfl; have hfz9_0 := blk_frozen BK249.out 0; have hfz9_1 := blk_frozen BK249.out 1; go_wp2; go_roundg k1
       case measure => have := HK1.out; omega
       case rel => exact ⟨(wrap64 (x9_1 + 1)), Z17, H', ⟨Z110⟩, ⟨Z143⟩, ⟨Z90⟩⟩
     ·rw [if_neg c6] at H; exact absurd H (by simp)
    ·rw [if_neg c5] at H; exact absurd H (by simp)
   ·rw [if_neg c4] at H; have c4b0 : decide (x9_1 < (l1.length : Int)) = false := decide_eq_false c4; clear c4; obtain rfl := Option.some.inj H; go_wp2; go_ret; exact ⟨Z3, Z90⟩
end Go.Proofs.Ytkppklinmcnecaa.P
end
