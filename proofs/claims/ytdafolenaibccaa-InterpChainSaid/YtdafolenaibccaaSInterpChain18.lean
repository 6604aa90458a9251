import Derived.Test.YtdafolenaibccaaSInterpChainZ
import Derived.Test.YtdafolenaibccaaSInterpChain0
import Derived.Test.YtdafolenaibccaaSInterpChain1
import Derived.Test.YtdafolenaibccaaSInterpChain2
import Derived.Test.YtdafolenaibccaaSInterpChain3
import Derived.Test.YtdafolenaibccaaSInterpChain4
import Derived.Test.YtdafolenaibccaaSInterpChain5
import Derived.Test.YtdafolenaibccaaSInterpChain6
import Derived.Test.YtdafolenaibccaaSInterpChain7
import Derived.Test.YtdafolenaibccaaSInterpChain8
import Derived.Test.YtdafolenaibccaaSInterpChain9
import Derived.Test.YtdafolenaibccaaSInterpChain10
import Derived.Test.YtdafolenaibccaaSInterpChain11
import Derived.Test.YtdafolenaibccaaSInterpChain12
import Derived.Test.YtdafolenaibccaaSInterpChain13
import Derived.WalkSpells
import Derived.Laws.StructEq
import Derived.Test.YtdafolenaibccaaProg
import Derived.Below
import Derived.Deep.Draws
import Derived.Deep.AppendLies
import Derived.Maps.AppendAt
import Derived.OwnWalk
import Derived.Laws.BytesArg
import Derived.Laws.MakeOwn
import Derived.Laws.OwnMore
import Derived.Deep.OwnRows
import Derived.Tactics
import Derived.Lib.ConvBytes
import Derived.Laws.Slices
import Derived.WalkKit
import Derived.KernelRfl
import Derived.RowKit3
import Derived.Deep.LoopGhost
import Derived.Deep.QuietTactic
import Derived.BigQuiet
import Derived.WideLaws
import Derived.Deep.DeepCutAuto
import Derived.Deep.CutBlock
import Derived.Deep.RegionHeld3
import Derived.Laws.Rows
import Derived.Lib.AppendStr
import Derived.ArgAppend
import Derived.Laws.IdiomCopy
import Derived.OrdersHeld
import Derived.Laws.BitsLemmas
import Derived.RowKit
section
namespace Go.Proofs.Ytdafolenaibccaa.P
open Go.RowKit Go.Proofs.YtdafolenaibccaaW.PrintWords Go.Proofs.YtdafolenaibccaaW.PrintLast Go.Proofs.YtdafolenaibccaaW.PrintMore
attribute [local go_sem] max2_int min2_int max_two min_two max_three min_three max_four min_four
set_option linter.unusedVariables false
set_option linter.unusedSimpArgs false
def errW : Option Int → Value
 | none => .nilIface
 | some c => .iface 0 (.int .i64 c)
theorem errW_none : errW none = .nilIface := rfl
theorem errW_some (c : Int) : errW (some c) = .iface 0 (.int .i64 c) := rfl
theorem info22 : (Try.prog.info? 22).map (fun i => (i.zero, i.size, i.bytes)) = some (some (.slice none 0 0), 1, 24) := by kernel_rfl
theorem info24 : (Try.prog.info? 24).map (fun i => (i.zero, i.size, i.bytes)) = some (some (.int .u64 0), 1, 8) := by kernel_rfl
theorem info52 : (Try.prog.info? 52).map (fun i => (i.zero, i.size, i.bytes)) = some (some (.slice none 0 0), 1, 24) := by kernel_rfl
def rd_L1 (xs : List (List Int)) (i : Int) : (List Int) := xs.getD i.toNat ([] : List Int)
theorem at_L1 {w : World} {A : Option Addr} {n : Nat} {xs : List (List Int)} (h : Kd.C (Kd.slice 24 (Kd.int .u64)) w A n xs) (i : Int) (h0 : 0 ≤ i) (h1 : i < n) : ∃ ad A0 c0, A = some ad ∧ w.cell? (ad.add i.toNat) = some (.slice A0 (rd_L1 xs i).length c0) ∧ (rd_L1 xs i).length ≤ c0 ∧ (Kd.int .u64).C w A0 (rd_L1 xs i).length (rd_L1 xs i) := by
 obtain ⟨ad, c, e, _, hK, hc0⟩ := Kd.C_get h ([] : List Int) i h0 h1; have hc : ∀ j u, c[j]? = some u → w.cell? (ad.add (i.toNat * 1 + j)) = some u := hc0; obtain ⟨A0, c0, rfl, l0, g0⟩ := hK; exact ⟨ad, A0, c0, e, by have hq := hc 0 _ rfl; rwa [Nat.mul_one, Nat.add_zero] at hq, l0, g0⟩
def rd_L2 (xs : List (List (List Int))) (i : Int) : (List (List Int)) := xs.getD i.toNat ([] : List (List Int))
theorem at_L2 {w : World} {A : Option Addr} {n : Nat} {xs : List (List (List Int))} (h : Kd.C (Kd.slice 22 (Kd.slice 24 (Kd.int .u64))) w A n xs) (i : Int) (h0 : 0 ≤ i) (h1 : i < n) : ∃ ad A0 c0, A = some ad ∧ w.cell? (ad.add i.toNat) = some (.slice A0 (rd_L2 xs i).length c0) ∧ (rd_L2 xs i).length ≤ c0 ∧ (Kd.slice 24 (Kd.int .u64)).C w A0 (rd_L2 xs i).length (rd_L2 xs i) := by
 obtain ⟨ad, c, e, _, hK, hc0⟩ := Kd.C_get h ([] : List (List Int)) i h0 h1; have hc : ∀ j u, c[j]? = some u → w.cell? (ad.add (i.toNat * 1 + j)) = some u := hc0; obtain ⟨A0, c0, rfl, l0, g0⟩ := hK; exact ⟨ad, A0, c0, e, by have hq := hc 0 _ rfl; rwa [Nat.mul_one, Nat.add_zero] at hq, l0, g0⟩
end Go.Proofs.Ytdafolenaibccaa.P
end
section
namespace Go.Proofs.Ytdafolenaibccaa.P
open Go.RowKit Go.Proofs.YtdafolenaibccaaW.PrintWords Go.Proofs.YtdafolenaibccaaW.PrintLast Go.Proofs.YtdafolenaibccaaW.PrintMore
attribute [local go_sem] max2_int min2_int max_two min_two max_three min_three max_four min_four
set_option linter.unusedVariables false
set_option linter.unusedSimpArgs false
def field_reckoner_in.l0 : Nat → List Int → Int → Int → Int → Bool → Option (Bool)
 | 0, _, _, _, _, _ => none
 | k + 1, x7, x8, x9, x102000, x102001 => if x9 < x8 then (if 0 ≤ x9 then (if x9 < (x7.length : Int) then (if (rd x7 x9) ≥ x102000 then (some false) else (field_reckoner_in.l0 k x7 x8 (wrap64 (x9 + 1)) x102000 x102001)) else (none)) else (none)) else (some true)
def field_reckoner_in.f (k : Nat) (a0_0 : Int) (a0_1 : Bool) (l1 : List Int) : Option (Bool) := field_reckoner_in.l0 k l1 (l1.length : Int) 0 a0_0 a0_1
theorem field_reckoner_in.mono_l : ∀ k, (∀ y0 y1 y2 y3 y4, LeO (field_reckoner_in.l0 k y0 y1 y2 y3 y4) (field_reckoner_in.l0 (k + 1) y0 y1 y2 y3 y4))
 | 0 => fun _ _ _ _ _ r h => by simp [field_reckoner_in.l0] at h
 | k + 1 => by
  have ih0 := field_reckoner_in.mono_l k
  ·intro y0 y1 y2 y3 y4; unfold field_reckoner_in.l0; repeat' first
   | (with_reducible exact ih0 _ _ _ _ _)
   | (with_reducible exact LeO.refl _)
   | (with_reducible exact LeO.none _)
   | (with_reducible refine LeO.ite ?_ ?_)
   | (with_reducible refine LeO.bind ?_ (fun _ => ?_))
   | exact ih0 _ _ _ _ _
   | exact LeO.none _
   | refine LeO.ite ?_ ?_
   | refine LeO.bind ?_ (fun _ => ?_)
theorem field_reckoner_in.mono : ∀ a0 a1 a2 k, LeO (field_reckoner_in.f k a0 a1 a2) (field_reckoner_in.f (k + 1) a0 a1 a2) := by
 intro a0 a1 a2 k; have ih0 := field_reckoner_in.mono_l k; unfold field_reckoner_in.f; repeat' first
   | (with_reducible exact ih0 _ _ _ _ _)
   | (with_reducible exact LeO.refl _)
   | (with_reducible exact LeO.none _)
   | (with_reducible refine LeO.ite ?_ ?_)
   | (with_reducible refine LeO.bind ?_ (fun _ => ?_))
   | exact ih0 _ _ _ _ _
   | exact LeO.none _
   | refine LeO.ite ?_ ?_
   | refine LeO.bind ?_ (fun _ => ?_)
set_option maxHeartbeats 8000000 in
set_option maxRecDepth 100000 in
theorem field_reckoner_in.calls (k : Nat) (a0_0 : Int) (a0_1 : Bool) (A1 : Option Addr) (c1 : Nat) (l1 : List Int) (r : Bool) (w : World) (hr1 : Kd.C (Kd.int .u64) w A1 l1.length l1) (hc1 : l1.length ≤ c1) (h : field_reckoner_in.f k a0_0 a0_1 l1 = some r) :
  Calls Try.prog 53 #[.agg #[.int .u64 a0_0, .bool a0_1], .slice A1 l1.length c1] w fun e w' => e = .returned (.bool r) ∧ Below w.heap.size w w' := by
 have hu78 := Try.underlying78; have HR1 := am hr1; have HC1 := am hc1; clear hr1 hc1; have HB := am (Below.refl w.heap.size w); have H : (field_reckoner_in.l0 k l1 (l1.length : Int) 0 a0_0 a0_1) = some r := h; clear h; have H' := am H; clear H; go_enter Try.func53, Try.ntmps53
 go_wp2_with (first | ((with_reducible refine gate_dst (N := 2) rfl ?_); refine box_event ?hg (N := 2) ?hd (cs := #[.int .u64 a0_0, .bool a0_1]) (t := 78) ?hr ?_; (case hd => rfl); (case hg => rfl); (case hr => first | (go_simp; done) | (go_simp; rfl)); intro gb101 hg w3 hbox hb; have BK101 := am (hbox); have GW101 := am ((Z57 : w.heap.size ≤ gb101)); have GE101 := am ((Z57 : w.heap.size ≤ gb101)); replace HB := am (below_step Z1 hb); clear hb hbox hg))
 go_loopg [9] k (fun kq v9 w' => ∃ (x9_1 : Int), v9 = .int .i64 x9_1 ∧ Aside0 (field_reckoner_in.l0 kq l1 (l1.length : Int) x9_1 a0_0 a0_1 = some r) ∧ Aside0 (kq ≤ k) ∧ Aside0 (w'.heap[gb101]? = some (.cells #[.int .u64 a0_0, .bool a0_1] 78 (0, 0))) ∧ Aside0 (Below w.heap.size w w'))
 case atStart => exact ⟨(0), Z7, H', ⟨Nat.le_refl _⟩, ⟨Z97⟩, ⟨Z55⟩⟩
 case round =>
  clear H'; (try clear c1); (try clear p2); obtain ⟨x9_1, rfl, HA, HK1, BK101, HB⟩ := hrel; cases gk with
  | zero => exact absurd HA.out (by simp [field_reckoner_in.l0])
  | succ k1 =>
   have H := HA.out; clear HA; simp only [field_reckoner_in.l0] at H; by_cases c4 : x9_1 < (l1.length : Int)
   ·rw [if_pos c4] at H; have c4b0 : decide (x9_1 < (l1.length : Int)) = true := decide_eq_true c4; clear c4; by_cases c5 : 0 ≤ x9_1
    ·rw [if_pos c5] at H; have c5b0 : decide (0 ≤ x9_1) = true := decide_eq_true c5; clear c5; by_cases c6 : x9_1 < (l1.length : Int)
     ·rw [if_pos c6] at H; have c6b0 : decide (x9_1 < (l1.length : Int)) = true := decide_eq_true c6; clear c6; by_cases c7 : (rd l1 x9_1) ≥ a0_0
      ·rw [if_pos c7] at H; have c7b0 : decide (a0_0 ≤ (rd l1 x9_1)) = true := decide_eq_true c7; clear c7; obtain rfl := Option.some.inj H; have p102 : 0 ≤ (x9_1 : Int) := of_decide_eq_true Z3; have q102 : x9_1 < (l1.length : Int) := of_decide_eq_true Z3; obtain ⟨ad102, e102, hx102_0⟩ := Kd.at_int HR1.out x9_1 p102 q102; cases e102; replace hx102_0 := (HB.out.cell (World.block_lt_of_cell? w _ hx102_0)).trans hx102_0; replace p102 := eq_true p102; replace q102 := eq_true q102; have hcz8_0 : wr.cell? ⟨gb101, 0, none⟩ = some (.int .u64 a0_0) := (blk_cell BK101.out 0).trans rfl; have hcz8_1 : wr.cell? ⟨gb101, 1, none⟩ = some (.bool a0_1) := (blk_cell BK101.out 1).trans rfl; have hfz8_0 := blk_frozen BK101.out 0; have hfz8_1 := blk_frozen BK101.out 1; go_wp2; go_ret; exact ⟨Z5, Z55⟩
      ·rw [if_neg c7] at H; have c7b0 : decide (a0_0 ≤ (rd l1 x9_1)) = false := decide_eq_false c7; clear c7; have H' := am H; clear H; have p102 : 0 ≤ (x9_1 : Int) := of_decide_eq_true Z3; have q102 : x9_1 < (l1.length : Int) := of_decide_eq_true Z3; obtain ⟨ad102, e102, hx102_0⟩ := Kd.at_int HR1.out x9_1 p102 q102; cases e102; replace hx102_0 := (HB.out.cell (World.block_lt_of_cell? w _ hx102_0)).trans hx102_0; replace p102 := eq_true p102; replace q102 := eq_true q102; have hcz9_0 : wr.cell? ⟨gb101, 0, none⟩ = some (.int .u64 a0_0) := (blk_cell BK101.out 0).trans rfl; have hcz9_1 : wr.cell? ⟨gb101, 1, none⟩ = some (.bool a0_1) := (blk_cell BK101.out 1).trans rfl; have hfz9_0 := blk_frozen BK101.out 0; have hfz9_1 := blk_frozen BK101.out 1; go_wp2; go_roundg k1
       case measure => have := HK1.out; omega
       case rel => exact ⟨(wrap64 (x9_1 + 1)), Z7, H', ⟨Z75⟩, ⟨Z97⟩, ⟨Z55⟩⟩
     ·rw [if_neg c6] at H; exact absurd H (by simp)
    ·rw [if_neg c5] at H; exact absurd H (by simp)
   ·rw [if_neg c4] at H; have c4b0 : decide (x9_1 < (l1.length : Int)) = false := decide_eq_false c4; clear c4; obtain rfl := Option.some.inj H; go_wp2; go_ret; exact ⟨Z5, Z55⟩
def field_of.f (a0 : Int) : Option (Int × Bool × Bool) := if a0 = 1 then (some (2013265921, false, true)) else (if a0 = 2 then (some (18446744069414584321, true, true)) else (some (0, false, false)))
set_option maxHeartbeats 8000000 in
set_option maxRecDepth 100000 in
theorem field_of.calls (a0 : Int) (r1 : Int) (r2 : Bool) (r3 : Bool) (w : World) (h : field_of.f a0 = some (r1, r2, r3)) :
  Calls Try.prog 69 #[.int .u8 a0] w fun e w' => e = .returned (.tuple #[.agg #[.int .u64 r1, .bool r2], .bool r3]) ∧ Below w.heap.size w w' := by
 have hu78 := Try.underlying78; have HB := am (Below.refl w.heap.size w); have H : (if a0 = 1 then (some (2013265921, false, true)) else (if a0 = 2 then (some (18446744069414584321, true, true)) else (some (0, false, false)))) = some (r1, r2, r3) := h; clear h; by_cases c2 : a0 = 1
 ·rw [if_pos c2] at H; have c2b0 : (a0 == 1) = true := beq_iff_eq.mpr c2; have c2b1 : (a0 != 1) = false := bne_eq_false_iff_eq.mpr c2; clear c2; simp only [Option.some.injEq, Prod.mk.injEq] at H; obtain ⟨rfl, rfl, rfl⟩ := H; go_enter Try.func69, Try.ntmps69
  go_wp2_with (first | ((with_reducible refine gate_dst (N := 2) rfl ?_); refine box_event ?hg (N := 2) ?hd (cs := #[.int .u64 0, .bool false]) (t := 78) ?hr ?_; (case hd => rfl); (case hg => rfl); (case hr => first | (go_simp; done) | (go_simp; rfl)); intro gb103 hg w3 hbox hb; have BK103 := am (hbox); have GW103 := am ((Z57 : w.heap.size ≤ gb103)); have GE103 := am ((Z57 : w.heap.size ≤ gb103)); replace HB := am (below_step Z1 hb); clear hb hbox hg; have hcz4_0 : w3.cell? ⟨gb103, 0, none⟩ = some (.int .u64 0) := (blk_cell BK103.out 0).trans rfl; have hcz4_1 : w3.cell? ⟨gb103, 1, none⟩ = some (.bool false) := (blk_cell BK103.out 1).trans rfl; have hfz4_0 := blk_frozen BK103.out 0; have hfz4_1 := blk_frozen BK103.out 1))
  refine bodyPost_ret (results_ct rfl _ _ gb103 78 #[.int .u64 2013265921, .bool false] (0, 0) _ rfl (by (with_reducible repeat (first | refine blk_drewN ?_ _ | refine blk_drew ?_ | refine blk_alloc ?_ _)); refine blk_put (cs := #[.int .u64 2013265921, .bool false]) ?_ 1 _ rfl; (with_reducible repeat (first | refine blk_drewN ?_ _ | refine blk_drew ?_ | refine blk_alloc ?_ _)); refine blk_put (cs := #[.int .u64 0, .bool false]) ?_ 0 _ rfl; (with_reducible repeat (first | refine blk_drewN ?_ _ | refine blk_drew ?_ | refine blk_alloc ?_ _)); exact BK103.out) Try.underlying78 rfl Z12) rfl ?_; exact ⟨Z5, Z68⟩
 ·rw [if_neg c2] at H; have c2b0 : (a0 == 1) = false := beq_eq_false_iff_ne.mpr c2; have c2b1 : (a0 != 1) = true := bne_iff_ne.mpr c2; by_cases c5 : a0 = 2
  ·rw [if_pos c5] at H; have c5b0 : (a0 == 2) = true := beq_iff_eq.mpr c5; have c5b1 : (a0 != 2) = false := bne_eq_false_iff_eq.mpr c5; clear c5; simp only [Option.some.injEq, Prod.mk.injEq] at H; obtain ⟨rfl, rfl, rfl⟩ := H; go_enter Try.func69, Try.ntmps69
   go_wp2_with (first | ((with_reducible refine gate_dst (N := 2) rfl ?_); refine box_event ?hg (N := 2) ?hd (cs := #[.int .u64 0, .bool false]) (t := 78) ?hr ?_; (case hd => rfl); (case hg => rfl); (case hr => first | (go_simp; done) | (go_simp; rfl)); intro gb103 hg w6 hbox hb; have BK103 := am (hbox); have GW103 := am ((Z57 : w.heap.size ≤ gb103)); have GE103 := am ((Z57 : w.heap.size ≤ gb103)); replace HB := am (below_step Z1 hb); clear hb hbox hg; have hcz7_0 : w6.cell? ⟨gb103, 0, none⟩ = some (.int .u64 0) := (blk_cell BK103.out 0).trans rfl; have hcz7_1 : w6.cell? ⟨gb103, 1, none⟩ = some (.bool false) := (blk_cell BK103.out 1).trans rfl; have hfz7_0 := blk_frozen BK103.out 0; have hfz7_1 := blk_frozen BK103.out 1))
   refine bodyPost_ret (results_ct rfl _ _ gb103 78 #[.int .u64 18446744069414584321, .bool true] (0, 0) _ rfl (by (with_reducible repeat (first | refine blk_drewN ?_ _ | refine blk_drew ?_ | refine blk_alloc ?_ _)); refine blk_put (cs := #[.int .u64 18446744069414584321, .bool false]) ?_ 1 _ rfl; (with_reducible repeat (first | refine blk_drewN ?_ _ | refine blk_drew ?_ | refine blk_alloc ?_ _)); refine blk_put (cs := #[.int .u64 0, .bool false]) ?_ 0 _ rfl; (with_reducible repeat (first | refine blk_drewN ?_ _ | refine blk_drew ?_ | refine blk_alloc ?_ _)); exact BK103.out) Try.underlying78 rfl Z12) rfl ?_; exact ⟨Z5, Z68⟩
  ·rw [if_neg c5] at H; have c5b0 : (a0 == 2) = false := beq_eq_false_iff_ne.mpr c5; have c5b1 : (a0 != 2) = true := bne_iff_ne.mpr c5; simp only [Option.some.injEq, Prod.mk.injEq] at H; obtain ⟨rfl, rfl, rfl⟩ := H; go_enter Try.func69, Try.ntmps69
   go_wp2_with (first | ((with_reducible refine gate_dst (N := 2) rfl ?_); refine box_event ?hg (N := 2) ?hd (cs := #[.int .u64 0, .bool false]) (t := 78) ?hr ?_; (case hd => rfl); (case hg => rfl); (case hr => first | (go_simp; done) | (go_simp; rfl)); intro gb103 hg w8 hbox hb; have BK103 := am (hbox); have GW103 := am ((Z57 : w.heap.size ≤ gb103)); have GE103 := am ((Z57 : w.heap.size ≤ gb103)); replace HB := am (below_step Z1 hb); clear hb hbox hg; have hcz9_0 : w8.cell? ⟨gb103, 0, none⟩ = some (.int .u64 0) := (blk_cell BK103.out 0).trans rfl; have hcz9_1 : w8.cell? ⟨gb103, 1, none⟩ = some (.bool false) := (blk_cell BK103.out 1).trans rfl; have hfz9_0 := blk_frozen BK103.out 0; have hfz9_1 := blk_frozen BK103.out 1))
   refine bodyPost_ret (results_ct rfl _ _ gb103 78 #[.int .u64 0, .bool false] (0, 0) _ rfl (by (with_reducible repeat (first | refine blk_drewN ?_ _ | refine blk_drew ?_ | refine blk_alloc ?_ _)); refine blk_put (cs := #[.int .u64 0, .bool false]) ?_ 1 _ rfl; (with_reducible repeat (first | refine blk_drewN ?_ _ | refine blk_drew ?_ | refine blk_alloc ?_ _)); refine blk_put (cs := #[.int .u64 0, .bool false]) ?_ 0 _ rfl; (with_reducible repeat (first | refine blk_drewN ?_ _ | refine blk_drew ?_ | refine blk_alloc ?_ _)); exact BK103.out) Try.underlying78 rfl Z12) rfl ?_; exact ⟨Z5, Z68⟩
def field_asked.f (k : Nat) (a0 : Int) (l1 : List Int) : Option (Int × Bool × Int) := (field_of.f a0).bind fun bt105 => (if bt105.2.2 = true then ((field_reckoner_in.f k bt105.1 bt105.2.1 l1).bind fun t109 => (if t109 = true then (some (bt105.1, bt105.2.1, 0)) else (some (0, false, 2)))) else (some (0, false, 2)))
theorem field_asked.mono : ∀ a0 a1 k, LeO (field_asked.f k a0 a1) (field_asked.f (k + 1) a0 a1) := by
 intro a0 a1 k; unfold field_asked.f; repeat' first
   | (with_reducible exact field_reckoner_in.mono _ _ _ _)
   | (with_reducible exact LeO.refl _)
   | (with_reducible exact LeO.none _)
   | (with_reducible refine LeO.ite ?_ ?_)
   | (with_reducible refine LeO.bind ?_ (fun _ => ?_))
   | exact field_reckoner_in.mono _ _ _ _
   | exact LeO.none _
   | refine LeO.ite ?_ ?_
   | refine LeO.bind ?_ (fun _ => ?_)
set_option maxHeartbeats 8000000 in
set_option maxRecDepth 100000 in
theorem field_asked.calls (k : Nat) (a0 : Int) (A1 : Option Addr) (c1 : Nat) (l1 : List Int) (r1 : Int) (r2 : Bool) (r3 : Int) (w : World) (hr1 : Kd.C (Kd.int .u64) w A1 l1.length l1) (hc1 : l1.length ≤ c1) (h : field_asked.f k a0 l1 = some (r1, r2, r3)) :
  Calls Try.prog 52 #[.int .u8 a0, .slice A1 l1.length c1] w fun e w' => e = .returned (.tuple #[.agg #[.int .u64 r1, .bool r2], .int .i64 r3]) ∧ Below w.heap.size w w' := by
 have hu78 := Try.underlying78; have HR1 := am hr1; have HC1 := am hc1; clear hr1 hc1; have HB := am (Below.refl w.heap.size w); have H : ((field_of.f a0).bind fun bt105 => (if bt105.2.2 = true then ((field_reckoner_in.f k bt105.1 bt105.2.1 l1).bind fun t109 => (if t109 = true then (some (bt105.1, bt105.2.1, 0)) else (some (0, false, 2)))) else (some (0, false, 2)))) = some (r1, r2, r3) := h; clear h; replace H := Option.bind_eq_some_iff.mp H; obtain ⟨⟨t105, t106, t107⟩, A30, H⟩ := H; replace H : (if t107 = true then ((field_reckoner_in.f k t105 t106 l1).bind fun t109 => (if t109 = true then (some (t105, t106, 0)) else (some (0, false, 2)))) else (some (0, false, 2))) = some (r1, r2, r3) := H; have A3 := am A30; clear A30; by_cases c4 : t107 = true
 ·subst c4; have H1 : ((field_reckoner_in.f k t105 t106 l1).bind fun t109 => (if t109 = true then (some (t105, t106, 0)) else (some (0, false, 2)))) = some (r1, r2, r3) := by rw [if_pos rfl] at H; exact H
  clear H; have H := H1; clear H1; replace H := Option.bind_eq_some_iff.mp H; obtain ⟨t109, A50, H⟩ := H; replace H : (if t109 = true then (some (t105, t106, 0)) else (some (0, false, 2))) = some (r1, r2, r3) := H; have A5 := am A50; clear A50; by_cases c6 : t109 = true
  ·subst c6; have H1 : (some (t105, t106, 0)) = some (r1, r2, r3) := by rw [if_pos rfl] at H; exact H
   clear H; have H := H1; clear H1; simp only [Option.some.injEq, Prod.mk.injEq] at H; obtain ⟨rfl, rfl, rfl⟩ := H; go_enter Try.func52, Try.ntmps52
   go_wp2_with (first | ((with_reducible refine gate_dst (N := 4) rfl ?_); refine box_event ?hg (N := 4) ?hd (cs := #[.int .u64 0, .bool false]) (t := 78) ?hr ?_; (case hd => rfl); (case hg => rfl); (case hr => first | (go_simp; done) | (go_simp; rfl)); intro gb104 hg w7 hbox hb; have BK104 := am (hbox); have GW104 := am ((Z57 : w.heap.size ≤ gb104)); have GE104 := am ((Z57 : w.heap.size ≤ gb104)); replace HB := am (below_step Z1 hb); clear hb hbox hg) | ((with_reducible refine gate_callee (f := 69) rfl ?_); refine goesL_ (some 10) rfl rfl Try.func69 Z12 rfl #[.int .u8 a0] rfl Z2 ?_; (with_reducible refine (field_of.calls a0 t105 t106 true _ A3.out).mono ?_); rintro e w8 ⟨rfl, hb⟩; refine ⟨_, rfl, ?_⟩; replace BK104 := am (blk_below (g := gb104) (o := .cells #[.int .u64 0, .bool false] 78 (0, 0)) Z24 hb); replace HB := am (below_step Z19 hb); (try clear hb)) | ((with_reducible refine gate_dst (N := 6) rfl ?_); refine box_event ?hg (N := 6) ?hd (cs := #[.int .u64 0, .bool false]) (t := 78) ?hr ?_; (case hd => rfl); (case hg => rfl); (case hr => first | (go_simp; done) | (go_simp; rfl)); intro gb108 hg w9 hbox hb; have BK108 := am (hbox); have GW108 := am ((Z96 : w.heap.size ≤ gb108)); have GE108 := am ((Z96 : w.heap.size ≤ gb108)); replace HB := am (below_step Z19 hb); have NB104_108 := am ((Z79 : gb104 ≠ gb108)); have NB108_104 := am ((Z80 : gb108 ≠ gb104)); replace BK104 := am (blk_below (g := gb104) (o := .cells #[.int .u64 0, .bool false] 78 (0, 0)) Z24 hb); clear hb hbox hg; have hnb10 := NB108_104.out; have hnc10 := NB104_108.out; have hcz11_0 : w9.cell? ⟨gb108, 0, none⟩ = some (.int .u64 0) := (blk_cell BK108.out 0).trans rfl; have hcz11_1 : w9.cell? ⟨gb108, 1, none⟩ = some (.bool false) := (blk_cell BK108.out 1).trans rfl; have hfz11_0 := blk_frozen BK108.out 0; have hfz11_1 := blk_frozen BK108.out 1) | (go_at_call 53; (with_reducible refine (field_reckoner_in.calls k t105 t106 _ _ l1 true _ ?side1 ?side2 A5.out).mono ?_); (case side1 => exact Kd.C_below HR1.out Z27); (case side2 => exact HC1.out); rintro e w12 ⟨rfl, hb⟩; replace BK104 := am (blk_below (g := gb104) (o := .cells #[.int .u64 0, .bool false] 78 (0, 0)) Z61 hb); replace BK108 := am (blk_below (g := gb108) (o := .cells #[.int .u64 t105, .bool t106] 78 (0, 0)) Z56 hb); replace HB := am (below_step Z27 hb); (try clear hb); have hcz13_0 : w12.cell? ⟨gb108, 0, none⟩ = some (.int .u64 t105) := (blk_cell BK108.out 0).trans rfl; have hcz13_1 : w12.cell? ⟨gb108, 1, none⟩ = some (.bool t106) := (blk_cell BK108.out 1).trans rfl; have hfz13_0 := blk_frozen BK108.out 0; have hfz13_1 := blk_frozen BK108.out 1; have hcz14_0 : w12.cell? ⟨gb104, 0, none⟩ = some (.int .u64 0) := (blk_cell BK104.out 0).trans rfl; have hcz14_1 : w12.cell? ⟨gb104, 1, none⟩ = some (.bool false) := (blk_cell BK104.out 1).trans rfl; have hfz14_0 := blk_frozen BK104.out 0; have hfz14_1 := blk_frozen BK104.out 1))
   refine bodyPost_ret (results_ct rfl _ _ gb104 78 #[.int .u64 t105, .bool t106] (0, 0) _ rfl (by (with_reducible repeat (first | refine blk_drewN ?_ _ | refine blk_drew ?_ | refine blk_alloc ?_ _)); refine blk_put (cs := #[.int .u64 t105, .bool false]) ?_ 1 _ rfl; (with_reducible repeat (first | refine blk_drewN ?_ _ | refine blk_drew ?_ | refine blk_alloc ?_ _)); refine blk_put (cs := #[.int .u64 0, .bool false]) ?_ 0 _ rfl; (with_reducible repeat (first | refine blk_drewN ?_ _ | refine blk_drew ?_ | refine blk_alloc ?_ _)); exact BK104.out) Try.underlying78 rfl Z12) rfl ?_; exact ⟨Z5, Z27⟩
  ·replace c6 := Bool.eq_false_iff.mpr c6; subst c6; have H1 : (some (0, false, 2)) = some (r1, r2, r3) := by rw [if_neg (show ¬ (false = true) by decide)] at H; exact H
   clear H; have H := H1; clear H1; simp only [Option.some.injEq, Prod.mk.injEq] at H; obtain ⟨rfl, rfl, rfl⟩ := H; go_enter Try.func52, Try.ntmps52
   go_wp2_with (first | ((with_reducible refine gate_dst (N := 4) rfl ?_); refine box_event ?hg (N := 4) ?hd (cs := #[.int .u64 0, .bool false]) (t := 78) ?hr ?_; (case hd => rfl); (case hg => rfl); (case hr => first | (go_simp; done) | (go_simp; rfl)); intro gb104 hg w15 hbox hb; have BK104 := am (hbox); have GW104 := am ((Z57 : w.heap.size ≤ gb104)); have GE104 := am ((Z57 : w.heap.size ≤ gb104)); replace HB := am (below_step Z1 hb); clear hb hbox hg) | ((with_reducible refine gate_callee (f := 69) rfl ?_); refine goesL_ (some 10) rfl rfl Try.func69 Z12 rfl #[.int .u8 a0] rfl Z2 ?_; (with_reducible refine (field_of.calls a0 t105 t106 true _ A3.out).mono ?_); rintro e w16 ⟨rfl, hb⟩; refine ⟨_, rfl, ?_⟩; replace BK104 := am (blk_below (g := gb104) (o := .cells #[.int .u64 0, .bool false] 78 (0, 0)) Z24 hb); replace HB := am (below_step Z19 hb); (try clear hb)) | ((with_reducible refine gate_dst (N := 6) rfl ?_); refine box_event ?hg (N := 6) ?hd (cs := #[.int .u64 0, .bool false]) (t := 78) ?hr ?_; (case hd => rfl); (case hg => rfl); (case hr => first | (go_simp; done) | (go_simp; rfl)); intro gb108 hg w17 hbox hb; have BK108 := am (hbox); have GW108 := am ((Z96 : w.heap.size ≤ gb108)); have GE108 := am ((Z96 : w.heap.size ≤ gb108)); replace HB := am (below_step Z19 hb); have NB104_108 := am ((Z79 : gb104 ≠ gb108)); have NB108_104 := am ((Z80 : gb108 ≠ gb104)); replace BK104 := am (blk_below (g := gb104) (o := .cells #[.int .u64 0, .bool false] 78 (0, 0)) Z24 hb); clear hb hbox hg; have hnb18 := NB108_104.out; have hnc18 := NB104_108.out; have hcz19_0 : w17.cell? ⟨gb108, 0, none⟩ = some (.int .u64 0) := (blk_cell BK108.out 0).trans rfl; have hcz19_1 : w17.cell? ⟨gb108, 1, none⟩ = some (.bool false) := (blk_cell BK108.out 1).trans rfl; have hfz19_0 := blk_frozen BK108.out 0; have hfz19_1 := blk_frozen BK108.out 1) | (go_at_call 53; (with_reducible refine (field_reckoner_in.calls k t105 t106 _ _ l1 false _ ?side1 ?side2 A5.out).mono ?_); (case side1 => exact Kd.C_below HR1.out Z27); (case side2 => exact HC1.out); rintro e w20 ⟨rfl, hb⟩; replace BK104 := am (blk_below (g := gb104) (o := .cells #[.int .u64 0, .bool false] 78 (0, 0)) Z61 hb); replace BK108 := am (blk_below (g := gb108) (o := .cells #[.int .u64 t105, .bool t106] 78 (0, 0)) Z56 hb); replace HB := am (below_step Z27 hb); (try clear hb); have hcz21_0 : w20.cell? ⟨gb104, 0, none⟩ = some (.int .u64 0) := (blk_cell BK104.out 0).trans rfl; have hcz21_1 : w20.cell? ⟨gb104, 1, none⟩ = some (.bool false) := (blk_cell BK104.out 1).trans rfl; have hfz21_0 := blk_frozen BK104.out 0; have hfz21_1 := blk_frozen BK104.out 1))
   refine bodyPost_ret (results_ct rfl _ _ gb104 78 #[.int .u64 0, .bool false] (0, 0) _ rfl (by (with_reducible repeat (first | refine blk_drewN ?_ _ | refine blk_drew ?_ | refine blk_alloc ?_ _)); refine blk_put (cs := #[.int .u64 0, .bool false]) ?_ 1 _ rfl; (with_reducible repeat (first | refine blk_drewN ?_ _ | refine blk_drew ?_ | refine blk_alloc ?_ _)); refine blk_put (cs := #[.int .u64 0, .bool false]) ?_ 0 _ rfl; (with_reducible repeat (first | refine blk_drewN ?_ _ | refine blk_drew ?_ | refine blk_alloc ?_ _)); exact BK104.out) Try.underlying78 rfl Z12) rfl ?_; exact ⟨Z5, Z27⟩
 ·replace c4 := Bool.eq_false_iff.mpr c4; subst c4; have H1 : (some (0, false, 2)) = some (r1, r2, r3) := by rw [if_neg (show ¬ (false = true) by decide)] at H; exact H
  clear H; have H := H1; clear H1; simp only [Option.some.injEq, Prod.mk.injEq] at H; obtain ⟨rfl, rfl, rfl⟩ := H; go_enter Try.func52, Try.ntmps52
  go_wp2_with (first | ((with_reducible refine gate_dst (N := 4) rfl ?_); refine box_event ?hg (N := 4) ?hd (cs := #[.int .u64 0, .bool false]) (t := 78) ?hr ?_; (case hd => rfl); (case hg => rfl); (case hr => first | (go_simp; done) | (go_simp; rfl)); intro gb104 hg w22 hbox hb; have BK104 := am (hbox); have GW104 := am ((Z57 : w.heap.size ≤ gb104)); have GE104 := am ((Z57 : w.heap.size ≤ gb104)); replace HB := am (below_step Z1 hb); clear hb hbox hg) | ((with_reducible refine gate_callee (f := 69) rfl ?_); refine goesL_ (some 10) rfl rfl Try.func69 Z12 rfl #[.int .u8 a0] rfl Z2 ?_; (with_reducible refine (field_of.calls a0 t105 t106 false _ A3.out).mono ?_); rintro e w23 ⟨rfl, hb⟩; refine ⟨_, rfl, ?_⟩; replace BK104 := am (blk_below (g := gb104) (o := .cells #[.int .u64 0, .bool false] 78 (0, 0)) Z24 hb); replace HB := am (below_step Z19 hb); (try clear hb)) | ((with_reducible refine gate_dst (N := 6) rfl ?_); refine box_event ?hg (N := 6) ?hd (cs := #[.int .u64 0, .bool false]) (t := 78) ?hr ?_; (case hd => rfl); (case hg => rfl); (case hr => first | (go_simp; done) | (go_simp; rfl)); intro gb108 hg w24 hbox hb; have BK108 := am (hbox); have GW108 := am ((Z96 : w.heap.size ≤ gb108)); have GE108 := am ((Z96 : w.heap.size ≤ gb108)); replace HB := am (below_step Z19 hb); have NB104_108 := am ((Z79 : gb104 ≠ gb108)); have NB108_104 := am ((Z80 : gb108 ≠ gb104)); replace BK104 := am (blk_below (g := gb104) (o := .cells #[.int .u64 0, .bool false] 78 (0, 0)) Z24 hb); clear hb hbox hg; have hnb25 := NB108_104.out; have hnc25 := NB104_108.out; have hcz26_0 : w24.cell? ⟨gb108, 0, none⟩ = some (.int .u64 0) := (blk_cell BK108.out 0).trans rfl; have hcz26_1 : w24.cell? ⟨gb108, 1, none⟩ = some (.bool false) := (blk_cell BK108.out 1).trans rfl; have hfz26_0 := blk_frozen BK108.out 0; have hfz26_1 := blk_frozen BK108.out 1; have hcz27_0 : w24.cell? ⟨gb104, 0, none⟩ = some (.int .u64 0) := (blk_cell BK104.out 0).trans rfl; have hcz27_1 : w24.cell? ⟨gb104, 1, none⟩ = some (.bool false) := (blk_cell BK104.out 1).trans rfl; have hfz27_0 := blk_frozen BK104.out 0; have hfz27_1 := blk_frozen BK104.out 1))
  refine bodyPost_ret (results_ct rfl _ _ gb104 78 #[.int .u64 0, .bool false] (0, 0) _ rfl (by (with_reducible repeat (first | refine blk_drewN ?_ _ | refine blk_drew ?_ | refine blk_alloc ?_ _)); refine blk_put (cs := #[.int .u64 0, .bool false]) ?_ 1 _ rfl; (with_reducible repeat (first | refine blk_drewN ?_ _ | refine blk_drew ?_ | refine blk_alloc ?_ _)); refine blk_put (cs := #[.int .u64 0, .bool false]) ?_ 0 _ rfl; (with_reducible repeat (first | refine blk_drewN ?_ _ | refine blk_drew ?_ | refine blk_alloc ?_ _)); refine blk_far ?_ NB104_108.out _; (with_reducible repeat (first | refine blk_drewN ?_ _ | refine blk_drew ?_ | refine blk_alloc ?_ _)); refine blk_far ?_ NB104_108.out _; (with_reducible repeat (first | refine blk_drewN ?_ _ | refine blk_drew ?_ | refine blk_alloc ?_ _)); exact BK104.out) Try.underlying78 rfl Z12) rfl ?_; exact ⟨Z5, Z27⟩
def field_In.f (k : Nat) (a0 : Int) (l1 : List Int) : Option (Bool) := (field_asked.f k a0 l1).bind fun bt110 => (some (bt110.2.2 == 0))
theorem field_In.mono : ∀ a0 a1 k, LeO (field_In.f k a0 a1) (field_In.f (k + 1) a0 a1) := by
 intro a0 a1 k; unfold field_In.f; repeat' first
   | (with_reducible exact field_asked.mono _ _ _)
   | (with_reducible exact LeO.refl _)
   | (with_reducible exact LeO.none _)
   | (with_reducible refine LeO.ite ?_ ?_)
   | (with_reducible refine LeO.bind ?_ (fun _ => ?_))
   | exact field_asked.mono _ _ _
   | exact LeO.none _
   | refine LeO.ite ?_ ?_
   | refine LeO.bind ?_ (fun _ => ?_)
set_option maxHeartbeats 8000000 in
set_option maxRecDepth 100000 in
theorem field_In.calls (k : Nat) (a0 : Int) (A1 : Option Addr) (c1 : Nat) (l1 : List Int) (r : Bool) (w : World) (hr1 : Kd.C (Kd.int .u64) w A1 l1.length l1) (hc1 : l1.length ≤ c1) (h : field_In.f k a0 l1 = some r) :
  Calls Try.prog 51 #[.int .u8 a0, .slice A1 l1.length c1] w fun e w' => e = .returned (.bool r) ∧ Below w.heap.size w w' := by
 have hu78 := Try.underlying78; have HR1 := am hr1; have HC1 := am hc1; clear hr1 hc1; have HB := am (Below.refl w.heap.size w); have H : ((field_asked.f k a0 l1).bind fun bt110 => (some (bt110.2.2 == 0))) = some r := h; clear h; replace H := Option.bind_eq_some_iff.mp H; obtain ⟨⟨t110, t111, t112⟩, A30, H⟩ := H; replace H : (some (t112 == 0)) = some r := H; have A3 := am A30; clear A30; obtain rfl := Option.some.inj H; go_enter Try.func51, Try.ntmps51
 go_wp2_with (first | ((with_reducible refine gate_callee (f := 52) rfl ?_); refine goesL_ (some 10) rfl rfl Try.func52 Z12 rfl #[.int .u8 a0, .slice A1 l1.length c1] rfl Z2 ?_; (with_reducible refine (field_asked.calls k a0 _ _ l1 t110 t111 t112 _ ?side1 ?side2 A3.out).mono ?_); (case side1 => repeat (first | exact HR1.out | (with_reducible refine Kd.C_alloc ?_ _) | (with_reducible refine Kd.C_drewN ?_ _) | (with_reducible refine Kd.C_drew ?_))); (case side2 => exact HC1.out); rintro e w4 ⟨rfl, hb⟩; refine ⟨_, rfl, ?_⟩; replace HB := am (below_step Z1 hb); (try clear hb)) | ((with_reducible refine gate_dst (N := 5) rfl ?_); refine box_event ?hg (N := 5) ?hd (cs := #[.int .u64 0, .bool false]) (t := 78) ?hr ?_; (case hd => rfl); (case hg => rfl); (case hr => first | (go_simp; done) | (go_simp; rfl)); intro gb113 hg w5 hbox hb; have BK113 := am (hbox); have GW113 := am ((Z57 : w.heap.size ≤ gb113)); have GE113 := am ((Z57 : w.heap.size ≤ gb113)); replace HB := am (below_step Z1 hb); clear hb hbox hg; have hcz6_0 : w5.cell? ⟨gb113, 0, none⟩ = some (.int .u64 0) := (blk_cell BK113.out 0).trans rfl; have hcz6_1 : w5.cell? ⟨gb113, 1, none⟩ = some (.bool false) := (blk_cell BK113.out 1).trans rfl; have hfz6_0 := blk_frozen BK113.out 0; have hfz6_1 := blk_frozen BK113.out 1))
 go_ret; exact ⟨Z5, by repeat (first | (with_reducible first | exact HB.out | apply below_alloc | apply pw_below_drewN | apply below_drew1 | refine below_set ?_ GE113.out) | exact HB.out)⟩
end Go.Proofs.Ytdafolenaibccaa.P
end
section
namespace Go.Proofs.Ytdafolenaibccaa.P
open Go.RowKit Go.Proofs.YtdafolenaibccaaW.PrintWords Go.Proofs.YtdafolenaibccaaW.PrintLast Go.Proofs.YtdafolenaibccaaW.PrintMore
attribute [local go_sem] max2_int min2_int max_two min_two max_three min_three max_four min_four
set_option linter.unusedVariables false
set_option linter.unusedSimpArgs false
mutual
def interp_twice.l0 : Nat → List Int → Int → Option (Int)
 | 0, _, _ => none
 | k + 1, x0, x3 => if x3 < (x0.length : Int) then (interp_twice.l1 k x0 x3 0) else (some 0)
def interp_twice.l1 : Nat → List Int → Int → Int → Option (Int)
 | 0, _, _, _ => none
 | k + 1, x0, x3, x4 => if x4 < x3 then (if 0 ≤ x3 then (if x3 < (x0.length : Int) then (if 0 ≤ x4 then (if x4 < (x0.length : Int) then (if (rd x0 x3) = (rd x0 x4) then (some 6) else (interp_twice.l1 k x0 x3 (wrap64 (x4 + 1)))) else (none)) else (none)) else (none)) else (none)) else (interp_twice.l0 k x0 (wrap64 (x3 + 1)))
end
def interp_twice.f (k : Nat) (l0 : List Int) : Option (Int) := if (l0.all fun x => decide (0 ≤ x) && decide (x < 18446744073709551616)) = true then (interp_twice.l0 k l0 0) else none
theorem interp_twice.mono_l : ∀ k, (∀ y0 y1, LeO (interp_twice.l0 k y0 y1) (interp_twice.l0 (k + 1) y0 y1)) ∧ (∀ y0 y1 y2, LeO (interp_twice.l1 k y0 y1 y2) (interp_twice.l1 (k + 1) y0 y1 y2))
 | 0 => ⟨fun _ _ r h => by simp [interp_twice.l0] at h, fun _ _ _ r h => by simp [interp_twice.l1] at h⟩
 | k + 1 => by
  obtain ⟨ih0, ih1⟩ := interp_twice.mono_l k; refine ⟨?_, ?_⟩
  ·intro y0 y1; unfold interp_twice.l0; repeat' first
   | (with_reducible exact ih0 _ _)
   | (with_reducible exact ih1 _ _ _)
   | (with_reducible exact LeO.refl _)
   | (with_reducible exact LeO.none _)
   | (with_reducible refine LeO.ite ?_ ?_)
   | (with_reducible refine LeO.bind ?_ (fun _ => ?_))
   | exact ih0 _ _
   | exact ih1 _ _ _
   | exact LeO.none _
   | refine LeO.ite ?_ ?_
   | refine LeO.bind ?_ (fun _ => ?_)
  ·intro y0 y1 y2; unfold interp_twice.l1; repeat' first
   | (with_reducible exact ih0 _ _)
   | (with_reducible exact ih1 _ _ _)
   | (with_reducible exact LeO.refl _)
   | (with_reducible exact LeO.none _)
   | (with_reducible refine LeO.ite ?_ ?_)
   | (with_reducible refine LeO.bind ?_ (fun _ => ?_))
   | exact ih0 _ _
   | exact ih1 _ _ _
   | exact LeO.none _
   | refine LeO.ite ?_ ?_
   | refine LeO.bind ?_ (fun _ => ?_)
theorem interp_twice.mono : ∀ a0 k, LeO (interp_twice.f k a0) (interp_twice.f (k + 1) a0) := by
 intro a0 k; obtain ⟨ih0, ih1⟩ := interp_twice.mono_l k; unfold interp_twice.f; repeat' first
   | (with_reducible exact ih0 _ _)
   | (with_reducible exact ih1 _ _ _)
   | (with_reducible exact LeO.refl _)
   | (with_reducible exact LeO.none _)
   | (with_reducible refine LeO.ite ?_ ?_)
   | (with_reducible refine LeO.bind ?_ (fun _ => ?_))
   | exact ih0 _ _
   | exact ih1 _ _ _
   | exact LeO.none _
   | refine LeO.ite ?_ ?_
   | refine LeO.bind ?_ (fun _ => ?_)
def interp_may.j0 : Nat → List Int → List Int → List Int → Bool → Option (Int)
 | 0, _, _, _, _ => none
 | k + 1, x1, x2, x3, x12 => if x12 = true then (some 2) else (if (x1.length : Int) = (x2.length : Int) then (if (x1.length : Int) > 512 then (some 4) else (if (x3.length : Int) > 512 then (some 4) else ((interp_twice.f k x1).bind fun t119 => (some t119)))) else (some 3))
def interp_may.f (k : Nat) (a0 : Int) (l1 : List Int) (l2 : List Int) (l3 : List Int) : Option (Int) := (field_In.f k a0 l1).bind fun t116 => (if t116 = true then ((field_In.f k a0 l2).bind fun t117 => (if t117 = true then ((field_In.f k a0 l3).bind fun t118 => (interp_may.j0 k l1 l2 l3 (!t118))) else (interp_may.j0 k l1 l2 l3 true))) else (interp_may.j0 k l1 l2 l3 true))
theorem interp_may.mono_l : ∀ k, (∀ y0 y1 y2 y3, LeO (interp_may.j0 k y0 y1 y2 y3) (interp_may.j0 (k + 1) y0 y1 y2 y3))
 | 0 => fun _ _ _ _ r h => by simp [interp_may.j0] at h
 | k + 1 => by
  have ih0 := interp_may.mono_l k
  ·intro y0 y1 y2 y3; unfold interp_may.j0; repeat' first
   | (with_reducible exact ih0 _ _ _ _)
   | (with_reducible exact field_In.mono _ _ _)
   | (with_reducible exact interp_twice.mono _ _)
   | (with_reducible exact LeO.refl _)
   | (with_reducible exact LeO.none _)
   | (with_reducible refine LeO.ite ?_ ?_)
   | (with_reducible refine LeO.bind ?_ (fun _ => ?_))
   | exact ih0 _ _ _ _
   | exact field_In.mono _ _ _
   | exact interp_twice.mono _ _
   | exact LeO.none _
   | refine LeO.ite ?_ ?_
   | refine LeO.bind ?_ (fun _ => ?_)
theorem interp_may.mono : ∀ a0 a1 a2 a3 k, LeO (interp_may.f k a0 a1 a2 a3) (interp_may.f (k + 1) a0 a1 a2 a3) := by
 intro a0 a1 a2 a3 k; have ih0 := interp_may.mono_l k; unfold interp_may.f; repeat' first
   | (with_reducible exact ih0 _ _ _ _)
   | (with_reducible exact field_In.mono _ _ _)
   | (with_reducible exact interp_twice.mono _ _)
   | (with_reducible exact LeO.refl _)
   | (with_reducible exact LeO.none _)
   | (with_reducible refine LeO.ite ?_ ?_)
   | (with_reducible refine LeO.bind ?_ (fun _ => ?_))
   | exact ih0 _ _ _ _
   | exact field_In.mono _ _ _
   | exact interp_twice.mono _ _
   | exact LeO.none _
   | refine LeO.ite ?_ ?_
   | refine LeO.bind ?_ (fun _ => ?_)
theorem twice_in (l : List Int) (hm : l.length ≤ 9223372036854775807) (r : Int) (k : Nat) : ∀ (j i : Nat), j ≤ i → i < l.length → (∀ j' : Nat, j' < j → ∀ (hi : i < l.length) (hj : j' < l.length), l[j'] ≠ l[i]) → interp_twice.l1 k l (i : Int) (j : Int) = some r →
  (r = 6 ∧ ¬ Hand.Uniq l) ∨ ((∀ j' : Nat, j' < i → ∀ (hi : i < l.length) (hj : j' < l.length), l[j'] ≠ l[i]) ∧ ∃ k', k' < k ∧ interp_twice.l0 k' l ((i + 1 : Nat) : Int) = some r) := by
 induction k with
 | zero => intro j i _ _ _ h; simp [interp_twice.l1] at h
 | succ k ih =>
  intro j i hji hi hall h; simp only [interp_twice.l1] at h; by_cases c : (j : Int) < (i : Int)
  ·rw [if_pos c, if_pos (by omega), if_pos (by omega), if_pos (by omega), if_pos (by omega)] at h; have r1 : rd l (i : Int) = l[i] := by simp [rd, hi]
   have r2 : rd l (j : Int) = l[j] := by simp [rd, show j < l.length by omega]
   rw [r1, r2] at h; by_cases e : l[i] = l[j]
   ·rw [if_pos e] at h; refine .inl ⟨(Option.some.inj h).symm, fun hu => hu j i (by omega) hi (by omega) e.symm⟩
   ·rw [if_neg e, show wrap64 ((j : Int) + 1) = ((j + 1 : Nat) : Int) from by unfold wrap64; omega] at h; rcases ih (j + 1) i (by omega) hi (fun j' hj' hi' hj2 => by
     by_cases e2 : j' = j
     ·subst e2; exact fun h => e h.symm
     ·exact hall j' (by omega) hi' hj2) h with h | ⟨h1, k', h2, h3⟩
    ·exact .inl h
    ·exact .inr ⟨h1, k', by omega, h3⟩
  ·rw [if_neg c, show wrap64 ((i : Int) + 1) = ((i + 1 : Nat) : Int) from by unfold wrap64; omega] at h; exact .inr ⟨fun j' hj' => hall j' (by omega), k, by omega, h⟩
theorem twice_out (l : List Int) (hm : l.length ≤ 9223372036854775807) (r : Int) : ∀ (n k i : Nat), k ≤ n → i ≤ l.length → Hand.Uniq (l.take i) → interp_twice.l0 k l (i : Int) = some r → (r = 6 ∧ ¬ Hand.Uniq l) ∨ (r = 0 ∧ Hand.Uniq l) := by
 intro n; induction n with
 | zero =>
  intro k i hk _ _ h; obtain rfl : k = 0 := by omega
  simp [interp_twice.l0] at h
 | succ n ih =>
  intro k i hk hi hu h; cases k with
  | zero => simp [interp_twice.l0] at h
  | succ k =>
   simp only [interp_twice.l0] at h; by_cases c : (i : Int) < (l.length : Int)
   ·rw [if_pos c] at h; rcases twice_in l hm r k 0 i (by omega) (by omega) (fun j' h => absurd h (by omega)) h with h | ⟨h1, k', h2, h3⟩
    ·exact .inl h
    ·refine ih k' (i + 1) (by omega) (by omega) (hu.step (by omega) ?_) h3; intro hmem; obtain ⟨j, hj, e⟩ := List.mem_iff_getElem.1 hmem; rw [List.length_take] at hj; rw [List.getElem_take] at e; exact h1 j (by omega) (by omega) (by omega) e
   ·rw [if_neg c] at h; rw [List.take_of_length_le (by omega)] at hu; exact .inr ⟨(Option.some.inj h).symm, hu⟩
theorem twice_is (k : Nat) (l : List Int) (r : Int) (hm : l.length ≤ 9223372036854775807) (h : interp_twice.f k l = some r) : (∀ x ∈ l, 0 ≤ x ∧ x < 18446744073709551616) ∧ ((r = 6 ∧ ¬ Hand.Uniq l) ∨ (r = 0 ∧ Hand.Uniq l)) := by
 unfold interp_twice.f at h; split at h
 ·rename_i hw
  refine ⟨by simpa using hw, twice_out l hm r k k 0 (Nat.le_refl _) (by omega) (fun i j _ hj _ => absurd hj (by simp)) h⟩
 ·cases h
set_option maxHeartbeats 8000000 in
set_option maxRecDepth 100000 in
theorem interp_may.calls (k : Nat) (a0 : Int) (A1 : Option Addr) (c1 : Nat) (l1 : List Int) (A2 : Option Addr) (c2 : Nat) (l2 : List Int) (A3 : Option Addr) (c3 : Nat) (l3 : List Int) (r : Int) (w : World) (hr1 : Kd.C (Kd.int .u64) w A1 l1.length l1) (hc1 : l1.length ≤ c1) (hr2 : Kd.C (Kd.int .u64) w A2 l2.length l2) (hc2 : l2.length ≤ c2) (hr3 : Kd.C (Kd.int .u64) w A3 l3.length l3) (hc3 : l3.length ≤ c3) (h : interp_may.f k a0 l1 l2 l3 = some r) :
  Calls Try.prog 35 #[.int .u8 a0, .slice A1 l1.length c1, .slice A2 l2.length c2, .slice A3 l3.length c3] w fun e w' => e = .returned (.int .i64 r) ∧ Below w.heap.size w w' := by
 have HR1 := am hr1; have HC1 := am hc1; clear hr1 hc1; have HR2 := am hr2; have HC2 := am hc2; clear hr2 hc2; have HR3 := am hr3; have HC3 := am hc3; clear hr3 hc3; have HB := am (Below.refl w.heap.size w); have H : ((field_In.f k a0 l1).bind fun t116 => (if t116 = true then ((field_In.f k a0 l2).bind fun t117 => (if t117 = true then ((field_In.f k a0 l3).bind fun t118 => (interp_may.j0 k l1 l2 l3 (!t118))) else (interp_may.j0 k l1 l2 l3 true))) else (interp_may.j0 k l1 l2 l3 true))) = some r := h; clear h; have HC5 := am H; clear H; go_enter Try.func35, Try.ntmps35
 go_upto_region 1 with (fail)
 go_cut [12] (fun v12 wc => ∃ (kq : Nat) (x12_4 : Bool), v12 = .bool x12_4 ∧ Aside0 (interp_may.j0 kq l1 l2 l3 x12_4 = some r) ∧ Aside0 (kq ≤ k) ∧ Aside0 (Below w.heap.size w wc))
 case first =>
  have H := HC5.out; clear HC5; replace H := Option.bind_eq_some_iff.mp H; obtain ⟨t116, A60, H⟩ := H; replace H : (if t116 = true then ((field_In.f k a0 l2).bind fun t117 => (if t117 = true then ((field_In.f k a0 l3).bind fun t118 => (interp_may.j0 k l1 l2 l3 (!t118))) else (interp_may.j0 k l1 l2 l3 true))) else (interp_may.j0 k l1 l2 l3 true)) = some r := H; have A6 := am A60; clear A60; by_cases c7 : t116 = true
  ·subst c7; have H1 : ((field_In.f k a0 l2).bind fun t117 => (if t117 = true then ((field_In.f k a0 l3).bind fun t118 => (interp_may.j0 k l1 l2 l3 (!t118))) else (interp_may.j0 k l1 l2 l3 true))) = some r := by rw [if_pos rfl] at H; exact H
   clear H; have H := H1; clear H1; replace H := Option.bind_eq_some_iff.mp H; obtain ⟨t117, A80, H⟩ := H; replace H : (if t117 = true then ((field_In.f k a0 l3).bind fun t118 => (interp_may.j0 k l1 l2 l3 (!t118))) else (interp_may.j0 k l1 l2 l3 true)) = some r := H; have A8 := am A80; clear A80; by_cases c9 : t117 = true
   ·subst c9; have H1 : ((field_In.f k a0 l3).bind fun t118 => (interp_may.j0 k l1 l2 l3 (!t118))) = some r := by rw [if_pos rfl] at H; exact H
    clear H; have H := H1; clear H1; replace H := Option.bind_eq_some_iff.mp H; obtain ⟨t118, A100, H⟩ := H; replace H : (interp_may.j0 k l1 l2 l3 (!t118)) = some r := H; have A10 := am A100; clear A100; have H' := am H; clear H; go_wp2_with (first | ((with_reducible refine gate_callee (f := 51) rfl ?_); refine goesL_ (some 15) rfl rfl Try.func51 Z12 rfl #[.int .u8 a0, .slice A1 l1.length c1] rfl Z2 ?_; (with_reducible refine (field_In.calls k a0 _ _ l1 true _ ?side1 ?side2 A6.out).mono ?_); (case side1 => repeat (first | exact (Kd.C_below HR1.out HB.out) | (with_reducible refine Kd.C_alloc ?_ _) | (with_reducible refine Kd.C_drewN ?_ _) | (with_reducible refine Kd.C_drew ?_))); (case side2 => exact HC1.out); rintro e w11 ⟨rfl, hb⟩; refine ⟨_, rfl, ?_⟩; replace HB := am (below_step Z1 hb); (try clear hb)) | (go_at_call 51; (with_reducible refine (field_In.calls k a0 _ _ l2 true _ ?side1 ?side2 A8.out).mono ?_); (case side1 => repeat (first | exact (Kd.C_below HR2.out HB.out) | (with_reducible refine Kd.C_alloc ?_ _) | (with_reducible refine Kd.C_drewN ?_ _) | (with_reducible refine Kd.C_drew ?_))); (case side2 => exact HC2.out); rintro e w12 ⟨rfl, hb⟩; replace HB := am (below_step Z1 hb); (try clear hb)) | (go_at_call 51; (with_reducible refine (field_In.calls k a0 _ _ l3 t118 _ ?side1 ?side2 A10.out).mono ?_); (case side1 => repeat (first | exact (Kd.C_below HR3.out HB.out) | (with_reducible refine Kd.C_alloc ?_ _) | (with_reducible refine Kd.C_drewN ?_ _) | (with_reducible refine Kd.C_drew ?_))); (case side2 => exact HC3.out); rintro e w13 ⟨rfl, hb⟩; replace HB := am (below_step Z1 hb); (try clear hb)))
    go_meet
    case rel => exact ⟨_, (!t118), Z7, H', ⟨Z74⟩, ⟨Z1⟩⟩
   ·replace c9 := Bool.eq_false_iff.mpr c9; subst c9; have H1 : (interp_may.j0 k l1 l2 l3 true) = some r := by rw [if_neg (show ¬ (false = true) by decide)] at H; exact H
    clear H; have H := H1; clear H1; have H' := am H; clear H; go_wp2_with (first | ((with_reducible refine gate_callee (f := 51) rfl ?_); refine goesL_ (some 15) rfl rfl Try.func51 Z12 rfl #[.int .u8 a0, .slice A1 l1.length c1] rfl Z2 ?_; (with_reducible refine (field_In.calls k a0 _ _ l1 true _ ?side1 ?side2 A6.out).mono ?_); (case side1 => repeat (first | exact (Kd.C_below HR1.out HB.out) | (with_reducible refine Kd.C_alloc ?_ _) | (with_reducible refine Kd.C_drewN ?_ _) | (with_reducible refine Kd.C_drew ?_))); (case side2 => exact HC1.out); rintro e w14 ⟨rfl, hb⟩; refine ⟨_, rfl, ?_⟩; replace HB := am (below_step Z1 hb); (try clear hb)) | (go_at_call 51; (with_reducible refine (field_In.calls k a0 _ _ l2 false _ ?side1 ?side2 A8.out).mono ?_); (case side1 => repeat (first | exact (Kd.C_below HR2.out HB.out) | (with_reducible refine Kd.C_alloc ?_ _) | (with_reducible refine Kd.C_drewN ?_ _) | (with_reducible refine Kd.C_drew ?_))); (case side2 => exact HC2.out); rintro e w15 ⟨rfl, hb⟩; replace HB := am (below_step Z1 hb); (try clear hb)))
    go_meet
    case rel => exact ⟨_, (true), Z7, H', ⟨Z74⟩, ⟨Z1⟩⟩
  ·replace c7 := Bool.eq_false_iff.mpr c7; subst c7; have H1 : (interp_may.j0 k l1 l2 l3 true) = some r := by rw [if_neg (show ¬ (false = true) by decide)] at H; exact H
   clear H; have H := H1; clear H1; have H' := am H; clear H; go_wp2_with (first | ((with_reducible refine gate_callee (f := 51) rfl ?_); refine goesL_ (some 15) rfl rfl Try.func51 Z12 rfl #[.int .u8 a0, .slice A1 l1.length c1] rfl Z2 ?_; (with_reducible refine (field_In.calls k a0 _ _ l1 false _ ?side1 ?side2 A6.out).mono ?_); (case side1 => repeat (first | exact (Kd.C_below HR1.out HB.out) | (with_reducible refine Kd.C_alloc ?_ _) | (with_reducible refine Kd.C_drewN ?_ _) | (with_reducible refine Kd.C_drew ?_))); (case side2 => exact HC1.out); rintro e w16 ⟨rfl, hb⟩; refine ⟨_, rfl, ?_⟩; replace HB := am (below_step Z1 hb); (try clear hb)))
   go_meet
   case rel => exact ⟨_, (true), Z7, H', ⟨Z74⟩, ⟨Z1⟩⟩
 case rest =>
  clear HC5; (try clear c1); (try clear c2); (try clear p2); (try clear c3); (try clear c5); (try clear c7); (try clear c9); obtain ⟨kq, x12_4, rfl, HA, HJ4, HB⟩ := hcut; cases kq with
  | zero => exact absurd HA.out (by simp [interp_may.j0])
  | succ kj4 =>
   have H := HA.out; clear HA; simp only [interp_may.j0] at H; by_cases c17 : x12_4 = true
   ·subst c17; have H1 : (some 2) = some r := by rw [if_pos rfl] at H; exact H
    clear H; have H := H1; clear H1; obtain rfl := Option.some.inj H; go_wp2; go_ret; exact ⟨Z5, Z1⟩
   ·replace c17 := Bool.eq_false_iff.mpr c17; subst c17; have H1 : (if (l1.length : Int) = (l2.length : Int) then (if (l1.length : Int) > 512 then (some 4) else (if (l3.length : Int) > 512 then (some 4) else ((interp_twice.f kj4 l1).bind fun t119 => (some t119)))) else (some 3)) = some r := by rw [if_neg (show ¬ (false = true) by decide)] at H; exact H
    clear H; have H := H1; clear H1; by_cases c18 : (l1.length : Int) = (l2.length : Int)
    ·rw [if_pos c18] at H; have c18b0 : ((l1.length : Int) == (l2.length : Int)) = true := beq_iff_eq.mpr c18; have c18b1 : ((l1.length : Int) != (l2.length : Int)) = false := bne_eq_false_iff_eq.mpr c18; have c18b2 : (l1.length == l2.length) = true := by first | simpa using c18 | (simp at c18 ⊢; omega)
     clear c18; by_cases c19 : (l1.length : Int) > 512
     ·rw [if_pos c19] at H; have c19b0 : decide (512 < (l1.length : Int)) = true := decide_eq_true c19; have c19b1 : decide (512 < l1.length) = true := decide_eq_true (by omega); clear c19; obtain rfl := Option.some.inj H; go_wp2; go_ret; exact ⟨Z5, Z1⟩
     ·rw [if_neg c19] at H; have c19b0 : decide (512 < (l1.length : Int)) = false := decide_eq_false c19; have c19b1 : decide (512 < l1.length) = false := decide_eq_false (by omega); clear c19; by_cases c20 : (l3.length : Int) > 512
      ·rw [if_pos c20] at H; have c20b0 : decide (512 < (l3.length : Int)) = true := decide_eq_true c20; have c20b1 : decide (512 < l3.length) = true := decide_eq_true (by omega); clear c20; obtain rfl := Option.some.inj H; go_wp2; go_ret; exact ⟨Z5, Z1⟩
      ·rw [if_neg c20] at H; have c20b0 : decide (512 < (l3.length : Int)) = false := decide_eq_false c20; have c20b1 : decide (512 < l3.length) = false := decide_eq_false (by omega); clear c20; replace H := Option.bind_eq_some_iff.mp H; obtain ⟨t119, A210, H⟩ := H; replace H : (some t119) = some r := H; have A21 := am A210; clear A210; obtain rfl := Option.some.inj H; have hmm_ := @run_makeMap Try.prog; have hlen_ : l1.length ≤ 9223372036854775807 := by have := HR1.out.2.1; omega
       have hreach_ : l1.length ≤ 512 := by have := of_decide_eq_false (by assumption : decide (512 < l1.length) = false); omega
       have TW := am (twice_is kj4 l1 t119 hlen_ A21.out); have hz_ : ∀ W : World, (zeroValue 3).run Try.prog W = .ok (.int .i64 0) W := fun W => by kernel_rfl
       have HL := am (And.intro hlen_ hreach_); clear hlen_ hreach_; go_wp2; have HGM := am HB.out.size; go_loopw [47] (fun v wr => ∃ i : Int, v = .int .i64 i ∧ Aside0 (0 ≤ i ∧ i ≤ l1.length) ∧ Aside0 (Hand.Uniq (l1.take i.toNat)) ∧ Aside0 (wr.ownsMap Try.prog 24 (plainElem (H := Unit) Try.prog 3) wc.heap.size i.toNat (Hand.cntMap (l1.take i.toNat))) ∧ Aside0 (Below w.heap.size w wr)) (fun v _ => l1.length - (intOf v).toNat)
       case atStart => exact ⟨0, rfl, ⟨by omega⟩, ⟨fun i j _ hj _ => absurd hj (by simp)⟩, ⟨World.ownsMap_made _ _ _ _⟩, ⟨below_alloc HB.out _⟩⟩
       case round =>
        clear H hmm_; obtain ⟨i, rfl, HI, HU, HM, HB⟩ := hrel; by_cases c : i < (l1.length : Int)
        ·have cb : decide (i < (l1.length : Int)) = true := decide_eq_true c; have p0 : 0 ≤ i := HI.out.1; obtain ⟨ad, e1, hx⟩ := Kd.at_int HR1.out i p0 c; cases e1; replace hx := (HB.out.cell (World.block_lt_of_cell? w _ hx)).trans hx; have hin : i.toNat < l1.length := by omega
         have hrd : rd l1 i = l1[i.toNat] := by simp [rd, hin]
         obtain ⟨x, hxe⟩ : ∃ x, x = rd l1 i := ⟨_, rfl⟩; rw [← hxe] at hx hrd; have hkey : keyOf Try.prog 24 (.int .u64 x) = some (.int .u64 x) := Go.Maps.keyOf_int_mk Try.underlying24 (by
          have h_ := TW.out.1 x (by rw [hrd]; exact List.getElem_mem _); simp [Lit.wf, IntKind.min, IntKind.max, IntKind.bits, IntKind.signed]; omega)
         have hat0 := Hand.cntMap_at x (l1.take i.toNat); have HN := am (show ∃ h_ : i.toNat < l1.length, x = l1[i.toNat] from ⟨hin, hrd⟩); have HE : i + 1 ≤ 9223372036854775807 := by have := HL.out; omega
         have EW := am (show wrap64 (i + 1) = i + 1 from by unfold wrap64; omega); have HM2 := am (show i.toNat < maxLen from by unfold maxLen; have := HL.out; omega); replace p0 := eq_true p0; have q0 := eq_true c; clear c hin hrd hxe; by_cases hm : x ∈ l1.take i.toNat
         ·rw [if_pos hm] at hat0; have HAT := am hat0; obtain rfl : t119 = 6 := by
           rcases TW.out.2 with ⟨h_, _⟩ | ⟨_, hu⟩
           ·exact h_
           ·obtain ⟨hn1, hn2⟩ := HN.out; exact absurd hu (Hand.Uniq.no hn1 (by rw [← hn2]; exact hm))
          clear hat0 hm TW; go_wp2_with (first | (at_lookup; refine wpList_lookup_own_int _ rfl (.tmp 51) (.tmp 52) 76 rfl 24 3 .i64 (Go.Maps.int_keyed Try.underlying24) Try.underlying76 Try.underlying3 (hz_ _) wc.heap.size i.toNat _ rfl HM.out _ _ rfl hkey ?_; intro c1_ hat1 hwc1; obtain rfl : c1_ = 1 := (by have h_ := HAT.out.symm.trans hat1; injection h_ with h_; injection h_ with _ h_; exact h_.symm); clear hat1 hwc1) | (at_mapUpdate; refine wpList_mapUpdate_own _ rfl (.tmp 51) (.tmp 52) (.tmp 54) 76 rfl 24 3 (Go.Maps.int_keyed Try.underlying24) Try.underlying76 _ wc.heap.size i.toNat _ rfl HM.out HM2.out _ _ _ rfl rfl hkey _ [] (plainElem_int Try.underlying3 (by first | decide | exact wrap64_wf _)) ?_; intro w1 hown1 hgrow1; have HO1 := am hown1; have HG1 := am hgrow1; clear hown1 hgrow1) | (at_lookup; refine wpList_lookup_own_int _ rfl (.tmp 55) (.tmp 56) 76 rfl 24 3 .i64 (Go.Maps.int_keyed Try.underlying24) Try.underlying76 Try.underlying3 (hz_ _) wc.heap.size (i.toNat + 1) _ rfl HO1.out _ _ rfl hkey ?_; intro c2_ hat2 hwc2; obtain rfl : c2_ = 2 := Z77; clear hat2 hwc2))
          go_ret; exact ⟨by first | rfl | simp, HB.out.grown HG1.out HB.out.size (fun j hj => by cases hj; exact HGM.out)⟩
         ·rw [if_neg hm] at hat0; have HAT := am hat0; have HNM := am hm; clear hat0 hm; go_wp2_with (first | (at_lookup; refine wpList_lookup_own_int _ rfl (.tmp 51) (.tmp 52) 76 rfl 24 3 .i64 (Go.Maps.int_keyed Try.underlying24) Try.underlying76 Try.underlying3 (hz_ _) wc.heap.size i.toNat _ rfl HM.out _ _ rfl hkey ?_; intro c1_ hat1 hwc1; obtain rfl : c1_ = 0 := (by have h_ := HAT.out.symm.trans hat1; injection h_ with h_; injection h_ with _ h_; exact h_.symm); clear hat1 hwc1) | (at_mapUpdate; refine wpList_mapUpdate_own _ rfl (.tmp 51) (.tmp 52) (.tmp 54) 76 rfl 24 3 (Go.Maps.int_keyed Try.underlying24) Try.underlying76 _ wc.heap.size i.toNat _ rfl HM.out HM2.out _ _ _ rfl rfl hkey _ [] (plainElem_int Try.underlying3 (by first | decide | exact wrap64_wf _)) ?_; intro w1 hown1 hgrow1; have HO1 := am hown1; have HG1 := am hgrow1; clear hown1 hgrow1) | (at_lookup; refine wpList_lookup_own_int _ rfl (.tmp 55) (.tmp 56) 76 rfl 24 3 .i64 (Go.Maps.int_keyed Try.underlying24) Try.underlying76 Try.underlying3 (hz_ _) wc.heap.size (i.toNat + 1) _ rfl HO1.out _ _ rfl hkey ?_; intro c2_ hat2 hwc2; obtain rfl : c2_ = 1 := Z77; clear hat2 hwc2))
          go_roundw
          case rel =>
           have e2 : (i + 1).toNat = i.toNat + 1 := by have := HI.out.1; omega
           obtain ⟨hn1, hn2⟩ := HN.out; refine ⟨i + 1, (by first | rfl | (rw [EW.out])), ⟨by have := HI.out; omega⟩, ⟨?_⟩, ⟨?_⟩, ⟨HB.out.grown HG1.out HB.out.size (fun j hj => by cases hj; exact HGM.out)⟩⟩
           ·rw [e2]; exact HU.out.step hn1 (by rw [← hn2]; exact HNM.out)
           ·rw [e2, List.take_succ_eq_append_getElem hn1, ← hn2, Hand.cntMap_snoc]; exact HO1.out
          case measure => obtain ⟨hn1, _⟩ := HN.out; have := HI.out; simp [intOf, EW.out]; omega
        ·have cb : decide (i < (l1.length : Int)) = false := decide_eq_false c; obtain rfl : t119 = 0 := by
          rcases TW.out.2 with ⟨_, hn⟩ | ⟨h_, _⟩
          ·exact absurd (by have h2 := HU.out; rwa [List.take_of_length_le (by omega)] at h2) hn
          ·exact h_
         clear c TW; go_wp2; go_ret; exact ⟨by first | rfl | simp, HB.out⟩
    ·rw [if_neg c18] at H; have c18b0 : ((l1.length : Int) == (l2.length : Int)) = false := beq_eq_false_iff_ne.mpr c18; have c18b1 : ((l1.length : Int) != (l2.length : Int)) = true := bne_iff_ne.mpr c18; have c18b2 : (l1.length == l2.length) = false := by first | simpa using c18 | (simp at c18 ⊢; omega)
     obtain rfl := Option.some.inj H; go_wp2; go_ret; exact ⟨Z5, Z1⟩
end Go.Proofs.Ytdafolenaibccaa.P
end
section
namespace Go.Proofs.Ytdafolenaibccaa.P
open Go.RowKit Go.Proofs.YtdafolenaibccaaW.PrintWords Go.Proofs.YtdafolenaibccaaW.PrintLast Go.Proofs.YtdafolenaibccaaW.PrintMore
attribute [local go_sem] max2_int min2_int max_two min_two max_three min_three max_four min_four
set_option linter.unusedVariables false
set_option linter.unusedSimpArgs false
def field_reckoner_add.f (a0_0 : Int) (a0_1 : Bool) (a1 : Int) (a2 : Int) : Option (Int) := if 0 ≤ a1 ∧ 0 ≤ a2 ∧ a1 < 18446744073709551616 ∧ a2 < 18446744073709551616 then (if 18446744073709551616 ≤ a1 + a2 then (some (IntKind.u64.wrap (a1 + a2 - 18446744073709551616 - a0_0))) else (if a0_0 ≤ a1 + a2 then (some (IntKind.u64.wrap (a1 + a2 - a0_0))) else (some (a1 + a2)))) else none
set_option maxHeartbeats 8000000 in
set_option maxRecDepth 100000 in
theorem field_reckoner_add.calls (a0_0 : Int) (a0_1 : Bool) (a1 : Int) (a2 : Int) (r : Int) (w : World) (h : field_reckoner_add.f a0_0 a0_1 a1 a2 = some r) :
  Calls Try.prog 54 #[.agg #[.int .u64 a0_0, .bool a0_1], .int .u64 a1, .int .u64 a2] w fun e w' => e = .returned (.int .u64 r) ∧ Below w.heap.size w w' := by
 have hu78 := Try.underlying78; unfold field_reckoner_add.f at h; by_cases hw : 0 ≤ a1 ∧ 0 ≤ a2 ∧ a1 < 18446744073709551616 ∧ a2 < 18446744073709551616
 case neg => rw [if_neg hw] at h; cases h
 rw [if_pos hw] at h; obtain ⟨h1, h2, h3, h4⟩ := hw; have he : ∀ W : World, (callFunc 70 #[.int .u64 a1, .int .u64 a2, .int .u64 0]).run Try.prog W = .ok (.value (.tuple #[.int .u64 ((a1 + a2 + 0) % 18446744073709551616), .int .u64 ((a1 + a2 + 0) / 18446744073709551616)])) W := by
  intro W; rw [run_callFunc_extern Try.func70 Z12 Z12 Z12 (e := add64Entry) Z12, run_add64 a1 a2 0 h1 h2 (by omega) (by omega)]; rfl
 by_cases c : 18446744073709551616 ≤ a1 + a2
 ·rw [if_pos c] at h; obtain rfl := Option.some.inj h; have he2 : ∀ W : World, (callFunc 70 #[.int .u64 a1, .int .u64 a2, .int .u64 0]).run Try.prog W = .ok (.value (.tuple #[.int .u64 (a1 + a2 - 18446744073709551616), .int .u64 1])) W := by
   intro W; rw [he W, show (a1 + a2 + 0) % 18446744073709551616 = a1 + a2 - 18446744073709551616 by omega, show (a1 + a2 + 0) / 18446744073709551616 = 1 by omega]
  clear he h1 h2 h3 h4 c h; go_enter Try.func54, Try.ntmps54
  go_wp2; go_ret; exact ⟨by first | rfl | simp, (Below.refl _ _).alloc (Nat.le_refl _) _⟩
 ·rw [if_neg c] at h; have he2 : ∀ W : World, (callFunc 70 #[.int .u64 a1, .int .u64 a2, .int .u64 0]).run Try.prog W = .ok (.value (.tuple #[.int .u64 (a1 + a2), .int .u64 0])) W := by
   intro W; rw [he W, show (a1 + a2 + 0) % 18446744073709551616 = a1 + a2 by omega, show (a1 + a2 + 0) / 18446744073709551616 = 0 by omega]
  by_cases c2 : a0_0 ≤ a1 + a2
  ·rw [if_pos c2] at h; obtain rfl := Option.some.inj h; have cb : decide (a0_0 ≤ a1 + a2) = true := decide_eq_true c2; clear he h1 h2 h3 h4 c c2 h; go_enter Try.func54, Try.ntmps54
   go_wp2; go_ret; exact ⟨by first | rfl | simp, (Below.refl _ _).alloc (Nat.le_refl _) _⟩
  ·rw [if_neg c2] at h; obtain rfl := Option.some.inj h; have cb : decide (a0_0 ≤ a1 + a2) = false := decide_eq_false c2; clear he h1 h2 h3 h4 c c2 h; go_enter Try.func54, Try.ntmps54
   go_wp2; go_ret; exact ⟨by first | rfl | simp, (Below.refl _ _).alloc (Nat.le_refl _) _⟩
def bits_Mul64.f (a0 : Int) (a1 : Int) : Option (Int × Int) := some (IntKind.u64.wrap ((IntKind.u64.wrap ((IntKind.u64.wrap ((a0 / 4294967296) * (a1 / 4294967296))) + ((IntKind.u64.wrap ((IntKind.u64.wrap ((a0 / 4294967296) * (Go.bits .and .u64 a1 4294967295))) + ((IntKind.u64.wrap ((Go.bits .and .u64 a0 4294967295) * (Go.bits .and .u64 a1 4294967295))) / 4294967296))) / 4294967296))) + ((IntKind.u64.wrap ((Go.bits .and .u64 (IntKind.u64.wrap ((IntKind.u64.wrap ((a0 / 4294967296) * (Go.bits .and .u64 a1 4294967295))) + ((IntKind.u64.wrap ((Go.bits .and .u64 a0 4294967295) * (Go.bits .and .u64 a1 4294967295))) / 4294967296))) 4294967295) + (IntKind.u64.wrap ((Go.bits .and .u64 a0 4294967295) * (a1 / 4294967296))))) / 4294967296)), IntKind.u64.wrap (a0 * a1))
set_option maxHeartbeats 8000000 in
set_option maxRecDepth 100000 in
theorem bits_Mul64.calls (a0 : Int) (a1 : Int) (r1 : Int) (r2 : Int) (w : World) (h : bits_Mul64.f a0 a1 = some (r1, r2)) :
  Calls Try.prog 71 #[.int .u64 a0, .int .u64 a1] w fun e w' => e = .returned (.tuple #[.int .u64 r1, .int .u64 r2]) ∧ Drawn0 w w' := by
 have H : (some (IntKind.u64.wrap ((IntKind.u64.wrap ((IntKind.u64.wrap ((a0 / 4294967296) * (a1 / 4294967296))) + ((IntKind.u64.wrap ((IntKind.u64.wrap ((a0 / 4294967296) * (Go.bits .and .u64 a1 4294967295))) + ((IntKind.u64.wrap ((Go.bits .and .u64 a0 4294967295) * (Go.bits .and .u64 a1 4294967295))) / 4294967296))) / 4294967296))) + ((IntKind.u64.wrap ((Go.bits .and .u64 (IntKind.u64.wrap ((IntKind.u64.wrap ((a0 / 4294967296) * (Go.bits .and .u64 a1 4294967295))) + ((IntKind.u64.wrap ((Go.bits .and .u64 a0 4294967295) * (Go.bits .and .u64 a1 4294967295))) / 4294967296))) 4294967295) + (IntKind.u64.wrap ((Go.bits .and .u64 a0 4294967295) * (a1 / 4294967296))))) / 4294967296)), IntKind.u64.wrap (a0 * a1))) = some (r1, r2) := h; clear h; simp only [Option.some.injEq, Prod.mk.injEq] at H; obtain ⟨rfl, rfl⟩ := H; go_enter Try.func71, Try.ntmps71
 go_wp2; go_ret2; exact ⟨Z7, Z17⟩
def field_reckoner_sub.f (a0_0 : Int) (a0_1 : Bool) (a1 : Int) (a2 : Int) : Option (Int) := if 0 ≤ a1 ∧ 0 ≤ a2 ∧ a1 < 18446744073709551616 ∧ a2 < 18446744073709551616 then (if a1 < a2 then (some (IntKind.u64.wrap (a1 + 18446744073709551616 - a2 + a0_0))) else (some (a1 - a2))) else none
set_option maxHeartbeats 8000000 in
set_option maxRecDepth 100000 in
theorem field_reckoner_sub.calls (a0_0 : Int) (a0_1 : Bool) (a1 : Int) (a2 : Int) (r : Int) (w : World) (h : field_reckoner_sub.f a0_0 a0_1 a1 a2 = some r) :
  Calls Try.prog 73 #[.agg #[.int .u64 a0_0, .bool a0_1], .int .u64 a1, .int .u64 a2] w fun e w' => e = .returned (.int .u64 r) ∧ Below w.heap.size w w' := by
 have hu78 := Try.underlying78; unfold field_reckoner_sub.f at h; by_cases hw : 0 ≤ a1 ∧ 0 ≤ a2 ∧ a1 < 18446744073709551616 ∧ a2 < 18446744073709551616
 case neg => rw [if_neg hw] at h; cases h
 rw [if_pos hw] at h; obtain ⟨h1, h2, h3, h4⟩ := hw; have he : ∀ W : World, (callFunc 79 #[.int .u64 a1, .int .u64 a2, .int .u64 0]).run Try.prog W = .ok (.value (.tuple #[.int .u64 (((a1.toNat + 18446744073709551616 - a2.toNat - 0) % 18446744073709551616 : Nat) : Int), .int .u64 ((if a1.toNat < a2.toNat + 0 then 1 else 0 : Nat) : Int)])) W := by
  intro W; obtain ⟨x, rfl⟩ := Int.eq_ofNat_of_zero_le h1; obtain ⟨y, rfl⟩ := Int.eq_ofNat_of_zero_le h2; rw [run_callFunc_extern Try.func79 Z12 Z12 Z12 (e := sub64Entry) Z12, show (Value.int IntKind.u64 0) = Value.int IntKind.u64 ((0 : Nat) : Int) from rfl, run_sub64 x y 0 (by omega)]; rfl
 by_cases c : a1 < a2
 ·rw [if_pos c] at h; obtain rfl := Option.some.inj h; have he2 : ∀ W : World, (callFunc 79 #[.int .u64 a1, .int .u64 a2, .int .u64 0]).run Try.prog W = .ok (.value (.tuple #[.int .u64 (a1 + 18446744073709551616 - a2), .int .u64 1])) W := by
   intro W; rw [he W, if_pos (by omega), show (((a1.toNat + 18446744073709551616 - a2.toNat - 0) % 18446744073709551616 : Nat) : Int) = a1 + 18446744073709551616 - a2 by omega]; rfl
  clear he h1 h2 h3 h4 c h; go_enter Try.func73, Try.ntmps73
  go_wp2; go_ret; exact ⟨by first | rfl | simp, (Below.refl _ _).alloc (Nat.le_refl _) _⟩
 ·rw [if_neg c] at h; obtain rfl := Option.some.inj h; have he2 : ∀ W : World, (callFunc 79 #[.int .u64 a1, .int .u64 a2, .int .u64 0]).run Try.prog W = .ok (.value (.tuple #[.int .u64 (a1 - a2), .int .u64 0])) W := by
   intro W; rw [he W, if_neg (by omega), show (((a1.toNat + 18446744073709551616 - a2.toNat - 0) % 18446744073709551616 : Nat) : Int) = a1 - a2 by omega]; rfl
  clear he h1 h2 h3 h4 c h; go_enter Try.func73, Try.ntmps73
  go_wp2; go_ret; exact ⟨by first | rfl | simp, (Below.refl _ _).alloc (Nat.le_refl _) _⟩
end Go.Proofs.Ytdafolenaibccaa.P
end
section
namespace Go.Proofs.Ytdafolenaibccaa.P
open Go.RowKit Go.Proofs.YtdafolenaibccaaW.PrintWords Go.Proofs.YtdafolenaibccaaW.PrintLast Go.Proofs.YtdafolenaibccaaW.PrintMore
attribute [local go_sem] max2_int min2_int max_two min_two max_three min_three max_four min_four
set_option linter.unusedVariables false
set_option linter.unusedSimpArgs false
def field_reckoner_mul.f (a0_0 : Int) (a0_1 : Bool) (a1 : Int) (a2 : Int) : Option (Int) := (bits_Mul64.f a1 a2).bind fun bt123 => (if a0_1 = true then (if bt123.2 ≥ a0_0 then ((field_reckoner_sub.f a0_0 a0_1 (IntKind.u64.wrap (bt123.2 - a0_0)) (bt123.1 / 4294967296)).bind fun t125 => ((field_reckoner_add.f a0_0 a0_1 t125 (IntKind.u64.wrap ((IntKind.u64.wrap ((Go.bits .and .u64 bt123.1 4294967295) * 4294967296)) - (Go.bits .and .u64 bt123.1 4294967295)))).bind fun t126 => (some t126))) else ((field_reckoner_sub.f a0_0 a0_1 bt123.2 (bt123.1 / 4294967296)).bind fun t127 => ((field_reckoner_add.f a0_0 a0_1 t127 (IntKind.u64.wrap ((IntKind.u64.wrap ((Go.bits .and .u64 bt123.1 4294967295) * 4294967296)) - (Go.bits .and .u64 bt123.1 4294967295)))).bind fun t128 => (some t128)))) else (if bt123.1 = 0 then (if a0_0 > 0 then (if a0_0 = 0 then (none) else (some (Int.tmod bt123.2 a0_0))) else (none)) else (none)))
def field_reckoner_mul.T7 : Bool × List (List Nat × List Nat) := (true, [([], []), ([], []), ([], []), ([], []), ([1, 2, 3], [1, 2, 3]), ([], []), ([5], [5]), ([], []), ([6, 7], [6, 7]), ([0, 4, 8, 4], [0, 4, 8]), ([9, 9, 0, 1, 2, 3, 4, 5, 6, 7, 8, 9], [9])])
def field_reckoner_mul.B7 : List Nat := [0, 0, 0, 0, 14, 0, 32, 0, 224, 511, 1023]
theorem field_reckoner_mul.tab7 : rtab .any (opsOf Try.f55 7) = field_reckoner_mul.T7 := by kernel_rfl
theorem field_reckoner_mul.bits7 : waitsOk field_reckoner_mul.T7.2 field_reckoner_mul.B7 = true := by kernel_rfl
set_option maxHeartbeats 1000000 in
theorem div64_small (lo p : Int) (w : World) (hp : 0 < p) : Calls Try.prog 78 #[.int .u64 0, .int .u64 lo, .int .u64 p] w fun e w' => e = .returned (.tuple #[.int .u64 (IntKind.u64.wrap (lo.tdiv p)), .int .u64 (lo.tmod p)]) ∧ Drawn0 w w' := by
 have b1 : (p == 0) = false := beq_eq_false_iff_ne.mpr (by omega); have b2 : decide (p ≤ 0) = false := decide_eq_false (by omega); have b3 : ¬ p = 0 := by omega
 go_enter Try.func78, Try.ntmps78
 go_wp2; go_quiet (fail)
 go_wp2; go_ret2; exact ⟨rfl, Z17⟩
set_option maxHeartbeats 1000000 in
theorem rem64_small (hi lo p : Int) (w : World) (hh : hi = 0) (hp : 0 < p) : Calls Try.prog 72 #[.int .u64 hi, .int .u64 lo, .int .u64 p] w fun e w' => e = .returned (.int .u64 (lo.tmod p)) ∧ Drawn0 w w' := by
 subst hh; have b3 : ¬ p = 0 := by omega
 have HP := am hp; clear hp; go_enter Try.func72, Try.ntmps72
 go_wp2_with (go_at_call 78; (try simp only [Int.zero_tmod, Int.zero_emod]); ((with_reducible refine (div64_small lo p _ HP.out).mono ?_); rintro e w' ⟨rfl, ⟨nd, rfl⟩⟩))
 go_ret; exact ⟨rfl, Z17⟩
set_option maxHeartbeats 8000000 in
set_option maxRecDepth 100000 in
theorem field_reckoner_mul.calls (a0_0 : Int) (a0_1 : Bool) (a1 : Int) (a2 : Int) (r : Int) (w : World) (h : field_reckoner_mul.f a0_0 a0_1 a1 a2 = some r) :
  Calls Try.prog 55 #[.agg #[.int .u64 a0_0, .bool a0_1], .int .u64 a1, .int .u64 a2] w fun e w' => e = .returned (.int .u64 r) ∧ Below w.heap.size w w' := by
 have hu78 := Try.underlying78; have HB := am (Below.refl w.heap.size w); have H : ((bits_Mul64.f a1 a2).bind fun bt123 => (if a0_1 = true then (if bt123.2 ≥ a0_0 then ((field_reckoner_sub.f a0_0 a0_1 (IntKind.u64.wrap (bt123.2 - a0_0)) (bt123.1 / 4294967296)).bind fun t125 => ((field_reckoner_add.f a0_0 a0_1 t125 (IntKind.u64.wrap ((IntKind.u64.wrap ((Go.bits .and .u64 bt123.1 4294967295) * 4294967296)) - (Go.bits .and .u64 bt123.1 4294967295)))).bind fun t126 => (some t126))) else ((field_reckoner_sub.f a0_0 a0_1 bt123.2 (bt123.1 / 4294967296)).bind fun t127 => ((field_reckoner_add.f a0_0 a0_1 t127 (IntKind.u64.wrap ((IntKind.u64.wrap ((Go.bits .and .u64 bt123.1 4294967295) * 4294967296)) - (Go.bits .and .u64 bt123.1 4294967295)))).bind fun t128 => (some t128)))) else (if bt123.1 = 0 then (if a0_0 > 0 then (if a0_0 = 0 then (none) else (some (Int.tmod bt123.2 a0_0))) else (none)) else (none)))) = some r := h; clear h; replace H := Option.bind_eq_some_iff.mp H; obtain ⟨⟨t123, t124⟩, A40, H⟩ := H; replace H : (if a0_1 = true then (if t124 ≥ a0_0 then ((field_reckoner_sub.f a0_0 a0_1 (IntKind.u64.wrap (t124 - a0_0)) (t123 / 4294967296)).bind fun t125 => ((field_reckoner_add.f a0_0 a0_1 t125 (IntKind.u64.wrap ((IntKind.u64.wrap ((Go.bits .and .u64 t123 4294967295) * 4294967296)) - (Go.bits .and .u64 t123 4294967295)))).bind fun t126 => (some t126))) else ((field_reckoner_sub.f a0_0 a0_1 t124 (t123 / 4294967296)).bind fun t127 => ((field_reckoner_add.f a0_0 a0_1 t127 (IntKind.u64.wrap ((IntKind.u64.wrap ((Go.bits .and .u64 t123 4294967295) * 4294967296)) - (Go.bits .and .u64 t123 4294967295)))).bind fun t128 => (some t128)))) else (if t123 = 0 then (if a0_0 > 0 then (if a0_0 = 0 then (none) else (some (Int.tmod t124 a0_0))) else (none)) else (none))) = some r := H; have A4 := am A40; clear A40; by_cases c5 : a0_1 = true
 ·subst c5; have H1 : (if t124 ≥ a0_0 then ((field_reckoner_sub.f a0_0 true (IntKind.u64.wrap (t124 - a0_0)) (t123 / 4294967296)).bind fun t125 => ((field_reckoner_add.f a0_0 true t125 (IntKind.u64.wrap ((IntKind.u64.wrap ((Go.bits .and .u64 t123 4294967295) * 4294967296)) - (Go.bits .and .u64 t123 4294967295)))).bind fun t126 => (some t126))) else ((field_reckoner_sub.f a0_0 true t124 (t123 / 4294967296)).bind fun t127 => ((field_reckoner_add.f a0_0 true t127 (IntKind.u64.wrap ((IntKind.u64.wrap ((Go.bits .and .u64 t123 4294967295) * 4294967296)) - (Go.bits .and .u64 t123 4294967295)))).bind fun t128 => (some t128)))) = some r := by rw [if_pos rfl] at H; exact H
  clear H; have H := H1; clear H1; by_cases c6 : t124 ≥ a0_0
  ·rw [if_pos c6] at H; have c6b0 : decide (a0_0 ≤ t124) = true := decide_eq_true c6; clear c6; replace H := Option.bind_eq_some_iff.mp H; obtain ⟨t125, A70, H⟩ := H; replace H : ((field_reckoner_add.f a0_0 true t125 (IntKind.u64.wrap ((IntKind.u64.wrap ((Go.bits .and .u64 t123 4294967295) * 4294967296)) - (Go.bits .and .u64 t123 4294967295)))).bind fun t126 => (some t126)) = some r := H; have A7 := am A70; clear A70; replace H := Option.bind_eq_some_iff.mp H; obtain ⟨t126, A80, H⟩ := H; replace H : (some t126) = some r := H; have A8 := am A80; clear A80; obtain rfl := Option.some.inj H; go_enter Try.func55, Try.ntmps55
   (try go_wp2_with (first | ((with_reducible refine gate_dst (N := 3) rfl ?_); refine box_event ?hg (N := 3) ?hd (cs := #[.int .u64 a0_0, .bool true]) (t := 78) ?hr ?_; (case hd => rfl); (case hg => rfl); (case hr => first | (go_simp; done) | (go_simp; rfl)); intro gb122 hg w9 hbox hb; have BK122 := am (hbox); have GW122 := am ((Z57 : w.heap.size ≤ gb122)); have GE122 := am ((Z57 : w.heap.size ≤ gb122)); replace HB := am (below_step Z1 hb); clear hb hbox hg) | ((with_reducible refine gate_callee (f := 71) rfl ?_); refine goesL_ (some 14) rfl rfl Try.func71 Z12 rfl #[.int .u64 a1, .int .u64 a2] rfl Z2 ?_; (with_reducible refine (bits_Mul64.calls a1 a2 t123 t124 _ A4.out).mono ?_); rintro e w' ⟨rfl, ⟨nd, rfl⟩⟩; refine ⟨_, rfl, ?_⟩; have hcz10_0 : w9.cell? ⟨gb122, 0, none⟩ = some (.int .u64 a0_0) := (blk_cell BK122.out 0).trans rfl; have hcz10_1 : w9.cell? ⟨gb122, 1, none⟩ = some (.bool true) := (blk_cell BK122.out 1).trans rfl; have hfz10_0 := blk_frozen BK122.out 0; have hfz10_1 := blk_frozen BK122.out 1) | (go_at_call 72; ((with_reducible refine (rem64_small _ _ _ _ (eq_of_beq (by assumption)) (of_decide_eq_true (by assumption))).mono ?_); rintro e w' ⟨rfl, ⟨nd, rfl⟩⟩)))); (try (rw [drewN_self w9]; generalize hq_ : World.drewN w9 _ = w9; replace BK122 : Aside0 (w9.heap[gb122]? = some (.cells #[.int .u64 a0_0, .bool true] 78 (0, 0))) := ⟨by rw [← hq_]; exact Z53⟩; replace HB : Aside0 (Below w.heap.size w w9) := ⟨by rw [← hq_]; exact Z23⟩; clear hq_))
   replace BK122 := am (blk_drew BK122.out); replace HB := am (below_drew1 HB.out); refine start_ (n := 11) (S := fun w' => w'.cell? ⟨gb122, 0, none⟩ = some (.int .u64 a0_0) ∧ w'.cell? ⟨gb122, 1, none⟩ = some (.bool true)) (ds := []) #[false, false, false, false, false, false, false, false, false, false, false] Z12 rfl rfl ⟨(blk_cell BK122.out 0).trans rfl, (blk_cell BK122.out 1).trans rfl⟩ (fun hHeld => ?_); refine with_tabW field_reckoner_mul.tab7 field_reckoner_mul.bits7 (fun HT_ HW_ => ?_)
   generalize w9.drew = w11 at BK122 HB hHeld ⊢
   refine pure_ (i := 2) (N := some 39) (v := ?_) (a' := ?_) #[false, false, true, false, false, false, false, false, false, false, false] rfl rfl (any_of HT_.out Z12) (fun _ _ _ h => h) (Or.inl ⟨by rfl, ?_⟩) ?_ ?_; rotate_left
   ·intro w'; go_simp; with_reducible rfl
   rotate_left
   ·simp only [Act.put, List.setIfInBounds_toArray, List.set_cons_zero, List.set_cons_succ, i64_w, i32_w]; rfl
   refine pure_ (i := 3) (N := some 40) (v := ?_) (a' := ?_) #[false, false, true, true, false, false, false, false, false, false, false] rfl rfl (any_of HT_.out Z12) (fun _ _ _ h => h) (Or.inl ⟨by rfl, ?_⟩) ?_ ?_; rotate_left
   ·intro w'; go_simp; with_reducible rfl
   rotate_left
   ·simp only [Act.put, List.setIfInBounds_toArray, List.set_cons_zero, List.set_cons_succ, i64_w, i32_w]; rfl
   refine pure_ (i := 5) (N := some 42) (v := ?_) (a' := ?_) #[false, false, true, true, false, true, false, false, false, false, false] rfl rfl (any_of HT_.out Z12) (fun _ _ _ h => h) (Or.inl ⟨by rfl, ?_⟩) ?_ ?_; rotate_left
   ·intro w'; go_simp; with_reducible rfl
   rotate_left
   ·simp only [Act.put, List.setIfInBounds_toArray, List.set_cons_zero, List.set_cons_succ, i64_w, i32_w]; rfl
   refine pure_ (i := 6) (N := some 43) (v := ?_) (a' := ?_) #[false, false, true, true, false, true, true, false, false, false, false] rfl rfl (any_of HT_.out Z12) (fun _ _ _ h => h) (Or.inl ⟨by rfl, ?_⟩) ?_ ?_; rotate_left
   ·intro w'; go_simp; with_reducible rfl
   rotate_left
   ·simp only [Act.put, List.setIfInBounds_toArray, List.set_cons_zero, List.set_cons_succ, i64_w, i32_w]; rfl
   refine pure_ (i := 7) (N := some 44) (v := ?_) (a' := ?_) #[false, false, true, true, false, true, true, true, false, false, false] rfl rfl (any_of HT_.out Z12) (fun _ _ _ h => h) (Or.inl ⟨by rfl, ?_⟩) ?_ ?_; rotate_left
   ·intro w'; go_simp; with_reducible rfl
   rotate_left
   ·simp only [Act.put, List.setIfInBounds_toArray, List.set_cons_zero, List.set_cons_succ, i64_w, i32_w]; rfl
   refine pure_ (i := 8) (N := some 45) (v := ?_) (a' := ?_) #[false, false, true, true, false, true, true, true, true, false, false] rfl rfl (any_of HT_.out Z12) (fun _ _ _ h => h) (Or.inl ⟨by rfl, ?_⟩) ?_ ?_; rotate_left
   ·intro w'; go_simp; with_reducible rfl
   rotate_left
   ·simp only [Act.put, List.setIfInBounds_toArray, List.set_cons_zero, List.set_cons_succ, i64_w, i32_w]; rfl
   refine take_ (i := 0) (N := some 37) (v := ?_) (a' := ?_) #[true, false, true, true, false, true, true, true, true, false, false] rfl rfl (take_ofW HT_.out HW_.out Z12) (fun _ _ _ h => h) (Or.inl ⟨by rfl, ?_⟩) hHeld ?_ ?_; rotate_left
   ·rintro w' ⟨s0, s1⟩; go_simp; with_reducible rfl
   rotate_left
   ·simp only [Act.put, List.setIfInBounds_toArray, List.set_cons_zero, List.set_cons_succ, i64_w, i32_w]; rfl
   refine take_ (i := 1) (N := some 38) (v := ?_) (a' := ?_) #[true, true, true, true, false, true, true, true, true, false, false] rfl rfl (take_ofW HT_.out HW_.out Z12) (fun _ _ _ h => h) (Or.inl ⟨by rfl, ?_⟩) hHeld ?_ ?_; rotate_left
   ·rintro w' ⟨s0, s1⟩; go_simp; with_reducible rfl
   rotate_left
   ·simp only [Act.put, List.setIfInBounds_toArray, List.set_cons_zero, List.set_cons_succ, i64_w, i32_w]; rfl
   refine one_ (i := 4) (N := some 41) #[true, true, true, true, true, true, true, true, true, false, false] rfl rfl (one_of HT_.out Z12) Z101 (fun K hK => ?_); refine goes_ Try.func73 Z12 rfl #[.agg #[.int .u64 a0_0, .bool true], .int .u64 (IntKind.u64.wrap (t124 - a0_0)), .int .u64 (t123 / 4294967296)] (by rfl) rfl rfl Z2 ?_; (with_reducible refine (field_reckoner_sub.calls a0_0 true (IntKind.u64.wrap (t124 - a0_0)) (t123 / 4294967296) t125 _ A7.out).mono ?_); rintro e w12 ⟨rfl, hb⟩; refine ⟨_, rfl, ?_⟩; replace BK122 := am (blk_below (g := gb122) (o := .cells #[.int .u64 a0_0, .bool true] 78 (0, 0)) Z53 hb); replace HB := am (below_step Z23 hb); (try clear hb)
   (try clear hb2)
   (try clear hk)
   (try clear hi)
   refine hK.out _ _ ⟨(blk_cell BK122.out 0).trans rfl, (blk_cell BK122.out 1).trans rfl⟩ (fun hHeld => ?_); clear hK K; refine norm_ (a' := ?_) ?_ ?_; rotate_left
   ·show Act.put _ (some 41) _ = _
    simp only [Act.put, List.setIfInBounds_toArray, List.set_cons_zero, List.set_cons_succ, i64_w, i32_w]; rfl
   refine one_ (i := 9) (N := some 46) #[true, true, true, true, true, true, true, true, true, true, false] rfl rfl (one_of HT_.out Z12) Z101 (fun K hK => ?_); refine goes_ Try.func54 Z12 rfl #[.agg #[.int .u64 a0_0, .bool true], .int .u64 t125, .int .u64 (IntKind.u64.wrap ((IntKind.u64.wrap ((Go.bits .and .u64 t123 4294967295) * 4294967296)) - (Go.bits .and .u64 t123 4294967295)))] (by rfl) rfl rfl Z2 ?_; (with_reducible refine (field_reckoner_add.calls a0_0 true t125 (IntKind.u64.wrap ((IntKind.u64.wrap ((Go.bits .and .u64 t123 4294967295) * 4294967296)) - (Go.bits .and .u64 t123 4294967295))) t126 _ A8.out).mono ?_); rintro e w13 ⟨rfl, hb⟩; refine ⟨_, rfl, ?_⟩; replace BK122 := am (blk_below (g := gb122) (o := .cells #[.int .u64 a0_0, .bool true] 78 (0, 0)) Z53 hb); replace HB := am (below_step Z23 hb); (try clear hb)
   (try clear hb2)
   (try clear hk)
   (try clear hi)
   refine hK.out _ _ ⟨(blk_cell BK122.out 0).trans rfl, (blk_cell BK122.out 1).trans rfl⟩ (fun hHeld => ?_); clear hK K; refine norm_ (a' := ?_) ?_ ?_; rotate_left
   ·show Act.put _ (some 46) _ = _
    simp only [Act.put, List.setIfInBounds_toArray, List.set_cons_zero, List.set_cons_succ, i64_w, i32_w]; rfl
   refine pure_ (i := 10) (N := some 6) (v := ?_) (a' := ?_) #[true, true, true, true, true, true, true, true, true, true, true] rfl rfl (any_of HT_.out Z12) (fun _ _ _ h => h) (Or.inl ⟨by rfl, ?_⟩) ?_ ?_; rotate_left
   ·intro w'; go_simp; with_reducible rfl
   rotate_left
   ·simp only [Act.put, List.setIfInBounds_toArray, List.set_cons_zero, List.set_cons_succ, i64_w, i32_w]; rfl
   refine done_ (done_of HT_.out Z12) ?_; (try go_wp2); go_ret; exact ⟨Z5, Z23⟩
  ·rw [if_neg c6] at H; have c6b0 : decide (a0_0 ≤ t124) = false := decide_eq_false c6; clear c6; replace H := Option.bind_eq_some_iff.mp H; obtain ⟨t127, A140, H⟩ := H; replace H : ((field_reckoner_add.f a0_0 true t127 (IntKind.u64.wrap ((IntKind.u64.wrap ((Go.bits .and .u64 t123 4294967295) * 4294967296)) - (Go.bits .and .u64 t123 4294967295)))).bind fun t128 => (some t128)) = some r := H; have A14 := am A140; clear A140; replace H := Option.bind_eq_some_iff.mp H; obtain ⟨t128, A150, H⟩ := H; replace H : (some t128) = some r := H; have A15 := am A150; clear A150; obtain rfl := Option.some.inj H; go_enter Try.func55, Try.ntmps55
   (try go_wp2_with (first | ((with_reducible refine gate_dst (N := 3) rfl ?_); refine box_event ?hg (N := 3) ?hd (cs := #[.int .u64 a0_0, .bool true]) (t := 78) ?hr ?_; (case hd => rfl); (case hg => rfl); (case hr => first | (go_simp; done) | (go_simp; rfl)); intro gb122 hg w16 hbox hb; have BK122 := am (hbox); have GW122 := am ((Z57 : w.heap.size ≤ gb122)); have GE122 := am ((Z57 : w.heap.size ≤ gb122)); replace HB := am (below_step Z1 hb); clear hb hbox hg) | ((with_reducible refine gate_callee (f := 71) rfl ?_); refine goesL_ (some 14) rfl rfl Try.func71 Z12 rfl #[.int .u64 a1, .int .u64 a2] rfl Z2 ?_; (with_reducible refine (bits_Mul64.calls a1 a2 t123 t124 _ A4.out).mono ?_); rintro e w' ⟨rfl, ⟨nd, rfl⟩⟩; refine ⟨_, rfl, ?_⟩; have hcz17_0 : w16.cell? ⟨gb122, 0, none⟩ = some (.int .u64 a0_0) := (blk_cell BK122.out 0).trans rfl; have hcz17_1 : w16.cell? ⟨gb122, 1, none⟩ = some (.bool true) := (blk_cell BK122.out 1).trans rfl; have hfz17_0 := blk_frozen BK122.out 0; have hfz17_1 := blk_frozen BK122.out 1) | (go_at_call 72; ((with_reducible refine (rem64_small _ _ _ _ (eq_of_beq (by assumption)) (of_decide_eq_true (by assumption))).mono ?_); rintro e w' ⟨rfl, ⟨nd, rfl⟩⟩)))); (try (rw [drewN_self w16]; generalize hq_ : World.drewN w16 _ = w16; replace BK122 : Aside0 (w16.heap[gb122]? = some (.cells #[.int .u64 a0_0, .bool true] 78 (0, 0))) := ⟨by rw [← hq_]; exact Z53⟩; replace HB : Aside0 (Below w.heap.size w w16) := ⟨by rw [← hq_]; exact Z23⟩; clear hq_))
   replace BK122 := am (blk_drew BK122.out); replace HB := am (below_drew1 HB.out); refine start_ (n := 11) (S := fun w' => w'.cell? ⟨gb122, 0, none⟩ = some (.int .u64 a0_0) ∧ w'.cell? ⟨gb122, 1, none⟩ = some (.bool true)) (ds := []) #[false, false, false, false, false, false, false, false, false, false, false] Z12 rfl rfl ⟨(blk_cell BK122.out 0).trans rfl, (blk_cell BK122.out 1).trans rfl⟩ (fun hHeld => ?_); refine with_tabW field_reckoner_mul.tab7 field_reckoner_mul.bits7 (fun HT_ HW_ => ?_)
   generalize w16.drew = w18 at BK122 HB hHeld ⊢
   refine pure_ (i := 2) (N := some 39) (v := ?_) (a' := ?_) #[false, false, true, false, false, false, false, false, false, false, false] rfl rfl (any_of HT_.out Z12) (fun _ _ _ h => h) (Or.inl ⟨by rfl, ?_⟩) ?_ ?_; rotate_left
   ·intro w'; go_simp; with_reducible rfl
   rotate_left
   ·simp only [Act.put, List.setIfInBounds_toArray, List.set_cons_zero, List.set_cons_succ, i64_w, i32_w]; rfl
   refine pure_ (i := 3) (N := some 40) (v := ?_) (a' := ?_) #[false, false, true, true, false, false, false, false, false, false, false] rfl rfl (any_of HT_.out Z12) (fun _ _ _ h => h) (Or.inl ⟨by rfl, ?_⟩) ?_ ?_; rotate_left
   ·intro w'; go_simp; with_reducible rfl
   rotate_left
   ·simp only [Act.put, List.setIfInBounds_toArray, List.set_cons_zero, List.set_cons_succ, i64_w, i32_w]; rfl
   refine pure_ (i := 5) (N := some 42) (v := ?_) (a' := ?_) #[false, false, true, true, false, true, false, false, false, false, false] rfl rfl (any_of HT_.out Z12) (fun _ _ _ h => h) (Or.inl ⟨by rfl, ?_⟩) ?_ ?_; rotate_left
   ·intro w'; go_simp; with_reducible rfl
   rotate_left
   ·simp only [Act.put, List.setIfInBounds_toArray, List.set_cons_zero, List.set_cons_succ, i64_w, i32_w]; rfl
   refine pure_ (i := 6) (N := some 43) (v := ?_) (a' := ?_) #[false, false, true, true, false, true, true, false, false, false, false] rfl rfl (any_of HT_.out Z12) (fun _ _ _ h => h) (Or.inl ⟨by rfl, ?_⟩) ?_ ?_; rotate_left
   ·intro w'; go_simp; with_reducible rfl
   rotate_left
   ·simp only [Act.put, List.setIfInBounds_toArray, List.set_cons_zero, List.set_cons_succ, i64_w, i32_w]; rfl
   refine pure_ (i := 7) (N := some 44) (v := ?_) (a' := ?_) #[false, false, true, true, false, true, true, true, false, false, false] rfl rfl (any_of HT_.out Z12) (fun _ _ _ h => h) (Or.inl ⟨by rfl, ?_⟩) ?_ ?_; rotate_left
   ·intro w'; go_simp; with_reducible rfl
   rotate_left
   ·simp only [Act.put, List.setIfInBounds_toArray, List.set_cons_zero, List.set_cons_succ, i64_w, i32_w]; rfl
   refine pure_ (i := 8) (N := some 45) (v := ?_) (a' := ?_) #[false, false, true, true, false, true, true, true, true, false, false] rfl rfl (any_of HT_.out Z12) (fun _ _ _ h => h) (Or.inl ⟨by rfl, ?_⟩) ?_ ?_; rotate_left
   ·intro w'; go_simp; with_reducible rfl
   rotate_left
   ·simp only [Act.put, List.setIfInBounds_toArray, List.set_cons_zero, List.set_cons_succ, i64_w, i32_w]; rfl
   refine take_ (i := 0) (N := some 37) (v := ?_) (a' := ?_) #[true, false, true, true, false, true, true, true, true, false, false] rfl rfl (take_ofW HT_.out HW_.out Z12) (fun _ _ _ h => h) (Or.inl ⟨by rfl, ?_⟩) hHeld ?_ ?_; rotate_left
   ·rintro w' ⟨s0, s1⟩; go_simp; with_reducible rfl
   rotate_left
   ·simp only [Act.put, List.setIfInBounds_toArray, List.set_cons_zero, List.set_cons_succ, i64_w, i32_w]; rfl
   refine take_ (i := 1) (N := some 38) (v := ?_) (a' := ?_) #[true, true, true, true, false, true, true, true, true, false, false] rfl rfl (take_ofW HT_.out HW_.out Z12) (fun _ _ _ h => h) (Or.inl ⟨by rfl, ?_⟩) hHeld ?_ ?_; rotate_left
   ·rintro w' ⟨s0, s1⟩; go_simp; with_reducible rfl
   rotate_left
   ·simp only [Act.put, List.setIfInBounds_toArray, List.set_cons_zero, List.set_cons_succ, i64_w, i32_w]; rfl
   refine one_ (i := 4) (N := some 41) #[true, true, true, true, true, true, true, true, true, false, false] rfl rfl (one_of HT_.out Z12) Z101 (fun K hK => ?_); refine goes_ Try.func73 Z12 rfl #[.agg #[.int .u64 a0_0, .bool true], .int .u64 t124, .int .u64 (t123 / 4294967296)] (by rfl) rfl rfl Z2 ?_; (with_reducible refine (field_reckoner_sub.calls a0_0 true t124 (t123 / 4294967296) t127 _ A14.out).mono ?_); rintro e w19 ⟨rfl, hb⟩; refine ⟨_, rfl, ?_⟩; replace BK122 := am (blk_below (g := gb122) (o := .cells #[.int .u64 a0_0, .bool true] 78 (0, 0)) Z53 hb); replace HB := am (below_step Z23 hb); (try clear hb)
   (try clear hb2)
   (try clear hk)
   (try clear hi)
   refine hK.out _ _ ⟨(blk_cell BK122.out 0).trans rfl, (blk_cell BK122.out 1).trans rfl⟩ (fun hHeld => ?_); clear hK K; refine norm_ (a' := ?_) ?_ ?_; rotate_left
   ·show Act.put _ (some 41) _ = _
    simp only [Act.put, List.setIfInBounds_toArray, List.set_cons_zero, List.set_cons_succ, i64_w, i32_w]; rfl
   refine one_ (i := 9) (N := some 46) #[true, true, true, true, true, true, true, true, true, true, false] rfl rfl (one_of HT_.out Z12) Z101 (fun K hK => ?_); refine goes_ Try.func54 Z12 rfl #[.agg #[.int .u64 a0_0, .bool true], .int .u64 t127, .int .u64 (IntKind.u64.wrap ((IntKind.u64.wrap ((Go.bits .and .u64 t123 4294967295) * 4294967296)) - (Go.bits .and .u64 t123 4294967295)))] (by rfl) rfl rfl Z2 ?_; (with_reducible refine (field_reckoner_add.calls a0_0 true t127 (IntKind.u64.wrap ((IntKind.u64.wrap ((Go.bits .and .u64 t123 4294967295) * 4294967296)) - (Go.bits .and .u64 t123 4294967295))) t128 _ A15.out).mono ?_); rintro e w20 ⟨rfl, hb⟩; refine ⟨_, rfl, ?_⟩; replace BK122 := am (blk_below (g := gb122) (o := .cells #[.int .u64 a0_0, .bool true] 78 (0, 0)) Z53 hb); replace HB := am (below_step Z23 hb); (try clear hb)
   (try clear hb2)
   (try clear hk)
   (try clear hi)
   refine hK.out _ _ ⟨(blk_cell BK122.out 0).trans rfl, (blk_cell BK122.out 1).trans rfl⟩ (fun hHeld => ?_); clear hK K; refine norm_ (a' := ?_) ?_ ?_; rotate_left
   ·show Act.put _ (some 46) _ = _
    simp only [Act.put, List.setIfInBounds_toArray, List.set_cons_zero, List.set_cons_succ, i64_w, i32_w]; rfl
   refine pure_ (i := 10) (N := some 6) (v := ?_) (a' := ?_) #[true, true, true, true, true, true, true, true, true, true, true] rfl rfl (any_of HT_.out Z12) (fun _ _ _ h => h) (Or.inl ⟨by rfl, ?_⟩) ?_ ?_; rotate_left
   ·intro w'; go_simp; with_reducible rfl
   rotate_left
   ·simp only [Act.put, List.setIfInBounds_toArray, List.set_cons_zero, List.set_cons_succ, i64_w, i32_w]; rfl
   refine done_ (done_of HT_.out Z12) ?_; (try go_wp2); go_ret; exact ⟨Z5, Z23⟩
 ·replace c5 := Bool.eq_false_iff.mpr c5; subst c5; have H1 : (if t123 = 0 then (if a0_0 > 0 then (if a0_0 = 0 then (none) else (some (Int.tmod t124 a0_0))) else (none)) else (none)) = some r := by rw [if_neg (show ¬ (false = true) by decide)] at H; exact H
  clear H; have H := H1; clear H1; by_cases c21 : t123 = 0
  ·rw [if_pos c21] at H; have c21b0 : (t123 == 0) = true := beq_iff_eq.mpr c21; have c21b1 : (t123 != 0) = false := bne_eq_false_iff_eq.mpr c21; clear c21; by_cases c22 : a0_0 > 0
   ·rw [if_pos c22] at H; have c22b0 : decide (0 < a0_0) = true := decide_eq_true c22; clear c22; by_cases c23 : a0_0 = 0
    ·rw [if_pos c23] at H; exact absurd H (by simp)
    ·rw [if_neg c23] at H; have c23b0 : (a0_0 == 0) = false := beq_eq_false_iff_ne.mpr c23; have c23b1 : (a0_0 != 0) = true := bne_iff_ne.mpr c23; obtain rfl := Option.some.inj H; go_enter Try.func55, Try.ntmps55
     go_wp2_with (first | ((with_reducible refine gate_dst (N := 3) rfl ?_); refine box_event ?hg (N := 3) ?hd (cs := #[.int .u64 a0_0, .bool false]) (t := 78) ?hr ?_; (case hd => rfl); (case hg => rfl); (case hr => first | (go_simp; done) | (go_simp; rfl)); intro gb122 hg w24 hbox hb; have BK122 := am (hbox); have GW122 := am ((Z57 : w.heap.size ≤ gb122)); have GE122 := am ((Z57 : w.heap.size ≤ gb122)); replace HB := am (below_step Z1 hb); clear hb hbox hg) | ((with_reducible refine gate_callee (f := 71) rfl ?_); refine goesL_ (some 14) rfl rfl Try.func71 Z12 rfl #[.int .u64 a1, .int .u64 a2] rfl Z2 ?_; (with_reducible refine (bits_Mul64.calls a1 a2 t123 t124 _ A4.out).mono ?_); rintro e w' ⟨rfl, ⟨nd, rfl⟩⟩; refine ⟨_, rfl, ?_⟩; have hcz25_0 : w24.cell? ⟨gb122, 0, none⟩ = some (.int .u64 a0_0) := (blk_cell BK122.out 0).trans rfl; have hcz25_1 : w24.cell? ⟨gb122, 1, none⟩ = some (.bool false) := (blk_cell BK122.out 1).trans rfl; have hfz25_0 := blk_frozen BK122.out 0; have hfz25_1 := blk_frozen BK122.out 1) | (go_at_call 72; ((with_reducible refine (rem64_small _ _ _ _ (eq_of_beq (by assumption)) (of_decide_eq_true (by assumption))).mono ?_); rintro e w' ⟨rfl, ⟨nd, rfl⟩⟩)))
     go_ret; exact ⟨Z5, Z23⟩
   ·rw [if_neg c22] at H; exact absurd H (by simp)
  ·rw [if_neg c21] at H; exact absurd H (by simp)
end Go.Proofs.Ytdafolenaibccaa.P
end
