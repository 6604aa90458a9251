import Derived.Test.YtkppklinmcnecaaSCodecBack14
section
namespace Go.Proofs.Ytkppklinmcnecaa.P
open Go.RowKit Go.Proofs.YtkppklinmcnecaaW.PrintWords Go.Proofs.YtkppklinmcnecaaW.PrintLast Go.Proofs.YtkppklinmcnecaaW.PrintMore
attribute [local go_sem] max2_int min2_int max_two min_two max_three min_three max_four min_four
set_option linter.unusedVariables false
set_option linter.unusedSimpArgs false
def codec_parts.f (k : Nat) (l0 : List Int) : Option (Int × Int × Int × Int × List Int × Bool) := if (l0.length : Int) ≤ 0 then (some (0, 0, 0, 0, ([] : List Int), false)) else (if 0 < (l0.length : Int) then (if 1 ≤ (l0.length : Int) then ((wire_ReadCount.f k (l0.drop 1)).bind fun bt283 => (if bt283.2.2 = 0 then (if 0 ≤ bt283.2.1 then (if bt283.2.1 ≤ ((l0.drop 1).length : Int) then ((wire_ReadCount.f k ((l0.drop 1).drop (bt283.2.1 : Int).toNat)).bind fun bt287 => (if bt287.2.2 = 0 then (if 0 ≤ bt287.2.1 then (if bt287.2.1 ≤ (((l0.drop 1).drop (bt283.2.1 : Int).toNat).length : Int) then ((wire_ReadList.f k (((l0.drop 1).drop (bt283.2.1 : Int).toNat).drop (bt287.2.1 : Int).toNat)).bind fun bt291 => (if bt291.2.2.2 = 0 then (if 0 ≤ bt291.2.2.1 then (if bt291.2.2.1 ≤ ((((l0.drop 1).drop (bt283.2.1 : Int).toNat).drop (bt287.2.1 : Int).toNat).length : Int) then (if (((((l0.drop 1).drop (bt283.2.1 : Int).toNat).drop (bt287.2.1 : Int).toNat).drop (bt291.2.2.1 : Int).toNat).length : Int) = 0 then ((codec_May.f k (rd l0 0) bt283.1 bt287.1 bt291.1 bt291.2.1).bind fun t299 => (if t299 = true then (some (rd l0 0, bt283.1, bt287.1, bt291.1, bt291.2.1, true)) else (some (0, 0, 0, 0, ([] : List Int), false)))) else (some (0, 0, 0, 0, ([] : List Int), false))) else (none)) else (none)) else (some (0, 0, 0, 0, ([] : List Int), false)))) else (none)) else (none)) else (some (0, 0, 0, 0, ([] : List Int), false)))) else (none)) else (none)) else (some (0, 0, 0, 0, ([] : List Int), false)))) else (none)) else (none))
abbrev nonePanic : List PanicEntry := [{ v := .iface 128 (.agg #[]), recovered := false }]
theorem need_ok (w : World) : Calls Try.prog 98 #[.bool true] w fun e w' => e = .returned (.tuple #[]) ∧ w' = w := by
  go_enter Try.func98, Try.ntmps98
  go_wp2
  go_end0
  exact ⟨rfl, rfl⟩
theorem need_no (w : World) : Calls Try.prog 98 #[.bool false] w fun e w' => e = .panicked nonePanic ∧ w' = w := by
  go_enter Try.func98, Try.ntmps98
  go_wp2
  simp [bodyPost]
theorem count_calls (k : Nat) (A : Option Addr) (c : Nat) (l : List Int) (r1 r2 r3 : Int) (w : World) (gN gM off : Nat) (x : Value) (cs : Array Value)
    (hN : w.heap[gN]? = some (.cells #[.pointer (some ⟨gM, off, none⟩)] 134 (0, 0))) (hM : w.heap[gM]? = some (.cells cs 61 (0, 0))) (ho : cs[off]? = some x)
    (hr : Kd.C (Kd.int .u8) w A l.length l) (hc : l.length ≤ c) (h : wire_ReadCount.f k l = some (r1, r2, r3)) :
    Calls Try.prog 100 #[.slice A l.length c, .pointer (some ⟨gN, 0, none⟩)] w fun e w' => e = .returned (.tuple #[.int .i64 r2, .int .i64 r3]) ∧ ∃ w1, Below w.heap.size w w1 ∧ w' = w1.setCell ⟨gM, off, none⟩ (.int .i64 r1) := by
  obtain ⟨vp, hvp⟩ : ∃ vp : World → Value, ∀ w', (∃ y, w'.cell? ⟨gM, off, none⟩ = some y) → w'.cell? ⟨gM, off, none⟩ = some (vp w') := ⟨fun w' => (w'.cell? ⟨gM, off, none⟩).getD (.bool false), fun w' ⟨y, hy⟩ => by show _ = some ((w'.cell? _).getD _); rw [hy]; rfl⟩
  have hcN : w.cell? ⟨gN, 0, none⟩ = some (.pointer (some ⟨gM, off, none⟩)) := (blk_cell hN 0).trans rfl
  have hcM : w.cell? ⟨gM, off, none⟩ = some (vp w) := hvp w ⟨x, (blk_cell hM off).trans ho⟩
  have hfM := blk_frozen hM off
  have hne : gN ≠ gM := blk_ne hN hM (by decide)
  go_enter Try.func100, Try.ntmps100
  go_wp2
  go_region_held3 (fun w' => w'.cell? ⟨gN, 0, none⟩ = some (.pointer (some ⟨gM, off, none⟩)) ∧ w'.cell? ⟨gM, off, none⟩ = some (vp w') ∧ w'.frozen? ⟨gM, off, none⟩ = false)
    (first | exact ⟨(blk_cell (blk_below (blk_drew hN) hb) 0).trans rfl, hvp _ ⟨x, (blk_cell (blk_below (blk_drew hM) hb) off).trans ho⟩, blk_frozen (blk_below (blk_drew hM) hb) off⟩ | exact ⟨(cell_far (a := ⟨gN, 0, none⟩) (p := ⟨gM, off, none⟩) hne _).trans ((blk_cell (blk_below (blk_drew hN) hb) 0).trans rfl), hvp _ (cell?_setCell_some ((blk_cell (blk_below (blk_drew hM) hb) off).trans ho)), blk_frozen (blk_set (blk_below (blk_drew hM) hb) off _) off⟩ | go_keep | (refine ⟨?_, hvp _ ⟨_, by simp; rfl⟩, ?_⟩ <;> simp [*]))
    (first | (go_at_call 88; refine (wire_ReadCount.calls k A c l _ _ _ _ (Kd.C_drew hr) hc h).mono ?_; rintro e w1 ⟨rfl, hb⟩))
  all_goals (go_wp2; go_ret2; exact ⟨rfl, w1, below_then (below_drew (Below.refl _ _)) (Nat.le_refl _) hb, rfl⟩)
set_option maxRecDepth 100000 in
theorem take100_no (A : Option Addr) (c n : Nat) (s er : Int) (w : World) (gB : Nat) (cap : Addr) (R : World → Prop)
    (hB : w.heap[gB]? = some (.cells #[.slice A n c] 22 (0, 0)))
    (hread : Calls Try.prog 100 #[.slice A n c, .pointer (some cap)] w fun e w' => e = .returned (.tuple #[.int .i64 s, .int .i64 er]) ∧ R w' ∧ w'.heap[gB]? = some (.cells #[.slice A n c] 22 (0, 0)))
    (her : er ≠ 0) :
    Calls Try.prog 97 #[.func (.func 100) #[] #[.pointer (some cap)], .pointer (some ⟨gB, 0, none⟩)] w fun e w' => e = .panicked nonePanic ∧ R w' := by
  have hcB : w.cell? ⟨gB, 0, none⟩ = some (.slice A n c) := (blk_cell hB 0).trans rfl
  have hb0 : (er == 0) = false := beq_eq_false_iff_ne.mpr her
  go_enter Try.func97, Try.ntmps97
  go_wp2_with (first | (go_at_call 100; refine hread.mono ?_; rintro e w1 ⟨rfl, hRw, hB1⟩) | (go_at_call 98; refine (need_no _).mono ?_; rintro e w' ⟨rfl, rfl⟩))
  simp [bodyPost, hRw]
set_option maxRecDepth 100000 in
theorem take100_ok (A : Option Addr) (c n : Nat) (s : Int) (A' : Option Addr) (c' n' : Nat) (w : World) (gB : Nat) (cap : Addr) (R : World → Prop)
    (hB : w.heap[gB]? = some (.cells #[.slice A n c] 22 (0, 0)))
    (hread : Calls Try.prog 100 #[.slice A n c, .pointer (some cap)] w fun e w' => e = .returned (.tuple #[.int .i64 s, .int .i64 0]) ∧ R w' ∧ w'.heap[gB]? = some (.cells #[.slice A n c] 22 (0, 0)))
    (hcut : ∀ W : World, (Instr.slice 22 (.slice A n c) (some (.int .i64 s)) none none).run Try.prog W = .ok (.slice A' n' c') W) :
    Calls Try.prog 97 #[.func (.func 100) #[] #[.pointer (some cap)], .pointer (some ⟨gB, 0, none⟩)] w fun e w' => e = .returned (.tuple #[]) ∧ ∃ w1, R w1 ∧ w1.heap[gB]? = some (.cells #[.slice A n c] 22 (0, 0)) ∧ w' = w1.setCell ⟨gB, 0, none⟩ (.slice A' n' c') := by
  have hcB : w.cell? ⟨gB, 0, none⟩ = some (.slice A n c) := (blk_cell hB 0).trans rfl
  go_enter Try.func97, Try.ntmps97
  go_wp2_with (first | (go_at_call 100; refine hread.mono ?_; rintro e w1 ⟨rfl, hRw, hB1⟩; have hc1 : w1.cell? ⟨gB, 0, none⟩ = some (.slice A n c) := (blk_cell hB1 0).trans rfl; have hf1 := blk_frozen hB1 0) | (go_at_call 98; refine (need_ok _).mono ?_; rintro e w' ⟨rfl, rfl⟩))
  go_end0
  exact ⟨rfl, _, hRw, hB1, rfl⟩
set_option maxRecDepth 100000 in
theorem take101_no (A : Option Addr) (c n : Nat) (s er : Int) (w : World) (gB : Nat) (cap : Addr) (R : World → Prop)
    (hB : w.heap[gB]? = some (.cells #[.slice A n c] 22 (0, 0)))
    (hread : Calls Try.prog 101 #[.slice A n c, .pointer (some cap)] w fun e w' => e = .returned (.tuple #[.int .i64 s, .int .i64 er]) ∧ R w' ∧ w'.heap[gB]? = some (.cells #[.slice A n c] 22 (0, 0)))
    (her : er ≠ 0) :
    Calls Try.prog 97 #[.func (.func 101) #[] #[.pointer (some cap)], .pointer (some ⟨gB, 0, none⟩)] w fun e w' => e = .panicked nonePanic ∧ R w' := by
  have hcB : w.cell? ⟨gB, 0, none⟩ = some (.slice A n c) := (blk_cell hB 0).trans rfl
  have hb0 : (er == 0) = false := beq_eq_false_iff_ne.mpr her
  go_enter Try.func97, Try.ntmps97
  go_wp2_with (first | (go_at_call 101; refine hread.mono ?_; rintro e w1 ⟨rfl, hRw, hB1⟩) | (go_at_call 98; refine (need_no _).mono ?_; rintro e w' ⟨rfl, rfl⟩))
  simp [bodyPost, hRw]
set_option maxRecDepth 100000 in
theorem take101_ok (A : Option Addr) (c n : Nat) (s : Int) (A' : Option Addr) (c' n' : Nat) (w : World) (gB : Nat) (cap : Addr) (R : World → Prop)
    (hB : w.heap[gB]? = some (.cells #[.slice A n c] 22 (0, 0)))
    (hread : Calls Try.prog 101 #[.slice A n c, .pointer (some cap)] w fun e w' => e = .returned (.tuple #[.int .i64 s, .int .i64 0]) ∧ R w' ∧ w'.heap[gB]? = some (.cells #[.slice A n c] 22 (0, 0)))
    (hcut : ∀ W : World, (Instr.slice 22 (.slice A n c) (some (.int .i64 s)) none none).run Try.prog W = .ok (.slice A' n' c') W) :
    Calls Try.prog 97 #[.func (.func 101) #[] #[.pointer (some cap)], .pointer (some ⟨gB, 0, none⟩)] w fun e w' => e = .returned (.tuple #[]) ∧ ∃ w1, R w1 ∧ w1.heap[gB]? = some (.cells #[.slice A n c] 22 (0, 0)) ∧ w' = w1.setCell ⟨gB, 0, none⟩ (.slice A' n' c') := by
  have hcB : w.cell? ⟨gB, 0, none⟩ = some (.slice A n c) := (blk_cell hB 0).trans rfl
  go_enter Try.func97, Try.ntmps97
  go_wp2_with (first | (go_at_call 101; refine hread.mono ?_; rintro e w1 ⟨rfl, hRw, hB1⟩; have hc1 : w1.cell? ⟨gB, 0, none⟩ = some (.slice A n c) := (blk_cell hB1 0).trans rfl; have hf1 := blk_frozen hB1 0) | (go_at_call 98; refine (need_ok _).mono ?_; rintro e w' ⟨rfl, rfl⟩))
  go_end0
  exact ⟨rfl, _, hRw, hB1, rfl⟩
set_option maxRecDepth 100000 in
theorem list_calls (k : Nat) (A : Option Addr) (c : Nat) (l : List Int) (r1 : Int) (r2 : List Int) (r3 r4 : Int) (w : World) (gM : Nat) (m0 m1 m2 m3 m4 : Value)
    (hM : w.heap[gM]? = some (.cells #[m0, m1, m2, m3, m4] 61 (0, 0)))
    (hr : Kd.C (Kd.int .u8) w A l.length l) (hc : l.length ≤ c) (h : wire_ReadList.f k l = some (r1, r2, r3, r4)) :
    Calls Try.prog 101 #[.slice A l.length c, .pointer (some ⟨gM, 0, none⟩)] w fun e w' => e = .returned (.tuple #[.int .i64 r3, .int .i64 r4]) ∧ ∃ w1 v, Below w.heap.size w w1 ∧ Kd.R (Kd.int .u64) 107 w1 w.heap.size (fun _ => True) v r2 ∧ w' = (w1.setCell ⟨gM, 3, none⟩ (.int .u8 r1)).setCell ⟨gM, 4, none⟩ v := by
  go_enter Try.func101, Try.ntmps101
  go_wp2_with (first | (go_at_call 102; refine (wire_ReadList.calls k A c l _ _ _ _ _ hr hc h).mono ?_; rintro e w1 ⟨v, rfl, hR, hb⟩; obtain ⟨Av, cv, ev⟩ := Kd.R_slice hR; subst ev; have hM1 := blk_below hM hb; have hc3 : w1.cell? ⟨gM, 3, none⟩ = some m3 := (blk_cell hM1 3).trans rfl; have hc4 : w1.cell? ⟨gM, 4, none⟩ = some m4 := (blk_cell hM1 4).trans rfl; have hf3 := blk_frozen hM1 3; have hf4 := blk_frozen hM1 4))
  go_ret2
  exact ⟨rfl, w1, _, hb, hR, rfl⟩
def Moved (w0 w w' : World) (gM gB : Nat) : Prop := Below w0.heap.size w0 w' ∧ ∀ g o, g ≠ gM → g ≠ gB → w.heap[g]? = some o → w'.heap[g]? = some o
theorem cnt_read (k : Nat) (A : Option Addr) (c : Nat) (l : List Int) (r1 r2 r3 : Int) (w0 w : World) (gB gM off : Nat) (x : Value) (cs : Array Value)
    (hb : Below w0.heap.size w0 w) (hM0 : w0.heap.size ≤ gM)
    (hB : w.heap[gB]? = some (.cells #[.slice A l.length c] 22 (0, 0))) (hM : w.heap[gM]? = some (.cells cs 61 (0, 0))) (ho : cs[off]? = some x)
    (hr : Kd.C (Kd.int .u8) w0 A l.length l) (hc : l.length ≤ c) (h : wire_ReadCount.f k l = some (r1, r2, r3)) :
    Calls Try.prog 100 #[.slice A l.length c, .pointer (some ⟨w.heap.size, 0, none⟩)] (w.alloc (.cells #[.pointer (some ⟨gM, off, none⟩)] 134)) fun e w' => e = .returned (.tuple #[.int .i64 r2, .int .i64 r3]) ∧
      (Moved w0 w w' gM gM ∧ w'.heap[gM]? = some (.cells (cs.setIfInBounds off (.int .i64 r1)) 61 (0, 0))) ∧ w'.heap[gB]? = some (.cells #[.slice A l.length c] 22 (0, 0)) := by
  refine (count_calls k A c l r1 r2 r3 _ w.heap.size gM off x cs (blk_new _ _) (blk_alloc hM _) ho (Kd.C_below hr (below_alloc hb _)) hc h).mono ?_
  rintro e w' ⟨rfl, w1, hb1, rfl⟩
  have hne : gB ≠ gM := blk_ne hB hM (by decide)
  refine ⟨rfl, ⟨⟨below_set (below_step (below_alloc hb _) hb1) hM0, fun g o hg _ ho => ?_⟩, blk_set (blk_below (blk_alloc hM _) hb1) off _⟩, blk_far (blk_below (blk_alloc hB _) hb1) hne _⟩
  exact (Below.heap_setCell w1 _ _ g hg).trans (blk_below (blk_alloc ho _) hb1)
set_option maxRecDepth 100000 in
theorem cnt_no (k : Nat) (A : Option Addr) (c : Nat) (l : List Int) (r1 r2 r3 : Int) (w0 w : World) (gT gB gM off : Nat) (x : Value) (cs : Array Value)
    (hb : Below w0.heap.size w0 w) (hM0 : w0.heap.size ≤ gM)
    (hT : w.heap[gT]? = some (.cells #[.func (.func 97) #[] #[.pointer (some ⟨gB, 0, none⟩)]] 133 (0, 0)))
    (hB : w.heap[gB]? = some (.cells #[.slice A l.length c] 22 (0, 0))) (hM : w.heap[gM]? = some (.cells cs 61 (0, 0))) (ho : cs[off]? = some x)
    (hr : Kd.C (Kd.int .u8) w0 A l.length l) (hc : l.length ≤ c) (h : wire_ReadCount.f k l = some (r1, r2, r3)) (h3 : r3 ≠ 0) :
    Calls Try.prog 99 #[.pointer (some ⟨gM, off, none⟩), .pointer (some ⟨gT, 0, none⟩)] w fun e w' => e = .panicked nonePanic ∧ Moved w0 w w' gM gM ∧ w'.heap[gM]? = some (.cells (cs.setIfInBounds off (.int .i64 r1)) 61 (0, 0)) := by
  have hmf : ∀ (fn : Fn) (first cap : Array Value) (w : World), (Instr.makeFunc fn first cap).run Try.prog w = .ok (.func fn first cap) w := fun _ _ _ _ => rfl
  have hcT : (w.alloc (.cells #[.pointer (some ⟨gM, off, none⟩)] 134)).cell? ⟨gT, 0, none⟩ = some (.func (.func 97) #[] #[.pointer (some ⟨gB, 0, none⟩)]) := (blk_cell (blk_alloc hT _) 0).trans rfl
  have ht := take100_no A c l.length r2 r3 _ gB ⟨w.heap.size, 0, none⟩ _ (blk_alloc hB _) (cnt_read k A c l r1 r2 r3 w0 w gB gM off x cs hb hM0 hB hM ho hr hc h) h3
  go_enter Try.func99, Try.ntmps99
  go_wp2_with (first | (go_at_call 97; refine ht.mono ?_; rintro e w' ⟨rfl, hm⟩))
  simp [bodyPost, hm]
set_option maxRecDepth 100000 in
theorem cnt_ok (k : Nat) (A : Option Addr) (c : Nat) (l : List Int) (r1 r2 : Int) (A' : Option Addr) (c' n' : Nat) (w0 w : World) (gT gB gM off : Nat) (x : Value) (cs : Array Value)
    (hb : Below w0.heap.size w0 w) (hM0 : w0.heap.size ≤ gM) (hB0 : w0.heap.size ≤ gB)
    (hT : w.heap[gT]? = some (.cells #[.func (.func 97) #[] #[.pointer (some ⟨gB, 0, none⟩)]] 133 (0, 0)))
    (hB : w.heap[gB]? = some (.cells #[.slice A l.length c] 22 (0, 0))) (hM : w.heap[gM]? = some (.cells cs 61 (0, 0))) (ho : cs[off]? = some x)
    (hr : Kd.C (Kd.int .u8) w0 A l.length l) (hc : l.length ≤ c) (h : wire_ReadCount.f k l = some (r1, r2, 0))
    (hcut : ∀ W : World, (Instr.slice 22 (.slice A l.length c) (some (.int .i64 r2)) none none).run Try.prog W = .ok (.slice A' n' c') W) :
    Calls Try.prog 99 #[.pointer (some ⟨gM, off, none⟩), .pointer (some ⟨gT, 0, none⟩)] w fun e w' => e = .returned (.tuple #[]) ∧ Moved w0 w w' gM gB ∧ w'.heap[gM]? = some (.cells (cs.setIfInBounds off (.int .i64 r1)) 61 (0, 0)) ∧ w'.heap[gB]? = some (.cells #[.slice A' n' c'] 22 (0, 0)) := by
  have hmf : ∀ (fn : Fn) (first cap : Array Value) (w : World), (Instr.makeFunc fn first cap).run Try.prog w = .ok (.func fn first cap) w := fun _ _ _ _ => rfl
  have hcT : (w.alloc (.cells #[.pointer (some ⟨gM, off, none⟩)] 134)).cell? ⟨gT, 0, none⟩ = some (.func (.func 97) #[] #[.pointer (some ⟨gB, 0, none⟩)]) := (blk_cell (blk_alloc hT _) 0).trans rfl
  have hne : gM ≠ gB := blk_ne hM hB (by decide)
  have ht := take100_ok A c l.length r2 A' c' n' _ gB ⟨w.heap.size, 0, none⟩ _ (blk_alloc hB _) (cnt_read k A c l r1 r2 0 w0 w gB gM off x cs hb hM0 hB hM ho hr hc h) hcut
  go_enter Try.func99, Try.ntmps99
  go_wp2_with (first | (go_at_call 97; refine ht.mono ?_; rintro e w' ⟨rfl, w1, ⟨⟨hb1, hm1⟩, hM1⟩, hB1, rfl⟩))
  go_end0
  refine ⟨rfl, ⟨below_set hb1 hB0, fun g o h1 h2 h3 => (Below.heap_setCell w1 _ _ g h2).trans (hm1 g o h1 h1 h3)⟩, blk_far hM1 hne _, blk_put hB1 0 _ rfl⟩
set_option maxHeartbeats 8000000 in
set_option maxRecDepth 100000 in
theorem catch_panicking (gM gO : Nat) (m0 m1 m2 m3 m4 : Value) (o : Bool) (older : List PanicEntry) (w0 w : World) (hb : Below w0.heap.size w0 w) (hM0 : w0.heap.size ≤ gM) (hO0 : w0.heap.size ≤ gO)
    (hM : w.heap[gM]? = some (.cells #[m0, m1, m2, m3, m4] 61 (0, 0))) (hO : w.heap[gO]? = some (.cells #[.bool o] 4 (0, 0))) :
    CallsD Try.prog 96 #[.pointer (some ⟨gM, 0, none⟩), .pointer (some ⟨gO, 0, none⟩)] (.panicking ({ v := .iface 128 (.agg #[]), recovered := false } :: older)) w fun e u' w' =>
      e = .returned (.tuple #[]) ∧ u' = .panicking ({ v := .iface 128 (.agg #[]), recovered := true } :: older) ∧ Below w0.heap.size w0 w' ∧
        w'.heap[gM]? = some (.cells #[.int .u8 0, .int .i64 0, .int .i64 0, .int .u8 0, .slice none 0 0] 61 (0, 0)) ∧ w'.heap[gO]? = some (.cells #[.bool false] 4 (0, 0)) := by
  have hu61 := Try.underlying61
  have hne : gM ≠ gO := blk_ne hM hO (by decide)
  have hnf : gO ≠ gM := hne.symm
  have hM' := blk_alloc hM (.cells #[] 128)
  have hO' := blk_alloc hO (.cells #[] 128)
  have hc0 : (w.alloc (.cells #[] 128)).cell? ⟨gM, 0, none⟩ = some m0 := (blk_cell hM' 0).trans rfl
  have hf0 : (w.alloc (.cells #[] 128)).frozen? ⟨gM, 0, none⟩ = false := blk_frozen hM' 0
  have hc1 : (w.alloc (.cells #[] 128)).cell? ⟨gM, 1, none⟩ = some m1 := (blk_cell hM' 1).trans rfl
  have hf1 : (w.alloc (.cells #[] 128)).frozen? ⟨gM, 1, none⟩ = false := blk_frozen hM' 1
  have hc2 : (w.alloc (.cells #[] 128)).cell? ⟨gM, 2, none⟩ = some m2 := (blk_cell hM' 2).trans rfl
  have hf2 : (w.alloc (.cells #[] 128)).frozen? ⟨gM, 2, none⟩ = false := blk_frozen hM' 2
  have hc3 : (w.alloc (.cells #[] 128)).cell? ⟨gM, 3, none⟩ = some m3 := (blk_cell hM' 3).trans rfl
  have hf3 : (w.alloc (.cells #[] 128)).frozen? ⟨gM, 3, none⟩ = false := blk_frozen hM' 3
  have hc4 : (w.alloc (.cells #[] 128)).cell? ⟨gM, 4, none⟩ = some m4 := (blk_cell hM' 4).trans rfl
  have hf4 : (w.alloc (.cells #[] 128)).frozen? ⟨gM, 4, none⟩ = false := blk_frozen hM' 4
  have hcO : (w.alloc (.cells #[] 128)).cell? ⟨gO, 0, none⟩ = some (.bool o) := (blk_cell hO' 0).trans rfl
  have hfO : (w.alloc (.cells #[] 128)).frozen? ⟨gO, 0, none⟩ = false := blk_frozen hO' 0
  have hta : ∀ W : World, (Instr.typeAssert (.iface 128 (.agg #[])) 20 128 true).run Try.prog W = .ok (.tuple #[.agg #[], .bool true]) W := by intro W; first | rfl | kernel_rfl | simp [go_sem]
  refine callsD_of_wpS Try.func96 rfl fun c₀ cs hu => ?_
  apply wpS_seq
  apply wpS_region
  simp [wpOpsS, go_sem, recoverD, hu, Try.ntmps96, Exit.thenS]
  refine wpS_of_wp ?_
  go_wp2
  have z1 := blk_far (blk_put (blk_put (blk_put (blk_put (blk_put hM' 0 (.int .u8 0) rfl) 1 (.int .i64 0) rfl) 2 (.int .i64 0) rfl) 3 (.int .u8 0) rfl) 4 (.slice none 0 0) rfl) (p := ⟨gO, 0, none⟩) hne (.bool false)
  have z2 := blk_put (blk_far (blk_far (blk_far (blk_far (blk_far hO' (p := ⟨gM, 0, none⟩) hnf (.int .u8 0)) (p := ⟨gM, 1, none⟩) hnf (.int .i64 0)) (p := ⟨gM, 2, none⟩) hnf (.int .i64 0)) (p := ⟨gM, 3, none⟩) hnf (.int .u8 0)) (p := ⟨gM, 4, none⟩) hnf (.slice none 0 0)) 0 (.bool false) rfl
  have z3 := below_set (j := 0) (v := .bool false) (below_set (j := 4) (v := .slice none 0 0) (below_set (j := 3) (v := .int .u8 0) (below_set (j := 2) (v := .int .i64 0) (below_set (j := 1) (v := .int .i64 0) (below_set (j := 0) (v := .int .u8 0) (below_alloc hb (.cells #[] 128)) hM0) hM0) hM0) hM0) hM0) hO0
  generalize World.setCell _ _ _ = wz at z1 z2 z3 ⊢
  clear hc0 hc1 hc2 hc3 hc4 hcO hf0 hf1 hf2 hf3 hf4 hfO hta
  simp [bodyPostS, results, Try.results96, z1, z2, z3]
set_option maxHeartbeats 8000000 in
set_option maxRecDepth 100000 in
theorem catch_idle (p q : Addr) (w : World) :
    CallsD Try.prog 96 #[.pointer (some p), .pointer (some q)] .returning w fun e u' w' => e = .returned (.tuple #[]) ∧ u' = .returning ∧ w' = w := by
  refine callsD_of_wpS Try.func96 rfl fun c₀ cs hu => ?_
  apply wpS_seq
  apply wpS_region
  simp [wpOpsS, go_sem, recoverD, hu, Try.ntmps96, Exit.thenS]
  refine wpS_of_wp ?_
  go_wp2
  cases c₀
  simp_all [bodyPostS, results, Try.results96]
theorem list_read (k : Nat) (A : Option Addr) (c : Nat) (l : List Int) (r1 : Int) (r2 : List Int) (r3 r4 : Int) (w0 w : World) (gB gM : Nat) (m0 m1 m2 m3 m4 : Value)
    (hb : Below w0.heap.size w0 w) (hM0 : w0.heap.size ≤ gM)
    (hB : w.heap[gB]? = some (.cells #[.slice A l.length c] 22 (0, 0))) (hM : w.heap[gM]? = some (.cells #[m0, m1, m2, m3, m4] 61 (0, 0)))
    (hr : Kd.C (Kd.int .u8) w0 A l.length l) (hc : l.length ≤ c) (h : wire_ReadList.f k l = some (r1, r2, r3, r4)) :
    Calls Try.prog 101 #[.slice A l.length c, .pointer (some ⟨gM, 0, none⟩)] w fun e w' => e = .returned (.tuple #[.int .i64 r3, .int .i64 r4]) ∧
      (∃ v, Moved w0 w w' gM gM ∧ w'.heap[gM]? = some (.cells #[m0, m1, m2, .int .u8 r1, v] 61 (0, 0)) ∧ Kd.R (Kd.int .u64) 107 w' w0.heap.size (fun _ => True) v r2) ∧ w'.heap[gB]? = some (.cells #[.slice A l.length c] 22 (0, 0)) := by
  refine (list_calls k A c l r1 r2 r3 r4 w gM m0 m1 m2 m3 m4 hM (Kd.C_below hr hb) hc h).mono ?_
  rintro e w' ⟨rfl, w1, v, hb1, hR, rfl⟩
  have hne : gB ≠ gM := blk_ne hB hM (by decide)
  have hM1 := blk_below hM hb1
  have hM2 := blk_put hM1 3 (.int .u8 r1) rfl
  have hM3 := blk_put hM2 4 v rfl
  have hR1 := Kd.R_mono (Kd.R_far (p := ⟨gM, 3, none⟩) (Kd.R_types hR hM1 (by decide)) (fun _ hk => hk.2) (.int .u8 r1)) (fun _ hk => trivial) (ok' := fun _ => True)
  have hR2 := Kd.R_mono (Kd.R_far (p := ⟨gM, 4, none⟩) (Kd.R_types hR1 hM2 (by decide)) (fun _ hk => hk.2) v) (fun _ hk => trivial) (ok' := fun _ => True)
  refine ⟨rfl, ⟨v, ⟨below_set (below_set (below_step hb hb1) hM0) hM0, fun g o hg _ ho => ?_⟩, hM3, Kd.R_lower hR2 hb.size⟩, blk_far (blk_far (blk_below hB hb1) hne _) hne _⟩
  exact (Below.heap_setCell _ _ _ g hg).trans ((Below.heap_setCell _ _ _ g hg).trans (blk_below ho hb1))
abbrev parts_w (w : World) (A0 : Option Addr) (n c0 : Nat) (F : Value) : World :=
  (((w.alloc (Obj.cells #[Value.slice A0 n c0] 22)).alloc (Obj.cells #[Value.int IntKind.u8 0, Value.int IntKind.i64 0, Value.int IntKind.i64 0, Value.int IntKind.u8 0, Value.slice none 0 0] 61)).alloc (Obj.cells #[Value.bool false] 4)).alloc (Obj.cells #[F] 133)
theorem parts_facts (w : World) (A0 : Option Addr) (n c0 : Nat) (F : Value) : Below w.heap.size w (parts_w w A0 n c0 F) ∧ (parts_w w A0 n c0 F).heap[w.heap.size]? = some (.cells #[.slice A0 n c0] 22 (0, 0)) ∧
    (parts_w w A0 n c0 F).heap[w.heap.size + 1]? = some (.cells #[.int .u8 0, .int .i64 0, .int .i64 0, .int .u8 0, .slice none 0 0] 61 (0, 0)) ∧
    (parts_w w A0 n c0 F).heap[w.heap.size + 1 + 1]? = some (.cells #[.bool false] 4 (0, 0)) ∧ (parts_w w A0 n c0 F).heap[w.heap.size + 1 + 1 + 1]? = some (.cells #[F] 133 (0, 0)) := by
  have h1 : ∀ (W : World) (o : Obj), (W.alloc o).heap.size = W.heap.size + 1 := fun W o => by simp
  refine ⟨below_alloc (below_alloc (below_alloc (below_alloc (Below.refl _ _) _) _) _) _, blk_alloc (blk_alloc (blk_alloc (blk_new _ _) _) _) _, ?_, ?_, ?_⟩
  · have z := blk_alloc (blk_alloc (blk_new (w.alloc (Obj.cells #[Value.slice A0 n c0] 22)) (Obj.cells #[Value.int IntKind.u8 0, Value.int IntKind.i64 0, Value.int IntKind.i64 0, Value.int IntKind.u8 0, Value.slice none 0 0] 61)) (Obj.cells #[Value.bool false] 4)) (Obj.cells #[F] 133)
    rw [h1] at z; exact z
  · have z := blk_alloc (blk_new ((w.alloc (Obj.cells #[Value.slice A0 n c0] 22)).alloc (Obj.cells #[Value.int IntKind.u8 0, Value.int IntKind.i64 0, Value.int IntKind.i64 0, Value.int IntKind.u8 0, Value.slice none 0 0] 61)) (Obj.cells #[Value.bool false] 4)) (Obj.cells #[F] 133)
    rw [h1, h1] at z; exact z
  · have z := blk_new (((w.alloc (Obj.cells #[Value.slice A0 n c0] 22)).alloc (Obj.cells #[Value.int IntKind.u8 0, Value.int IntKind.i64 0, Value.int IntKind.i64 0, Value.int IntKind.u8 0, Value.slice none 0 0] 61)).alloc (Obj.cells #[Value.bool false] 4)) (Obj.cells #[F] 133)
    rw [h1, h1, h1] at z; exact z
set_option maxHeartbeats 8000000 in
set_option maxRecDepth 100000 in
theorem door_no (w0 W : World) (gM gO : Nat) (t0 t1 : Value) (ts : List Value) (m0 m1 m2 m3 m4 : Value) (o : Bool) (hb : Below w0.heap.size w0 W) (hM0 : w0.heap.size ≤ gM) (hO0 : w0.heap.size ≤ gO)
    (hM : W.heap[gM]? = some (.cells #[m0, m1, m2, m3, m4] 61 (0, 0))) (hO : W.heap[gO]? = some (.cells #[.bool o] 4 (0, 0))) :
    Leaves Try.prog Try.f71 (t0 :: t1 :: .pointer (some ⟨gM, 0, none⟩) :: .pointer (some ⟨gO, 0, none⟩) :: ts).toArray (fun e w' => ∃ v4_ : Value, e = .returned (.tuple #[.agg #[.int .u8 0, .int .i64 0, .int .i64 0, .int .u8 0, v4_], .bool false]) ∧
      Kd.R (Kd.int .u64) 107 w' w0.heap.size (fun _ => True) v4_ [] ∧ Below w0.heap.size w0 w') [{ target := .fn (.func 96) #[.pointer (some ⟨gM, 0, none⟩), .pointer (some ⟨gO, 0, none⟩)], args := #[] }] (.panicking nonePanic) W := by
  have hu61 := Try.underlying61
  refine leaves_cons (f := 96) (args := #[.pointer (some ⟨gM, 0, none⟩), .pointer (some ⟨gO, 0, none⟩)]) (by simp) (by simp [go_sem]) ?_
  refine (catch_panicking _ _ _ _ _ _ _ _ [] w0 _ hb hM0 hO0 hM hO).mono ?_
  rintro e u' w'' ⟨rfl, rfl, hb2, hM2, hO2⟩
  have a0 : w''.cell? ⟨gM, 0, none⟩ = some (.int .u8 0) := (blk_cell hM2 0).trans rfl
  have a1 : w''.cell? ⟨gM, 1, none⟩ = some (.int .i64 0) := (blk_cell hM2 1).trans rfl
  have a2 : w''.cell? ⟨gM, 2, none⟩ = some (.int .i64 0) := (blk_cell hM2 2).trans rfl
  have a3 : w''.cell? ⟨gM, 3, none⟩ = some (.int .u8 0) := (blk_cell hM2 3).trans rfl
  have a4 : w''.cell? ⟨gM, 4, none⟩ = some (.slice none 0 0) := (blk_cell hM2 4).trans rfl
  have aO : w''.cell? ⟨gO, 0, none⟩ = some (.bool false) := (blk_cell hO2 0).trans rfl
  simp [Leaves, settle, results, Try.results71, go_sem, a0, a1, a2, a3, a4, aO]
  exact ⟨Kd.R_nil _ _ _ _ _, hb2⟩
set_option maxHeartbeats 8000000 in
set_option maxRecDepth 100000 in
theorem door_ok (w0 W : World) (gM gO : Nat) (t0 t1 : Value) (ts : List Value) (r1 r2 r3 r4 : Int) (r5 : List Int) (v : Value) (hb : Below w0.heap.size w0 W) (hR : Kd.R (Kd.int .u64) 107 W w0.heap.size (fun _ => True) v r5)
    (hM : W.heap[gM]? = some (.cells #[.int .u8 r1, .int .i64 r2, .int .i64 r3, .int .u8 r4, v] 61 (0, 0))) (hO : W.heap[gO]? = some (.cells #[.bool true] 4 (0, 0))) :
    Leaves Try.prog Try.f71 (t0 :: t1 :: .pointer (some ⟨gM, 0, none⟩) :: .pointer (some ⟨gO, 0, none⟩) :: ts).toArray (fun e w' => ∃ v4_ : Value, e = .returned (.tuple #[.agg #[.int .u8 r1, .int .i64 r2, .int .i64 r3, .int .u8 r4, v4_], .bool true]) ∧
      Kd.R (Kd.int .u64) 107 w' w0.heap.size (fun _ => True) v4_ r5 ∧ Below w0.heap.size w0 w') [{ target := .fn (.func 96) #[.pointer (some ⟨gM, 0, none⟩), .pointer (some ⟨gO, 0, none⟩)], args := #[] }] .returning W := by
  have hu61 := Try.underlying61
  refine leaves_cons (f := 96) (args := #[.pointer (some ⟨gM, 0, none⟩), .pointer (some ⟨gO, 0, none⟩)]) (by simp) (by simp [go_sem]) ?_
  refine (catch_idle _ _ _).mono ?_
  rintro e u' w'' ⟨rfl, rfl, rfl⟩
  have a0 : w''.cell? ⟨gM, 0, none⟩ = some (.int .u8 r1) := (blk_cell hM 0).trans rfl
  have a1 : w''.cell? ⟨gM, 1, none⟩ = some (.int .i64 r2) := (blk_cell hM 1).trans rfl
  have a2 : w''.cell? ⟨gM, 2, none⟩ = some (.int .i64 r3) := (blk_cell hM 2).trans rfl
  have a3 : w''.cell? ⟨gM, 3, none⟩ = some (.int .u8 r4) := (blk_cell hM 3).trans rfl
  have a4 : w''.cell? ⟨gM, 4, none⟩ = some v := (blk_cell hM 4).trans rfl
  have aO : w''.cell? ⟨gO, 0, none⟩ = some (.bool true) := (blk_cell hO 0).trans rfl
  simp [Leaves, settle, results, Try.results71, go_sem, a0, a1, a2, a3, a4, aO]
  exact ⟨hR, hb⟩
set_option maxHeartbeats 8000000 in
set_option maxRecDepth 100000 in
theorem codec_parts.calls (k : Nat) (A0 : Option Addr) (c0 : Nat) (l0 : List Int) (r1 : Int) (r2 : Int) (r3 : Int) (r4 : Int) (r5 : List Int) (r6 : Bool) (w : World) (hr0 : Kd.C (Kd.int .u8) w A0 l0.length l0) (hc0 : l0.length ≤ c0) (h : codec_parts.f k l0 = some (r1, r2, r3, r4, r5, r6)) :
    Calls Try.prog 71 #[.slice A0 l0.length c0] w fun e w' => ∃ v4_ : Value, e = .returned (.tuple #[.agg #[.int .u8 r1, .int .i64 r2, .int .i64 r3, .int .u8 r4, v4_], .bool r6]) ∧ Kd.R (Kd.int .u64) 107 w' w.heap.size (fun _ => True) v4_ r5 ∧ Below w.heap.size w w' := by
  have hu61 := Try.underlying61
  have hmf : ∀ (fn : Fn) (first cap : Array Value) (w : World), (Instr.makeFunc fn first cap).run Try.prog w = .ok (.func fn first cap) w := fun _ _ _ _ => rfl
  unfold codec_parts.f at h
  by_cases c2 : (l0.length : Int) ≤ 0
  · rw [if_pos c2] at h
    have c2b0 : decide (0 < l0.length) = false := decide_eq_false (by omega)
    simp only [Option.some.injEq, Prod.mk.injEq] at h
    obtain ⟨rfl, rfl, rfl, rfl, rfl, rfl⟩ := h
    go_enter_defers Try.func71, Try.ntmps71
    go_wp2_with (first | (go_at_call 98; (try rw [c2b0]); refine (need_no _).mono ?_; rintro e w_ ⟨rfl, hw_⟩))
    obtain ⟨hb, hB, hM, hO, hT⟩ := parts_facts w A0 l0.length c0 (Value.func (Fn.func 97) #[] #[Value.pointer (some ⟨w.heap.size, 0, none⟩)])
    unfold parts_w at hb hB hM hO hT
    exact door_no w _ _ _ _ _ _ _ _ _ _ _ _ hb (by omega) (by omega) hM hO
  · rw [if_neg c2] at h
    have c2b0 : decide (0 < l0.length) = true := decide_eq_true (by omega)
    rw [if_pos (by omega), if_pos (by omega)] at h
    obtain ⟨⟨s1, s2, s3⟩, hc1, h⟩ := Option.bind_eq_some_iff.mp h
    dsimp only at h
    obtain ⟨ad, ea, hx⟩ := Kd.at_int hr0 0 (by omega) (by omega)
    subst ea
    (try rw [show ((0 : Int)).toNat = 0 from rfl] at hx)
    rw [Addr.add_zero'] at hx
    obtain ⟨i023, hi023, _, hsz23, _⟩ := info_parts info5
    obtain ⟨A1, hcut1, hA1, hC1⟩ := print_drop_of (P := Try.prog) (Value.int .u8) 0 22 5 .i64 Try.underlying22 hi023 hsz23 (some ad) c0 l0 1 (by omega) (by omega) hc0
    simp only [show ((1 : Int)).toNat = 1 from rfl] at hcut1 hA1 hC1
    have hl1 : (l0.drop 1).length = l0.length - 1 := List.length_drop
    have hr1 := Kd.C_of_reads (h1 := fun _ => rfl) (hA1 _ (Kd.reads_of_C hr0))
    by_cases c3 : s3 = 0
    · rw [if_pos c3] at h
      subst c3
      by_cases c4 : 0 ≤ s2
      · rw [if_pos c4] at h
        by_cases c5 : s2 ≤ ((l0.drop 1).length : Int)
        · rw [if_pos c5] at h
          obtain ⟨⟨u1, u2, u3⟩, hc2, h⟩ := Option.bind_eq_some_iff.mp h
          dsimp only at h
          obtain ⟨A2, hcut2, hA2, hC2⟩ := print_drop_of (P := Try.prog) (Value.int .u8) 0 22 5 .i64 Try.underlying22 hi023 hsz23 A1 _ _ s2 c4 c5 hC1
          have hr2 := Kd.C_of_reads (h1 := fun _ => rfl) (hA2 _ (Kd.reads_of_C hr1))
          by_cases c6 : u3 = 0
          · rw [if_pos c6] at h
            subst c6
            by_cases c7 : 0 ≤ u2
            · rw [if_pos c7] at h
              by_cases c8 : u2 ≤ (((l0.drop 1).drop (s2 : Int).toNat).length : Int)
              · rw [if_pos c8] at h
                obtain ⟨⟨v1, v2, v3, v4⟩, hc3, h⟩ := Option.bind_eq_some_iff.mp h
                dsimp only at h
                obtain ⟨A3, hcut3, hA3, hC3⟩ := print_drop_of (P := Try.prog) (Value.int .u8) 0 22 5 .i64 Try.underlying22 hi023 hsz23 A2 _ _ u2 c7 c8 hC2
                have hr3 := Kd.C_of_reads (h1 := fun _ => rfl) (hA3 _ (Kd.reads_of_C hr2))
                by_cases c9 : v4 = 0
                · rw [if_pos c9] at h
                  subst c9
                  by_cases c10 : 0 ≤ v3
                  · rw [if_pos c10] at h
                    by_cases c11 : v3 ≤ ((((l0.drop 1).drop (s2 : Int).toNat).drop (u2 : Int).toNat).length : Int)
                    · rw [if_pos c11] at h
                      obtain ⟨A4, hcut4, hA4, hC4⟩ := print_drop_of (P := Try.prog) (Value.int .u8) 0 22 5 .i64 Try.underlying22 hi023 hsz23 A3 _ _ v3 c10 c11 hC3
                      have hr4 := Kd.C_of_reads (h1 := fun _ => rfl) (hA4 _ (Kd.reads_of_C hr3))
                      obtain ⟨n4, hn4⟩ : ∃ n4 : Nat, ((((l0.drop 1).drop (s2 : Int).toNat).drop (u2 : Int).toNat).drop (v3 : Int).toNat).length = n4 := ⟨_, rfl⟩
                      rw [hn4] at hcut4 h
                      by_cases c12 : (n4 : Int) = 0
                      · rw [if_pos c12] at h
                        have c12c : n4 = 0 := by omega
                        subst c12c
                        obtain ⟨t, hmay, h⟩ := Option.bind_eq_some_iff.mp h
                        by_cases c13 : t = true
                        · rw [if_pos c13] at h
                          subst c13
                          simp only [Option.some.injEq, Prod.mk.injEq] at h
                          obtain ⟨rfl, rfl, rfl, rfl, rfl, rfl⟩ := h
                          go_enter_defers Try.func71, Try.ntmps71
                          go_wp2_with (first | (go_at_call 98; refine (need_ok _).mono ?_; rintro e w_ ⟨rfl, hw_⟩; obtain ⟨hb, hB, hM, hO, hT⟩ := parts_facts w (some ad) l0.length c0 (Value.func (Fn.func 97) #[] #[Value.pointer (some ⟨w.heap.size, 0, none⟩)]); unfold parts_w at hb hB hM hO hT; rw [← hw_] at hb hB hM hO hT; clear hw_; have hcB : w_.cell? ⟨w.heap.size, 0, none⟩ = some (.slice (some ad) l0.length c0) := (blk_cell hB 0).trans rfl; have hfB := blk_frozen hB 0; have hcM : w_.cell? ⟨w.heap.size + 1, 0, none⟩ = some (.int .u8 0) := (blk_cell hM 0).trans rfl; have hfM := blk_frozen hM 0; have hx_ := (hb.cell (World.block_lt_of_cell? w _ hx)).trans hx) | (go_at_call 99; have hM1 := blk_far (blk_put hM 0 (.int .u8 (rd l0 0)) rfl) (p := ⟨w.heap.size, 0, none⟩) (show w.heap.size + 1 ≠ w.heap.size by omega) (.slice A1 (l0.length - 1) (c0 - 1)); have hB1 := blk_put (blk_far hB (p := ⟨w.heap.size + 1, 0, none⟩) (show w.heap.size ≠ w.heap.size + 1 by omega) (.int .u8 (rd l0 0))) 0 (.slice A1 (l0.length - 1) (c0 - 1)) rfl; have hO1 := blk_far (blk_far hO (p := ⟨w.heap.size + 1, 0, none⟩) (show w.heap.size + 1 + 1 ≠ w.heap.size + 1 by omega) (.int .u8 (rd l0 0))) (p := ⟨w.heap.size, 0, none⟩) (show w.heap.size + 1 + 1 ≠ w.heap.size by omega) (.slice A1 (l0.length - 1) (c0 - 1)); have hT1 := blk_far (blk_far hT (p := ⟨w.heap.size + 1, 0, none⟩) (show w.heap.size + 1 + 1 + 1 ≠ w.heap.size + 1 by omega) (.int .u8 (rd l0 0))) (p := ⟨w.heap.size, 0, none⟩) (show w.heap.size + 1 + 1 + 1 ≠ w.heap.size by omega) (.slice A1 (l0.length - 1) (c0 - 1)); have hb1 := below_set (g := w.heap.size) (j := 0) (v := .slice A1 (l0.length - 1) (c0 - 1)) (below_set (g := w.heap.size + 1) (j := 0) (v := .int .u8 (rd l0 0)) hb (by omega)) (Nat.le_refl _); generalize World.setCell _ _ _ = wx at hM1 hB1 hO1 hT1 hb1 ⊢; rw [← hl1] at hB1; refine (cnt_ok k A1 (c0 - 1) (l0.drop 1) s1 s2 A2 _ _ w wx (w.heap.size + 1 + 1 + 1) w.heap.size (w.heap.size + 1) 1 (.int .i64 0) _ hb1 (by omega) (Nat.le_refl _) hT1 hB1 hM1 rfl hr1 hC1 hc1 hcut2).mono ?_; rintro e w2 ⟨rfl, hmv2, hM2, hB2⟩; have hO2 := hmv2.2 _ _ (by omega) (by omega) hO1; have hT2 := hmv2.2 _ _ (by omega) (by omega) hT1; have hb2 := hmv2.1) | (go_at_call 99; refine (cnt_ok k A2 _ _ u1 u2 A3 _ _ w w2 (w.heap.size + 1 + 1 + 1) w.heap.size (w.heap.size + 1) 2 (.int .i64 0) _ hb2 (by omega) (Nat.le_refl _) hT2 hB2 hM2 rfl hr2 hC2 hc2 hcut3).mono ?_; rintro e w3 ⟨rfl, hmv3, hM3, hB3⟩; have hO3 := hmv3.2 _ _ (by omega) (by omega) hO2; have hT3 := hmv3.2 _ _ (by omega) (by omega) hT2; have hb3 := hmv3.1; have hcT3 : w3.cell? ⟨w.heap.size + 1 + 1 + 1, 0, none⟩ = some (.func (.func 97) #[] #[.pointer (some ⟨w.heap.size, 0, none⟩)]) := (blk_cell hT3 0).trans rfl) | (go_at_call 97; refine (take101_ok A3 _ _ v3 A4 _ _ w3 w.heap.size ⟨(w.heap.size + 1), 0, none⟩ _ hB3 (list_read k A3 _ _ v1 v2 v3 0 w w3 w.heap.size (w.heap.size + 1) _ _ _ _ _ hb3 (by omega) hB3 hM3 hr3 hC3 hc3) hcut4).mono ?_; rintro e w4_ ⟨rfl, w4a, ⟨v, hmv4, hM4a, hR4a⟩, hB4a, rfl⟩; have hM4 := blk_far hM4a (p := ⟨w.heap.size, 0, none⟩) (show w.heap.size + 1 ≠ w.heap.size by omega) (.slice A4 0 (c0 - 1 - s2.toNat - u2.toNat - v3.toNat)); have hO4 := blk_far (hmv4.2 _ _ (by omega) (by omega) hO3) (p := ⟨w.heap.size, 0, none⟩) (show w.heap.size + 1 + 1 ≠ w.heap.size by omega) (.slice A4 0 (c0 - 1 - s2.toNat - u2.toNat - v3.toNat)); have hB4 := blk_put hB4a 0 (.slice A4 0 (c0 - 1 - s2.toNat - u2.toNat - v3.toNat)) rfl; have hb4 := below_set (g := w.heap.size) (j := 0) (v := (.slice A4 0 (c0 - 1 - s2.toNat - u2.toNat - v3.toNat))) hmv4.1 (Nat.le_refl _); have hR4 := Kd.R_mono (ok' := fun _ => True) (Kd.R_far (p := ⟨w.heap.size, 0, none⟩) (Kd.R_types hR4a hB4a (by decide)) (fun _ hk => hk.2) (.slice A4 0 (c0 - 1 - s2.toNat - u2.toNat - v3.toNat))) (fun _ hk => trivial); generalize World.setCell _ _ _ = w4 at hM4 hB4 hO4 hb4 hR4 ⊢; obtain ⟨Av, cv, ev⟩ := Kd.R_slice hR4; subst ev; have hcB4 : w4.cell? ⟨w.heap.size, 0, none⟩ = some (.slice A4 0 (c0 - 1 - s2.toNat - u2.toNat - v3.toNat)) := (blk_cell hB4 0).trans rfl; have hcm0 : w4.cell? ⟨w.heap.size + 1, 0, none⟩ = some (.int .u8 (rd l0 0)) := (blk_cell hM4 0).trans rfl; have hcm1 : w4.cell? ⟨w.heap.size + 1, 1, none⟩ = some (.int .i64 s1) := (blk_cell hM4 1).trans rfl; have hcm2 : w4.cell? ⟨w.heap.size + 1, 2, none⟩ = some (.int .i64 u1) := (blk_cell hM4 2).trans rfl; have hcm3 : w4.cell? ⟨w.heap.size + 1, 3, none⟩ = some (.int .u8 v1) := (blk_cell hM4 3).trans rfl; have hcm4 : w4.cell? ⟨w.heap.size + 1, 4, none⟩ = some (.slice Av v2.length cv) := (blk_cell hM4 4).trans rfl) | (go_at_call 44; refine (codec_May.calls k (rd l0 0) s1 u1 v1 _ _ v2 _ w4 (Kd.R_reads' hR4).2.2 (Kd.R_reads' hR4).2.1 hmay).mono ?_; rintro e w5 ⟨rfl, hb5⟩; have hM5 := blk_below hM4 hb5; have hO5 := blk_below hO4 hb5; have hbb5 := below_step hb4 hb5; have hR5 := Kd.R_below hR4 hb5; have hcn0 : w5.cell? ⟨w.heap.size + 1, 0, none⟩ = some (.int .u8 (rd l0 0)) := (blk_cell hM5 0).trans rfl; have hfn0 := blk_frozen hM5 0; have hcn1 : w5.cell? ⟨w.heap.size + 1, 1, none⟩ = some (.int .i64 s1) := (blk_cell hM5 1).trans rfl; have hfn1 := blk_frozen hM5 1; have hcn2 : w5.cell? ⟨w.heap.size + 1, 2, none⟩ = some (.int .i64 u1) := (blk_cell hM5 2).trans rfl; have hfn2 := blk_frozen hM5 2; have hcn3 : w5.cell? ⟨w.heap.size + 1, 3, none⟩ = some (.int .u8 v1) := (blk_cell hM5 3).trans rfl; have hfn3 := blk_frozen hM5 3; have hcn4 : w5.cell? ⟨w.heap.size + 1, 4, none⟩ = some (.slice Av v2.length cv) := (blk_cell hM5 4).trans rfl; have hfn4 := blk_frozen hM5 4; have hcnO : w5.cell? ⟨w.heap.size + 1 + 1, 0, none⟩ = some (.bool false) := (blk_cell hO5 0).trans rfl; have hfnO := blk_frozen hO5 0) | (go_at_call 98; refine (need_ok _).mono ?_; rintro e w6 ⟨rfl, rfl⟩))
                          have r1_ := Kd.R_mono (Kd.R_far (p := ⟨w.heap.size + 1, 0, none⟩) (Kd.R_types hR5 hM5 (by decide)) (fun _ hk => hk.2) (.int .u8 (rd l0 0))) (fun _ hk => trivial) (ok' := fun _ => True)
                          have p1_ := blk_put hM5 0 (.int .u8 (rd l0 0)) rfl
                          have q1_ := blk_far hO5 (p := ⟨w.heap.size + 1, 0, none⟩) (show w.heap.size + 1 + 1 ≠ w.heap.size + 1 by omega) (.int .u8 (rd l0 0))
                          have b1_ := below_set (g := w.heap.size + 1) (j := 0) (v := (.int .u8 (rd l0 0))) hbb5 (by omega)
                          have r2_ := Kd.R_mono (Kd.R_far (p := ⟨w.heap.size + 1, 1, none⟩) (Kd.R_types r1_ p1_ (by decide)) (fun _ hk => hk.2) (.int .i64 s1)) (fun _ hk => trivial) (ok' := fun _ => True)
                          have p2_ := blk_put p1_ 1 (.int .i64 s1) rfl
                          have q2_ := blk_far q1_ (p := ⟨w.heap.size + 1, 1, none⟩) (show w.heap.size + 1 + 1 ≠ w.heap.size + 1 by omega) (.int .i64 s1)
                          have b2_ := below_set (g := w.heap.size + 1) (j := 1) (v := (.int .i64 s1)) b1_ (by omega)
                          have r3_ := Kd.R_mono (Kd.R_far (p := ⟨w.heap.size + 1, 2, none⟩) (Kd.R_types r2_ p2_ (by decide)) (fun _ hk => hk.2) (.int .i64 u1)) (fun _ hk => trivial) (ok' := fun _ => True)
                          have p3_ := blk_put p2_ 2 (.int .i64 u1) rfl
                          have q3_ := blk_far q2_ (p := ⟨w.heap.size + 1, 2, none⟩) (show w.heap.size + 1 + 1 ≠ w.heap.size + 1 by omega) (.int .i64 u1)
                          have b3_ := below_set (g := w.heap.size + 1) (j := 2) (v := (.int .i64 u1)) b2_ (by omega)
                          have r4_ := Kd.R_mono (Kd.R_far (p := ⟨w.heap.size + 1, 3, none⟩) (Kd.R_types r3_ p3_ (by decide)) (fun _ hk => hk.2) (.int .u8 v1)) (fun _ hk => trivial) (ok' := fun _ => True)
                          have p4_ := blk_put p3_ 3 (.int .u8 v1) rfl
                          have q4_ := blk_far q3_ (p := ⟨w.heap.size + 1, 3, none⟩) (show w.heap.size + 1 + 1 ≠ w.heap.size + 1 by omega) (.int .u8 v1)
                          have b4_ := below_set (g := w.heap.size + 1) (j := 3) (v := (.int .u8 v1)) b3_ (by omega)
                          have r5_ := Kd.R_mono (Kd.R_far (p := ⟨w.heap.size + 1, 4, none⟩) (Kd.R_types r4_ p4_ (by decide)) (fun _ hk => hk.2) (.slice Av v2.length cv)) (fun _ hk => trivial) (ok' := fun _ => True)
                          have p5_ := blk_put p4_ 4 (.slice Av v2.length cv) rfl
                          have q5_ := blk_far q4_ (p := ⟨w.heap.size + 1, 4, none⟩) (show w.heap.size + 1 + 1 ≠ w.heap.size + 1 by omega) (.slice Av v2.length cv)
                          have b5_ := below_set (g := w.heap.size + 1) (j := 4) (v := (.slice Av v2.length cv)) b4_ (by omega)
                          have r6_ := Kd.R_mono (Kd.R_far (p := ⟨w.heap.size + 1 + 1, 0, none⟩) (Kd.R_types r5_ q5_ (by decide)) (fun _ hk => hk.2) (.bool true)) (fun _ hk => trivial) (ok' := fun _ => True)
                          have p6_ := blk_far p5_ (p := ⟨w.heap.size + 1 + 1, 0, none⟩) (show w.heap.size + 1 ≠ w.heap.size + 1 + 1 by omega) (.bool true)
                          have q6_ := blk_put q5_ 0 (.bool true) rfl
                          have b6_ := below_set (g := w.heap.size + 1 + 1) (j := 0) (v := .bool true) b5_ (by omega)
                          exact door_ok w _ _ _ _ _ _ _ _ _ _ _ _ b6_ r6_ p6_ q6_
                        · rw [if_neg c13] at h
                          have ct : t = false := by simpa using c13
                          subst ct
                          simp only [Option.some.injEq, Prod.mk.injEq] at h
                          obtain ⟨rfl, rfl, rfl, rfl, rfl, rfl⟩ := h
                          go_enter_defers Try.func71, Try.ntmps71
                          go_wp2_with (first | (go_at_call 98; refine (need_ok _).mono ?_; rintro e w_ ⟨rfl, hw_⟩; obtain ⟨hb, hB, hM, hO, hT⟩ := parts_facts w (some ad) l0.length c0 (Value.func (Fn.func 97) #[] #[Value.pointer (some ⟨w.heap.size, 0, none⟩)]); unfold parts_w at hb hB hM hO hT; rw [← hw_] at hb hB hM hO hT; clear hw_; have hcB : w_.cell? ⟨w.heap.size, 0, none⟩ = some (.slice (some ad) l0.length c0) := (blk_cell hB 0).trans rfl; have hfB := blk_frozen hB 0; have hcM : w_.cell? ⟨w.heap.size + 1, 0, none⟩ = some (.int .u8 0) := (blk_cell hM 0).trans rfl; have hfM := blk_frozen hM 0; have hx_ := (hb.cell (World.block_lt_of_cell? w _ hx)).trans hx) | (go_at_call 99; have hM1 := blk_far (blk_put hM 0 (.int .u8 (rd l0 0)) rfl) (p := ⟨w.heap.size, 0, none⟩) (show w.heap.size + 1 ≠ w.heap.size by omega) (.slice A1 (l0.length - 1) (c0 - 1)); have hB1 := blk_put (blk_far hB (p := ⟨w.heap.size + 1, 0, none⟩) (show w.heap.size ≠ w.heap.size + 1 by omega) (.int .u8 (rd l0 0))) 0 (.slice A1 (l0.length - 1) (c0 - 1)) rfl; have hO1 := blk_far (blk_far hO (p := ⟨w.heap.size + 1, 0, none⟩) (show w.heap.size + 1 + 1 ≠ w.heap.size + 1 by omega) (.int .u8 (rd l0 0))) (p := ⟨w.heap.size, 0, none⟩) (show w.heap.size + 1 + 1 ≠ w.heap.size by omega) (.slice A1 (l0.length - 1) (c0 - 1)); have hT1 := blk_far (blk_far hT (p := ⟨w.heap.size + 1, 0, none⟩) (show w.heap.size + 1 + 1 + 1 ≠ w.heap.size + 1 by omega) (.int .u8 (rd l0 0))) (p := ⟨w.heap.size, 0, none⟩) (show w.heap.size + 1 + 1 + 1 ≠ w.heap.size by omega) (.slice A1 (l0.length - 1) (c0 - 1)); have hb1 := below_set (g := w.heap.size) (j := 0) (v := .slice A1 (l0.length - 1) (c0 - 1)) (below_set (g := w.heap.size + 1) (j := 0) (v := .int .u8 (rd l0 0)) hb (by omega)) (Nat.le_refl _); generalize World.setCell _ _ _ = wx at hM1 hB1 hO1 hT1 hb1 ⊢; rw [← hl1] at hB1; refine (cnt_ok k A1 (c0 - 1) (l0.drop 1) s1 s2 A2 _ _ w wx (w.heap.size + 1 + 1 + 1) w.heap.size (w.heap.size + 1) 1 (.int .i64 0) _ hb1 (by omega) (Nat.le_refl _) hT1 hB1 hM1 rfl hr1 hC1 hc1 hcut2).mono ?_; rintro e w2 ⟨rfl, hmv2, hM2, hB2⟩; have hO2 := hmv2.2 _ _ (by omega) (by omega) hO1; have hT2 := hmv2.2 _ _ (by omega) (by omega) hT1; have hb2 := hmv2.1) | (go_at_call 99; refine (cnt_ok k A2 _ _ u1 u2 A3 _ _ w w2 (w.heap.size + 1 + 1 + 1) w.heap.size (w.heap.size + 1) 2 (.int .i64 0) _ hb2 (by omega) (Nat.le_refl _) hT2 hB2 hM2 rfl hr2 hC2 hc2 hcut3).mono ?_; rintro e w3 ⟨rfl, hmv3, hM3, hB3⟩; have hO3 := hmv3.2 _ _ (by omega) (by omega) hO2; have hT3 := hmv3.2 _ _ (by omega) (by omega) hT2; have hb3 := hmv3.1; have hcT3 : w3.cell? ⟨w.heap.size + 1 + 1 + 1, 0, none⟩ = some (.func (.func 97) #[] #[.pointer (some ⟨w.heap.size, 0, none⟩)]) := (blk_cell hT3 0).trans rfl) | (go_at_call 97; refine (take101_ok A3 _ _ v3 A4 _ _ w3 w.heap.size ⟨(w.heap.size + 1), 0, none⟩ _ hB3 (list_read k A3 _ _ v1 v2 v3 0 w w3 w.heap.size (w.heap.size + 1) _ _ _ _ _ hb3 (by omega) hB3 hM3 hr3 hC3 hc3) hcut4).mono ?_; rintro e w4_ ⟨rfl, w4a, ⟨v, hmv4, hM4a, hR4a⟩, hB4a, rfl⟩; have hM4 := blk_far hM4a (p := ⟨w.heap.size, 0, none⟩) (show w.heap.size + 1 ≠ w.heap.size by omega) (.slice A4 0 (c0 - 1 - s2.toNat - u2.toNat - v3.toNat)); have hO4 := blk_far (hmv4.2 _ _ (by omega) (by omega) hO3) (p := ⟨w.heap.size, 0, none⟩) (show w.heap.size + 1 + 1 ≠ w.heap.size by omega) (.slice A4 0 (c0 - 1 - s2.toNat - u2.toNat - v3.toNat)); have hB4 := blk_put hB4a 0 (.slice A4 0 (c0 - 1 - s2.toNat - u2.toNat - v3.toNat)) rfl; have hb4 := below_set (g := w.heap.size) (j := 0) (v := (.slice A4 0 (c0 - 1 - s2.toNat - u2.toNat - v3.toNat))) hmv4.1 (Nat.le_refl _); have hR4 := Kd.R_mono (ok' := fun _ => True) (Kd.R_far (p := ⟨w.heap.size, 0, none⟩) (Kd.R_types hR4a hB4a (by decide)) (fun _ hk => hk.2) (.slice A4 0 (c0 - 1 - s2.toNat - u2.toNat - v3.toNat))) (fun _ hk => trivial); generalize World.setCell _ _ _ = w4 at hM4 hB4 hO4 hb4 hR4 ⊢; obtain ⟨Av, cv, ev⟩ := Kd.R_slice hR4; subst ev; have hcB4 : w4.cell? ⟨w.heap.size, 0, none⟩ = some (.slice A4 0 (c0 - 1 - s2.toNat - u2.toNat - v3.toNat)) := (blk_cell hB4 0).trans rfl; have hcm0 : w4.cell? ⟨w.heap.size + 1, 0, none⟩ = some (.int .u8 (rd l0 0)) := (blk_cell hM4 0).trans rfl; have hcm1 : w4.cell? ⟨w.heap.size + 1, 1, none⟩ = some (.int .i64 s1) := (blk_cell hM4 1).trans rfl; have hcm2 : w4.cell? ⟨w.heap.size + 1, 2, none⟩ = some (.int .i64 u1) := (blk_cell hM4 2).trans rfl; have hcm3 : w4.cell? ⟨w.heap.size + 1, 3, none⟩ = some (.int .u8 v1) := (blk_cell hM4 3).trans rfl; have hcm4 : w4.cell? ⟨w.heap.size + 1, 4, none⟩ = some (.slice Av v2.length cv) := (blk_cell hM4 4).trans rfl) | (go_at_call 44; refine (codec_May.calls k (rd l0 0) s1 u1 v1 _ _ v2 _ w4 (Kd.R_reads' hR4).2.2 (Kd.R_reads' hR4).2.1 hmay).mono ?_; rintro e w5 ⟨rfl, hb5⟩; have hM5 := blk_below hM4 hb5; have hO5 := blk_below hO4 hb5; have hbb5 := below_step hb4 hb5; have hR5 := Kd.R_below hR4 hb5) | (go_at_call 98; refine (need_no _).mono ?_; rintro e w6 ⟨rfl, rfl⟩))
                          exact door_no w _ _ _ _ _ _ _ _ _ _ _ _ hbb5 (by omega) (by omega) hM5 hO5
                      · rw [if_neg c12] at h
                        have c12b : ((n4 : Int) == 0) = false := beq_eq_false_iff_ne.mpr c12
                        have c12c : ¬ n4 = 0 := by omega
                        simp only [Option.some.injEq, Prod.mk.injEq] at h
                        obtain ⟨rfl, rfl, rfl, rfl, rfl, rfl⟩ := h
                        go_enter_defers Try.func71, Try.ntmps71
                        go_wp2_with (first | (go_at_call 98; refine (need_ok _).mono ?_; rintro e w_ ⟨rfl, hw_⟩; obtain ⟨hb, hB, hM, hO, hT⟩ := parts_facts w (some ad) l0.length c0 (Value.func (Fn.func 97) #[] #[Value.pointer (some ⟨w.heap.size, 0, none⟩)]); unfold parts_w at hb hB hM hO hT; rw [← hw_] at hb hB hM hO hT; clear hw_; have hcB : w_.cell? ⟨w.heap.size, 0, none⟩ = some (.slice (some ad) l0.length c0) := (blk_cell hB 0).trans rfl; have hfB := blk_frozen hB 0; have hcM : w_.cell? ⟨w.heap.size + 1, 0, none⟩ = some (.int .u8 0) := (blk_cell hM 0).trans rfl; have hfM := blk_frozen hM 0; have hx_ := (hb.cell (World.block_lt_of_cell? w _ hx)).trans hx) | (go_at_call 99; have hM1 := blk_far (blk_put hM 0 (.int .u8 (rd l0 0)) rfl) (p := ⟨w.heap.size, 0, none⟩) (show w.heap.size + 1 ≠ w.heap.size by omega) (.slice A1 (l0.length - 1) (c0 - 1)); have hB1 := blk_put (blk_far hB (p := ⟨w.heap.size + 1, 0, none⟩) (show w.heap.size ≠ w.heap.size + 1 by omega) (.int .u8 (rd l0 0))) 0 (.slice A1 (l0.length - 1) (c0 - 1)) rfl; have hO1 := blk_far (blk_far hO (p := ⟨w.heap.size + 1, 0, none⟩) (show w.heap.size + 1 + 1 ≠ w.heap.size + 1 by omega) (.int .u8 (rd l0 0))) (p := ⟨w.heap.size, 0, none⟩) (show w.heap.size + 1 + 1 ≠ w.heap.size by omega) (.slice A1 (l0.length - 1) (c0 - 1)); have hT1 := blk_far (blk_far hT (p := ⟨w.heap.size + 1, 0, none⟩) (show w.heap.size + 1 + 1 + 1 ≠ w.heap.size + 1 by omega) (.int .u8 (rd l0 0))) (p := ⟨w.heap.size, 0, none⟩) (show w.heap.size + 1 + 1 + 1 ≠ w.heap.size by omega) (.slice A1 (l0.length - 1) (c0 - 1)); have hb1 := below_set (g := w.heap.size) (j := 0) (v := .slice A1 (l0.length - 1) (c0 - 1)) (below_set (g := w.heap.size + 1) (j := 0) (v := .int .u8 (rd l0 0)) hb (by omega)) (Nat.le_refl _); generalize World.setCell _ _ _ = wx at hM1 hB1 hO1 hT1 hb1 ⊢; rw [← hl1] at hB1; refine (cnt_ok k A1 (c0 - 1) (l0.drop 1) s1 s2 A2 _ _ w wx (w.heap.size + 1 + 1 + 1) w.heap.size (w.heap.size + 1) 1 (.int .i64 0) _ hb1 (by omega) (Nat.le_refl _) hT1 hB1 hM1 rfl hr1 hC1 hc1 hcut2).mono ?_; rintro e w2 ⟨rfl, hmv2, hM2, hB2⟩; have hO2 := hmv2.2 _ _ (by omega) (by omega) hO1; have hT2 := hmv2.2 _ _ (by omega) (by omega) hT1; have hb2 := hmv2.1) | (go_at_call 99; refine (cnt_ok k A2 _ _ u1 u2 A3 _ _ w w2 (w.heap.size + 1 + 1 + 1) w.heap.size (w.heap.size + 1) 2 (.int .i64 0) _ hb2 (by omega) (Nat.le_refl _) hT2 hB2 hM2 rfl hr2 hC2 hc2 hcut3).mono ?_; rintro e w3 ⟨rfl, hmv3, hM3, hB3⟩; have hO3 := hmv3.2 _ _ (by omega) (by omega) hO2; have hT3 := hmv3.2 _ _ (by omega) (by omega) hT2; have hb3 := hmv3.1; have hcT3 : w3.cell? ⟨w.heap.size + 1 + 1 + 1, 0, none⟩ = some (.func (.func 97) #[] #[.pointer (some ⟨w.heap.size, 0, none⟩)]) := (blk_cell hT3 0).trans rfl) | (go_at_call 97; refine (take101_ok A3 _ _ v3 A4 _ _ w3 w.heap.size ⟨(w.heap.size + 1), 0, none⟩ _ hB3 (list_read k A3 _ _ v1 v2 v3 0 w w3 w.heap.size (w.heap.size + 1) _ _ _ _ _ hb3 (by omega) hB3 hM3 hr3 hC3 hc3) hcut4).mono ?_; rintro e w4_ ⟨rfl, w4a, ⟨v, hmv4, hM4a, hR4a⟩, hB4a, rfl⟩; have hM4 := blk_far hM4a (p := ⟨w.heap.size, 0, none⟩) (show w.heap.size + 1 ≠ w.heap.size by omega) (.slice A4 n4 (c0 - 1 - s2.toNat - u2.toNat - v3.toNat)); have hO4 := blk_far (hmv4.2 _ _ (by omega) (by omega) hO3) (p := ⟨w.heap.size, 0, none⟩) (show w.heap.size + 1 + 1 ≠ w.heap.size by omega) (.slice A4 n4 (c0 - 1 - s2.toNat - u2.toNat - v3.toNat)); have hB4 := blk_put hB4a 0 (.slice A4 n4 (c0 - 1 - s2.toNat - u2.toNat - v3.toNat)) rfl; have hb4 := below_set (g := w.heap.size) (j := 0) (v := (.slice A4 n4 (c0 - 1 - s2.toNat - u2.toNat - v3.toNat))) hmv4.1 (Nat.le_refl _); have hR4 := Kd.R_mono (ok' := fun _ => True) (Kd.R_far (p := ⟨w.heap.size, 0, none⟩) (Kd.R_types hR4a hB4a (by decide)) (fun _ hk => hk.2) (.slice A4 n4 (c0 - 1 - s2.toNat - u2.toNat - v3.toNat))) (fun _ hk => trivial); generalize World.setCell _ _ _ = w4 at hM4 hB4 hO4 hb4 hR4 ⊢; obtain ⟨Av, cv, ev⟩ := Kd.R_slice hR4; subst ev; have hcB4 : w4.cell? ⟨w.heap.size, 0, none⟩ = some (.slice A4 n4 (c0 - 1 - s2.toNat - u2.toNat - v3.toNat)) := (blk_cell hB4 0).trans rfl; have hcm0 : w4.cell? ⟨w.heap.size + 1, 0, none⟩ = some (.int .u8 (rd l0 0)) := (blk_cell hM4 0).trans rfl; have hcm1 : w4.cell? ⟨w.heap.size + 1, 1, none⟩ = some (.int .i64 s1) := (blk_cell hM4 1).trans rfl; have hcm2 : w4.cell? ⟨w.heap.size + 1, 2, none⟩ = some (.int .i64 u1) := (blk_cell hM4 2).trans rfl; have hcm3 : w4.cell? ⟨w.heap.size + 1, 3, none⟩ = some (.int .u8 v1) := (blk_cell hM4 3).trans rfl; have hcm4 : w4.cell? ⟨w.heap.size + 1, 4, none⟩ = some (.slice Av v2.length cv) := (blk_cell hM4 4).trans rfl) | (go_at_call 98; refine (need_no _).mono ?_; rintro e w6 ⟨rfl, rfl⟩))
                        exact door_no w _ _ _ _ _ _ _ _ _ _ _ _ hb4 (by omega) (by omega) hM4 hO4
                    · rw [if_neg c11] at h
                      exact absurd h (by simp)
                  · rw [if_neg c10] at h
                    exact absurd h (by simp)
                · rw [if_neg c9] at h
                  simp only [Option.some.injEq, Prod.mk.injEq] at h
                  obtain ⟨rfl, rfl, rfl, rfl, rfl, rfl⟩ := h
                  go_enter_defers Try.func71, Try.ntmps71
                  go_wp2_with (first | (go_at_call 98; refine (need_ok _).mono ?_; rintro e w_ ⟨rfl, hw_⟩; obtain ⟨hb, hB, hM, hO, hT⟩ := parts_facts w (some ad) l0.length c0 (Value.func (Fn.func 97) #[] #[Value.pointer (some ⟨w.heap.size, 0, none⟩)]); unfold parts_w at hb hB hM hO hT; rw [← hw_] at hb hB hM hO hT; clear hw_; have hcB : w_.cell? ⟨w.heap.size, 0, none⟩ = some (.slice (some ad) l0.length c0) := (blk_cell hB 0).trans rfl; have hfB := blk_frozen hB 0; have hcM : w_.cell? ⟨w.heap.size + 1, 0, none⟩ = some (.int .u8 0) := (blk_cell hM 0).trans rfl; have hfM := blk_frozen hM 0; have hx_ := (hb.cell (World.block_lt_of_cell? w _ hx)).trans hx) | (go_at_call 99; have hM1 := blk_far (blk_put hM 0 (.int .u8 (rd l0 0)) rfl) (p := ⟨w.heap.size, 0, none⟩) (show w.heap.size + 1 ≠ w.heap.size by omega) (.slice A1 (l0.length - 1) (c0 - 1)); have hB1 := blk_put (blk_far hB (p := ⟨w.heap.size + 1, 0, none⟩) (show w.heap.size ≠ w.heap.size + 1 by omega) (.int .u8 (rd l0 0))) 0 (.slice A1 (l0.length - 1) (c0 - 1)) rfl; have hO1 := blk_far (blk_far hO (p := ⟨w.heap.size + 1, 0, none⟩) (show w.heap.size + 1 + 1 ≠ w.heap.size + 1 by omega) (.int .u8 (rd l0 0))) (p := ⟨w.heap.size, 0, none⟩) (show w.heap.size + 1 + 1 ≠ w.heap.size by omega) (.slice A1 (l0.length - 1) (c0 - 1)); have hT1 := blk_far (blk_far hT (p := ⟨w.heap.size + 1, 0, none⟩) (show w.heap.size + 1 + 1 + 1 ≠ w.heap.size + 1 by omega) (.int .u8 (rd l0 0))) (p := ⟨w.heap.size, 0, none⟩) (show w.heap.size + 1 + 1 + 1 ≠ w.heap.size by omega) (.slice A1 (l0.length - 1) (c0 - 1)); have hb1 := below_set (g := w.heap.size) (j := 0) (v := .slice A1 (l0.length - 1) (c0 - 1)) (below_set (g := w.heap.size + 1) (j := 0) (v := .int .u8 (rd l0 0)) hb (by omega)) (Nat.le_refl _); generalize World.setCell _ _ _ = wx at hM1 hB1 hO1 hT1 hb1 ⊢; rw [← hl1] at hB1; refine (cnt_ok k A1 (c0 - 1) (l0.drop 1) s1 s2 A2 _ _ w wx (w.heap.size + 1 + 1 + 1) w.heap.size (w.heap.size + 1) 1 (.int .i64 0) _ hb1 (by omega) (Nat.le_refl _) hT1 hB1 hM1 rfl hr1 hC1 hc1 hcut2).mono ?_; rintro e w2 ⟨rfl, hmv2, hM2, hB2⟩; have hO2 := hmv2.2 _ _ (by omega) (by omega) hO1; have hT2 := hmv2.2 _ _ (by omega) (by omega) hT1; have hb2 := hmv2.1) | (go_at_call 99; refine (cnt_ok k A2 _ _ u1 u2 A3 _ _ w w2 (w.heap.size + 1 + 1 + 1) w.heap.size (w.heap.size + 1) 2 (.int .i64 0) _ hb2 (by omega) (Nat.le_refl _) hT2 hB2 hM2 rfl hr2 hC2 hc2 hcut3).mono ?_; rintro e w3 ⟨rfl, hmv3, hM3, hB3⟩; have hO3 := hmv3.2 _ _ (by omega) (by omega) hO2; have hT3 := hmv3.2 _ _ (by omega) (by omega) hT2; have hb3 := hmv3.1; have hcT3 : w3.cell? ⟨w.heap.size + 1 + 1 + 1, 0, none⟩ = some (.func (.func 97) #[] #[.pointer (some ⟨w.heap.size, 0, none⟩)]) := (blk_cell hT3 0).trans rfl) | (go_at_call 97; refine (take101_no A3 _ _ v3 v4 w3 w.heap.size ⟨(w.heap.size + 1), 0, none⟩ _ hB3 (list_read k A3 _ _ v1 v2 v3 v4 w w3 w.heap.size (w.heap.size + 1) _ _ _ _ _ hb3 (by omega) hB3 hM3 hr3 hC3 hc3) c9).mono ?_; rintro e w4 ⟨rfl, v, hmv4, hM4, hR4⟩))
                  exact door_no w _ _ _ _ _ _ _ _ _ _ _ _ hmv4.1 (by omega) (by omega) hM4 (hmv4.2 _ _ (by omega) (by omega) hO3)
              · rw [if_neg c8] at h
                exact absurd h (by simp)
            · rw [if_neg c7] at h
              exact absurd h (by simp)
          · rw [if_neg c6] at h
            simp only [Option.some.injEq, Prod.mk.injEq] at h
            obtain ⟨rfl, rfl, rfl, rfl, rfl, rfl⟩ := h
            go_enter_defers Try.func71, Try.ntmps71
            go_wp2_with (first | (go_at_call 98; refine (need_ok _).mono ?_; rintro e w_ ⟨rfl, hw_⟩; obtain ⟨hb, hB, hM, hO, hT⟩ := parts_facts w (some ad) l0.length c0 (Value.func (Fn.func 97) #[] #[Value.pointer (some ⟨w.heap.size, 0, none⟩)]); unfold parts_w at hb hB hM hO hT; rw [← hw_] at hb hB hM hO hT; clear hw_; have hcB : w_.cell? ⟨w.heap.size, 0, none⟩ = some (.slice (some ad) l0.length c0) := (blk_cell hB 0).trans rfl; have hfB := blk_frozen hB 0; have hcM : w_.cell? ⟨w.heap.size + 1, 0, none⟩ = some (.int .u8 0) := (blk_cell hM 0).trans rfl; have hfM := blk_frozen hM 0; have hx_ := (hb.cell (World.block_lt_of_cell? w _ hx)).trans hx) | (go_at_call 99; have hM1 := blk_far (blk_put hM 0 (.int .u8 (rd l0 0)) rfl) (p := ⟨w.heap.size, 0, none⟩) (show w.heap.size + 1 ≠ w.heap.size by omega) (.slice A1 (l0.length - 1) (c0 - 1)); have hB1 := blk_put (blk_far hB (p := ⟨w.heap.size + 1, 0, none⟩) (show w.heap.size ≠ w.heap.size + 1 by omega) (.int .u8 (rd l0 0))) 0 (.slice A1 (l0.length - 1) (c0 - 1)) rfl; have hO1 := blk_far (blk_far hO (p := ⟨w.heap.size + 1, 0, none⟩) (show w.heap.size + 1 + 1 ≠ w.heap.size + 1 by omega) (.int .u8 (rd l0 0))) (p := ⟨w.heap.size, 0, none⟩) (show w.heap.size + 1 + 1 ≠ w.heap.size by omega) (.slice A1 (l0.length - 1) (c0 - 1)); have hT1 := blk_far (blk_far hT (p := ⟨w.heap.size + 1, 0, none⟩) (show w.heap.size + 1 + 1 + 1 ≠ w.heap.size + 1 by omega) (.int .u8 (rd l0 0))) (p := ⟨w.heap.size, 0, none⟩) (show w.heap.size + 1 + 1 + 1 ≠ w.heap.size by omega) (.slice A1 (l0.length - 1) (c0 - 1)); have hb1 := below_set (g := w.heap.size) (j := 0) (v := .slice A1 (l0.length - 1) (c0 - 1)) (below_set (g := w.heap.size + 1) (j := 0) (v := .int .u8 (rd l0 0)) hb (by omega)) (Nat.le_refl _); generalize World.setCell _ _ _ = wx at hM1 hB1 hO1 hT1 hb1 ⊢; rw [← hl1] at hB1; refine (cnt_ok k A1 (c0 - 1) (l0.drop 1) s1 s2 A2 _ _ w wx (w.heap.size + 1 + 1 + 1) w.heap.size (w.heap.size + 1) 1 (.int .i64 0) _ hb1 (by omega) (Nat.le_refl _) hT1 hB1 hM1 rfl hr1 hC1 hc1 hcut2).mono ?_; rintro e w2 ⟨rfl, hmv2, hM2, hB2⟩; have hO2 := hmv2.2 _ _ (by omega) (by omega) hO1; have hT2 := hmv2.2 _ _ (by omega) (by omega) hT1; have hb2 := hmv2.1) | (go_at_call 99; refine (cnt_no k A2 _ _ u1 u2 u3 w w2 (w.heap.size + 1 + 1 + 1) w.heap.size (w.heap.size + 1) 2 (.int .i64 0) _ hb2 (by omega) hT2 hB2 hM2 rfl hr2 hC2 hc2 c6).mono ?_; rintro e w3 ⟨rfl, hmv3, hM3⟩))
            exact door_no w _ _ _ _ _ _ _ _ _ _ _ _ hmv3.1 (by omega) (by omega) hM3 (hmv3.2 _ _ (by omega) (by omega) hO2)
        · rw [if_neg c5] at h
          exact absurd h (by simp)
      · rw [if_neg c4] at h
        exact absurd h (by simp)
    · rw [if_neg c3] at h
      simp only [Option.some.injEq, Prod.mk.injEq] at h
      obtain ⟨rfl, rfl, rfl, rfl, rfl, rfl⟩ := h
      go_enter_defers Try.func71, Try.ntmps71
      go_wp2_with (first | (go_at_call 98; refine (need_ok _).mono ?_; rintro e w_ ⟨rfl, hw_⟩; obtain ⟨hb, hB, hM, hO, hT⟩ := parts_facts w (some ad) l0.length c0 (Value.func (Fn.func 97) #[] #[Value.pointer (some ⟨w.heap.size, 0, none⟩)]); unfold parts_w at hb hB hM hO hT; rw [← hw_] at hb hB hM hO hT; clear hw_; have hcB : w_.cell? ⟨w.heap.size, 0, none⟩ = some (.slice (some ad) l0.length c0) := (blk_cell hB 0).trans rfl; have hfB := blk_frozen hB 0; have hcM : w_.cell? ⟨w.heap.size + 1, 0, none⟩ = some (.int .u8 0) := (blk_cell hM 0).trans rfl; have hfM := blk_frozen hM 0; have hx_ := (hb.cell (World.block_lt_of_cell? w _ hx)).trans hx) | (go_at_call 99; have hM1 := blk_far (blk_put hM 0 (.int .u8 (rd l0 0)) rfl) (p := ⟨w.heap.size, 0, none⟩) (show w.heap.size + 1 ≠ w.heap.size by omega) (.slice A1 (l0.length - 1) (c0 - 1)); have hB1 := blk_put (blk_far hB (p := ⟨w.heap.size + 1, 0, none⟩) (show w.heap.size ≠ w.heap.size + 1 by omega) (.int .u8 (rd l0 0))) 0 (.slice A1 (l0.length - 1) (c0 - 1)) rfl; have hO1 := blk_far (blk_far hO (p := ⟨w.heap.size + 1, 0, none⟩) (show w.heap.size + 1 + 1 ≠ w.heap.size + 1 by omega) (.int .u8 (rd l0 0))) (p := ⟨w.heap.size, 0, none⟩) (show w.heap.size + 1 + 1 ≠ w.heap.size by omega) (.slice A1 (l0.length - 1) (c0 - 1)); have hT1 := blk_far (blk_far hT (p := ⟨w.heap.size + 1, 0, none⟩) (show w.heap.size + 1 + 1 + 1 ≠ w.heap.size + 1 by omega) (.int .u8 (rd l0 0))) (p := ⟨w.heap.size, 0, none⟩) (show w.heap.size + 1 + 1 + 1 ≠ w.heap.size by omega) (.slice A1 (l0.length - 1) (c0 - 1)); have hb1 := below_set (g := w.heap.size) (j := 0) (v := .slice A1 (l0.length - 1) (c0 - 1)) (below_set (g := w.heap.size + 1) (j := 0) (v := .int .u8 (rd l0 0)) hb (by omega)) (Nat.le_refl _); generalize World.setCell _ _ _ = wx at hM1 hB1 hO1 hT1 hb1 ⊢; rw [← hl1] at hB1; refine (cnt_no k A1 (c0 - 1) (l0.drop 1) s1 s2 s3 w wx (w.heap.size + 1 + 1 + 1) w.heap.size (w.heap.size + 1) 1 (.int .i64 0) _ hb1 (by omega) hT1 hB1 hM1 rfl hr1 hC1 hc1 c3).mono ?_; rintro e w2 ⟨rfl, hmv, hM2⟩))
      exact door_no w _ _ _ _ _ _ _ _ _ _ _ _ hmv.1 (by omega) (by omega) hM2 (hmv.2 _ _ (by omega) (by omega) hO1)
def codec_Read.f (k : Nat) (l0 : List Int) : Option (Int × Int × Int × Int × List Int × Int) := (wire_Unseal.f k l0).bind fun bt301 => (if bt301.2.2 = 0 then ((codec_parts.f k bt301.1).bind fun bt306 => (if bt306.2.2.2.2.2 = true then (if bt301.2.1 < (l0.length : Int) then (some (0, 0, 0, 0, ([] : List Int), 8)) else (some (bt306.1, bt306.2.1, bt306.2.2.1, bt306.2.2.2.1, bt306.2.2.2.2.1, 0))) else (some (0, 0, 0, 0, ([] : List Int), 8)))) else (some (0, 0, 0, 0, ([] : List Int), bt301.2.2)))
set_option maxHeartbeats 8000000 in
set_option maxRecDepth 100000 in
theorem codec_Read.calls (k : Nat) (A0 : Option Addr) (c0 : Nat) (l0 : List Int) (r1 : Int) (r2 : Int) (r3 : Int) (r4 : Int) (r5 : List Int) (r6 : Int) (w : World) (hr0 : Kd.C (Kd.int .u8) w A0 l0.length l0) (hc0 : l0.length ≤ c0) (h : codec_Read.f k l0 = some (r1, r2, r3, r4, r5, r6)) :
    Calls Try.prog 38 #[.slice A0 l0.length c0] w fun e w' => ∃ v4_ : Value, e = .returned (.tuple #[.agg #[.int .u8 r1, .int .i64 r2, .int .i64 r3, .int .u8 r4, v4_], .int .i64 r6]) ∧ Kd.R (Kd.int .u64) 107 w' w.heap.size (fun _ => True) v4_ r5 ∧ Below w.heap.size w w' := by
  have hu61 := Try.underlying61
  have HR0 := Aside0.mk hr0
  have HC0 := Aside0.mk hc0
  clear hr0 hc0
  have HB := Aside0.mk (Below.refl w.heap.size w)
  have H : ((wire_Unseal.f k l0).bind fun bt301 => (if bt301.2.2 = 0 then ((codec_parts.f k bt301.1).bind fun bt306 => (if bt306.2.2.2.2.2 = true then (if bt301.2.1 < (l0.length : Int) then (some (0, 0, 0, 0, ([] : List Int), 8)) else (some (bt306.1, bt306.2.1, bt306.2.2.1, bt306.2.2.2.1, bt306.2.2.2.2.1, 0))) else (some (0, 0, 0, 0, ([] : List Int), 8)))) else (some (0, 0, 0, 0, ([] : List Int), bt301.2.2)))) = some (r1, r2, r3, r4, r5, r6) := h
  clear h
  replace H := Option.bind_eq_some_iff.mp H
  obtain ⟨⟨t301, t302, t303⟩, A20, H⟩ := H
  replace H : (if t303 = 0 then ((codec_parts.f k t301).bind fun bt306 => (if bt306.2.2.2.2.2 = true then (if t302 < (l0.length : Int) then (some (0, 0, 0, 0, ([] : List Int), 8)) else (some (bt306.1, bt306.2.1, bt306.2.2.1, bt306.2.2.2.1, bt306.2.2.2.2.1, 0))) else (some (0, 0, 0, 0, ([] : List Int), 8)))) else (some (0, 0, 0, 0, ([] : List Int), t303))) = some (r1, r2, r3, r4, r5, r6) := H
  have A2 := Aside0.mk A20
  clear A20
  by_cases c3 : t303 = 0
  · rw [if_pos c3] at H
    have c3b0 : (t303 == 0) = true := beq_iff_eq.mpr c3
    have c3b1 : (t303 != 0) = false := bne_eq_false_iff_eq.mpr c3
    clear c3
    replace H := Option.bind_eq_some_iff.mp H
    obtain ⟨⟨t306, t307, t308, t309, t310, t313⟩, A40, H⟩ := H
    replace H : (if t313 = true then (if t302 < (l0.length : Int) then (some (0, 0, 0, 0, ([] : List Int), 8)) else (some (t306, t307, t308, t309, t310, 0))) else (some (0, 0, 0, 0, ([] : List Int), 8))) = some (r1, r2, r3, r4, r5, r6) := H
    have A4 := Aside0.mk A40
    clear A40
    by_cases c5 : t313 = true
    · subst c5
      have H1 : (if t302 < (l0.length : Int) then (some (0, 0, 0, 0, ([] : List Int), 8)) else (some (t306, t307, t308, t309, t310, 0))) = some (r1, r2, r3, r4, r5, r6) := by rw [if_pos rfl] at H; exact H
      clear H
      have H := H1
      clear H1
      by_cases c6 : t302 < (l0.length : Int)
      · rw [if_pos c6] at H
        have c6b0 : decide (t302 < (l0.length : Int)) = true := decide_eq_true c6
        clear c6
        simp only [Option.some.injEq, Prod.mk.injEq] at H
        obtain ⟨rfl, rfl, rfl, rfl, rfl, rfl⟩ := H
        go_enter Try.func38, Try.ntmps38
        go_wp2_with (first | ((with_reducible refine gate_dst (N := 2) rfl ?_); (try (refine gate_guard (by rfl) ?_; dsimp only)); refine box_event ?hg (N := 2) ?hd (cs := #[.int .u8 0, .int .i64 0, .int .i64 0, .int .u8 0, .slice none 0 0]) (t := 61) ?hr ?_; (case hd => rfl); (case hg => rfl); (case hr => first | (go_simp; done) | (go_simp; rfl)); intro gb300 hg w7 hbox hb; have n0_ := Aside0.mk (below_step (by repeat (first | (with_reducible first | exact HB.out | apply below_alloc | apply pw_below_drewN | apply below_drew1) | exact HB.out)) hb); have n1_ := Aside0.mk (hbox); have n2_ := Aside0.mk ((by rw [hg]; exact (below_size (by repeat (first | (with_reducible first | exact HB.out | apply below_alloc | apply pw_below_drewN | apply below_drew1) | exact HB.out))) : w.heap.size ≤ gb300)); have n3_ := Aside0.mk ((by rw [hg]; exact (below_size (by repeat (first | (with_reducible first | exact HB.out | apply below_alloc | apply pw_below_drewN | apply below_drew1) | exact HB.out))) : w.heap.size ≤ gb300)); clear HB; have HB := n0_; have BK300 := n1_; have GW300 := n2_; have GE300 := n3_; clear n0_ n1_ n2_ n3_; clear hb hbox hg) | ((with_reducible refine gate_callee (f := 62) rfl ?_); refine goesL_ (some 11) rfl rfl Try.func62 (by kernel_rfl) rfl #[.slice A0 l0.length c0] rfl (by (try simp only [List.map_toArray, List.map_cons, List.map_nil]); first | done | rfl | (simp only [List.length_drop, List.length_take]; rfl)) ?_; (with_reducible refine (wire_Unseal.calls k _ _ l0 t301 t302 t303 _ ?side1 ?side2 A2.out).mono ?_); (case side1 => repeat (first | exact (Kd.C_below HR0.out HB.out) | (with_reducible refine Kd.C_alloc ?_ _) | (with_reducible refine Kd.C_drewN ?_ _) | (with_reducible refine Kd.C_drew ?_))); (case side2 => exact HC0.out); rintro e w8 ⟨v304, rfl, ho0, hb⟩; refine ⟨_, rfl, ?_⟩; have n0_ := Aside0.mk (Kd.R_lower ho0 (below_size (by repeat (first | (with_reducible first | exact HB.out | apply below_alloc | apply pw_below_drewN | apply below_drew1 | refine below_set ?_ GE300.out) | exact HB.out)))); have n1_ := Aside0.mk (blk_below (g := gb300) (o := .cells #[.int .u8 0, .int .i64 0, .int .i64 0, .int .u8 0, .slice none 0 0] 61 (0, 0)) (by (with_reducible repeat (first | refine blk_drewN ?_ _ | refine blk_drew ?_ | refine blk_alloc ?_ _)); exact BK300.out) hb); have n2_ := Aside0.mk (below_step (by repeat (first | (with_reducible first | exact HB.out | apply below_alloc | apply pw_below_drewN | apply below_drew1 | refine below_set ?_ GE300.out) | exact HB.out)) hb); clear BK300; clear HB; have HO305 := n0_; have BK300 := n1_; have HB := n2_; clear n0_ n1_ n2_; (try clear hb); (try clear hb2); (try clear hk); (try clear hi); (try clear ho0); obtain ⟨Ao9, co9, eo9⟩ := Kd.R_slice HO305.out; subst eo9) | ((with_reducible refine gate_callee (f := 71) rfl ?_); refine goesL_ (some 21) rfl rfl Try.func71 (by kernel_rfl) rfl #[.slice Ao9 t301.length co9] rfl (by (try simp only [List.map_toArray, List.map_cons, List.map_nil]); first | done | rfl | (simp only [List.length_drop, List.length_take]; rfl)) ?_; (with_reducible refine (codec_parts.calls k _ _ t301 t306 t307 t308 t309 t310 true _ ?side1 ?side2 A4.out).mono ?_); (case side1 => repeat (first | exact (Kd.R_reads' HO305.out).2.2 | (with_reducible refine Kd.C_alloc ?_ _) | (with_reducible refine Kd.C_drewN ?_ _) | (with_reducible refine Kd.C_drew ?_))); (case side2 => exact (Kd.R_reads' HO305.out).2.1); rintro e w10 ⟨v311, rfl, ho0, hb⟩; refine ⟨_, rfl, ?_⟩; have n0_ := Aside0.mk (Kd.R_below (by (with_reducible repeat (first | apply Kd.R_alloc | apply Kd.R_drewN | apply Kd.R_drew)); exact HO305.out) hb); have n1_ := Aside0.mk (Kd.R_lower ho0 (below_size (by repeat (first | (with_reducible first | exact HB.out | apply below_alloc | apply pw_below_drewN | apply below_drew1 | refine below_set ?_ GE300.out) | exact HB.out)))); have n2_ := Aside0.mk (blk_below (g := gb300) (o := .cells #[.int .u8 0, .int .i64 0, .int .i64 0, .int .u8 0, .slice none 0 0] 61 (0, 0)) (by (with_reducible repeat (first | refine blk_drewN ?_ _ | refine blk_drew ?_ | refine blk_alloc ?_ _)); exact BK300.out) hb); have n3_ := Aside0.mk (below_step (by repeat (first | (with_reducible first | exact HB.out | apply below_alloc | apply pw_below_drewN | apply below_drew1 | refine below_set ?_ GE300.out) | exact HB.out)) hb); clear HO305; clear BK300; clear HB; have HO305 := n0_; have HO312 := n1_; have BK300 := n2_; have HB := n3_; clear n0_ n1_ n2_ n3_; (try clear hb); (try clear hb2); (try clear hk); (try clear hi); (try clear ho0)) | ((with_reducible refine gate_dst (N := 7) rfl ?_); (try (refine gate_guard (by rfl) ?_; dsimp only)); refine box_event ?hg (N := 7) ?hd (cs := #[.int .u8 0, .int .i64 0, .int .i64 0, .int .u8 0, .slice none 0 0]) (t := 61) ?hr ?_; (case hd => rfl); (case hg => rfl); (case hr => first | (go_simp; done) | (go_simp; rfl)); intro gb314 hg w11 hbox hb; have n0_ := Aside0.mk (Kd.R_below (by (with_reducible repeat (first | apply Kd.R_alloc | apply Kd.R_drewN | apply Kd.R_drew)); exact HO305.out) hb); have n1_ := Aside0.mk (Kd.R_below (by (with_reducible repeat (first | apply Kd.R_alloc | apply Kd.R_drewN | apply Kd.R_drew)); exact HO312.out) hb); have n2_ := Aside0.mk (blk_below (g := gb300) (o := .cells #[.int .u8 0, .int .i64 0, .int .i64 0, .int .u8 0, .slice none 0 0] 61 (0, 0)) (by (with_reducible repeat (first | refine blk_drewN ?_ _ | refine blk_drew ?_ | refine blk_alloc ?_ _)); exact BK300.out) hb); have n3_ := Aside0.mk (below_step (by repeat (first | (with_reducible first | exact HB.out | apply below_alloc | apply pw_below_drewN | apply below_drew1 | refine below_set ?_ GE300.out) | exact HB.out)) hb); have n4_ := Aside0.mk (hbox); have n5_ := Aside0.mk ((by rw [hg]; exact (below_size (by repeat (first | (with_reducible first | exact HB.out | apply below_alloc | apply pw_below_drewN | apply below_drew1 | refine below_set ?_ GE300.out) | exact HB.out))) : w.heap.size ≤ gb314)); have n6_ := Aside0.mk ((by rw [hg]; exact (below_size (by repeat (first | (with_reducible first | exact HB.out | apply below_alloc | apply pw_below_drewN | apply below_drew1 | refine below_set ?_ GE300.out) | exact HB.out))) : w.heap.size ≤ gb314)); have n7_ := Aside0.mk ((by rw [hg]; exact Nat.ne_of_lt (blk_lt (g := gb300) (o := .cells #[.int .u8 0, .int .i64 0, .int .i64 0, .int .u8 0, .slice none 0 0] 61 (0, 0)) (by (with_reducible repeat (first | refine blk_drewN ?_ _ | refine blk_drew ?_ | refine blk_alloc ?_ _)); exact BK300.out)) : gb300 ≠ gb314)); have n8_ := Aside0.mk ((by rw [hg]; exact Nat.ne_of_gt (blk_lt (g := gb300) (o := .cells #[.int .u8 0, .int .i64 0, .int .i64 0, .int .u8 0, .slice none 0 0] 61 (0, 0)) (by (with_reducible repeat (first | refine blk_drewN ?_ _ | refine blk_drew ?_ | refine blk_alloc ?_ _)); exact BK300.out)) : gb314 ≠ gb300)); clear HO305; clear HO312; clear BK300; clear HB; have HO305 := n0_; have HO312 := n1_; have BK300 := n2_; have HB := n3_; have BK314 := n4_; have GW314 := n5_; have GE314 := n6_; have NB300_314 := n7_; have NB314_300 := n8_; clear n0_ n1_ n2_ n3_ n4_ n5_ n6_ n7_ n8_; clear hb hbox hg; have hnb12 := NB314_300.out; have hnc12 := NB300_314.out; have hcz13_0 : w11.cell? ⟨gb314, 0, none⟩ = some (.int .u8 0) := (blk_cell BK314.out 0).trans rfl; have hcz13_1 : w11.cell? ⟨gb314, 1, none⟩ = some (.int .i64 0) := (blk_cell BK314.out 1).trans rfl; have hcz13_2 : w11.cell? ⟨gb314, 2, none⟩ = some (.int .i64 0) := (blk_cell BK314.out 2).trans rfl; have hcz13_3 : w11.cell? ⟨gb314, 3, none⟩ = some (.int .u8 0) := (blk_cell BK314.out 3).trans rfl; have hcz13_4 : w11.cell? ⟨gb314, 4, none⟩ = some (.slice none 0 0) := (blk_cell BK314.out 4).trans rfl; have hfz13_0 := blk_frozen BK314.out 0; have hfz13_1 := blk_frozen BK314.out 1; have hfz13_2 := blk_frozen BK314.out 2; have hfz13_3 := blk_frozen BK314.out 3; have hfz13_4 := blk_frozen BK314.out 4; obtain ⟨Ao14, co14, eo14⟩ := Kd.R_slice HO312.out; subst eo14; have hcz15_0 : w11.cell? ⟨gb300, 0, none⟩ = some (.int .u8 0) := (blk_cell BK300.out 0).trans rfl; have hcz15_1 : w11.cell? ⟨gb300, 1, none⟩ = some (.int .i64 0) := (blk_cell BK300.out 1).trans rfl; have hcz15_2 : w11.cell? ⟨gb300, 2, none⟩ = some (.int .i64 0) := (blk_cell BK300.out 2).trans rfl; have hcz15_3 : w11.cell? ⟨gb300, 3, none⟩ = some (.int .u8 0) := (blk_cell BK300.out 3).trans rfl; have hcz15_4 : w11.cell? ⟨gb300, 4, none⟩ = some (.slice none 0 0) := (blk_cell BK300.out 4).trans rfl; have hfz15_0 := blk_frozen BK300.out 0; have hfz15_1 := blk_frozen BK300.out 1; have hfz15_2 := blk_frozen BK300.out 2; have hfz15_3 := blk_frozen BK300.out 3; have hfz15_4 := blk_frozen BK300.out 4))
        refine bodyPost_ret (results_ct rfl _ _ gb300 61 #[.int .u8 0, .int .i64 0, .int .i64 0, .int .u8 0, .slice none 0 0] (0, 0) _ rfl (by (with_reducible repeat (first | refine blk_drewN ?_ _ | refine blk_drew ?_ | refine blk_alloc ?_ _)); refine blk_put (cs := #[.int .u8 0, .int .i64 0, .int .i64 0, .int .u8 0, .slice none 0 0]) ?_ 4 _ rfl; (with_reducible repeat (first | refine blk_drewN ?_ _ | refine blk_drew ?_ | refine blk_alloc ?_ _)); refine blk_put (cs := #[.int .u8 0, .int .i64 0, .int .i64 0, .int .u8 0, .slice none 0 0]) ?_ 3 _ rfl; (with_reducible repeat (first | refine blk_drewN ?_ _ | refine blk_drew ?_ | refine blk_alloc ?_ _)); refine blk_put (cs := #[.int .u8 0, .int .i64 0, .int .i64 0, .int .u8 0, .slice none 0 0]) ?_ 2 _ rfl; (with_reducible repeat (first | refine blk_drewN ?_ _ | refine blk_drew ?_ | refine blk_alloc ?_ _)); refine blk_put (cs := #[.int .u8 0, .int .i64 0, .int .i64 0, .int .u8 0, .slice none 0 0]) ?_ 1 _ rfl; (with_reducible repeat (first | refine blk_drewN ?_ _ | refine blk_drew ?_ | refine blk_alloc ?_ _)); refine blk_put (cs := #[.int .u8 0, .int .i64 0, .int .i64 0, .int .u8 0, .slice none 0 0]) ?_ 0 _ rfl; (with_reducible repeat (first | refine blk_drewN ?_ _ | refine blk_drew ?_ | refine blk_alloc ?_ _)); refine blk_far ?_ NB300_314.out _; (with_reducible repeat (first | refine blk_drewN ?_ _ | refine blk_drew ?_ | refine blk_alloc ?_ _)); refine blk_far ?_ NB300_314.out _; (with_reducible repeat (first | refine blk_drewN ?_ _ | refine blk_drew ?_ | refine blk_alloc ?_ _)); refine blk_far ?_ NB300_314.out _; (with_reducible repeat (first | refine blk_drewN ?_ _ | refine blk_drew ?_ | refine blk_alloc ?_ _)); refine blk_far ?_ NB300_314.out _; (with_reducible repeat (first | refine blk_drewN ?_ _ | refine blk_drew ?_ | refine blk_alloc ?_ _)); refine blk_far ?_ NB300_314.out _; (with_reducible repeat (first | refine blk_drewN ?_ _ | refine blk_drew ?_ | refine blk_alloc ?_ _)); exact BK300.out) Try.underlying61 rfl (by kernel_rfl)) rfl ?_
        exact ⟨_, by first | rfl | (simp [errW_none, errW_some] <;> rfl) | (simp [*, errW_none, errW_some] <;> rfl), by first | exact Kd.R_nil _ _ _ _ _ | exact Kd.N_nil _ _ _ _ _ | exact Kd.V_nil _ _ _ _ _ | exact Kd.Q_nil _ _ _ _ _ | exact Kd.S_nil _ _ _ _ _, by repeat (first | (with_reducible first | exact HB.out | apply below_alloc | apply pw_below_drewN | apply below_drew1 | refine below_set ?_ GE300.out | refine below_set ?_ GE314.out) | exact HB.out)⟩
      · rw [if_neg c6] at H
        have c6b0 : decide (t302 < (l0.length : Int)) = false := decide_eq_false c6
        clear c6
        simp only [Option.some.injEq, Prod.mk.injEq] at H
        obtain ⟨rfl, rfl, rfl, rfl, rfl, rfl⟩ := H
        go_enter Try.func38, Try.ntmps38
        go_wp2_with (first | ((with_reducible refine gate_dst (N := 2) rfl ?_); (try (refine gate_guard (by rfl) ?_; dsimp only)); refine box_event ?hg (N := 2) ?hd (cs := #[.int .u8 0, .int .i64 0, .int .i64 0, .int .u8 0, .slice none 0 0]) (t := 61) ?hr ?_; (case hd => rfl); (case hg => rfl); (case hr => first | (go_simp; done) | (go_simp; rfl)); intro gb300 hg w16 hbox hb; have n0_ := Aside0.mk (below_step (by repeat (first | (with_reducible first | exact HB.out | apply below_alloc | apply pw_below_drewN | apply below_drew1) | exact HB.out)) hb); have n1_ := Aside0.mk (hbox); have n2_ := Aside0.mk ((by rw [hg]; exact (below_size (by repeat (first | (with_reducible first | exact HB.out | apply below_alloc | apply pw_below_drewN | apply below_drew1) | exact HB.out))) : w.heap.size ≤ gb300)); have n3_ := Aside0.mk ((by rw [hg]; exact (below_size (by repeat (first | (with_reducible first | exact HB.out | apply below_alloc | apply pw_below_drewN | apply below_drew1) | exact HB.out))) : w.heap.size ≤ gb300)); clear HB; have HB := n0_; have BK300 := n1_; have GW300 := n2_; have GE300 := n3_; clear n0_ n1_ n2_ n3_; clear hb hbox hg) | ((with_reducible refine gate_callee (f := 62) rfl ?_); refine goesL_ (some 11) rfl rfl Try.func62 (by kernel_rfl) rfl #[.slice A0 l0.length c0] rfl (by (try simp only [List.map_toArray, List.map_cons, List.map_nil]); first | done | rfl | (simp only [List.length_drop, List.length_take]; rfl)) ?_; (with_reducible refine (wire_Unseal.calls k _ _ l0 t301 t302 t303 _ ?side1 ?side2 A2.out).mono ?_); (case side1 => repeat (first | exact (Kd.C_below HR0.out HB.out) | (with_reducible refine Kd.C_alloc ?_ _) | (with_reducible refine Kd.C_drewN ?_ _) | (with_reducible refine Kd.C_drew ?_))); (case side2 => exact HC0.out); rintro e w17 ⟨v304, rfl, ho0, hb⟩; refine ⟨_, rfl, ?_⟩; have n0_ := Aside0.mk (Kd.R_lower ho0 (below_size (by repeat (first | (with_reducible first | exact HB.out | apply below_alloc | apply pw_below_drewN | apply below_drew1 | refine below_set ?_ GE300.out) | exact HB.out)))); have n1_ := Aside0.mk (blk_below (g := gb300) (o := .cells #[.int .u8 0, .int .i64 0, .int .i64 0, .int .u8 0, .slice none 0 0] 61 (0, 0)) (by (with_reducible repeat (first | refine blk_drewN ?_ _ | refine blk_drew ?_ | refine blk_alloc ?_ _)); exact BK300.out) hb); have n2_ := Aside0.mk (below_step (by repeat (first | (with_reducible first | exact HB.out | apply below_alloc | apply pw_below_drewN | apply below_drew1 | refine below_set ?_ GE300.out) | exact HB.out)) hb); clear BK300; clear HB; have HO305 := n0_; have BK300 := n1_; have HB := n2_; clear n0_ n1_ n2_; (try clear hb); (try clear hb2); (try clear hk); (try clear hi); (try clear ho0); obtain ⟨Ao18, co18, eo18⟩ := Kd.R_slice HO305.out; subst eo18) | ((with_reducible refine gate_callee (f := 71) rfl ?_); refine goesL_ (some 21) rfl rfl Try.func71 (by kernel_rfl) rfl #[.slice Ao18 t301.length co18] rfl (by (try simp only [List.map_toArray, List.map_cons, List.map_nil]); first | done | rfl | (simp only [List.length_drop, List.length_take]; rfl)) ?_; (with_reducible refine (codec_parts.calls k _ _ t301 t306 t307 t308 t309 t310 true _ ?side1 ?side2 A4.out).mono ?_); (case side1 => repeat (first | exact (Kd.R_reads' HO305.out).2.2 | (with_reducible refine Kd.C_alloc ?_ _) | (with_reducible refine Kd.C_drewN ?_ _) | (with_reducible refine Kd.C_drew ?_))); (case side2 => exact (Kd.R_reads' HO305.out).2.1); rintro e w19 ⟨v311, rfl, ho0, hb⟩; refine ⟨_, rfl, ?_⟩; have n0_ := Aside0.mk (Kd.R_below (by (with_reducible repeat (first | apply Kd.R_alloc | apply Kd.R_drewN | apply Kd.R_drew)); exact HO305.out) hb); have n1_ := Aside0.mk (Kd.R_lower ho0 (below_size (by repeat (first | (with_reducible first | exact HB.out | apply below_alloc | apply pw_below_drewN | apply below_drew1 | refine below_set ?_ GE300.out) | exact HB.out)))); have n2_ := Aside0.mk (blk_below (g := gb300) (o := .cells #[.int .u8 0, .int .i64 0, .int .i64 0, .int .u8 0, .slice none 0 0] 61 (0, 0)) (by (with_reducible repeat (first | refine blk_drewN ?_ _ | refine blk_drew ?_ | refine blk_alloc ?_ _)); exact BK300.out) hb); have n3_ := Aside0.mk (below_step (by repeat (first | (with_reducible first | exact HB.out | apply below_alloc | apply pw_below_drewN | apply below_drew1 | refine below_set ?_ GE300.out) | exact HB.out)) hb); clear HO305; clear BK300; clear HB; have HO305 := n0_; have HO312 := n1_; have BK300 := n2_; have HB := n3_; clear n0_ n1_ n2_ n3_; (try clear hb); (try clear hb2); (try clear hk); (try clear hi); (try clear ho0)) | ((with_reducible refine gate_dst (N := 7) rfl ?_); (try (refine gate_guard (by rfl) ?_; dsimp only)); refine box_event ?hg (N := 7) ?hd (cs := #[.int .u8 0, .int .i64 0, .int .i64 0, .int .u8 0, .slice none 0 0]) (t := 61) ?hr ?_; (case hd => rfl); (case hg => rfl); (case hr => first | (go_simp; done) | (go_simp; rfl)); intro gb314 hg w20 hbox hb; have n0_ := Aside0.mk (Kd.R_below (by (with_reducible repeat (first | apply Kd.R_alloc | apply Kd.R_drewN | apply Kd.R_drew)); exact HO305.out) hb); have n1_ := Aside0.mk (Kd.R_below (by (with_reducible repeat (first | apply Kd.R_alloc | apply Kd.R_drewN | apply Kd.R_drew)); exact HO312.out) hb); have n2_ := Aside0.mk (blk_below (g := gb300) (o := .cells #[.int .u8 0, .int .i64 0, .int .i64 0, .int .u8 0, .slice none 0 0] 61 (0, 0)) (by (with_reducible repeat (first | refine blk_drewN ?_ _ | refine blk_drew ?_ | refine blk_alloc ?_ _)); exact BK300.out) hb); have n3_ := Aside0.mk (below_step (by repeat (first | (with_reducible first | exact HB.out | apply below_alloc | apply pw_below_drewN | apply below_drew1 | refine below_set ?_ GE300.out) | exact HB.out)) hb); have n4_ := Aside0.mk (hbox); have n5_ := Aside0.mk ((by rw [hg]; exact (below_size (by repeat (first | (with_reducible first | exact HB.out | apply below_alloc | apply pw_below_drewN | apply below_drew1 | refine below_set ?_ GE300.out) | exact HB.out))) : w.heap.size ≤ gb314)); have n6_ := Aside0.mk ((by rw [hg]; exact (below_size (by repeat (first | (with_reducible first | exact HB.out | apply below_alloc | apply pw_below_drewN | apply below_drew1 | refine below_set ?_ GE300.out) | exact HB.out))) : w.heap.size ≤ gb314)); have n7_ := Aside0.mk ((by rw [hg]; exact Nat.ne_of_lt (blk_lt (g := gb300) (o := .cells #[.int .u8 0, .int .i64 0, .int .i64 0, .int .u8 0, .slice none 0 0] 61 (0, 0)) (by (with_reducible repeat (first | refine blk_drewN ?_ _ | refine blk_drew ?_ | refine blk_alloc ?_ _)); exact BK300.out)) : gb300 ≠ gb314)); have n8_ := Aside0.mk ((by rw [hg]; exact Nat.ne_of_gt (blk_lt (g := gb300) (o := .cells #[.int .u8 0, .int .i64 0, .int .i64 0, .int .u8 0, .slice none 0 0] 61 (0, 0)) (by (with_reducible repeat (first | refine blk_drewN ?_ _ | refine blk_drew ?_ | refine blk_alloc ?_ _)); exact BK300.out)) : gb314 ≠ gb300)); clear HO305; clear HO312; clear BK300; clear HB; have HO305 := n0_; have HO312 := n1_; have BK300 := n2_; have HB := n3_; have BK314 := n4_; have GW314 := n5_; have GE314 := n6_; have NB300_314 := n7_; have NB314_300 := n8_; clear n0_ n1_ n2_ n3_ n4_ n5_ n6_ n7_ n8_; clear hb hbox hg; have hnb21 := NB314_300.out; have hnc21 := NB300_314.out; have hcz22_0 : w20.cell? ⟨gb314, 0, none⟩ = some (.int .u8 0) := (blk_cell BK314.out 0).trans rfl; have hcz22_1 : w20.cell? ⟨gb314, 1, none⟩ = some (.int .i64 0) := (blk_cell BK314.out 1).trans rfl; have hcz22_2 : w20.cell? ⟨gb314, 2, none⟩ = some (.int .i64 0) := (blk_cell BK314.out 2).trans rfl; have hcz22_3 : w20.cell? ⟨gb314, 3, none⟩ = some (.int .u8 0) := (blk_cell BK314.out 3).trans rfl; have hcz22_4 : w20.cell? ⟨gb314, 4, none⟩ = some (.slice none 0 0) := (blk_cell BK314.out 4).trans rfl; have hfz22_0 := blk_frozen BK314.out 0; have hfz22_1 := blk_frozen BK314.out 1; have hfz22_2 := blk_frozen BK314.out 2; have hfz22_3 := blk_frozen BK314.out 3; have hfz22_4 := blk_frozen BK314.out 4; obtain ⟨Ao23, co23, eo23⟩ := Kd.R_slice HO312.out; subst eo23; have hcz24_0 : w20.cell? ⟨gb300, 0, none⟩ = some (.int .u8 0) := (blk_cell BK300.out 0).trans rfl; have hcz24_1 : w20.cell? ⟨gb300, 1, none⟩ = some (.int .i64 0) := (blk_cell BK300.out 1).trans rfl; have hcz24_2 : w20.cell? ⟨gb300, 2, none⟩ = some (.int .i64 0) := (blk_cell BK300.out 2).trans rfl; have hcz24_3 : w20.cell? ⟨gb300, 3, none⟩ = some (.int .u8 0) := (blk_cell BK300.out 3).trans rfl; have hcz24_4 : w20.cell? ⟨gb300, 4, none⟩ = some (.slice none 0 0) := (blk_cell BK300.out 4).trans rfl; have hfz24_0 := blk_frozen BK300.out 0; have hfz24_1 := blk_frozen BK300.out 1; have hfz24_2 := blk_frozen BK300.out 2; have hfz24_3 := blk_frozen BK300.out 3; have hfz24_4 := blk_frozen BK300.out 4))
        refine bodyPost_ret (results_ct rfl _ _ gb300 61 #[.int .u8 t306, .int .i64 t307, .int .i64 t308, .int .u8 t309, .slice Ao23 t310.length co23] (0, 0) _ rfl (by (with_reducible repeat (first | refine blk_drewN ?_ _ | refine blk_drew ?_ | refine blk_alloc ?_ _)); refine blk_put (cs := #[.int .u8 t306, .int .i64 t307, .int .i64 t308, .int .u8 t309, .slice none 0 0]) ?_ 4 _ rfl; (with_reducible repeat (first | refine blk_drewN ?_ _ | refine blk_drew ?_ | refine blk_alloc ?_ _)); refine blk_put (cs := #[.int .u8 t306, .int .i64 t307, .int .i64 t308, .int .u8 0, .slice none 0 0]) ?_ 3 _ rfl; (with_reducible repeat (first | refine blk_drewN ?_ _ | refine blk_drew ?_ | refine blk_alloc ?_ _)); refine blk_put (cs := #[.int .u8 t306, .int .i64 t307, .int .i64 0, .int .u8 0, .slice none 0 0]) ?_ 2 _ rfl; (with_reducible repeat (first | refine blk_drewN ?_ _ | refine blk_drew ?_ | refine blk_alloc ?_ _)); refine blk_put (cs := #[.int .u8 t306, .int .i64 0, .int .i64 0, .int .u8 0, .slice none 0 0]) ?_ 1 _ rfl; (with_reducible repeat (first | refine blk_drewN ?_ _ | refine blk_drew ?_ | refine blk_alloc ?_ _)); refine blk_put (cs := #[.int .u8 0, .int .i64 0, .int .i64 0, .int .u8 0, .slice none 0 0]) ?_ 0 _ rfl; (with_reducible repeat (first | refine blk_drewN ?_ _ | refine blk_drew ?_ | refine blk_alloc ?_ _)); refine blk_far ?_ NB300_314.out _; (with_reducible repeat (first | refine blk_drewN ?_ _ | refine blk_drew ?_ | refine blk_alloc ?_ _)); refine blk_far ?_ NB300_314.out _; (with_reducible repeat (first | refine blk_drewN ?_ _ | refine blk_drew ?_ | refine blk_alloc ?_ _)); refine blk_far ?_ NB300_314.out _; (with_reducible repeat (first | refine blk_drewN ?_ _ | refine blk_drew ?_ | refine blk_alloc ?_ _)); refine blk_far ?_ NB300_314.out _; (with_reducible repeat (first | refine blk_drewN ?_ _ | refine blk_drew ?_ | refine blk_alloc ?_ _)); refine blk_far ?_ NB300_314.out _; (with_reducible repeat (first | refine blk_drewN ?_ _ | refine blk_drew ?_ | refine blk_alloc ?_ _)); exact BK300.out) Try.underlying61 rfl (by kernel_rfl)) rfl ?_
        exact ⟨_, by first | rfl | (simp [errW_none, errW_some] <;> rfl) | (simp [*, errW_none, errW_some] <;> rfl), by (with_reducible repeat (first | apply Kd.R_alloc | apply Kd.R_drewN | apply Kd.R_drew)); exact Kd.R_mono (Kd.R_far (p := ⟨gb300, 4, none⟩) (Kd.R_far (p := ⟨gb300, 3, none⟩) (Kd.R_far (p := ⟨gb300, 2, none⟩) (Kd.R_far (p := ⟨gb300, 1, none⟩) (Kd.R_far (p := ⟨gb300, 0, none⟩) (Kd.R_far (p := ⟨gb314, 4, none⟩) (Kd.R_far (p := ⟨gb314, 3, none⟩) (Kd.R_far (p := ⟨gb314, 2, none⟩) (Kd.R_far (p := ⟨gb314, 1, none⟩) (Kd.R_far (p := ⟨gb314, 0, none⟩) (Kd.R_types (Kd.R_types HO312.out BK314.out (by decide)) BK300.out (by decide)) (fun _ hk => hk.1.2) (.int .u8 t306)) (fun _ hk => hk.1.2) (.int .i64 t307)) (fun _ hk => hk.1.2) (.int .i64 t308)) (fun _ hk => hk.1.2) (.int .u8 t309)) (fun _ hk => hk.1.2) (.slice Ao23 t310.length co23)) (fun _ hk => hk.2) (.int .u8 t306)) (fun _ hk => hk.2) (.int .i64 t307)) (fun _ hk => hk.2) (.int .i64 t308)) (fun _ hk => hk.2) (.int .u8 t309)) (fun _ hk => hk.2) (.slice Ao23 t310.length co23)) (fun _ hk => trivial), by repeat (first | (with_reducible first | exact HB.out | apply below_alloc | apply pw_below_drewN | apply below_drew1 | refine below_set ?_ GE300.out | refine below_set ?_ GE314.out) | exact HB.out)⟩
    · replace c5 := Bool.eq_false_iff.mpr c5
      subst c5
      have H1 : (some (0, 0, 0, 0, ([] : List Int), 8)) = some (r1, r2, r3, r4, r5, r6) := by rw [if_neg (show ¬ (false = true) by decide)] at H; exact H
      clear H
      have H := H1
      clear H1
      simp only [Option.some.injEq, Prod.mk.injEq] at H
      obtain ⟨rfl, rfl, rfl, rfl, rfl, rfl⟩ := H
      go_enter Try.func38, Try.ntmps38
      go_wp2_with (first | ((with_reducible refine gate_dst (N := 2) rfl ?_); (try (refine gate_guard (by rfl) ?_; dsimp only)); refine box_event ?hg (N := 2) ?hd (cs := #[.int .u8 0, .int .i64 0, .int .i64 0, .int .u8 0, .slice none 0 0]) (t := 61) ?hr ?_; (case hd => rfl); (case hg => rfl); (case hr => first | (go_simp; done) | (go_simp; rfl)); intro gb300 hg w25 hbox hb; have n0_ := Aside0.mk (below_step (by repeat (first | (with_reducible first | exact HB.out | apply below_alloc | apply pw_below_drewN | apply below_drew1) | exact HB.out)) hb); have n1_ := Aside0.mk (hbox); have n2_ := Aside0.mk ((by rw [hg]; exact (below_size (by repeat (first | (with_reducible first | exact HB.out | apply below_alloc | apply pw_below_drewN | apply below_drew1) | exact HB.out))) : w.heap.size ≤ gb300)); have n3_ := Aside0.mk ((by rw [hg]; exact (below_size (by repeat (first | (with_reducible first | exact HB.out | apply below_alloc | apply pw_below_drewN | apply below_drew1) | exact HB.out))) : w.heap.size ≤ gb300)); clear HB; have HB := n0_; have BK300 := n1_; have GW300 := n2_; have GE300 := n3_; clear n0_ n1_ n2_ n3_; clear hb hbox hg) | ((with_reducible refine gate_callee (f := 62) rfl ?_); refine goesL_ (some 11) rfl rfl Try.func62 (by kernel_rfl) rfl #[.slice A0 l0.length c0] rfl (by (try simp only [List.map_toArray, List.map_cons, List.map_nil]); first | done | rfl | (simp only [List.length_drop, List.length_take]; rfl)) ?_; (with_reducible refine (wire_Unseal.calls k _ _ l0 t301 t302 t303 _ ?side1 ?side2 A2.out).mono ?_); (case side1 => repeat (first | exact (Kd.C_below HR0.out HB.out) | (with_reducible refine Kd.C_alloc ?_ _) | (with_reducible refine Kd.C_drewN ?_ _) | (with_reducible refine Kd.C_drew ?_))); (case side2 => exact HC0.out); rintro e w26 ⟨v304, rfl, ho0, hb⟩; refine ⟨_, rfl, ?_⟩; have n0_ := Aside0.mk (Kd.R_lower ho0 (below_size (by repeat (first | (with_reducible first | exact HB.out | apply below_alloc | apply pw_below_drewN | apply below_drew1 | refine below_set ?_ GE300.out) | exact HB.out)))); have n1_ := Aside0.mk (blk_below (g := gb300) (o := .cells #[.int .u8 0, .int .i64 0, .int .i64 0, .int .u8 0, .slice none 0 0] 61 (0, 0)) (by (with_reducible repeat (first | refine blk_drewN ?_ _ | refine blk_drew ?_ | refine blk_alloc ?_ _)); exact BK300.out) hb); have n2_ := Aside0.mk (below_step (by repeat (first | (with_reducible first | exact HB.out | apply below_alloc | apply pw_below_drewN | apply below_drew1 | refine below_set ?_ GE300.out) | exact HB.out)) hb); clear BK300; clear HB; have HO305 := n0_; have BK300 := n1_; have HB := n2_; clear n0_ n1_ n2_; (try clear hb); (try clear hb2); (try clear hk); (try clear hi); (try clear ho0); obtain ⟨Ao27, co27, eo27⟩ := Kd.R_slice HO305.out; subst eo27) | ((with_reducible refine gate_callee (f := 71) rfl ?_); refine goesL_ (some 21) rfl rfl Try.func71 (by kernel_rfl) rfl #[.slice Ao27 t301.length co27] rfl (by (try simp only [List.map_toArray, List.map_cons, List.map_nil]); first | done | rfl | (simp only [List.length_drop, List.length_take]; rfl)) ?_; (with_reducible refine (codec_parts.calls k _ _ t301 t306 t307 t308 t309 t310 false _ ?side1 ?side2 A4.out).mono ?_); (case side1 => repeat (first | exact (Kd.R_reads' HO305.out).2.2 | (with_reducible refine Kd.C_alloc ?_ _) | (with_reducible refine Kd.C_drewN ?_ _) | (with_reducible refine Kd.C_drew ?_))); (case side2 => exact (Kd.R_reads' HO305.out).2.1); rintro e w28 ⟨v311, rfl, ho0, hb⟩; refine ⟨_, rfl, ?_⟩; have n0_ := Aside0.mk (Kd.R_below (by (with_reducible repeat (first | apply Kd.R_alloc | apply Kd.R_drewN | apply Kd.R_drew)); exact HO305.out) hb); have n1_ := Aside0.mk (Kd.R_lower ho0 (below_size (by repeat (first | (with_reducible first | exact HB.out | apply below_alloc | apply pw_below_drewN | apply below_drew1 | refine below_set ?_ GE300.out) | exact HB.out)))); have n2_ := Aside0.mk (blk_below (g := gb300) (o := .cells #[.int .u8 0, .int .i64 0, .int .i64 0, .int .u8 0, .slice none 0 0] 61 (0, 0)) (by (with_reducible repeat (first | refine blk_drewN ?_ _ | refine blk_drew ?_ | refine blk_alloc ?_ _)); exact BK300.out) hb); have n3_ := Aside0.mk (below_step (by repeat (first | (with_reducible first | exact HB.out | apply below_alloc | apply pw_below_drewN | apply below_drew1 | refine below_set ?_ GE300.out) | exact HB.out)) hb); clear HO305; clear BK300; clear HB; have HO305 := n0_; have HO312 := n1_; have BK300 := n2_; have HB := n3_; clear n0_ n1_ n2_ n3_; (try clear hb); (try clear hb2); (try clear hk); (try clear hi); (try clear ho0)) | ((with_reducible refine gate_dst (N := 7) rfl ?_); (try (refine gate_guard (by rfl) ?_; dsimp only)); refine box_event ?hg (N := 7) ?hd (cs := #[.int .u8 0, .int .i64 0, .int .i64 0, .int .u8 0, .slice none 0 0]) (t := 61) ?hr ?_; (case hd => rfl); (case hg => rfl); (case hr => first | (go_simp; done) | (go_simp; rfl)); intro gb314 hg w29 hbox hb; have n0_ := Aside0.mk (Kd.R_below (by (with_reducible repeat (first | apply Kd.R_alloc | apply Kd.R_drewN | apply Kd.R_drew)); exact HO305.out) hb); have n1_ := Aside0.mk (Kd.R_below (by (with_reducible repeat (first | apply Kd.R_alloc | apply Kd.R_drewN | apply Kd.R_drew)); exact HO312.out) hb); have n2_ := Aside0.mk (blk_below (g := gb300) (o := .cells #[.int .u8 0, .int .i64 0, .int .i64 0, .int .u8 0, .slice none 0 0] 61 (0, 0)) (by (with_reducible repeat (first | refine blk_drewN ?_ _ | refine blk_drew ?_ | refine blk_alloc ?_ _)); exact BK300.out) hb); have n3_ := Aside0.mk (below_step (by repeat (first | (with_reducible first | exact HB.out | apply below_alloc | apply pw_below_drewN | apply below_drew1 | refine below_set ?_ GE300.out) | exact HB.out)) hb); have n4_ := Aside0.mk (hbox); have n5_ := Aside0.mk ((by rw [hg]; exact (below_size (by repeat (first | (with_reducible first | exact HB.out | apply below_alloc | apply pw_below_drewN | apply below_drew1 | refine below_set ?_ GE300.out) | exact HB.out))) : w.heap.size ≤ gb314)); have n6_ := Aside0.mk ((by rw [hg]; exact (below_size (by repeat (first | (with_reducible first | exact HB.out | apply below_alloc | apply pw_below_drewN | apply below_drew1 | refine below_set ?_ GE300.out) | exact HB.out))) : w.heap.size ≤ gb314)); have n7_ := Aside0.mk ((by rw [hg]; exact Nat.ne_of_lt (blk_lt (g := gb300) (o := .cells #[.int .u8 0, .int .i64 0, .int .i64 0, .int .u8 0, .slice none 0 0] 61 (0, 0)) (by (with_reducible repeat (first | refine blk_drewN ?_ _ | refine blk_drew ?_ | refine blk_alloc ?_ _)); exact BK300.out)) : gb300 ≠ gb314)); have n8_ := Aside0.mk ((by rw [hg]; exact Nat.ne_of_gt (blk_lt (g := gb300) (o := .cells #[.int .u8 0, .int .i64 0, .int .i64 0, .int .u8 0, .slice none 0 0] 61 (0, 0)) (by (with_reducible repeat (first | refine blk_drewN ?_ _ | refine blk_drew ?_ | refine blk_alloc ?_ _)); exact BK300.out)) : gb314 ≠ gb300)); clear HO305; clear HO312; clear BK300; clear HB; have HO305 := n0_; have HO312 := n1_; have BK300 := n2_; have HB := n3_; have BK314 := n4_; have GW314 := n5_; have GE314 := n6_; have NB300_314 := n7_; have NB314_300 := n8_; clear n0_ n1_ n2_ n3_ n4_ n5_ n6_ n7_ n8_; clear hb hbox hg; have hnb30 := NB314_300.out; have hnc30 := NB300_314.out; have hcz31_0 : w29.cell? ⟨gb314, 0, none⟩ = some (.int .u8 0) := (blk_cell BK314.out 0).trans rfl; have hcz31_1 : w29.cell? ⟨gb314, 1, none⟩ = some (.int .i64 0) := (blk_cell BK314.out 1).trans rfl; have hcz31_2 : w29.cell? ⟨gb314, 2, none⟩ = some (.int .i64 0) := (blk_cell BK314.out 2).trans rfl; have hcz31_3 : w29.cell? ⟨gb314, 3, none⟩ = some (.int .u8 0) := (blk_cell BK314.out 3).trans rfl; have hcz31_4 : w29.cell? ⟨gb314, 4, none⟩ = some (.slice none 0 0) := (blk_cell BK314.out 4).trans rfl; have hfz31_0 := blk_frozen BK314.out 0; have hfz31_1 := blk_frozen BK314.out 1; have hfz31_2 := blk_frozen BK314.out 2; have hfz31_3 := blk_frozen BK314.out 3; have hfz31_4 := blk_frozen BK314.out 4; obtain ⟨Ao32, co32, eo32⟩ := Kd.R_slice HO312.out; subst eo32; have hcz33_0 : w29.cell? ⟨gb300, 0, none⟩ = some (.int .u8 0) := (blk_cell BK300.out 0).trans rfl; have hcz33_1 : w29.cell? ⟨gb300, 1, none⟩ = some (.int .i64 0) := (blk_cell BK300.out 1).trans rfl; have hcz33_2 : w29.cell? ⟨gb300, 2, none⟩ = some (.int .i64 0) := (blk_cell BK300.out 2).trans rfl; have hcz33_3 : w29.cell? ⟨gb300, 3, none⟩ = some (.int .u8 0) := (blk_cell BK300.out 3).trans rfl; have hcz33_4 : w29.cell? ⟨gb300, 4, none⟩ = some (.slice none 0 0) := (blk_cell BK300.out 4).trans rfl; have hfz33_0 := blk_frozen BK300.out 0; have hfz33_1 := blk_frozen BK300.out 1; have hfz33_2 := blk_frozen BK300.out 2; have hfz33_3 := blk_frozen BK300.out 3; have hfz33_4 := blk_frozen BK300.out 4))
      refine bodyPost_ret (results_ct rfl _ _ gb300 61 #[.int .u8 0, .int .i64 0, .int .i64 0, .int .u8 0, .slice none 0 0] (0, 0) _ rfl (by (with_reducible repeat (first | refine blk_drewN ?_ _ | refine blk_drew ?_ | refine blk_alloc ?_ _)); refine blk_put (cs := #[.int .u8 0, .int .i64 0, .int .i64 0, .int .u8 0, .slice none 0 0]) ?_ 4 _ rfl; (with_reducible repeat (first | refine blk_drewN ?_ _ | refine blk_drew ?_ | refine blk_alloc ?_ _)); refine blk_put (cs := #[.int .u8 0, .int .i64 0, .int .i64 0, .int .u8 0, .slice none 0 0]) ?_ 3 _ rfl; (with_reducible repeat (first | refine blk_drewN ?_ _ | refine blk_drew ?_ | refine blk_alloc ?_ _)); refine blk_put (cs := #[.int .u8 0, .int .i64 0, .int .i64 0, .int .u8 0, .slice none 0 0]) ?_ 2 _ rfl; (with_reducible repeat (first | refine blk_drewN ?_ _ | refine blk_drew ?_ | refine blk_alloc ?_ _)); refine blk_put (cs := #[.int .u8 0, .int .i64 0, .int .i64 0, .int .u8 0, .slice none 0 0]) ?_ 1 _ rfl; (with_reducible repeat (first | refine blk_drewN ?_ _ | refine blk_drew ?_ | refine blk_alloc ?_ _)); refine blk_put (cs := #[.int .u8 0, .int .i64 0, .int .i64 0, .int .u8 0, .slice none 0 0]) ?_ 0 _ rfl; (with_reducible repeat (first | refine blk_drewN ?_ _ | refine blk_drew ?_ | refine blk_alloc ?_ _)); refine blk_far ?_ NB300_314.out _; (with_reducible repeat (first | refine blk_drewN ?_ _ | refine blk_drew ?_ | refine blk_alloc ?_ _)); refine blk_far ?_ NB300_314.out _; (with_reducible repeat (first | refine blk_drewN ?_ _ | refine blk_drew ?_ | refine blk_alloc ?_ _)); refine blk_far ?_ NB300_314.out _; (with_reducible repeat (first | refine blk_drewN ?_ _ | refine blk_drew ?_ | refine blk_alloc ?_ _)); refine blk_far ?_ NB300_314.out _; (with_reducible repeat (first | refine blk_drewN ?_ _ | refine blk_drew ?_ | refine blk_alloc ?_ _)); refine blk_far ?_ NB300_314.out _; (with_reducible repeat (first | refine blk_drewN ?_ _ | refine blk_drew ?_ | refine blk_alloc ?_ _)); exact BK300.out) Try.underlying61 rfl (by kernel_rfl)) rfl ?_
      exact ⟨_, by first | rfl | (simp [errW_none, errW_some] <;> rfl) | (simp [*, errW_none, errW_some] <;> rfl), by first | exact Kd.R_nil _ _ _ _ _ | exact Kd.N_nil _ _ _ _ _ | exact Kd.V_nil _ _ _ _ _ | exact Kd.Q_nil _ _ _ _ _ | exact Kd.S_nil _ _ _ _ _, by repeat (first | (with_reducible first | exact HB.out | apply below_alloc | apply pw_below_drewN | apply below_drew1 | refine below_set ?_ GE300.out | refine below_set ?_ GE314.out) | exact HB.out)⟩
  · rw [if_neg c3] at H
    have c3b0 : (t303 == 0) = false := beq_eq_false_iff_ne.mpr c3
    have c3b1 : (t303 != 0) = true := bne_iff_ne.mpr c3
    simp only [Option.some.injEq, Prod.mk.injEq] at H
    obtain ⟨rfl, rfl, rfl, rfl, rfl, rfl⟩ := H
    go_enter Try.func38, Try.ntmps38
    go_wp2_with (first | ((with_reducible refine gate_dst (N := 2) rfl ?_); (try (refine gate_guard (by rfl) ?_; dsimp only)); refine box_event ?hg (N := 2) ?hd (cs := #[.int .u8 0, .int .i64 0, .int .i64 0, .int .u8 0, .slice none 0 0]) (t := 61) ?hr ?_; (case hd => rfl); (case hg => rfl); (case hr => first | (go_simp; done) | (go_simp; rfl)); intro gb300 hg w34 hbox hb; have n0_ := Aside0.mk (below_step (by repeat (first | (with_reducible first | exact HB.out | apply below_alloc | apply pw_below_drewN | apply below_drew1) | exact HB.out)) hb); have n1_ := Aside0.mk (hbox); have n2_ := Aside0.mk ((by rw [hg]; exact (below_size (by repeat (first | (with_reducible first | exact HB.out | apply below_alloc | apply pw_below_drewN | apply below_drew1) | exact HB.out))) : w.heap.size ≤ gb300)); have n3_ := Aside0.mk ((by rw [hg]; exact (below_size (by repeat (first | (with_reducible first | exact HB.out | apply below_alloc | apply pw_below_drewN | apply below_drew1) | exact HB.out))) : w.heap.size ≤ gb300)); clear HB; have HB := n0_; have BK300 := n1_; have GW300 := n2_; have GE300 := n3_; clear n0_ n1_ n2_ n3_; clear hb hbox hg) | ((with_reducible refine gate_callee (f := 62) rfl ?_); refine goesL_ (some 11) rfl rfl Try.func62 (by kernel_rfl) rfl #[.slice A0 l0.length c0] rfl (by (try simp only [List.map_toArray, List.map_cons, List.map_nil]); first | done | rfl | (simp only [List.length_drop, List.length_take]; rfl)) ?_; (with_reducible refine (wire_Unseal.calls k _ _ l0 t301 t302 t303 _ ?side1 ?side2 A2.out).mono ?_); (case side1 => repeat (first | exact (Kd.C_below HR0.out HB.out) | (with_reducible refine Kd.C_alloc ?_ _) | (with_reducible refine Kd.C_drewN ?_ _) | (with_reducible refine Kd.C_drew ?_))); (case side2 => exact HC0.out); rintro e w35 ⟨v304, rfl, ho0, hb⟩; refine ⟨_, rfl, ?_⟩; have n0_ := Aside0.mk (Kd.R_lower ho0 (below_size (by repeat (first | (with_reducible first | exact HB.out | apply below_alloc | apply pw_below_drewN | apply below_drew1 | refine below_set ?_ GE300.out) | exact HB.out)))); have n1_ := Aside0.mk (blk_below (g := gb300) (o := .cells #[.int .u8 0, .int .i64 0, .int .i64 0, .int .u8 0, .slice none 0 0] 61 (0, 0)) (by (with_reducible repeat (first | refine blk_drewN ?_ _ | refine blk_drew ?_ | refine blk_alloc ?_ _)); exact BK300.out) hb); have n2_ := Aside0.mk (below_step (by repeat (first | (with_reducible first | exact HB.out | apply below_alloc | apply pw_below_drewN | apply below_drew1 | refine below_set ?_ GE300.out) | exact HB.out)) hb); clear BK300; clear HB; have HO305 := n0_; have BK300 := n1_; have HB := n2_; clear n0_ n1_ n2_; (try clear hb); (try clear hb2); (try clear hk); (try clear hi); (try clear ho0); have hcz36_0 : w35.cell? ⟨gb300, 0, none⟩ = some (.int .u8 0) := (blk_cell BK300.out 0).trans rfl; have hcz36_1 : w35.cell? ⟨gb300, 1, none⟩ = some (.int .i64 0) := (blk_cell BK300.out 1).trans rfl; have hcz36_2 : w35.cell? ⟨gb300, 2, none⟩ = some (.int .i64 0) := (blk_cell BK300.out 2).trans rfl; have hcz36_3 : w35.cell? ⟨gb300, 3, none⟩ = some (.int .u8 0) := (blk_cell BK300.out 3).trans rfl; have hcz36_4 : w35.cell? ⟨gb300, 4, none⟩ = some (.slice none 0 0) := (blk_cell BK300.out 4).trans rfl; have hfz36_0 := blk_frozen BK300.out 0; have hfz36_1 := blk_frozen BK300.out 1; have hfz36_2 := blk_frozen BK300.out 2; have hfz36_3 := blk_frozen BK300.out 3; have hfz36_4 := blk_frozen BK300.out 4))
    refine bodyPost_ret (results_ct rfl _ _ gb300 61 #[.int .u8 0, .int .i64 0, .int .i64 0, .int .u8 0, .slice none 0 0] (0, 0) _ rfl (by (with_reducible repeat (first | refine blk_drewN ?_ _ | refine blk_drew ?_ | refine blk_alloc ?_ _)); refine blk_put (cs := #[.int .u8 0, .int .i64 0, .int .i64 0, .int .u8 0, .slice none 0 0]) ?_ 4 _ rfl; (with_reducible repeat (first | refine blk_drewN ?_ _ | refine blk_drew ?_ | refine blk_alloc ?_ _)); refine blk_put (cs := #[.int .u8 0, .int .i64 0, .int .i64 0, .int .u8 0, .slice none 0 0]) ?_ 3 _ rfl; (with_reducible repeat (first | refine blk_drewN ?_ _ | refine blk_drew ?_ | refine blk_alloc ?_ _)); refine blk_put (cs := #[.int .u8 0, .int .i64 0, .int .i64 0, .int .u8 0, .slice none 0 0]) ?_ 2 _ rfl; (with_reducible repeat (first | refine blk_drewN ?_ _ | refine blk_drew ?_ | refine blk_alloc ?_ _)); refine blk_put (cs := #[.int .u8 0, .int .i64 0, .int .i64 0, .int .u8 0, .slice none 0 0]) ?_ 1 _ rfl; (with_reducible repeat (first | refine blk_drewN ?_ _ | refine blk_drew ?_ | refine blk_alloc ?_ _)); refine blk_put (cs := #[.int .u8 0, .int .i64 0, .int .i64 0, .int .u8 0, .slice none 0 0]) ?_ 0 _ rfl; (with_reducible repeat (first | refine blk_drewN ?_ _ | refine blk_drew ?_ | refine blk_alloc ?_ _)); exact BK300.out) Try.underlying61 rfl (by kernel_rfl)) rfl ?_
    exact ⟨_, by first | rfl | (simp [errW_none, errW_some] <;> rfl) | (simp [*, errW_none, errW_some] <;> rfl), by first | exact Kd.R_nil _ _ _ _ _ | exact Kd.N_nil _ _ _ _ _ | exact Kd.V_nil _ _ _ _ _ | exact Kd.Q_nil _ _ _ _ _ | exact Kd.S_nil _ _ _ _ _, by repeat (first | (with_reducible first | exact HB.out | apply below_alloc | apply pw_below_drewN | apply below_drew1 | refine below_set ?_ GE300.out) | exact HB.out)⟩
def conclaveref01_P.f (a0 : Int) : Option (Int) := if a0 = 1 then (some 2013265921) else (if a0 = 2 then (some 18446744069414584321) else (some 0))
set_option maxHeartbeats 8000000 in
set_option maxRecDepth 100000 in
theorem conclaveref01_P.calls (a0 : Int) (r : Int) (w : World) (h : conclaveref01_P.f a0 = some r) :
    Calls Try.prog 106 #[.int .u8 a0] w fun e w' => e = .returned (.int .u64 r) ∧ Drawn0 w w' := by
  have H : (if a0 = 1 then (some 2013265921) else (if a0 = 2 then (some 18446744069414584321) else (some 0))) = some r := h
  clear h
  by_cases c2 : a0 = 1
  · rw [if_pos c2] at H
    have c2b0 : (a0 == 1) = true := beq_iff_eq.mpr c2
    have c2b1 : (a0 != 1) = false := bne_eq_false_iff_eq.mpr c2
    clear c2
    obtain rfl := Option.some.inj H
    go_enter Try.func106, Try.ntmps106
    go_wp2
    go_ret
    exact ⟨by first | rfl | (simp; done) | (simp [*]; done), by repeat (first | exact Drawn0.refl _ | apply Drawn0.step)⟩
  · rw [if_neg c2] at H
    have c2b0 : (a0 == 1) = false := beq_eq_false_iff_ne.mpr c2
    have c2b1 : (a0 != 1) = true := bne_iff_ne.mpr c2
    by_cases c3 : a0 = 2
    · rw [if_pos c3] at H
      have c3b0 : (a0 == 2) = true := beq_iff_eq.mpr c3
      have c3b1 : (a0 != 2) = false := bne_eq_false_iff_eq.mpr c3
      clear c3
      obtain rfl := Option.some.inj H
      go_enter Try.func106, Try.ntmps106
      go_wp2
      go_ret
      exact ⟨by first | rfl | (simp; done) | (simp [*]; done), by repeat (first | exact Drawn0.refl _ | apply Drawn0.step)⟩
    · rw [if_neg c3] at H
      have c3b0 : (a0 == 2) = false := beq_eq_false_iff_ne.mpr c3
      have c3b1 : (a0 != 2) = true := bne_iff_ne.mpr c3
      obtain rfl := Option.some.inj H
      go_enter Try.func106, Try.ntmps106
      go_wp2
      go_ret
      exact ⟨by first | rfl | (simp; done) | (simp [*]; done), by repeat (first | exact Drawn0.refl _ | apply Drawn0.step)⟩
end Go.Proofs.Ytkppklinmcnecaa.P
end
section
namespace Go.Proofs.Ytkppklinmcnecaa.P
open Go.RowKit Go.Proofs.YtkppklinmcnecaaW.PrintWords Go.Proofs.YtkppklinmcnecaaW.PrintLast Go.Proofs.YtkppklinmcnecaaW.PrintMore
attribute [local go_sem] max2_int min2_int max_two min_two max_three min_three max_four min_four
set_option linter.unusedVariables false
set_option linter.unusedSimpArgs false
def conclaveref01_In.l0 : Nat → List Int → Int → Int → Option (Bool)
  | 0, _, _, _ => none
  | k + 1, x1, x5, x6 => if x6 < (x1.length : Int) then (if 0 ≤ x6 then (if (rd x1 x6) ≥ x5 then (some false) else (conclaveref01_In.l0 k x1 x5 (wrap64 (x6 + 1)))) else (none)) else (some (x5 != 0))
def conclaveref01_In.f (k : Nat) (a0 : Int) (l1 : List Int) : Option (Bool) := (conclaveref01_P.f a0).bind fun t315 => (conclaveref01_In.l0 k l1 t315 0)
set_option maxHeartbeats 8000000 in
set_option maxRecDepth 100000 in
theorem conclaveref01_In.calls (k : Nat) (a0 : Int) (A1 : Option Addr) (c1 : Nat) (l1 : List Int) (r : Bool) (w : World) (hr1 : Kd.C (Kd.int .u64) w A1 l1.length l1) (hc1 : l1.length ≤ c1) (h : conclaveref01_In.f k a0 l1 = some r) :
    Calls Try.prog 78 #[.int .u8 a0, .slice A1 l1.length c1] w fun e w' => e = .returned (.bool r) ∧ Drawn0 w w' := by
  have HR1 := Aside0.mk hr1
  have HC1 := Aside0.mk hc1
  clear hr1 hc1
  have H : ((conclaveref01_P.f a0).bind fun t315 => (conclaveref01_In.l0 k l1 t315 0)) = some r := h
  clear h
  replace H := Option.bind_eq_some_iff.mp H
  obtain ⟨t315, A30, H⟩ := H
  replace H : (conclaveref01_In.l0 k l1 t315 0) = some r := H
  have A3 := Aside0.mk A30
  clear A30
  have H' := Aside0.mk H
  clear H
  go_enter Try.func78, Try.ntmps78
  go_wp2_with (first | ((with_reducible refine gate_callee (f := 106) rfl ?_); refine goesL_ (some 8) rfl rfl Try.func106 (by kernel_rfl) rfl #[.int .u8 a0] rfl (by (try simp only [List.map_toArray, List.map_cons, List.map_nil]); first | done | rfl | (simp only [List.length_drop, List.length_take]; rfl)) ?_; (with_reducible refine (conclaveref01_P.calls a0 t315 _ A3.out).mono ?_); rintro e w' ⟨rfl, ⟨nd, rfl⟩⟩; refine ⟨_, rfl, ?_⟩))
  go_loopg [6] k (fun kq v6 w' => ∃ (x6_1 : Int), v6 = .int .i64 x6_1 ∧ Aside0 (conclaveref01_In.l0 kq l1 t315 x6_1 = some r) ∧ Aside0 (kq ≤ k) ∧ Drawn0 w w')
  case atStart => exact ⟨(0), (by first | rfl | (simp; done) | (simp [*]; done)), H', ⟨Nat.le_refl _⟩, by repeat (first | exact Drawn0.refl _ | apply Drawn0.step)⟩
  case round =>
    clear H'
    try clear c1
    try clear p2
    obtain ⟨x6_1, rfl, HA, HK1, ⟨m1, rfl⟩⟩ := hrel
    cases gk with
    | zero => exact absurd HA.out (by simp [conclaveref01_In.l0])
    | succ k1 =>
      have H := HA.out
      clear HA
      simp only [conclaveref01_In.l0] at H
      by_cases c4 : x6_1 < (l1.length : Int)
      · rw [if_pos c4] at H
        have c4b0 : decide (x6_1 < (l1.length : Int)) = true := decide_eq_true c4
        clear c4
        by_cases c5 : 0 ≤ x6_1
        · rw [if_pos c5] at H
          have c5b0 : decide (0 ≤ x6_1) = true := decide_eq_true c5
          clear c5
          by_cases c6 : (rd l1 x6_1) ≥ t315
          · rw [if_pos c6] at H
            have c6b0 : decide (t315 ≤ (rd l1 x6_1)) = true := decide_eq_true c6
            clear c6
            obtain rfl := Option.some.inj H
            have p316 : 0 ≤ (x6_1 : Int) := of_decide_eq_true (by first | (with_reducible assumption) | assumption)
            have q316 : x6_1 < (l1.length : Int) := of_decide_eq_true (by first | (with_reducible assumption) | assumption)
            obtain ⟨ad316, e316, hx316_0⟩ := Kd.at_int HR1.out x6_1 p316 q316
            cases e316
            replace p316 := eq_true p316
            replace q316 := eq_true q316
            go_wp2
            go_ret
            exact ⟨by first | rfl | (simp; done) | (simp [*]; done), by repeat (first | exact Drawn0.refl _ | apply Drawn0.step)⟩
          · rw [if_neg c6] at H
            have c6b0 : decide (t315 ≤ (rd l1 x6_1)) = false := decide_eq_false c6
            clear c6
            have H' := Aside0.mk H
            clear H
            have p316 : 0 ≤ (x6_1 : Int) := of_decide_eq_true (by first | (with_reducible assumption) | assumption)
            have q316 : x6_1 < (l1.length : Int) := of_decide_eq_true (by first | (with_reducible assumption) | assumption)
            obtain ⟨ad316, e316, hx316_0⟩ := Kd.at_int HR1.out x6_1 p316 q316
            cases e316
            replace p316 := eq_true p316
            replace q316 := eq_true q316
            go_wp2
            go_roundg k1
            case measure => have := HK1.out; omega
            case rel => exact ⟨(wrap64 (x6_1 + 1)), (by first | rfl | (simp; done) | (simp [*]; done)), H', ⟨by have := HK1.out; omega⟩, by repeat (first | exact Drawn0.refl _ | apply Drawn0.step)⟩
        · rw [if_neg c5] at H
          exact absurd H (by simp)
      · rw [if_neg c4] at H
        have c4b0 : decide (x6_1 < (l1.length : Int)) = false := decide_eq_false c4
        clear c4
        obtain rfl := Option.some.inj H
        go_wp2
        go_ret
        exact ⟨by first | rfl | (simp; done) | (simp [*]; done), by repeat (first | exact Drawn0.refl _ | apply Drawn0.step)⟩
def conclaveref20_May.f (k : Nat) (a0_0 : Int) (a0_1 : Int) (a0_2 : Int) (a0_3 : Int) (l0_4 : List Int) : Option (Bool) := if a0_0 = 1 then (if a0_1 ≥ 0 then (if a0_1 < 65536 then (if a0_2 ≥ 0 then (if a0_2 < 64 then ((conclaveref01_In.f k a0_3 l0_4).bind fun t318 => (if t318 = true then (some (decide ((l0_4.length : Int) ≤ 64))) else (some false))) else (some false)) else (some false)) else (some false)) else (some false)) else (if a0_0 = 2 then (if a0_1 ≥ 0 then (if a0_1 < 65536 then (if a0_2 ≥ 0 then (if a0_2 < 64 then ((conclaveref01_In.f k a0_3 l0_4).bind fun t319 => (if t319 = true then (some (decide ((l0_4.length : Int) ≤ 64))) else (some false))) else (some false)) else (some false)) else (some false)) else (some false)) else (some false))
set_option maxHeartbeats 8000000 in
set_option maxRecDepth 100000 in
theorem conclaveref20_May.calls (k : Nat) (a0_0 : Int) (a0_1 : Int) (a0_2 : Int) (a0_3 : Int) (A0_4 : Option Addr) (c0_4 : Nat) (l0_4 : List Int) (r : Bool) (w : World) (hr0_4 : Kd.C (Kd.int .u64) w A0_4 l0_4.length l0_4) (hc0_4 : l0_4.length ≤ c0_4) (h : conclaveref20_May.f k a0_0 a0_1 a0_2 a0_3 l0_4 = some r) :
    Calls Try.prog 43 #[.agg #[.int .u8 a0_0, .int .i64 a0_1, .int .i64 a0_2, .int .u8 a0_3, .slice A0_4 l0_4.length c0_4]] w fun e w' => e = .returned (.bool r) ∧ Below w.heap.size w w' := by
  have hu61 := Try.underlying61
  have HR0_4 := Aside0.mk hr0_4
  have HC0_4 := Aside0.mk hc0_4
  clear hr0_4 hc0_4
  have HB := Aside0.mk (Below.refl w.heap.size w)
  have H : (if a0_0 = 1 then (if a0_1 ≥ 0 then (if a0_1 < 65536 then (if a0_2 ≥ 0 then (if a0_2 < 64 then ((conclaveref01_In.f k a0_3 l0_4).bind fun t318 => (if t318 = true then (some (decide ((l0_4.length : Int) ≤ 64))) else (some false))) else (some false)) else (some false)) else (some false)) else (some false)) else (if a0_0 = 2 then (if a0_1 ≥ 0 then (if a0_1 < 65536 then (if a0_2 ≥ 0 then (if a0_2 < 64 then ((conclaveref01_In.f k a0_3 l0_4).bind fun t319 => (if t319 = true then (some (decide ((l0_4.length : Int) ≤ 64))) else (some false))) else (some false)) else (some false)) else (some false)) else (some false)) else (some false))) = some r := h
  clear h
  by_cases c2 : a0_0 = 1
  · rw [if_pos c2] at H
    have c2b0 : (a0_0 == 1) = true := beq_iff_eq.mpr c2
    have c2b1 : (a0_0 != 1) = false := bne_eq_false_iff_eq.mpr c2
    clear c2
    by_cases c3 : a0_1 ≥ 0
    · rw [if_pos c3] at H
      have c3b0 : decide (0 ≤ a0_1) = true := decide_eq_true c3
      clear c3
      by_cases c4 : a0_1 < 65536
      · rw [if_pos c4] at H
        have c4b0 : decide (a0_1 < 65536) = true := decide_eq_true c4
        clear c4
        by_cases c5 : a0_2 ≥ 0
        · rw [if_pos c5] at H
          have c5b0 : decide (0 ≤ a0_2) = true := decide_eq_true c5
          clear c5
          by_cases c6 : a0_2 < 64
          · rw [if_pos c6] at H
            have c6b0 : decide (a0_2 < 64) = true := decide_eq_true c6
            clear c6
            replace H := Option.bind_eq_some_iff.mp H
            obtain ⟨t318, A70, H⟩ := H
            replace H : (if t318 = true then (some (decide ((l0_4.length : Int) ≤ 64))) else (some false)) = some r := H
            have A7 := Aside0.mk A70
            clear A70
            by_cases c8 : t318 = true
            · subst c8
              have H1 : (some (decide ((l0_4.length : Int) ≤ 64))) = some r := by rw [if_pos rfl] at H; exact H
              clear H
              have H := H1
              clear H1
              obtain rfl := Option.some.inj H
              go_enter Try.func43, Try.ntmps43
              go_wp2_with (first | ((with_reducible refine gate_dst (N := 1) rfl ?_); (try (refine gate_guard (by rfl) ?_; dsimp only)); refine box_event ?hg (N := 1) ?hd (cs := #[.int .u8 a0_0, .int .i64 a0_1, .int .i64 a0_2, .int .u8 a0_3, .slice A0_4 l0_4.length c0_4]) (t := 61) ?hr ?_; (case hd => rfl); (case hg => rfl); (case hr => first | (go_simp; done) | (go_simp; rfl)); intro gb317 hg w9 hbox hb; have n0_ := Aside0.mk (below_step (by repeat (first | (with_reducible first | exact HB.out | apply below_alloc | apply pw_below_drewN | apply below_drew1) | exact HB.out)) hb); have n1_ := Aside0.mk (hbox); have n2_ := Aside0.mk ((by rw [hg]; exact (below_size (by repeat (first | (with_reducible first | exact HB.out | apply below_alloc | apply pw_below_drewN | apply below_drew1) | exact HB.out))) : w.heap.size ≤ gb317)); have n3_ := Aside0.mk ((by rw [hg]; exact (below_size (by repeat (first | (with_reducible first | exact HB.out | apply below_alloc | apply pw_below_drewN | apply below_drew1) | exact HB.out))) : w.heap.size ≤ gb317)); clear HB; have HB := n0_; have BK317 := n1_; have GW317 := n2_; have GE317 := n3_; clear n0_ n1_ n2_ n3_; clear hb hbox hg; have hcz10_0 : w9.cell? ⟨gb317, 0, none⟩ = some (.int .u8 a0_0) := (blk_cell BK317.out 0).trans rfl; have hcz10_1 : w9.cell? ⟨gb317, 1, none⟩ = some (.int .i64 a0_1) := (blk_cell BK317.out 1).trans rfl; have hcz10_2 : w9.cell? ⟨gb317, 2, none⟩ = some (.int .i64 a0_2) := (blk_cell BK317.out 2).trans rfl; have hcz10_3 : w9.cell? ⟨gb317, 3, none⟩ = some (.int .u8 a0_3) := (blk_cell BK317.out 3).trans rfl; have hcz10_4 : w9.cell? ⟨gb317, 4, none⟩ = some (.slice A0_4 l0_4.length c0_4) := (blk_cell BK317.out 4).trans rfl; have hfz10_0 := blk_frozen BK317.out 0; have hfz10_1 := blk_frozen BK317.out 1; have hfz10_2 := blk_frozen BK317.out 2; have hfz10_3 := blk_frozen BK317.out 3; have hfz10_4 := blk_frozen BK317.out 4) | (go_at_call 78; (with_reducible refine (conclaveref01_In.calls k a0_3 _ _ l0_4 true _ ?side1 ?side2 A7.out).mono ?_); (case side1 => repeat (first | exact (Kd.C_below HR0_4.out HB.out) | (with_reducible refine Kd.C_alloc ?_ _) | (with_reducible refine Kd.C_drewN ?_ _) | (with_reducible refine Kd.C_drew ?_))); (case side2 => exact HC0_4.out); rintro e w' ⟨rfl, ⟨nd, rfl⟩⟩))
              go_ret
              exact ⟨by first | rfl | (simp [errW_none, errW_some] <;> rfl) | (simp [*, errW_none, errW_some] <;> rfl), by repeat (first | (with_reducible first | exact HB.out | apply below_alloc | apply pw_below_drewN | apply below_drew1 | refine below_set ?_ GE317.out) | exact HB.out)⟩
            · replace c8 := Bool.eq_false_iff.mpr c8
              subst c8
              have H1 : (some false) = some r := by rw [if_neg (show ¬ (false = true) by decide)] at H; exact H
              clear H
              have H := H1
              clear H1
              obtain rfl := Option.some.inj H
              go_enter Try.func43, Try.ntmps43
              go_wp2_with (first | ((with_reducible refine gate_dst (N := 1) rfl ?_); (try (refine gate_guard (by rfl) ?_; dsimp only)); refine box_event ?hg (N := 1) ?hd (cs := #[.int .u8 a0_0, .int .i64 a0_1, .int .i64 a0_2, .int .u8 a0_3, .slice A0_4 l0_4.length c0_4]) (t := 61) ?hr ?_; (case hd => rfl); (case hg => rfl); (case hr => first | (go_simp; done) | (go_simp; rfl)); intro gb317 hg w11 hbox hb; have n0_ := Aside0.mk (below_step (by repeat (first | (with_reducible first | exact HB.out | apply below_alloc | apply pw_below_drewN | apply below_drew1) | exact HB.out)) hb); have n1_ := Aside0.mk (hbox); have n2_ := Aside0.mk ((by rw [hg]; exact (below_size (by repeat (first | (with_reducible first | exact HB.out | apply below_alloc | apply pw_below_drewN | apply below_drew1) | exact HB.out))) : w.heap.size ≤ gb317)); have n3_ := Aside0.mk ((by rw [hg]; exact (below_size (by repeat (first | (with_reducible first | exact HB.out | apply below_alloc | apply pw_below_drewN | apply below_drew1) | exact HB.out))) : w.heap.size ≤ gb317)); clear HB; have HB := n0_; have BK317 := n1_; have GW317 := n2_; have GE317 := n3_; clear n0_ n1_ n2_ n3_; clear hb hbox hg; have hcz12_0 : w11.cell? ⟨gb317, 0, none⟩ = some (.int .u8 a0_0) := (blk_cell BK317.out 0).trans rfl; have hcz12_1 : w11.cell? ⟨gb317, 1, none⟩ = some (.int .i64 a0_1) := (blk_cell BK317.out 1).trans rfl; have hcz12_2 : w11.cell? ⟨gb317, 2, none⟩ = some (.int .i64 a0_2) := (blk_cell BK317.out 2).trans rfl; have hcz12_3 : w11.cell? ⟨gb317, 3, none⟩ = some (.int .u8 a0_3) := (blk_cell BK317.out 3).trans rfl; have hcz12_4 : w11.cell? ⟨gb317, 4, none⟩ = some (.slice A0_4 l0_4.length c0_4) := (blk_cell BK317.out 4).trans rfl; have hfz12_0 := blk_frozen BK317.out 0; have hfz12_1 := blk_frozen BK317.out 1; have hfz12_2 := blk_frozen BK317.out 2; have hfz12_3 := blk_frozen BK317.out 3; have hfz12_4 := blk_frozen BK317.out 4) | (go_at_call 78; (with_reducible refine (conclaveref01_In.calls k a0_3 _ _ l0_4 false _ ?side1 ?side2 A7.out).mono ?_); (case side1 => repeat (first | exact (Kd.C_below HR0_4.out HB.out) | (with_reducible refine Kd.C_alloc ?_ _) | (with_reducible refine Kd.C_drewN ?_ _) | (with_reducible refine Kd.C_drew ?_))); (case side2 => exact HC0_4.out); rintro e w' ⟨rfl, ⟨nd, rfl⟩⟩))
              go_ret
              exact ⟨by first | rfl | (simp [errW_none, errW_some] <;> rfl) | (simp [*, errW_none, errW_some] <;> rfl), by repeat (first | (with_reducible first | exact HB.out | apply below_alloc | apply pw_below_drewN | apply below_drew1 | refine below_set ?_ GE317.out) | exact HB.out)⟩
          · rw [if_neg c6] at H
            have c6b0 : decide (a0_2 < 64) = false := decide_eq_false c6
            clear c6
            obtain rfl := Option.some.inj H
            go_enter Try.func43, Try.ntmps43
            go_wp2_with (first | ((with_reducible refine gate_dst (N := 1) rfl ?_); (try (refine gate_guard (by rfl) ?_; dsimp only)); refine box_event ?hg (N := 1) ?hd (cs := #[.int .u8 a0_0, .int .i64 a0_1, .int .i64 a0_2, .int .u8 a0_3, .slice A0_4 l0_4.length c0_4]) (t := 61) ?hr ?_; (case hd => rfl); (case hg => rfl); (case hr => first | (go_simp; done) | (go_simp; rfl)); intro gb317 hg w13 hbox hb; have n0_ := Aside0.mk (below_step (by repeat (first | (with_reducible first | exact HB.out | apply below_alloc | apply pw_below_drewN | apply below_drew1) | exact HB.out)) hb); have n1_ := Aside0.mk (hbox); have n2_ := Aside0.mk ((by rw [hg]; exact (below_size (by repeat (first | (with_reducible first | exact HB.out | apply below_alloc | apply pw_below_drewN | apply below_drew1) | exact HB.out))) : w.heap.size ≤ gb317)); have n3_ := Aside0.mk ((by rw [hg]; exact (below_size (by repeat (first | (with_reducible first | exact HB.out | apply below_alloc | apply pw_below_drewN | apply below_drew1) | exact HB.out))) : w.heap.size ≤ gb317)); clear HB; have HB := n0_; have BK317 := n1_; have GW317 := n2_; have GE317 := n3_; clear n0_ n1_ n2_ n3_; clear hb hbox hg; have hcz14_0 : w13.cell? ⟨gb317, 0, none⟩ = some (.int .u8 a0_0) := (blk_cell BK317.out 0).trans rfl; have hcz14_1 : w13.cell? ⟨gb317, 1, none⟩ = some (.int .i64 a0_1) := (blk_cell BK317.out 1).trans rfl; have hcz14_2 : w13.cell? ⟨gb317, 2, none⟩ = some (.int .i64 a0_2) := (blk_cell BK317.out 2).trans rfl; have hcz14_3 : w13.cell? ⟨gb317, 3, none⟩ = some (.int .u8 a0_3) := (blk_cell BK317.out 3).trans rfl; have hcz14_4 : w13.cell? ⟨gb317, 4, none⟩ = some (.slice A0_4 l0_4.length c0_4) := (blk_cell BK317.out 4).trans rfl; have hfz14_0 := blk_frozen BK317.out 0; have hfz14_1 := blk_frozen BK317.out 1; have hfz14_2 := blk_frozen BK317.out 2; have hfz14_3 := blk_frozen BK317.out 3; have hfz14_4 := blk_frozen BK317.out 4))
            go_ret
            exact ⟨by first | rfl | (simp [errW_none, errW_some] <;> rfl) | (simp [*, errW_none, errW_some] <;> rfl), by repeat (first | (with_reducible first | exact HB.out | apply below_alloc | apply pw_below_drewN | apply below_drew1 | refine below_set ?_ GE317.out) | exact HB.out)⟩
        · rw [if_neg c5] at H
          have c5b0 : decide (0 ≤ a0_2) = false := decide_eq_false c5
          clear c5
          obtain rfl := Option.some.inj H
          go_enter Try.func43, Try.ntmps43
          go_wp2_with (first | ((with_reducible refine gate_dst (N := 1) rfl ?_); (try (refine gate_guard (by rfl) ?_; dsimp only)); refine box_event ?hg (N := 1) ?hd (cs := #[.int .u8 a0_0, .int .i64 a0_1, .int .i64 a0_2, .int .u8 a0_3, .slice A0_4 l0_4.length c0_4]) (t := 61) ?hr ?_; (case hd => rfl); (case hg => rfl); (case hr => first | (go_simp; done) | (go_simp; rfl)); intro gb317 hg w15 hbox hb; have n0_ := Aside0.mk (below_step (by repeat (first | (with_reducible first | exact HB.out | apply below_alloc | apply pw_below_drewN | apply below_drew1) | exact HB.out)) hb); have n1_ := Aside0.mk (hbox); have n2_ := Aside0.mk ((by rw [hg]; exact (below_size (by repeat (first | (with_reducible first | exact HB.out | apply below_alloc | apply pw_below_drewN | apply below_drew1) | exact HB.out))) : w.heap.size ≤ gb317)); have n3_ := Aside0.mk ((by rw [hg]; exact (below_size (by repeat (first | (with_reducible first | exact HB.out | apply below_alloc | apply pw_below_drewN | apply below_drew1) | exact HB.out))) : w.heap.size ≤ gb317)); clear HB; have HB := n0_; have BK317 := n1_; have GW317 := n2_; have GE317 := n3_; clear n0_ n1_ n2_ n3_; clear hb hbox hg; have hcz16_0 : w15.cell? ⟨gb317, 0, none⟩ = some (.int .u8 a0_0) := (blk_cell BK317.out 0).trans rfl; have hcz16_1 : w15.cell? ⟨gb317, 1, none⟩ = some (.int .i64 a0_1) := (blk_cell BK317.out 1).trans rfl; have hcz16_2 : w15.cell? ⟨gb317, 2, none⟩ = some (.int .i64 a0_2) := (blk_cell BK317.out 2).trans rfl; have hcz16_3 : w15.cell? ⟨gb317, 3, none⟩ = some (.int .u8 a0_3) := (blk_cell BK317.out 3).trans rfl; have hcz16_4 : w15.cell? ⟨gb317, 4, none⟩ = some (.slice A0_4 l0_4.length c0_4) := (blk_cell BK317.out 4).trans rfl; have hfz16_0 := blk_frozen BK317.out 0; have hfz16_1 := blk_frozen BK317.out 1; have hfz16_2 := blk_frozen BK317.out 2; have hfz16_3 := blk_frozen BK317.out 3; have hfz16_4 := blk_frozen BK317.out 4))
          go_ret
          exact ⟨by first | rfl | (simp [errW_none, errW_some] <;> rfl) | (simp [*, errW_none, errW_some] <;> rfl), by repeat (first | (with_reducible first | exact HB.out | apply below_alloc | apply pw_below_drewN | apply below_drew1 | refine below_set ?_ GE317.out) | exact HB.out)⟩
      · rw [if_neg c4] at H
        have c4b0 : decide (a0_1 < 65536) = false := decide_eq_false c4
        clear c4
        obtain rfl := Option.some.inj H
        go_enter Try.func43, Try.ntmps43
        go_wp2_with (first | ((with_reducible refine gate_dst (N := 1) rfl ?_); (try (refine gate_guard (by rfl) ?_; dsimp only)); refine box_event ?hg (N := 1) ?hd (cs := #[.int .u8 a0_0, .int .i64 a0_1, .int .i64 a0_2, .int .u8 a0_3, .slice A0_4 l0_4.length c0_4]) (t := 61) ?hr ?_; (case hd => rfl); (case hg => rfl); (case hr => first | (go_simp; done) | (go_simp; rfl)); intro gb317 hg w17 hbox hb; have n0_ := Aside0.mk (below_step (by repeat (first | (with_reducible first | exact HB.out | apply below_alloc | apply pw_below_drewN | apply below_drew1) | exact HB.out)) hb); have n1_ := Aside0.mk (hbox); have n2_ := Aside0.mk ((by rw [hg]; exact (below_size (by repeat (first | (with_reducible first | exact HB.out | apply below_alloc | apply pw_below_drewN | apply below_drew1) | exact HB.out))) : w.heap.size ≤ gb317)); have n3_ := Aside0.mk ((by rw [hg]; exact (below_size (by repeat (first | (with_reducible first | exact HB.out | apply below_alloc | apply pw_below_drewN | apply below_drew1) | exact HB.out))) : w.heap.size ≤ gb317)); clear HB; have HB := n0_; have BK317 := n1_; have GW317 := n2_; have GE317 := n3_; clear n0_ n1_ n2_ n3_; clear hb hbox hg; have hcz18_0 : w17.cell? ⟨gb317, 0, none⟩ = some (.int .u8 a0_0) := (blk_cell BK317.out 0).trans rfl; have hcz18_1 : w17.cell? ⟨gb317, 1, none⟩ = some (.int .i64 a0_1) := (blk_cell BK317.out 1).trans rfl; have hcz18_2 : w17.cell? ⟨gb317, 2, none⟩ = some (.int .i64 a0_2) := (blk_cell BK317.out 2).trans rfl; have hcz18_3 : w17.cell? ⟨gb317, 3, none⟩ = some (.int .u8 a0_3) := (blk_cell BK317.out 3).trans rfl; have hcz18_4 : w17.cell? ⟨gb317, 4, none⟩ = some (.slice A0_4 l0_4.length c0_4) := (blk_cell BK317.out 4).trans rfl; have hfz18_0 := blk_frozen BK317.out 0; have hfz18_1 := blk_frozen BK317.out 1; have hfz18_2 := blk_frozen BK317.out 2; have hfz18_3 := blk_frozen BK317.out 3; have hfz18_4 := blk_frozen BK317.out 4))
        go_ret
        exact ⟨by first | rfl | (simp [errW_none, errW_some] <;> rfl) | (simp [*, errW_none, errW_some] <;> rfl), by repeat (first | (with_reducible first | exact HB.out | apply below_alloc | apply pw_below_drewN | apply below_drew1 | refine below_set ?_ GE317.out) | exact HB.out)⟩
    · rw [if_neg c3] at H
      have c3b0 : decide (0 ≤ a0_1) = false := decide_eq_false c3
      clear c3
      obtain rfl := Option.some.inj H
      go_enter Try.func43, Try.ntmps43
      go_wp2_with (first | ((with_reducible refine gate_dst (N := 1) rfl ?_); (try (refine gate_guard (by rfl) ?_; dsimp only)); refine box_event ?hg (N := 1) ?hd (cs := #[.int .u8 a0_0, .int .i64 a0_1, .int .i64 a0_2, .int .u8 a0_3, .slice A0_4 l0_4.length c0_4]) (t := 61) ?hr ?_; (case hd => rfl); (case hg => rfl); (case hr => first | (go_simp; done) | (go_simp; rfl)); intro gb317 hg w19 hbox hb; have n0_ := Aside0.mk (below_step (by repeat (first | (with_reducible first | exact HB.out | apply below_alloc | apply pw_below_drewN | apply below_drew1) | exact HB.out)) hb); have n1_ := Aside0.mk (hbox); have n2_ := Aside0.mk ((by rw [hg]; exact (below_size (by repeat (first | (with_reducible first | exact HB.out | apply below_alloc | apply pw_below_drewN | apply below_drew1) | exact HB.out))) : w.heap.size ≤ gb317)); have n3_ := Aside0.mk ((by rw [hg]; exact (below_size (by repeat (first | (with_reducible first | exact HB.out | apply below_alloc | apply pw_below_drewN | apply below_drew1) | exact HB.out))) : w.heap.size ≤ gb317)); clear HB; have HB := n0_; have BK317 := n1_; have GW317 := n2_; have GE317 := n3_; clear n0_ n1_ n2_ n3_; clear hb hbox hg; have hcz20_0 : w19.cell? ⟨gb317, 0, none⟩ = some (.int .u8 a0_0) := (blk_cell BK317.out 0).trans rfl; have hcz20_1 : w19.cell? ⟨gb317, 1, none⟩ = some (.int .i64 a0_1) := (blk_cell BK317.out 1).trans rfl; have hcz20_2 : w19.cell? ⟨gb317, 2, none⟩ = some (.int .i64 a0_2) := (blk_cell BK317.out 2).trans rfl; have hcz20_3 : w19.cell? ⟨gb317, 3, none⟩ = some (.int .u8 a0_3) := (blk_cell BK317.out 3).trans rfl; have hcz20_4 : w19.cell? ⟨gb317, 4, none⟩ = some (.slice A0_4 l0_4.length c0_4) := (blk_cell BK317.out 4).trans rfl; have hfz20_0 := blk_frozen BK317.out 0; have hfz20_1 := blk_frozen BK317.out 1; have hfz20_2 := blk_frozen BK317.out 2; have hfz20_3 := blk_frozen BK317.out 3; have hfz20_4 := blk_frozen BK317.out 4))
      go_ret
      exact ⟨by first | rfl | (simp [errW_none, errW_some] <;> rfl) | (simp [*, errW_none, errW_some] <;> rfl), by repeat (first | (with_reducible first | exact HB.out | apply below_alloc | apply pw_below_drewN | apply below_drew1 | refine below_set ?_ GE317.out) | exact HB.out)⟩
  · rw [if_neg c2] at H
    have c2b0 : (a0_0 == 1) = false := beq_eq_false_iff_ne.mpr c2
    have c2b1 : (a0_0 != 1) = true := bne_iff_ne.mpr c2
    by_cases c21 : a0_0 = 2
    · rw [if_pos c21] at H
      have c21b0 : (a0_0 == 2) = true := beq_iff_eq.mpr c21
      have c21b1 : (a0_0 != 2) = false := bne_eq_false_iff_eq.mpr c21
      clear c21
      by_cases c22 : a0_1 ≥ 0
      · rw [if_pos c22] at H
        have c22b0 : decide (0 ≤ a0_1) = true := decide_eq_true c22
        clear c22
        by_cases c23 : a0_1 < 65536
        · rw [if_pos c23] at H
          have c23b0 : decide (a0_1 < 65536) = true := decide_eq_true c23
          clear c23
          by_cases c24 : a0_2 ≥ 0
          · rw [if_pos c24] at H
            have c24b0 : decide (0 ≤ a0_2) = true := decide_eq_true c24
            clear c24
            by_cases c25 : a0_2 < 64
            · rw [if_pos c25] at H
              have c25b0 : decide (a0_2 < 64) = true := decide_eq_true c25
              clear c25
              replace H := Option.bind_eq_some_iff.mp H
              obtain ⟨t319, A260, H⟩ := H
              replace H : (if t319 = true then (some (decide ((l0_4.length : Int) ≤ 64))) else (some false)) = some r := H
              have A26 := Aside0.mk A260
              clear A260
              by_cases c27 : t319 = true
              · subst c27
                have H1 : (some (decide ((l0_4.length : Int) ≤ 64))) = some r := by rw [if_pos rfl] at H; exact H
                clear H
                have H := H1
                clear H1
                obtain rfl := Option.some.inj H
                go_enter Try.func43, Try.ntmps43
                go_wp2_with (first | ((with_reducible refine gate_dst (N := 1) rfl ?_); (try (refine gate_guard (by rfl) ?_; dsimp only)); refine box_event ?hg (N := 1) ?hd (cs := #[.int .u8 a0_0, .int .i64 a0_1, .int .i64 a0_2, .int .u8 a0_3, .slice A0_4 l0_4.length c0_4]) (t := 61) ?hr ?_; (case hd => rfl); (case hg => rfl); (case hr => first | (go_simp; done) | (go_simp; rfl)); intro gb317 hg w28 hbox hb; have n0_ := Aside0.mk (below_step (by repeat (first | (with_reducible first | exact HB.out | apply below_alloc | apply pw_below_drewN | apply below_drew1) | exact HB.out)) hb); have n1_ := Aside0.mk (hbox); have n2_ := Aside0.mk ((by rw [hg]; exact (below_size (by repeat (first | (with_reducible first | exact HB.out | apply below_alloc | apply pw_below_drewN | apply below_drew1) | exact HB.out))) : w.heap.size ≤ gb317)); have n3_ := Aside0.mk ((by rw [hg]; exact (below_size (by repeat (first | (with_reducible first | exact HB.out | apply below_alloc | apply pw_below_drewN | apply below_drew1) | exact HB.out))) : w.heap.size ≤ gb317)); clear HB; have HB := n0_; have BK317 := n1_; have GW317 := n2_; have GE317 := n3_; clear n0_ n1_ n2_ n3_; clear hb hbox hg; have hcz29_0 : w28.cell? ⟨gb317, 0, none⟩ = some (.int .u8 a0_0) := (blk_cell BK317.out 0).trans rfl; have hcz29_1 : w28.cell? ⟨gb317, 1, none⟩ = some (.int .i64 a0_1) := (blk_cell BK317.out 1).trans rfl; have hcz29_2 : w28.cell? ⟨gb317, 2, none⟩ = some (.int .i64 a0_2) := (blk_cell BK317.out 2).trans rfl; have hcz29_3 : w28.cell? ⟨gb317, 3, none⟩ = some (.int .u8 a0_3) := (blk_cell BK317.out 3).trans rfl; have hcz29_4 : w28.cell? ⟨gb317, 4, none⟩ = some (.slice A0_4 l0_4.length c0_4) := (blk_cell BK317.out 4).trans rfl; have hfz29_0 := blk_frozen BK317.out 0; have hfz29_1 := blk_frozen BK317.out 1; have hfz29_2 := blk_frozen BK317.out 2; have hfz29_3 := blk_frozen BK317.out 3; have hfz29_4 := blk_frozen BK317.out 4) | (go_at_call 78; (with_reducible refine (conclaveref01_In.calls k a0_3 _ _ l0_4 true _ ?side1 ?side2 A26.out).mono ?_); (case side1 => repeat (first | exact (Kd.C_below HR0_4.out HB.out) | (with_reducible refine Kd.C_alloc ?_ _) | (with_reducible refine Kd.C_drewN ?_ _) | (with_reducible refine Kd.C_drew ?_))); (case side2 => exact HC0_4.out); rintro e w' ⟨rfl, ⟨nd, rfl⟩⟩))
                go_ret
                exact ⟨by first | rfl | (simp [errW_none, errW_some] <;> rfl) | (simp [*, errW_none, errW_some] <;> rfl), by repeat (first | (with_reducible first | exact HB.out | apply below_alloc | apply pw_below_drewN | apply below_drew1 | refine below_set ?_ GE317.out) | exact HB.out)⟩
              · replace c27 := Bool.eq_false_iff.mpr c27
                subst c27
                have H1 : (some false) = some r := by rw [if_neg (show ¬ (false = true) by decide)] at H; exact H
                clear H
                have H := H1
                clear H1
                obtain rfl := Option.some.inj H
                go_enter Try.func43, Try.ntmps43
                go_wp2_with (first | ((with_reducible refine gate_dst (N := 1) rfl ?_); (try (refine gate_guard (by rfl) ?_; dsimp only)); refine box_event ?hg (N := 1) ?hd (cs := #[.int .u8 a0_0, .int .i64 a0_1, .int .i64 a0_2, .int .u8 a0_3, .slice A0_4 l0_4.length c0_4]) (t := 61) ?hr ?_; (case hd => rfl); (case hg => rfl); (case hr => first | (go_simp; done) | (go_simp; rfl)); intro gb317 hg w30 hbox hb; have n0_ := Aside0.mk (below_step (by repeat (first | (with_reducible first | exact HB.out | apply below_alloc | apply pw_below_drewN | apply below_drew1) | exact HB.out)) hb); have n1_ := Aside0.mk (hbox); have n2_ := Aside0.mk ((by rw [hg]; exact (below_size (by repeat (first | (with_reducible first | exact HB.out | apply below_alloc | apply pw_below_drewN | apply below_drew1) | exact HB.out))) : w.heap.size ≤ gb317)); have n3_ := Aside0.mk ((by rw [hg]; exact (below_size (by repeat (first | (with_reducible first | exact HB.out | apply below_alloc | apply pw_below_drewN | apply below_drew1) | exact HB.out))) : w.heap.size ≤ gb317)); clear HB; have HB := n0_; have BK317 := n1_; have GW317 := n2_; have GE317 := n3_; clear n0_ n1_ n2_ n3_; clear hb hbox hg; have hcz31_0 : w30.cell? ⟨gb317, 0, none⟩ = some (.int .u8 a0_0) := (blk_cell BK317.out 0).trans rfl; have hcz31_1 : w30.cell? ⟨gb317, 1, none⟩ = some (.int .i64 a0_1) := (blk_cell BK317.out 1).trans rfl; have hcz31_2 : w30.cell? ⟨gb317, 2, none⟩ = some (.int .i64 a0_2) := (blk_cell BK317.out 2).trans rfl; have hcz31_3 : w30.cell? ⟨gb317, 3, none⟩ = some (.int .u8 a0_3) := (blk_cell BK317.out 3).trans rfl; have hcz31_4 : w30.cell? ⟨gb317, 4, none⟩ = some (.slice A0_4 l0_4.length c0_4) := (blk_cell BK317.out 4).trans rfl; have hfz31_0 := blk_frozen BK317.out 0; have hfz31_1 := blk_frozen BK317.out 1; have hfz31_2 := blk_frozen BK317.out 2; have hfz31_3 := blk_frozen BK317.out 3; have hfz31_4 := blk_frozen BK317.out 4) | (go_at_call 78; (with_reducible refine (conclaveref01_In.calls k a0_3 _ _ l0_4 false _ ?side1 ?side2 A26.out).mono ?_); (case side1 => repeat (first | exact (Kd.C_below HR0_4.out HB.out) | (with_reducible refine Kd.C_alloc ?_ _) | (with_reducible refine Kd.C_drewN ?_ _) | (with_reducible refine Kd.C_drew ?_))); (case side2 => exact HC0_4.out); rintro e w' ⟨rfl, ⟨nd, rfl⟩⟩))
                go_ret
                exact ⟨by first | rfl | (simp [errW_none, errW_some] <;> rfl) | (simp [*, errW_none, errW_some] <;> rfl), by repeat (first | (with_reducible first | exact HB.out | apply below_alloc | apply pw_below_drewN | apply below_drew1 | refine below_set ?_ GE317.out) | exact HB.out)⟩
            · rw [if_neg c25] at H
              have c25b0 : decide (a0_2 < 64) = false := decide_eq_false c25
              clear c25
              obtain rfl := Option.some.inj H
              go_enter Try.func43, Try.ntmps43
              go_wp2_with (first | ((with_reducible refine gate_dst (N := 1) rfl ?_); (try (refine gate_guard (by rfl) ?_; dsimp only)); refine box_event ?hg (N := 1) ?hd (cs := #[.int .u8 a0_0, .int .i64 a0_1, .int .i64 a0_2, .int .u8 a0_3, .slice A0_4 l0_4.length c0_4]) (t := 61) ?hr ?_; (case hd => rfl); (case hg => rfl); (case hr => first | (go_simp; done) | (go_simp; rfl)); intro gb317 hg w32 hbox hb; have n0_ := Aside0.mk (below_step (by repeat (first | (with_reducible first | exact HB.out | apply below_alloc | apply pw_below_drewN | apply below_drew1) | exact HB.out)) hb); have n1_ := Aside0.mk (hbox); have n2_ := Aside0.mk ((by rw [hg]; exact (below_size (by repeat (first | (with_reducible first | exact HB.out | apply below_alloc | apply pw_below_drewN | apply below_drew1) | exact HB.out))) : w.heap.size ≤ gb317)); have n3_ := Aside0.mk ((by rw [hg]; exact (below_size (by repeat (first | (with_reducible first | exact HB.out | apply below_alloc | apply pw_below_drewN | apply below_drew1) | exact HB.out))) : w.heap.size ≤ gb317)); clear HB; have HB := n0_; have BK317 := n1_; have GW317 := n2_; have GE317 := n3_; clear n0_ n1_ n2_ n3_; clear hb hbox hg; have hcz33_0 : w32.cell? ⟨gb317, 0, none⟩ = some (.int .u8 a0_0) := (blk_cell BK317.out 0).trans rfl; have hcz33_1 : w32.cell? ⟨gb317, 1, none⟩ = some (.int .i64 a0_1) := (blk_cell BK317.out 1).trans rfl; have hcz33_2 : w32.cell? ⟨gb317, 2, none⟩ = some (.int .i64 a0_2) := (blk_cell BK317.out 2).trans rfl; have hcz33_3 : w32.cell? ⟨gb317, 3, none⟩ = some (.int .u8 a0_3) := (blk_cell BK317.out 3).trans rfl; have hcz33_4 : w32.cell? ⟨gb317, 4, none⟩ = some (.slice A0_4 l0_4.length c0_4) := (blk_cell BK317.out 4).trans rfl; have hfz33_0 := blk_frozen BK317.out 0; have hfz33_1 := blk_frozen BK317.out 1; have hfz33_2 := blk_frozen BK317.out 2; have hfz33_3 := blk_frozen BK317.out 3; have hfz33_4 := blk_frozen BK317.out 4))
              go_ret
              exact ⟨by first | rfl | (simp [errW_none, errW_some] <;> rfl) | (simp [*, errW_none, errW_some] <;> rfl), by repeat (first | (with_reducible first | exact HB.out | apply below_alloc | apply pw_below_drewN | apply below_drew1 | refine below_set ?_ GE317.out) | exact HB.out)⟩
          · rw [if_neg c24] at H
            have c24b0 : decide (0 ≤ a0_2) = false := decide_eq_false c24
            clear c24
            obtain rfl := Option.some.inj H
            go_enter Try.func43, Try.ntmps43
            go_wp2_with (first | ((with_reducible refine gate_dst (N := 1) rfl ?_); (try (refine gate_guard (by rfl) ?_; dsimp only)); refine box_event ?hg (N := 1) ?hd (cs := #[.int .u8 a0_0, .int .i64 a0_1, .int .i64 a0_2, .int .u8 a0_3, .slice A0_4 l0_4.length c0_4]) (t := 61) ?hr ?_; (case hd => rfl); (case hg => rfl); (case hr => first | (go_simp; done) | (go_simp; rfl)); intro gb317 hg w34 hbox hb; have n0_ := Aside0.mk (below_step (by repeat (first | (with_reducible first | exact HB.out | apply below_alloc | apply pw_below_drewN | apply below_drew1) | exact HB.out)) hb); have n1_ := Aside0.mk (hbox); have n2_ := Aside0.mk ((by rw [hg]; exact (below_size (by repeat (first | (with_reducible first | exact HB.out | apply below_alloc | apply pw_below_drewN | apply below_drew1) | exact HB.out))) : w.heap.size ≤ gb317)); have n3_ := Aside0.mk ((by rw [hg]; exact (below_size (by repeat (first | (with_reducible first | exact HB.out | apply below_alloc | apply pw_below_drewN | apply below_drew1) | exact HB.out))) : w.heap.size ≤ gb317)); clear HB; have HB := n0_; have BK317 := n1_; have GW317 := n2_; have GE317 := n3_; clear n0_ n1_ n2_ n3_; clear hb hbox hg; have hcz35_0 : w34.cell? ⟨gb317, 0, none⟩ = some (.int .u8 a0_0) := (blk_cell BK317.out 0).trans rfl; have hcz35_1 : w34.cell? ⟨gb317, 1, none⟩ = some (.int .i64 a0_1) := (blk_cell BK317.out 1).trans rfl; have hcz35_2 : w34.cell? ⟨gb317, 2, none⟩ = some (.int .i64 a0_2) := (blk_cell BK317.out 2).trans rfl; have hcz35_3 : w34.cell? ⟨gb317, 3, none⟩ = some (.int .u8 a0_3) := (blk_cell BK317.out 3).trans rfl; have hcz35_4 : w34.cell? ⟨gb317, 4, none⟩ = some (.slice A0_4 l0_4.length c0_4) := (blk_cell BK317.out 4).trans rfl; have hfz35_0 := blk_frozen BK317.out 0; have hfz35_1 := blk_frozen BK317.out 1; have hfz35_2 := blk_frozen BK317.out 2; have hfz35_3 := blk_frozen BK317.out 3; have hfz35_4 := blk_frozen BK317.out 4))
            go_ret
            exact ⟨by first | rfl | (simp [errW_none, errW_some] <;> rfl) | (simp [*, errW_none, errW_some] <;> rfl), by repeat (first | (with_reducible first | exact HB.out | apply below_alloc | apply pw_below_drewN | apply below_drew1 | refine below_set ?_ GE317.out) | exact HB.out)⟩
        · rw [if_neg c23] at H
          have c23b0 : decide (a0_1 < 65536) = false := decide_eq_false c23
          clear c23
          obtain rfl := Option.some.inj H
          go_enter Try.func43, Try.ntmps43
          go_wp2_with (first | ((with_reducible refine gate_dst (N := 1) rfl ?_); (try (refine gate_guard (by rfl) ?_; dsimp only)); refine box_event ?hg (N := 1) ?hd (cs := #[.int .u8 a0_0, .int .i64 a0_1, .int .i64 a0_2, .int .u8 a0_3, .slice A0_4 l0_4.length c0_4]) (t := 61) ?hr ?_; (case hd => rfl); (case hg => rfl); (case hr => first | (go_simp; done) | (go_simp; rfl)); intro gb317 hg w36 hbox hb; have n0_ := Aside0.mk (below_step (by repeat (first | (with_reducible first | exact HB.out | apply below_alloc | apply pw_below_drewN | apply below_drew1) | exact HB.out)) hb); have n1_ := Aside0.mk (hbox); have n2_ := Aside0.mk ((by rw [hg]; exact (below_size (by repeat (first | (with_reducible first | exact HB.out | apply below_alloc | apply pw_below_drewN | apply below_drew1) | exact HB.out))) : w.heap.size ≤ gb317)); have n3_ := Aside0.mk ((by rw [hg]; exact (below_size (by repeat (first | (with_reducible first | exact HB.out | apply below_alloc | apply pw_below_drewN | apply below_drew1) | exact HB.out))) : w.heap.size ≤ gb317)); clear HB; have HB := n0_; have BK317 := n1_; have GW317 := n2_; have GE317 := n3_; clear n0_ n1_ n2_ n3_; clear hb hbox hg; have hcz37_0 : w36.cell? ⟨gb317, 0, none⟩ = some (.int .u8 a0_0) := (blk_cell BK317.out 0).trans rfl; have hcz37_1 : w36.cell? ⟨gb317, 1, none⟩ = some (.int .i64 a0_1) := (blk_cell BK317.out 1).trans rfl; have hcz37_2 : w36.cell? ⟨gb317, 2, none⟩ = some (.int .i64 a0_2) := (blk_cell BK317.out 2).trans rfl; have hcz37_3 : w36.cell? ⟨gb317, 3, none⟩ = some (.int .u8 a0_3) := (blk_cell BK317.out 3).trans rfl; have hcz37_4 : w36.cell? ⟨gb317, 4, none⟩ = some (.slice A0_4 l0_4.length c0_4) := (blk_cell BK317.out 4).trans rfl; have hfz37_0 := blk_frozen BK317.out 0; have hfz37_1 := blk_frozen BK317.out 1; have hfz37_2 := blk_frozen BK317.out 2; have hfz37_3 := blk_frozen BK317.out 3; have hfz37_4 := blk_frozen BK317.out 4))
          go_ret
          exact ⟨by first | rfl | (simp [errW_none, errW_some] <;> rfl) | (simp [*, errW_none, errW_some] <;> rfl), by repeat (first | (with_reducible first | exact HB.out | apply below_alloc | apply pw_below_drewN | apply below_drew1 | refine below_set ?_ GE317.out) | exact HB.out)⟩
      · rw [if_neg c22] at H
        have c22b0 : decide (0 ≤ a0_1) = false := decide_eq_false c22
        clear c22
        obtain rfl := Option.some.inj H
        go_enter Try.func43, Try.ntmps43
        go_wp2_with (first | ((with_reducible refine gate_dst (N := 1) rfl ?_); (try (refine gate_guard (by rfl) ?_; dsimp only)); refine box_event ?hg (N := 1) ?hd (cs := #[.int .u8 a0_0, .int .i64 a0_1, .int .i64 a0_2, .int .u8 a0_3, .slice A0_4 l0_4.length c0_4]) (t := 61) ?hr ?_; (case hd => rfl); (case hg => rfl); (case hr => first | (go_simp; done) | (go_simp; rfl)); intro gb317 hg w38 hbox hb; have n0_ := Aside0.mk (below_step (by repeat (first | (with_reducible first | exact HB.out | apply below_alloc | apply pw_below_drewN | apply below_drew1) | exact HB.out)) hb); have n1_ := Aside0.mk (hbox); have n2_ := Aside0.mk ((by rw [hg]; exact (below_size (by repeat (first | (with_reducible first | exact HB.out | apply below_alloc | apply pw_below_drewN | apply below_drew1) | exact HB.out))) : w.heap.size ≤ gb317)); have n3_ := Aside0.mk ((by rw [hg]; exact (below_size (by repeat (first | (with_reducible first | exact HB.out | apply below_alloc | apply pw_below_drewN | apply below_drew1) | exact HB.out))) : w.heap.size ≤ gb317)); clear HB; have HB := n0_; have BK317 := n1_; have GW317 := n2_; have GE317 := n3_; clear n0_ n1_ n2_ n3_; clear hb hbox hg; have hcz39_0 : w38.cell? ⟨gb317, 0, none⟩ = some (.int .u8 a0_0) := (blk_cell BK317.out 0).trans rfl; have hcz39_1 : w38.cell? ⟨gb317, 1, none⟩ = some (.int .i64 a0_1) := (blk_cell BK317.out 1).trans rfl; have hcz39_2 : w38.cell? ⟨gb317, 2, none⟩ = some (.int .i64 a0_2) := (blk_cell BK317.out 2).trans rfl; have hcz39_3 : w38.cell? ⟨gb317, 3, none⟩ = some (.int .u8 a0_3) := (blk_cell BK317.out 3).trans rfl; have hcz39_4 : w38.cell? ⟨gb317, 4, none⟩ = some (.slice A0_4 l0_4.length c0_4) := (blk_cell BK317.out 4).trans rfl; have hfz39_0 := blk_frozen BK317.out 0; have hfz39_1 := blk_frozen BK317.out 1; have hfz39_2 := blk_frozen BK317.out 2; have hfz39_3 := blk_frozen BK317.out 3; have hfz39_4 := blk_frozen BK317.out 4))
        go_ret
        exact ⟨by first | rfl | (simp [errW_none, errW_some] <;> rfl) | (simp [*, errW_none, errW_some] <;> rfl), by repeat (first | (with_reducible first | exact HB.out | apply below_alloc | apply pw_below_drewN | apply below_drew1 | refine below_set ?_ GE317.out) | exact HB.out)⟩
    · rw [if_neg c21] at H
      have c21b0 : (a0_0 == 2) = false := beq_eq_false_iff_ne.mpr c21
      have c21b1 : (a0_0 != 2) = true := bne_iff_ne.mpr c21
      obtain rfl := Option.some.inj H
      go_enter Try.func43, Try.ntmps43
      go_wp2_with (first | ((with_reducible refine gate_dst (N := 1) rfl ?_); (try (refine gate_guard (by rfl) ?_; dsimp only)); refine box_event ?hg (N := 1) ?hd (cs := #[.int .u8 a0_0, .int .i64 a0_1, .int .i64 a0_2, .int .u8 a0_3, .slice A0_4 l0_4.length c0_4]) (t := 61) ?hr ?_; (case hd => rfl); (case hg => rfl); (case hr => first | (go_simp; done) | (go_simp; rfl)); intro gb317 hg w40 hbox hb; have n0_ := Aside0.mk (below_step (by repeat (first | (with_reducible first | exact HB.out | apply below_alloc | apply pw_below_drewN | apply below_drew1) | exact HB.out)) hb); have n1_ := Aside0.mk (hbox); have n2_ := Aside0.mk ((by rw [hg]; exact (below_size (by repeat (first | (with_reducible first | exact HB.out | apply below_alloc | apply pw_below_drewN | apply below_drew1) | exact HB.out))) : w.heap.size ≤ gb317)); have n3_ := Aside0.mk ((by rw [hg]; exact (below_size (by repeat (first | (with_reducible first | exact HB.out | apply below_alloc | apply pw_below_drewN | apply below_drew1) | exact HB.out))) : w.heap.size ≤ gb317)); clear HB; have HB := n0_; have BK317 := n1_; have GW317 := n2_; have GE317 := n3_; clear n0_ n1_ n2_ n3_; clear hb hbox hg; have hcz41_0 : w40.cell? ⟨gb317, 0, none⟩ = some (.int .u8 a0_0) := (blk_cell BK317.out 0).trans rfl; have hcz41_1 : w40.cell? ⟨gb317, 1, none⟩ = some (.int .i64 a0_1) := (blk_cell BK317.out 1).trans rfl; have hcz41_2 : w40.cell? ⟨gb317, 2, none⟩ = some (.int .i64 a0_2) := (blk_cell BK317.out 2).trans rfl; have hcz41_3 : w40.cell? ⟨gb317, 3, none⟩ = some (.int .u8 a0_3) := (blk_cell BK317.out 3).trans rfl; have hcz41_4 : w40.cell? ⟨gb317, 4, none⟩ = some (.slice A0_4 l0_4.length c0_4) := (blk_cell BK317.out 4).trans rfl; have hfz41_0 := blk_frozen BK317.out 0; have hfz41_1 := blk_frozen BK317.out 1; have hfz41_2 := blk_frozen BK317.out 2; have hfz41_3 := blk_frozen BK317.out 3; have hfz41_4 := blk_frozen BK317.out 4))
      go_ret
      exact ⟨by first | rfl | (simp [errW_none, errW_some] <;> rfl) | (simp [*, errW_none, errW_some] <;> rfl), by repeat (first | (with_reducible first | exact HB.out | apply below_alloc | apply pw_below_drewN | apply below_drew1 | refine below_set ?_ GE317.out) | exact HB.out)⟩
end Go.Proofs.Ytkppklinmcnecaa.P
end
section
namespace Go.Proofs.Ytkppklinmcnecaa.P
open Go.RowKit Go.Proofs.YtkppklinmcnecaaW.PrintWords Go.Proofs.YtkppklinmcnecaaW.PrintLast Go.Proofs.YtkppklinmcnecaaW.PrintMore
attribute [local go_sem] max2_int min2_int max_two min_two max_three min_three max_four min_four
set_option linter.unusedVariables false
set_option linter.unusedSimpArgs false
def conclaveref01_Same.l0 : Nat → List Int → List Int → Int → Option (Bool)
  | 0, _, _, _ => none
  | k + 1, x0, x1, x5 => if x5 < (x0.length : Int) then (if 0 ≤ x5 then (if x5 < (x1.length : Int) then (if (rd x0 x5) = (rd x1 x5) then (conclaveref01_Same.l0 k x0 x1 (wrap64 (x5 + 1))) else (some false)) else (none)) else (none)) else (some true)
def conclaveref01_Same.f (k : Nat) (l0 : List Int) (l1 : List Int) : Option (Bool) := if (l0.length : Int) = (l1.length : Int) then (conclaveref01_Same.l0 k l0 l1 0) else (some false)
set_option maxHeartbeats 8000000 in
set_option maxRecDepth 100000 in
theorem conclaveref01_Same.calls (k : Nat) (A0 : Option Addr) (c0 : Nat) (l0 : List Int) (A1 : Option Addr) (c1 : Nat) (l1 : List Int) (r : Bool) (w : World) (hr0 : Kd.C (Kd.int .u64) w A0 l0.length l0) (hc0 : l0.length ≤ c0) (hr1 : Kd.C (Kd.int .u64) w A1 l1.length l1) (hc1 : l1.length ≤ c1) (h : conclaveref01_Same.f k l0 l1 = some r) :
    Calls Try.prog 74 #[.slice A0 l0.length c0, .slice A1 l1.length c1] w fun e w' => e = .returned (.bool r) ∧ Drawn0 w w' := by
  have HR0 := Aside0.mk hr0
  have HC0 := Aside0.mk hc0
  clear hr0 hc0
  have HR1 := Aside0.mk hr1
  have HC1 := Aside0.mk hc1
  clear hr1 hc1
  have H : (if (l0.length : Int) = (l1.length : Int) then (conclaveref01_Same.l0 k l0 l1 0) else (some false)) = some r := h
  clear h
  by_cases c3 : (l0.length : Int) = (l1.length : Int)
  · rw [if_pos c3] at H
    have c3b0 : ((l0.length : Int) == (l1.length : Int)) = true := beq_iff_eq.mpr c3
    have c3b1 : ((l0.length : Int) != (l1.length : Int)) = false := bne_eq_false_iff_eq.mpr c3
    have c3b2 : (l0.length == l1.length) = true := by first | simpa using c3 | (simp at c3 ⊢; omega)
    clear c3
    have H' := Aside0.mk H
    clear H
    go_enter Try.func74, Try.ntmps74
    go_wp2
    repeat (go_quiet (fail); try go_wp2)
    go_loopg [5] k (fun kq v5 w' => ∃ (x5_1 : Int), v5 = .int .i64 x5_1 ∧ Aside0 (conclaveref01_Same.l0 kq l0 l1 x5_1 = some r) ∧ Aside0 (kq ≤ k) ∧ Drawn0 w w')
    case atStart => exact ⟨(0), (by first | rfl | (simp; done) | (simp [*]; done)), H', ⟨Nat.le_refl _⟩, by repeat (first | exact Drawn0.refl _ | apply Drawn0.step)⟩
    case round =>
      clear H'
      try clear c1
      try clear p2
      try clear c3
      try clear c3b0
      try clear c3b1
      try clear c3b2
      obtain ⟨x5_1, rfl, HA, HK1, ⟨m1, rfl⟩⟩ := hrel
      cases gk with
      | zero => exact absurd HA.out (by simp [conclaveref01_Same.l0])
      | succ k1 =>
        have H := HA.out
        clear HA
        simp only [conclaveref01_Same.l0] at H
        by_cases c4 : x5_1 < (l0.length : Int)
        · rw [if_pos c4] at H
          have c4b0 : decide (x5_1 < (l0.length : Int)) = true := decide_eq_true c4
          clear c4
          by_cases c5 : 0 ≤ x5_1
          · rw [if_pos c5] at H
            have c5b0 : decide (0 ≤ x5_1) = true := decide_eq_true c5
            clear c5
            by_cases c6 : x5_1 < (l1.length : Int)
            · rw [if_pos c6] at H
              have c6b0 : decide (x5_1 < (l1.length : Int)) = true := decide_eq_true c6
              clear c6
              by_cases c7 : (rd l0 x5_1) = (rd l1 x5_1)
              · rw [if_pos c7] at H
                have c7b0 : ((rd l0 x5_1) == (rd l1 x5_1)) = true := beq_iff_eq.mpr c7
                have c7b1 : ((rd l0 x5_1) != (rd l1 x5_1)) = false := bne_eq_false_iff_eq.mpr c7
                clear c7
                have H' := Aside0.mk H
                clear H
                have p433 : 0 ≤ (x5_1 : Int) := of_decide_eq_true (by first | (with_reducible assumption) | assumption)
                have q433 : x5_1 < (l0.length : Int) := of_decide_eq_true (by first | (with_reducible assumption) | assumption)
                obtain ⟨ad433, e433, hx433_0⟩ := Kd.at_int HR0.out x5_1 p433 q433
                cases e433
                replace p433 := eq_true p433
                replace q433 := eq_true q433
                have p434 : 0 ≤ (x5_1 : Int) := of_decide_eq_true (by first | (with_reducible assumption) | assumption)
                have q434 : x5_1 < (l1.length : Int) := of_decide_eq_true (by first | (with_reducible assumption) | assumption)
                obtain ⟨ad434, e434, hx434_0⟩ := Kd.at_int HR1.out x5_1 p434 q434
                cases e434
                replace p434 := eq_true p434
                replace q434 := eq_true q434
                go_wp2
                repeat (go_quiet (fail); try go_wp2)
                go_roundg k1
                case measure => have := HK1.out; omega
                case rel => exact ⟨(wrap64 (x5_1 + 1)), (by first | rfl | (simp; done) | (simp [*]; done)), H', ⟨by have := HK1.out; omega⟩, by repeat (first | exact Drawn0.refl _ | apply Drawn0.step)⟩
              · rw [if_neg c7] at H
                have c7b0 : ((rd l0 x5_1) == (rd l1 x5_1)) = false := beq_eq_false_iff_ne.mpr c7
                have c7b1 : ((rd l0 x5_1) != (rd l1 x5_1)) = true := bne_iff_ne.mpr c7
                obtain rfl := Option.some.inj H
                have p433 : 0 ≤ (x5_1 : Int) := of_decide_eq_true (by first | (with_reducible assumption) | assumption)
                have q433 : x5_1 < (l0.length : Int) := of_decide_eq_true (by first | (with_reducible assumption) | assumption)
                obtain ⟨ad433, e433, hx433_0⟩ := Kd.at_int HR0.out x5_1 p433 q433
                cases e433
                replace p433 := eq_true p433
                replace q433 := eq_true q433
                have p434 : 0 ≤ (x5_1 : Int) := of_decide_eq_true (by first | (with_reducible assumption) | assumption)
                have q434 : x5_1 < (l1.length : Int) := of_decide_eq_true (by first | (with_reducible assumption) | assumption)
                obtain ⟨ad434, e434, hx434_0⟩ := Kd.at_int HR1.out x5_1 p434 q434
                cases e434
                replace p434 := eq_true p434
                replace q434 := eq_true q434
                go_wp2
                repeat (go_quiet (fail); try go_wp2)
                go_ret
                exact ⟨by first | rfl | (simp; done) | (simp [*]; done), by repeat (first | exact Drawn0.refl _ | apply Drawn0.step)⟩
            · rw [if_neg c6] at H
              exact absurd H (by simp)
          · rw [if_neg c5] at H
            exact absurd H (by simp)
        · rw [if_neg c4] at H
          have c4b0 : decide (x5_1 < (l0.length : Int)) = false := decide_eq_false c4
          clear c4
          obtain rfl := Option.some.inj H
          go_wp2
          repeat (go_quiet (fail); try go_wp2)
          go_ret
          exact ⟨by first | rfl | (simp; done) | (simp [*]; done), by repeat (first | exact Drawn0.refl _ | apply Drawn0.step)⟩
  · rw [if_neg c3] at H
    have c3b0 : ((l0.length : Int) == (l1.length : Int)) = false := beq_eq_false_iff_ne.mpr c3
    have c3b1 : ((l0.length : Int) != (l1.length : Int)) = true := bne_iff_ne.mpr c3
    have c3b2 : (l0.length == l1.length) = false := by first | simpa using c3 | (simp at c3 ⊢; omega)
    obtain rfl := Option.some.inj H
    go_enter Try.func74, Try.ntmps74
    go_wp2
    repeat (go_quiet (fail); try go_wp2)
    go_ret
    exact ⟨by first | rfl | (simp; done) | (simp [*]; done), by repeat (first | exact Drawn0.refl _ | apply Drawn0.step)⟩
def conclaveref20_Same.f (k : Nat) (a0_0 : Int) (a0_1 : Int) (a0_2 : Int) (a0_3 : Int) (l0_4 : List Int) (a1_0 : Int) (a1_1 : Int) (a1_2 : Int) (a1_3 : Int) (l1_4 : List Int) : Option (Bool) := if a0_0 = a1_0 then (if a0_1 = a1_1 then (if a0_2 = a1_2 then (if a0_3 = a1_3 then ((conclaveref01_Same.f k l0_4 l1_4).bind fun t437 => (some t437)) else (some false)) else (some false)) else (some false)) else (some false)
set_option maxHeartbeats 8000000 in
set_option maxRecDepth 100000 in
theorem conclaveref20_Same.calls (k : Nat) (a0_0 : Int) (a0_1 : Int) (a0_2 : Int) (a0_3 : Int) (A0_4 : Option Addr) (c0_4 : Nat) (l0_4 : List Int) (a1_0 : Int) (a1_1 : Int) (a1_2 : Int) (a1_3 : Int) (A1_4 : Option Addr) (c1_4 : Nat) (l1_4 : List Int) (r : Bool) (w : World) (hr0_4 : Kd.C (Kd.int .u64) w A0_4 l0_4.length l0_4) (hc0_4 : l0_4.length ≤ c0_4) (hr1_4 : Kd.C (Kd.int .u64) w A1_4 l1_4.length l1_4) (hc1_4 : l1_4.length ≤ c1_4) (h : conclaveref20_Same.f k a0_0 a0_1 a0_2 a0_3 l0_4 a1_0 a1_1 a1_2 a1_3 l1_4 = some r) :
    Calls Try.prog 40 #[.agg #[.int .u8 a0_0, .int .i64 a0_1, .int .i64 a0_2, .int .u8 a0_3, .slice A0_4 l0_4.length c0_4], .agg #[.int .u8 a1_0, .int .i64 a1_1, .int .i64 a1_2, .int .u8 a1_3, .slice A1_4 l1_4.length c1_4]] w fun e w' => e = .returned (.bool r) ∧ Below w.heap.size w w' := by
  have hu61 := Try.underlying61
  have HR0_4 := Aside0.mk hr0_4
  have HC0_4 := Aside0.mk hc0_4
  clear hr0_4 hc0_4
  have HR1_4 := Aside0.mk hr1_4
  have HC1_4 := Aside0.mk hc1_4
  clear hr1_4 hc1_4
  have HB := Aside0.mk (Below.refl w.heap.size w)
  have H : (if a0_0 = a1_0 then (if a0_1 = a1_1 then (if a0_2 = a1_2 then (if a0_3 = a1_3 then ((conclaveref01_Same.f k l0_4 l1_4).bind fun t437 => (some t437)) else (some false)) else (some false)) else (some false)) else (some false)) = some r := h
  clear h
  by_cases c3 : a0_0 = a1_0
  · rw [if_pos c3] at H
    have c3b0 : (a0_0 == a1_0) = true := beq_iff_eq.mpr c3
    have c3b1 : (a0_0 != a1_0) = false := bne_eq_false_iff_eq.mpr c3
    clear c3
    by_cases c4 : a0_1 = a1_1
    · rw [if_pos c4] at H
      have c4b0 : (a0_1 == a1_1) = true := beq_iff_eq.mpr c4
      have c4b1 : (a0_1 != a1_1) = false := bne_eq_false_iff_eq.mpr c4
      clear c4
      by_cases c5 : a0_2 = a1_2
      · rw [if_pos c5] at H
        have c5b0 : (a0_2 == a1_2) = true := beq_iff_eq.mpr c5
        have c5b1 : (a0_2 != a1_2) = false := bne_eq_false_iff_eq.mpr c5
        clear c5
        by_cases c6 : a0_3 = a1_3
        · rw [if_pos c6] at H
          have c6b0 : (a0_3 == a1_3) = true := beq_iff_eq.mpr c6
          have c6b1 : (a0_3 != a1_3) = false := bne_eq_false_iff_eq.mpr c6
          clear c6
          replace H := Option.bind_eq_some_iff.mp H
          obtain ⟨t437, A70, H⟩ := H
          replace H : (some t437) = some r := H
          have A7 := Aside0.mk A70
          clear A70
          obtain rfl := Option.some.inj H
          go_enter Try.func40, Try.ntmps40
          go_wp2_with (first | ((with_reducible refine gate_dst (N := 2) rfl ?_); refine box_event ?hg (N := 2) ?hd (cs := #[.int .u8 a0_0, .int .i64 a0_1, .int .i64 a0_2, .int .u8 a0_3, .slice A0_4 l0_4.length c0_4]) (t := 61) ?hr ?_; (case hd => rfl); (case hg => rfl); (case hr => first | (go_simp; done) | (go_simp; rfl)); intro gb435 hg w8 hbox hb; have n0_ := Aside0.mk (below_step (by repeat (first | (with_reducible first | exact HB.out | apply below_alloc | apply pw_below_drewN | apply below_drew1) | exact HB.out)) hb); have n1_ := Aside0.mk (hbox); have n2_ := Aside0.mk ((by rw [hg]; exact (below_size (by repeat (first | (with_reducible first | exact HB.out | apply below_alloc | apply pw_below_drewN | apply below_drew1) | exact HB.out))) : w.heap.size ≤ gb435)); have n3_ := Aside0.mk ((by rw [hg]; exact (below_size (by repeat (first | (with_reducible first | exact HB.out | apply below_alloc | apply pw_below_drewN | apply below_drew1) | exact HB.out))) : w.heap.size ≤ gb435)); clear HB; have HB := n0_; have BK435 := n1_; have GW435 := n2_; have GE435 := n3_; clear n0_ n1_ n2_ n3_; clear hb hbox hg) | ((with_reducible refine gate_dst (N := 3) rfl ?_); refine box_event ?hg (N := 3) ?hd (cs := #[.int .u8 a1_0, .int .i64 a1_1, .int .i64 a1_2, .int .u8 a1_3, .slice A1_4 l1_4.length c1_4]) (t := 61) ?hr ?_; (case hd => rfl); (case hg => rfl); (case hr => first | (go_simp; done) | (go_simp; rfl)); intro gb436 hg w9 hbox hb; have n0_ := Aside0.mk (blk_below (g := gb435) (o := .cells #[.int .u8 a0_0, .int .i64 a0_1, .int .i64 a0_2, .int .u8 a0_3, .slice A0_4 l0_4.length c0_4] 61 (0, 0)) (by (with_reducible repeat (first | refine blk_drewN ?_ _ | refine blk_drew ?_ | refine blk_alloc ?_ _)); exact BK435.out) hb); have n1_ := Aside0.mk (below_step (by repeat (first | (with_reducible first | exact HB.out | apply below_alloc | apply pw_below_drewN | apply below_drew1 | refine below_set ?_ GE435.out) | exact HB.out)) hb); have n2_ := Aside0.mk (hbox); have n3_ := Aside0.mk ((by rw [hg]; exact (below_size (by repeat (first | (with_reducible first | exact HB.out | apply below_alloc | apply pw_below_drewN | apply below_drew1 | refine below_set ?_ GE435.out) | exact HB.out))) : w.heap.size ≤ gb436)); have n4_ := Aside0.mk ((by rw [hg]; exact (below_size (by repeat (first | (with_reducible first | exact HB.out | apply below_alloc | apply pw_below_drewN | apply below_drew1 | refine below_set ?_ GE435.out) | exact HB.out))) : w.heap.size ≤ gb436)); have n5_ := Aside0.mk ((by rw [hg]; exact Nat.ne_of_lt (blk_lt (g := gb435) (o := .cells #[.int .u8 a0_0, .int .i64 a0_1, .int .i64 a0_2, .int .u8 a0_3, .slice A0_4 l0_4.length c0_4] 61 (0, 0)) (by (with_reducible repeat (first | refine blk_drewN ?_ _ | refine blk_drew ?_ | refine blk_alloc ?_ _)); exact BK435.out)) : gb435 ≠ gb436)); have n6_ := Aside0.mk ((by rw [hg]; exact Nat.ne_of_gt (blk_lt (g := gb435) (o := .cells #[.int .u8 a0_0, .int .i64 a0_1, .int .i64 a0_2, .int .u8 a0_3, .slice A0_4 l0_4.length c0_4] 61 (0, 0)) (by (with_reducible repeat (first | refine blk_drewN ?_ _ | refine blk_drew ?_ | refine blk_alloc ?_ _)); exact BK435.out)) : gb436 ≠ gb435)); clear BK435; clear HB; have BK435 := n0_; have HB := n1_; have BK436 := n2_; have GW436 := n3_; have GE436 := n4_; have NB435_436 := n5_; have NB436_435 := n6_; clear n0_ n1_ n2_ n3_ n4_ n5_ n6_; clear hb hbox hg; have hnb10 := NB435_436.out; have hnc10 := NB436_435.out; have hcz11_0 : w9.cell? ⟨gb435, 0, none⟩ = some (.int .u8 a0_0) := (blk_cell BK435.out 0).trans rfl; have hcz11_1 : w9.cell? ⟨gb435, 1, none⟩ = some (.int .i64 a0_1) := (blk_cell BK435.out 1).trans rfl; have hcz11_2 : w9.cell? ⟨gb435, 2, none⟩ = some (.int .i64 a0_2) := (blk_cell BK435.out 2).trans rfl; have hcz11_3 : w9.cell? ⟨gb435, 3, none⟩ = some (.int .u8 a0_3) := (blk_cell BK435.out 3).trans rfl; have hcz11_4 : w9.cell? ⟨gb435, 4, none⟩ = some (.slice A0_4 l0_4.length c0_4) := (blk_cell BK435.out 4).trans rfl; have hfz11_0 := blk_frozen BK435.out 0; have hfz11_1 := blk_frozen BK435.out 1; have hfz11_2 := blk_frozen BK435.out 2; have hfz11_3 := blk_frozen BK435.out 3; have hfz11_4 := blk_frozen BK435.out 4; have hcz12_0 : w9.cell? ⟨gb436, 0, none⟩ = some (.int .u8 a1_0) := (blk_cell BK436.out 0).trans rfl; have hcz12_1 : w9.cell? ⟨gb436, 1, none⟩ = some (.int .i64 a1_1) := (blk_cell BK436.out 1).trans rfl; have hcz12_2 : w9.cell? ⟨gb436, 2, none⟩ = some (.int .i64 a1_2) := (blk_cell BK436.out 2).trans rfl; have hcz12_3 : w9.cell? ⟨gb436, 3, none⟩ = some (.int .u8 a1_3) := (blk_cell BK436.out 3).trans rfl; have hcz12_4 : w9.cell? ⟨gb436, 4, none⟩ = some (.slice A1_4 l1_4.length c1_4) := (blk_cell BK436.out 4).trans rfl; have hfz12_0 := blk_frozen BK436.out 0; have hfz12_1 := blk_frozen BK436.out 1; have hfz12_2 := blk_frozen BK436.out 2; have hfz12_3 := blk_frozen BK436.out 3; have hfz12_4 := blk_frozen BK436.out 4) | (go_at_call 74; (with_reducible refine (conclaveref01_Same.calls k _ _ l0_4 _ _ l1_4 t437 _ ?side1 ?side2 ?side3 ?side4 A7.out).mono ?_); (case side1 => repeat (first | exact (Kd.C_below HR0_4.out HB.out) | (with_reducible refine Kd.C_alloc ?_ _) | (with_reducible refine Kd.C_drewN ?_ _) | (with_reducible refine Kd.C_drew ?_))); (case side2 => exact HC0_4.out); (case side3 => repeat (first | exact (Kd.C_below HR1_4.out HB.out) | (with_reducible refine Kd.C_alloc ?_ _) | (with_reducible refine Kd.C_drewN ?_ _) | (with_reducible refine Kd.C_drew ?_))); (case side4 => exact HC1_4.out); rintro e w' ⟨rfl, ⟨nd, rfl⟩⟩))
          go_ret
          exact ⟨by first | rfl | (simp [errW_none, errW_some] <;> rfl) | (simp [*, errW_none, errW_some] <;> rfl), by repeat (first | (with_reducible first | exact HB.out | apply below_alloc | apply pw_below_drewN | apply below_drew1 | refine below_set ?_ GE435.out | refine below_set ?_ GE436.out) | exact HB.out)⟩
        · rw [if_neg c6] at H
          have c6b0 : (a0_3 == a1_3) = false := beq_eq_false_iff_ne.mpr c6
          have c6b1 : (a0_3 != a1_3) = true := bne_iff_ne.mpr c6
          obtain rfl := Option.some.inj H
          go_enter Try.func40, Try.ntmps40
          go_wp2_with (first | ((with_reducible refine gate_dst (N := 2) rfl ?_); refine box_event ?hg (N := 2) ?hd (cs := #[.int .u8 a0_0, .int .i64 a0_1, .int .i64 a0_2, .int .u8 a0_3, .slice A0_4 l0_4.length c0_4]) (t := 61) ?hr ?_; (case hd => rfl); (case hg => rfl); (case hr => first | (go_simp; done) | (go_simp; rfl)); intro gb435 hg w13 hbox hb; have n0_ := Aside0.mk (below_step (by repeat (first | (with_reducible first | exact HB.out | apply below_alloc | apply pw_below_drewN | apply below_drew1) | exact HB.out)) hb); have n1_ := Aside0.mk (hbox); have n2_ := Aside0.mk ((by rw [hg]; exact (below_size (by repeat (first | (with_reducible first | exact HB.out | apply below_alloc | apply pw_below_drewN | apply below_drew1) | exact HB.out))) : w.heap.size ≤ gb435)); have n3_ := Aside0.mk ((by rw [hg]; exact (below_size (by repeat (first | (with_reducible first | exact HB.out | apply below_alloc | apply pw_below_drewN | apply below_drew1) | exact HB.out))) : w.heap.size ≤ gb435)); clear HB; have HB := n0_; have BK435 := n1_; have GW435 := n2_; have GE435 := n3_; clear n0_ n1_ n2_ n3_; clear hb hbox hg) | ((with_reducible refine gate_dst (N := 3) rfl ?_); refine box_event ?hg (N := 3) ?hd (cs := #[.int .u8 a1_0, .int .i64 a1_1, .int .i64 a1_2, .int .u8 a1_3, .slice A1_4 l1_4.length c1_4]) (t := 61) ?hr ?_; (case hd => rfl); (case hg => rfl); (case hr => first | (go_simp; done) | (go_simp; rfl)); intro gb436 hg w14 hbox hb; have n0_ := Aside0.mk (blk_below (g := gb435) (o := .cells #[.int .u8 a0_0, .int .i64 a0_1, .int .i64 a0_2, .int .u8 a0_3, .slice A0_4 l0_4.length c0_4] 61 (0, 0)) (by (with_reducible repeat (first | refine blk_drewN ?_ _ | refine blk_drew ?_ | refine blk_alloc ?_ _)); exact BK435.out) hb); have n1_ := Aside0.mk (below_step (by repeat (first | (with_reducible first | exact HB.out | apply below_alloc | apply pw_below_drewN | apply below_drew1 | refine below_set ?_ GE435.out) | exact HB.out)) hb); have n2_ := Aside0.mk (hbox); have n3_ := Aside0.mk ((by rw [hg]; exact (below_size (by repeat (first | (with_reducible first | exact HB.out | apply below_alloc | apply pw_below_drewN | apply below_drew1 | refine below_set ?_ GE435.out) | exact HB.out))) : w.heap.size ≤ gb436)); have n4_ := Aside0.mk ((by rw [hg]; exact (below_size (by repeat (first | (with_reducible first | exact HB.out | apply below_alloc | apply pw_below_drewN | apply below_drew1 | refine below_set ?_ GE435.out) | exact HB.out))) : w.heap.size ≤ gb436)); have n5_ := Aside0.mk ((by rw [hg]; exact Nat.ne_of_lt (blk_lt (g := gb435) (o := .cells #[.int .u8 a0_0, .int .i64 a0_1, .int .i64 a0_2, .int .u8 a0_3, .slice A0_4 l0_4.length c0_4] 61 (0, 0)) (by (with_reducible repeat (first | refine blk_drewN ?_ _ | refine blk_drew ?_ | refine blk_alloc ?_ _)); exact BK435.out)) : gb435 ≠ gb436)); have n6_ := Aside0.mk ((by rw [hg]; exact Nat.ne_of_gt (blk_lt (g := gb435) (o := .cells #[.int .u8 a0_0, .int .i64 a0_1, .int .i64 a0_2, .int .u8 a0_3, .slice A0_4 l0_4.length c0_4] 61 (0, 0)) (by (with_reducible repeat (first | refine blk_drewN ?_ _ | refine blk_drew ?_ | refine blk_alloc ?_ _)); exact BK435.out)) : gb436 ≠ gb435)); clear BK435; clear HB; have BK435 := n0_; have HB := n1_; have BK436 := n2_; have GW436 := n3_; have GE436 := n4_; have NB435_436 := n5_; have NB436_435 := n6_; clear n0_ n1_ n2_ n3_ n4_ n5_ n6_; clear hb hbox hg; have hnb15 := NB435_436.out; have hnc15 := NB436_435.out; have hcz16_0 : w14.cell? ⟨gb435, 0, none⟩ = some (.int .u8 a0_0) := (blk_cell BK435.out 0).trans rfl; have hcz16_1 : w14.cell? ⟨gb435, 1, none⟩ = some (.int .i64 a0_1) := (blk_cell BK435.out 1).trans rfl; have hcz16_2 : w14.cell? ⟨gb435, 2, none⟩ = some (.int .i64 a0_2) := (blk_cell BK435.out 2).trans rfl; have hcz16_3 : w14.cell? ⟨gb435, 3, none⟩ = some (.int .u8 a0_3) := (blk_cell BK435.out 3).trans rfl; have hcz16_4 : w14.cell? ⟨gb435, 4, none⟩ = some (.slice A0_4 l0_4.length c0_4) := (blk_cell BK435.out 4).trans rfl; have hfz16_0 := blk_frozen BK435.out 0; have hfz16_1 := blk_frozen BK435.out 1; have hfz16_2 := blk_frozen BK435.out 2; have hfz16_3 := blk_frozen BK435.out 3; have hfz16_4 := blk_frozen BK435.out 4; have hcz17_0 : w14.cell? ⟨gb436, 0, none⟩ = some (.int .u8 a1_0) := (blk_cell BK436.out 0).trans rfl; have hcz17_1 : w14.cell? ⟨gb436, 1, none⟩ = some (.int .i64 a1_1) := (blk_cell BK436.out 1).trans rfl; have hcz17_2 : w14.cell? ⟨gb436, 2, none⟩ = some (.int .i64 a1_2) := (blk_cell BK436.out 2).trans rfl; have hcz17_3 : w14.cell? ⟨gb436, 3, none⟩ = some (.int .u8 a1_3) := (blk_cell BK436.out 3).trans rfl; have hcz17_4 : w14.cell? ⟨gb436, 4, none⟩ = some (.slice A1_4 l1_4.length c1_4) := (blk_cell BK436.out 4).trans rfl; have hfz17_0 := blk_frozen BK436.out 0; have hfz17_1 := blk_frozen BK436.out 1; have hfz17_2 := blk_frozen BK436.out 2; have hfz17_3 := blk_frozen BK436.out 3; have hfz17_4 := blk_frozen BK436.out 4))
          go_ret
          exact ⟨by first | rfl | (simp [errW_none, errW_some] <;> rfl) | (simp [*, errW_none, errW_some] <;> rfl), by repeat (first | (with_reducible first | exact HB.out | apply below_alloc | apply pw_below_drewN | apply below_drew1 | refine below_set ?_ GE435.out | refine below_set ?_ GE436.out) | exact HB.out)⟩
      · rw [if_neg c5] at H
        have c5b0 : (a0_2 == a1_2) = false := beq_eq_false_iff_ne.mpr c5
        have c5b1 : (a0_2 != a1_2) = true := bne_iff_ne.mpr c5
        obtain rfl := Option.some.inj H
        go_enter Try.func40, Try.ntmps40
        go_wp2_with (first | ((with_reducible refine gate_dst (N := 2) rfl ?_); refine box_event ?hg (N := 2) ?hd (cs := #[.int .u8 a0_0, .int .i64 a0_1, .int .i64 a0_2, .int .u8 a0_3, .slice A0_4 l0_4.length c0_4]) (t := 61) ?hr ?_; (case hd => rfl); (case hg => rfl); (case hr => first | (go_simp; done) | (go_simp; rfl)); intro gb435 hg w18 hbox hb; have n0_ := Aside0.mk (below_step (by repeat (first | (with_reducible first | exact HB.out | apply below_alloc | apply pw_below_drewN | apply below_drew1) | exact HB.out)) hb); have n1_ := Aside0.mk (hbox); have n2_ := Aside0.mk ((by rw [hg]; exact (below_size (by repeat (first | (with_reducible first | exact HB.out | apply below_alloc | apply pw_below_drewN | apply below_drew1) | exact HB.out))) : w.heap.size ≤ gb435)); have n3_ := Aside0.mk ((by rw [hg]; exact (below_size (by repeat (first | (with_reducible first | exact HB.out | apply below_alloc | apply pw_below_drewN | apply below_drew1) | exact HB.out))) : w.heap.size ≤ gb435)); clear HB; have HB := n0_; have BK435 := n1_; have GW435 := n2_; have GE435 := n3_; clear n0_ n1_ n2_ n3_; clear hb hbox hg) | ((with_reducible refine gate_dst (N := 3) rfl ?_); refine box_event ?hg (N := 3) ?hd (cs := #[.int .u8 a1_0, .int .i64 a1_1, .int .i64 a1_2, .int .u8 a1_3, .slice A1_4 l1_4.length c1_4]) (t := 61) ?hr ?_; (case hd => rfl); (case hg => rfl); (case hr => first | (go_simp; done) | (go_simp; rfl)); intro gb436 hg w19 hbox hb; have n0_ := Aside0.mk (blk_below (g := gb435) (o := .cells #[.int .u8 a0_0, .int .i64 a0_1, .int .i64 a0_2, .int .u8 a0_3, .slice A0_4 l0_4.length c0_4] 61 (0, 0)) (by (with_reducible repeat (first | refine blk_drewN ?_ _ | refine blk_drew ?_ | refine blk_alloc ?_ _)); exact BK435.out) hb); have n1_ := Aside0.mk (below_step (by repeat (first | (with_reducible first | exact HB.out | apply below_alloc | apply pw_below_drewN | apply below_drew1 | refine below_set ?_ GE435.out) | exact HB.out)) hb); have n2_ := Aside0.mk (hbox); have n3_ := Aside0.mk ((by rw [hg]; exact (below_size (by repeat (first | (with_reducible first | exact HB.out | apply below_alloc | apply pw_below_drewN | apply below_drew1 | refine below_set ?_ GE435.out) | exact HB.out))) : w.heap.size ≤ gb436)); have n4_ := Aside0.mk ((by rw [hg]; exact (below_size (by repeat (first | (with_reducible first | exact HB.out | apply below_alloc | apply pw_below_drewN | apply below_drew1 | refine below_set ?_ GE435.out) | exact HB.out))) : w.heap.size ≤ gb436)); have n5_ := Aside0.mk ((by rw [hg]; exact Nat.ne_of_lt (blk_lt (g := gb435) (o := .cells #[.int .u8 a0_0, .int .i64 a0_1, .int .i64 a0_2, .int .u8 a0_3, .slice A0_4 l0_4.length c0_4] 61 (0, 0)) (by (with_reducible repeat (first | refine blk_drewN ?_ _ | refine blk_drew ?_ | refine blk_alloc ?_ _)); exact BK435.out)) : gb435 ≠ gb436)); have n6_ := Aside0.mk ((by rw [hg]; exact Nat.ne_of_gt (blk_lt (g := gb435) (o := .cells #[.int .u8 a0_0, .int .i64 a0_1, .int .i64 a0_2, .int .u8 a0_3, .slice A0_4 l0_4.length c0_4] 61 (0, 0)) (by (with_reducible repeat (first | refine blk_drewN ?_ _ | refine blk_drew ?_ | refine blk_alloc ?_ _)); exact BK435.out)) : gb436 ≠ gb435)); clear BK435; clear HB; have BK435 := n0_; have HB := n1_; have BK436 := n2_; have GW436 := n3_; have GE436 := n4_; have NB435_436 := n5_; have NB436_435 := n6_; clear n0_ n1_ n2_ n3_ n4_ n5_ n6_; clear hb hbox hg; have hnb20 := NB435_436.out; have hnc20 := NB436_435.out; have hcz21_0 : w19.cell? ⟨gb435, 0, none⟩ = some (.int .u8 a0_0) := (blk_cell BK435.out 0).trans rfl; have hcz21_1 : w19.cell? ⟨gb435, 1, none⟩ = some (.int .i64 a0_1) := (blk_cell BK435.out 1).trans rfl; have hcz21_2 : w19.cell? ⟨gb435, 2, none⟩ = some (.int .i64 a0_2) := (blk_cell BK435.out 2).trans rfl; have hcz21_3 : w19.cell? ⟨gb435, 3, none⟩ = some (.int .u8 a0_3) := (blk_cell BK435.out 3).trans rfl; have hcz21_4 : w19.cell? ⟨gb435, 4, none⟩ = some (.slice A0_4 l0_4.length c0_4) := (blk_cell BK435.out 4).trans rfl; have hfz21_0 := blk_frozen BK435.out 0; have hfz21_1 := blk_frozen BK435.out 1; have hfz21_2 := blk_frozen BK435.out 2; have hfz21_3 := blk_frozen BK435.out 3; have hfz21_4 := blk_frozen BK435.out 4; have hcz22_0 : w19.cell? ⟨gb436, 0, none⟩ = some (.int .u8 a1_0) := (blk_cell BK436.out 0).trans rfl; have hcz22_1 : w19.cell? ⟨gb436, 1, none⟩ = some (.int .i64 a1_1) := (blk_cell BK436.out 1).trans rfl; have hcz22_2 : w19.cell? ⟨gb436, 2, none⟩ = some (.int .i64 a1_2) := (blk_cell BK436.out 2).trans rfl; have hcz22_3 : w19.cell? ⟨gb436, 3, none⟩ = some (.int .u8 a1_3) := (blk_cell BK436.out 3).trans rfl; have hcz22_4 : w19.cell? ⟨gb436, 4, none⟩ = some (.slice A1_4 l1_4.length c1_4) := (blk_cell BK436.out 4).trans rfl; have hfz22_0 := blk_frozen BK436.out 0; have hfz22_1 := blk_frozen BK436.out 1; have hfz22_2 := blk_frozen BK436.out 2; have hfz22_3 := blk_frozen BK436.out 3; have hfz22_4 := blk_frozen BK436.out 4))
        go_ret
        exact ⟨by first | rfl | (simp [errW_none, errW_some] <;> rfl) | (simp [*, errW_none, errW_some] <;> rfl), by repeat (first | (with_reducible first | exact HB.out | apply below_alloc | apply pw_below_drewN | apply below_drew1 | refine below_set ?_ GE435.out | refine below_set ?_ GE436.out) | exact HB.out)⟩
    · rw [if_neg c4] at H
      have c4b0 : (a0_1 == a1_1) = false := beq_eq_false_iff_ne.mpr c4
      have c4b1 : (a0_1 != a1_1) = true := bne_iff_ne.mpr c4
      obtain rfl := Option.some.inj H
      go_enter Try.func40, Try.ntmps40
      go_wp2_with (first | ((with_reducible refine gate_dst (N := 2) rfl ?_); refine box_event ?hg (N := 2) ?hd (cs := #[.int .u8 a0_0, .int .i64 a0_1, .int .i64 a0_2, .int .u8 a0_3, .slice A0_4 l0_4.length c0_4]) (t := 61) ?hr ?_; (case hd => rfl); (case hg => rfl); (case hr => first | (go_simp; done) | (go_simp; rfl)); intro gb435 hg w23 hbox hb; have n0_ := Aside0.mk (below_step (by repeat (first | (with_reducible first | exact HB.out | apply below_alloc | apply pw_below_drewN | apply below_drew1) | exact HB.out)) hb); have n1_ := Aside0.mk (hbox); have n2_ := Aside0.mk ((by rw [hg]; exact (below_size (by repeat (first | (with_reducible first | exact HB.out | apply below_alloc | apply pw_below_drewN | apply below_drew1) | exact HB.out))) : w.heap.size ≤ gb435)); have n3_ := Aside0.mk ((by rw [hg]; exact (below_size (by repeat (first | (with_reducible first | exact HB.out | apply below_alloc | apply pw_below_drewN | apply below_drew1) | exact HB.out))) : w.heap.size ≤ gb435)); clear HB; have HB := n0_; have BK435 := n1_; have GW435 := n2_; have GE435 := n3_; clear n0_ n1_ n2_ n3_; clear hb hbox hg) | ((with_reducible refine gate_dst (N := 3) rfl ?_); refine box_event ?hg (N := 3) ?hd (cs := #[.int .u8 a1_0, .int .i64 a1_1, .int .i64 a1_2, .int .u8 a1_3, .slice A1_4 l1_4.length c1_4]) (t := 61) ?hr ?_; (case hd => rfl); (case hg => rfl); (case hr => first | (go_simp; done) | (go_simp; rfl)); intro gb436 hg w24 hbox hb; have n0_ := Aside0.mk (blk_below (g := gb435) (o := .cells #[.int .u8 a0_0, .int .i64 a0_1, .int .i64 a0_2, .int .u8 a0_3, .slice A0_4 l0_4.length c0_4] 61 (0, 0)) (by (with_reducible repeat (first | refine blk_drewN ?_ _ | refine blk_drew ?_ | refine blk_alloc ?_ _)); exact BK435.out) hb); have n1_ := Aside0.mk (below_step (by repeat (first | (with_reducible first | exact HB.out | apply below_alloc | apply pw_below_drewN | apply below_drew1 | refine below_set ?_ GE435.out) | exact HB.out)) hb); have n2_ := Aside0.mk (hbox); have n3_ := Aside0.mk ((by rw [hg]; exact (below_size (by repeat (first | (with_reducible first | exact HB.out | apply below_alloc | apply pw_below_drewN | apply below_drew1 | refine below_set ?_ GE435.out) | exact HB.out))) : w.heap.size ≤ gb436)); have n4_ := Aside0.mk ((by rw [hg]; exact (below_size (by repeat (first | (with_reducible first | exact HB.out | apply below_alloc | apply pw_below_drewN | apply below_drew1 | refine below_set ?_ GE435.out) | exact HB.out))) : w.heap.size ≤ gb436)); have n5_ := Aside0.mk ((by rw [hg]; exact Nat.ne_of_lt (blk_lt (g := gb435) (o := .cells #[.int .u8 a0_0, .int .i64 a0_1, .int .i64 a0_2, .int .u8 a0_3, .slice A0_4 l0_4.length c0_4] 61 (0, 0)) (by (with_reducible repeat (first | refine blk_drewN ?_ _ | refine blk_drew ?_ | refine blk_alloc ?_ _)); exact BK435.out)) : gb435 ≠ gb436)); have n6_ := Aside0.mk ((by rw [hg]; exact Nat.ne_of_gt (blk_lt (g := gb435) (o := .cells #[.int .u8 a0_0, .int .i64 a0_1, .int .i64 a0_2, .int .u8 a0_3, .slice A0_4 l0_4.length c0_4] 61 (0, 0)) (by (with_reducible repeat (first | refine blk_drewN ?_ _ | refine blk_drew ?_ | refine blk_alloc ?_ _)); exact BK435.out)) : gb436 ≠ gb435)); clear BK435; clear HB; have BK435 := n0_; have HB := n1_; have BK436 := n2_; have GW436 := n3_; have GE436 := n4_; have NB435_436 := n5_; have NB436_435 := n6_; clear n0_ n1_ n2_ n3_ n4_ n5_ n6_; clear hb hbox hg; have hnb25 := NB435_436.out; have hnc25 := NB436_435.out; have hcz26_0 : w24.cell? ⟨gb435, 0, none⟩ = some (.int .u8 a0_0) := (blk_cell BK435.out 0).trans rfl; have hcz26_1 : w24.cell? ⟨gb435, 1, none⟩ = some (.int .i64 a0_1) := (blk_cell BK435.out 1).trans rfl; have hcz26_2 : w24.cell? ⟨gb435, 2, none⟩ = some (.int .i64 a0_2) := (blk_cell BK435.out 2).trans rfl; have hcz26_3 : w24.cell? ⟨gb435, 3, none⟩ = some (.int .u8 a0_3) := (blk_cell BK435.out 3).trans rfl; have hcz26_4 : w24.cell? ⟨gb435, 4, none⟩ = some (.slice A0_4 l0_4.length c0_4) := (blk_cell BK435.out 4).trans rfl; have hfz26_0 := blk_frozen BK435.out 0; have hfz26_1 := blk_frozen BK435.out 1; have hfz26_2 := blk_frozen BK435.out 2; have hfz26_3 := blk_frozen BK435.out 3; have hfz26_4 := blk_frozen BK435.out 4; have hcz27_0 : w24.cell? ⟨gb436, 0, none⟩ = some (.int .u8 a1_0) := (blk_cell BK436.out 0).trans rfl; have hcz27_1 : w24.cell? ⟨gb436, 1, none⟩ = some (.int .i64 a1_1) := (blk_cell BK436.out 1).trans rfl; have hcz27_2 : w24.cell? ⟨gb436, 2, none⟩ = some (.int .i64 a1_2) := (blk_cell BK436.out 2).trans rfl; have hcz27_3 : w24.cell? ⟨gb436, 3, none⟩ = some (.int .u8 a1_3) := (blk_cell BK436.out 3).trans rfl; have hcz27_4 : w24.cell? ⟨gb436, 4, none⟩ = some (.slice A1_4 l1_4.length c1_4) := (blk_cell BK436.out 4).trans rfl; have hfz27_0 := blk_frozen BK436.out 0; have hfz27_1 := blk_frozen BK436.out 1; have hfz27_2 := blk_frozen BK436.out 2; have hfz27_3 := blk_frozen BK436.out 3; have hfz27_4 := blk_frozen BK436.out 4))
      go_ret
      exact ⟨by first | rfl | (simp [errW_none, errW_some] <;> rfl) | (simp [*, errW_none, errW_some] <;> rfl), by repeat (first | (with_reducible first | exact HB.out | apply below_alloc | apply pw_below_drewN | apply below_drew1 | refine below_set ?_ GE435.out | refine below_set ?_ GE436.out) | exact HB.out)⟩
  · rw [if_neg c3] at H
    have c3b0 : (a0_0 == a1_0) = false := beq_eq_false_iff_ne.mpr c3
    have c3b1 : (a0_0 != a1_0) = true := bne_iff_ne.mpr c3
    obtain rfl := Option.some.inj H
    go_enter Try.func40, Try.ntmps40
    go_wp2_with (first | ((with_reducible refine gate_dst (N := 2) rfl ?_); refine box_event ?hg (N := 2) ?hd (cs := #[.int .u8 a0_0, .int .i64 a0_1, .int .i64 a0_2, .int .u8 a0_3, .slice A0_4 l0_4.length c0_4]) (t := 61) ?hr ?_; (case hd => rfl); (case hg => rfl); (case hr => first | (go_simp; done) | (go_simp; rfl)); intro gb435 hg w28 hbox hb; have n0_ := Aside0.mk (below_step (by repeat (first | (with_reducible first | exact HB.out | apply below_alloc | apply pw_below_drewN | apply below_drew1) | exact HB.out)) hb); have n1_ := Aside0.mk (hbox); have n2_ := Aside0.mk ((by rw [hg]; exact (below_size (by repeat (first | (with_reducible first | exact HB.out | apply below_alloc | apply pw_below_drewN | apply below_drew1) | exact HB.out))) : w.heap.size ≤ gb435)); have n3_ := Aside0.mk ((by rw [hg]; exact (below_size (by repeat (first | (with_reducible first | exact HB.out | apply below_alloc | apply pw_below_drewN | apply below_drew1) | exact HB.out))) : w.heap.size ≤ gb435)); clear HB; have HB := n0_; have BK435 := n1_; have GW435 := n2_; have GE435 := n3_; clear n0_ n1_ n2_ n3_; clear hb hbox hg) | ((with_reducible refine gate_dst (N := 3) rfl ?_); refine box_event ?hg (N := 3) ?hd (cs := #[.int .u8 a1_0, .int .i64 a1_1, .int .i64 a1_2, .int .u8 a1_3, .slice A1_4 l1_4.length c1_4]) (t := 61) ?hr ?_; (case hd => rfl); (case hg => rfl); (case hr => first | (go_simp; done) | (go_simp; rfl)); intro gb436 hg w29 hbox hb; have n0_ := Aside0.mk (blk_below (g := gb435) (o := .cells #[.int .u8 a0_0, .int .i64 a0_1, .int .i64 a0_2, .int .u8 a0_3, .slice A0_4 l0_4.length c0_4] 61 (0, 0)) (by (with_reducible repeat (first | refine blk_drewN ?_ _ | refine blk_drew ?_ | refine blk_alloc ?_ _)); exact BK435.out) hb); have n1_ := Aside0.mk (below_step (by repeat (first | (with_reducible first | exact HB.out | apply below_alloc | apply pw_below_drewN | apply below_drew1 | refine below_set ?_ GE435.out) | exact HB.out)) hb); have n2_ := Aside0.mk (hbox); have n3_ := Aside0.mk ((by rw [hg]; exact (below_size (by repeat (first | (with_reducible first | exact HB.out | apply below_alloc | apply pw_below_drewN | apply below_drew1 | refine below_set ?_ GE435.out) | exact HB.out))) : w.heap.size ≤ gb436)); have n4_ := Aside0.mk ((by rw [hg]; exact (below_size (by repeat (first | (with_reducible first | exact HB.out | apply below_alloc | apply pw_below_drewN | apply below_drew1 | refine below_set ?_ GE435.out) | exact HB.out))) : w.heap.size ≤ gb436)); have n5_ := Aside0.mk ((by rw [hg]; exact Nat.ne_of_lt (blk_lt (g := gb435) (o := .cells #[.int .u8 a0_0, .int .i64 a0_1, .int .i64 a0_2, .int .u8 a0_3, .slice A0_4 l0_4.length c0_4] 61 (0, 0)) (by (with_reducible repeat (first | refine blk_drewN ?_ _ | refine blk_drew ?_ | refine blk_alloc ?_ _)); exact BK435.out)) : gb435 ≠ gb436)); have n6_ := Aside0.mk ((by rw [hg]; exact Nat.ne_of_gt (blk_lt (g := gb435) (o := .cells #[.int .u8 a0_0, .int .i64 a0_1, .int .i64 a0_2, .int .u8 a0_3, .slice A0_4 l0_4.length c0_4] 61 (0, 0)) (by (with_reducible repeat (first | refine blk_drewN ?_ _ | refine blk_drew ?_ | refine blk_alloc ?_ _)); exact BK435.out)) : gb436 ≠ gb435)); clear BK435; clear HB; have BK435 := n0_; have HB := n1_; have BK436 := n2_; have GW436 := n3_; have GE436 := n4_; have NB435_436 := n5_; have NB436_435 := n6_; clear n0_ n1_ n2_ n3_ n4_ n5_ n6_; clear hb hbox hg; have hnb30 := NB435_436.out; have hnc30 := NB436_435.out; have hcz31_0 : w29.cell? ⟨gb435, 0, none⟩ = some (.int .u8 a0_0) := (blk_cell BK435.out 0).trans rfl; have hcz31_1 : w29.cell? ⟨gb435, 1, none⟩ = some (.int .i64 a0_1) := (blk_cell BK435.out 1).trans rfl; have hcz31_2 : w29.cell? ⟨gb435, 2, none⟩ = some (.int .i64 a0_2) := (blk_cell BK435.out 2).trans rfl; have hcz31_3 : w29.cell? ⟨gb435, 3, none⟩ = some (.int .u8 a0_3) := (blk_cell BK435.out 3).trans rfl; have hcz31_4 : w29.cell? ⟨gb435, 4, none⟩ = some (.slice A0_4 l0_4.length c0_4) := (blk_cell BK435.out 4).trans rfl; have hfz31_0 := blk_frozen BK435.out 0; have hfz31_1 := blk_frozen BK435.out 1; have hfz31_2 := blk_frozen BK435.out 2; have hfz31_3 := blk_frozen BK435.out 3; have hfz31_4 := blk_frozen BK435.out 4; have hcz32_0 : w29.cell? ⟨gb436, 0, none⟩ = some (.int .u8 a1_0) := (blk_cell BK436.out 0).trans rfl; have hcz32_1 : w29.cell? ⟨gb436, 1, none⟩ = some (.int .i64 a1_1) := (blk_cell BK436.out 1).trans rfl; have hcz32_2 : w29.cell? ⟨gb436, 2, none⟩ = some (.int .i64 a1_2) := (blk_cell BK436.out 2).trans rfl; have hcz32_3 : w29.cell? ⟨gb436, 3, none⟩ = some (.int .u8 a1_3) := (blk_cell BK436.out 3).trans rfl; have hcz32_4 : w29.cell? ⟨gb436, 4, none⟩ = some (.slice A1_4 l1_4.length c1_4) := (blk_cell BK436.out 4).trans rfl; have hfz32_0 := blk_frozen BK436.out 0; have hfz32_1 := blk_frozen BK436.out 1; have hfz32_2 := blk_frozen BK436.out 2; have hfz32_3 := blk_frozen BK436.out 3; have hfz32_4 := blk_frozen BK436.out 4))
    go_ret
    exact ⟨by first | rfl | (simp [errW_none, errW_some] <;> rfl) | (simp [*, errW_none, errW_some] <;> rfl), by repeat (first | (with_reducible first | exact HB.out | apply below_alloc | apply pw_below_drewN | apply below_drew1 | refine below_set ?_ GE435.out | refine below_set ?_ GE436.out) | exact HB.out)⟩
def wire_Count.f (k : Nat) (a0 : Int) : Option (List Int × Int) := if a0 < 0 then (some (([] : List Int), 2)) else (if a0 > 2147483647 then (some (([] : List Int), 2)) else ((wire_big.f k ([] : List Int) (IntKind.u64.wrap (a0)) 4).bind fun t438 => (some (t438, 0))))
set_option maxHeartbeats 8000000 in
set_option maxRecDepth 100000 in
theorem wire_Count.calls (k : Nat) (a0 : Int) (r1 : List Int) (r2 : Int) (w : World) (h : wire_Count.f k a0 = some (r1, r2)) :
    Calls Try.prog 75 #[.int .i64 a0] w fun e w' => ∃ v0_ : Value, e = .returned (.tuple #[v0_, .int .i64 r2]) ∧ Kd.R (Kd.int .u8) 5 w' w.heap.size (fun _ => True) v0_ r1 ∧ Below w.heap.size w w' := by
  have HB := Aside0.mk (Below.refl w.heap.size w)
  have H : (if a0 < 0 then (some (([] : List Int), 2)) else (if a0 > 2147483647 then (some (([] : List Int), 2)) else ((wire_big.f k ([] : List Int) (IntKind.u64.wrap (a0)) 4).bind fun t438 => (some (t438, 0))))) = some (r1, r2) := h
  clear h
  by_cases c2 : a0 < 0
  · rw [if_pos c2] at H
    have c2b0 : decide (a0 < 0) = true := decide_eq_true c2
    clear c2
    simp only [Option.some.injEq, Prod.mk.injEq] at H
    obtain ⟨rfl, rfl⟩ := H
    go_enter Try.func75, Try.ntmps75
    go_wp2
    go_ret2
    exact ⟨_, by first | rfl | (simp [errW_none, errW_some] <;> rfl) | (simp [*, errW_none, errW_some] <;> rfl), by first | exact Kd.R_nil _ _ _ _ _ | exact Kd.N_nil _ _ _ _ _ | exact Kd.V_nil _ _ _ _ _ | exact Kd.Q_nil _ _ _ _ _ | exact Kd.S_nil _ _ _ _ _, by repeat (first | (with_reducible first | exact HB.out | apply below_alloc | apply pw_below_drewN | apply below_drew1) | exact HB.out)⟩
  · rw [if_neg c2] at H
    have c2b0 : decide (a0 < 0) = false := decide_eq_false c2
    clear c2
    by_cases c3 : a0 > 2147483647
    · rw [if_pos c3] at H
      have c3b0 : decide (2147483647 < a0) = true := decide_eq_true c3
      clear c3
      simp only [Option.some.injEq, Prod.mk.injEq] at H
      obtain ⟨rfl, rfl⟩ := H
      go_enter Try.func75, Try.ntmps75
      go_wp2
      go_ret2
      exact ⟨_, by first | rfl | (simp [errW_none, errW_some] <;> rfl) | (simp [*, errW_none, errW_some] <;> rfl), by first | exact Kd.R_nil _ _ _ _ _ | exact Kd.N_nil _ _ _ _ _ | exact Kd.V_nil _ _ _ _ _ | exact Kd.Q_nil _ _ _ _ _ | exact Kd.S_nil _ _ _ _ _, by repeat (first | (with_reducible first | exact HB.out | apply below_alloc | apply pw_below_drewN | apply below_drew1) | exact HB.out)⟩
    · rw [if_neg c3] at H
      have c3b0 : decide (2147483647 < a0) = false := decide_eq_false c3
      clear c3
      replace H := Option.bind_eq_some_iff.mp H
      obtain ⟨t438, A40, H⟩ := H
      replace H : (some (t438, 0)) = some (r1, r2) := H
      have A4 := Aside0.mk A40
      clear A40
      simp only [Option.some.injEq, Prod.mk.injEq] at H
      obtain ⟨rfl, rfl⟩ := H
      go_enter Try.func75, Try.ntmps75
      go_wp2_with (first | ((with_reducible refine gate_callee (f := 94) rfl ?_); refine goesL_ (some 12) rfl rfl Try.func94 (by kernel_rfl) rfl #[.slice none 0 0, .int .u64 (IntKind.u64.wrap (a0)), .int .i64 4] rfl (by (try simp only [List.map_toArray, List.map_cons, List.map_nil]); first | done | rfl | (simp only [List.length_drop, List.length_take]; rfl)) ?_; (refine (wire_big.calls k (fun k_ => some k_ = (.slice none 0 0 : Value).ownBlock) (.slice none 0 0) ([] : List Int) (IntKind.u64.wrap (a0)) 4 t438 w _ ?side1 ?side2 A4.out).mono ?_); (case side1 => repeat (first | (with_reducible first | exact HB.out | apply below_alloc | apply pw_below_drewN | apply below_drew1) | exact HB.out)); (case side2 => exact Kd.R_nil _ _ _ _ _); rintro e w5 ⟨v439, rfl, ho0, hb, hkp⟩; refine ⟨_, rfl, ?_⟩; have n0_ := Aside0.mk (Kd.R_mono (ok' := fun k_ => True) ho0 (fun k_ hk_ => trivial)); have n1_ := Aside0.mk (hb); clear HB; have HO440 := n0_; have HB := n1_; clear n0_ n1_; (try clear hb); (try clear hkp); (try clear ho0)))
      go_ret2
      exact ⟨_, by first | rfl | (simp [errW_none, errW_some] <;> rfl) | (simp [*, errW_none, errW_some] <;> rfl), by (with_reducible repeat (first | apply Kd.R_alloc | apply Kd.R_drewN | apply Kd.R_drew)); exact HO440.out, by repeat (first | (with_reducible first | exact HB.out | apply below_alloc | apply pw_below_drewN | apply below_drew1) | exact HB.out)⟩
end Go.Proofs.Ytkppklinmcnecaa.P
end
section
namespace Go.Proofs.Ytkppklinmcnecaa.P
open Go.RowKit Go.Proofs.YtkppklinmcnecaaW.PrintWords Go.Proofs.YtkppklinmcnecaaW.PrintLast Go.Proofs.YtkppklinmcnecaaW.PrintMore
attribute [local go_sem] max2_int min2_int max_two min_two max_three min_three max_four min_four
set_option linter.unusedVariables false
set_option linter.unusedSimpArgs false
def wire_List.l0 : Nat → Int → List Int → List Int → Int → Int → Option (List Int × Int)
  | 0, _, _, _, _, _ => none
  | k + 1, x0, x6, x24, x25, x26 => if x26 < x25 then (if 0 ≤ x26 then (if x26 < (x24.length : Int) then ((wire_width.f x0).bind fun t449 => ((wire_big.f k x6 (rd x24 x26) t449).bind fun t450 => (wire_List.l0 k x0 t450 x24 x25 (wrap64 (x26 + 1))))) else (none)) else (none)) else (some (x6, 0))
def wire_List.f (k : Nat) (a0 : Int) (l1 : List Int) : Option (List Int × Int) := (field_In.f k a0 l1).bind fun t441 => (if t441 = true then (if (l1.length : Int) > 4096 then (some (([] : List Int), 4)) else ((wire_big.f k (([a0] : List Int)) (IntKind.u64.wrap ((l1.length : Int))) 4).bind fun t445 => (wire_List.l0 k a0 t445 l1 (l1.length : Int) 0))) else (some (([] : List Int), 2)))
set_option maxHeartbeats 8000000 in
set_option maxRecDepth 100000 in
theorem wire_List.calls (k : Nat) (a0 : Int) (A1 : Option Addr) (c1 : Nat) (l1 : List Int) (r1 : List Int) (r2 : Int) (w : World) (hr1 : Kd.C (Kd.int .u64) w A1 l1.length l1) (hc1 : l1.length ≤ c1) (h : wire_List.f k a0 l1 = some (r1, r2)) :
    Calls Try.prog 76 #[.int .u8 a0, .slice A1 l1.length c1] w fun e w' => ∃ v0_ : Value, e = .returned (.tuple #[v0_, .int .i64 r2]) ∧ Kd.R (Kd.int .u8) 5 w' w.heap.size (fun _ => True) v0_ r1 ∧ Below w.heap.size w w' := by
  have HR1 := Aside0.mk hr1
  have HC1 := Aside0.mk hc1
  clear hr1 hc1
  have HB := Aside0.mk (Below.refl w.heap.size w)
  have H : ((field_In.f k a0 l1).bind fun t441 => (if t441 = true then (if (l1.length : Int) > 4096 then (some (([] : List Int), 4)) else ((wire_big.f k (([a0] : List Int)) (IntKind.u64.wrap ((l1.length : Int))) 4).bind fun t445 => (wire_List.l0 k a0 t445 l1 (l1.length : Int) 0))) else (some (([] : List Int), 2)))) = some (r1, r2) := h
  clear h
  replace H := Option.bind_eq_some_iff.mp H
  obtain ⟨t441, A30, H⟩ := H
  replace H : (if t441 = true then (if (l1.length : Int) > 4096 then (some (([] : List Int), 4)) else ((wire_big.f k (([a0] : List Int)) (IntKind.u64.wrap ((l1.length : Int))) 4).bind fun t445 => (wire_List.l0 k a0 t445 l1 (l1.length : Int) 0))) else (some (([] : List Int), 2))) = some (r1, r2) := H
  have A3 := Aside0.mk A30
  clear A30
  by_cases c4 : t441 = true
  · subst c4
    have H1 : (if (l1.length : Int) > 4096 then (some (([] : List Int), 4)) else ((wire_big.f k (([a0] : List Int)) (IntKind.u64.wrap ((l1.length : Int))) 4).bind fun t445 => (wire_List.l0 k a0 t445 l1 (l1.length : Int) 0))) = some (r1, r2) := by rw [if_pos rfl] at H; exact H
    clear H
    have H := H1
    clear H1
    by_cases c5 : (l1.length : Int) > 4096
    · rw [if_pos c5] at H
      have c5b0 : decide (4096 < (l1.length : Int)) = true := decide_eq_true c5
      have c5b1 : decide (4096 < l1.length) = true := decide_eq_true (by omega)
      clear c5
      simp only [Option.some.injEq, Prod.mk.injEq] at H
      obtain ⟨rfl, rfl⟩ := H
      go_enter Try.func76, Try.ntmps76
      go_wp2_with (first | ((with_reducible refine gate_callee (f := 79) rfl ?_); refine goesL_ (some 12) rfl rfl Try.func79 (by kernel_rfl) rfl #[.int .u8 a0, .slice A1 l1.length c1] rfl (by (try simp only [List.map_toArray, List.map_cons, List.map_nil]); first | done | rfl | (simp only [List.length_drop, List.length_take]; rfl)) ?_; (with_reducible refine (field_In.calls k a0 _ _ l1 true _ ?side1 ?side2 A3.out).mono ?_); (case side1 => repeat (first | exact HR1.out | (with_reducible refine Kd.C_alloc ?_ _) | (with_reducible refine Kd.C_drewN ?_ _) | (with_reducible refine Kd.C_drew ?_))); (case side2 => exact HC1.out); rintro e w6 ⟨rfl, hb⟩; refine ⟨_, rfl, ?_⟩; have n0_ := Aside0.mk (below_step (by repeat (first | (with_reducible first | exact HB.out | apply below_alloc | apply pw_below_drewN | apply below_drew1) | exact HB.out)) hb); clear HB; have HB := n0_; clear n0_; (try clear hb); (try clear hb2); (try clear hk); (try clear hi)))
      go_ret2
      exact ⟨_, by first | rfl | (simp [errW_none, errW_some] <;> rfl) | (simp [*, errW_none, errW_some] <;> rfl), by first | exact Kd.R_nil _ _ _ _ _ | exact Kd.N_nil _ _ _ _ _ | exact Kd.V_nil _ _ _ _ _ | exact Kd.Q_nil _ _ _ _ _ | exact Kd.S_nil _ _ _ _ _, by repeat (first | (with_reducible first | exact HB.out | apply below_alloc | apply pw_below_drewN | apply below_drew1) | exact HB.out)⟩
    · rw [if_neg c5] at H
      have c5b0 : decide (4096 < (l1.length : Int)) = false := decide_eq_false c5
      have c5b1 : decide (4096 < l1.length) = false := decide_eq_false (by omega)
      clear c5
      obtain ⟨y442, hy442⟩ : ∃ y_ : List Int, y_ = (([a0] : List Int)) := ⟨_, rfl⟩
      replace H : ((wire_big.f k y442 (IntKind.u64.wrap ((l1.length : Int))) 4).bind fun t445 => (wire_List.l0 k a0 t445 l1 (l1.length : Int) 0)) = some (r1, r2) := by first | (rw [hy442]; with_reducible exact H) | (have H2_ := (Option.bind_some _ _).symm.trans H; rw [hy442]; with_reducible exact H2_) | (have H2_ := (Option.bind_some _ _).symm.trans H; with_reducible exact H2_) | with_reducible exact H | (rw [hy442]; exact H) | exact H
      have Ny442 := Aside0.mk hy442
      clear hy442
      replace H := Option.bind_eq_some_iff.mp H
      obtain ⟨t445, A70, H⟩ := H
      replace H : (wire_List.l0 k a0 t445 l1 (l1.length : Int) 0) = some (r1, r2) := H
      have A7 := Aside0.mk A70
      clear A70
      have H' := Aside0.mk H
      clear H
      go_enter Try.func76, Try.ntmps76
      go_wp2_with (first | ((with_reducible refine gate_callee (f := 79) rfl ?_); refine goesL_ (some 12) rfl rfl Try.func79 (by kernel_rfl) rfl #[.int .u8 a0, .slice A1 l1.length c1] rfl (by (try simp only [List.map_toArray, List.map_cons, List.map_nil]); first | done | rfl | (simp only [List.length_drop, List.length_take]; rfl)) ?_; (with_reducible refine (field_In.calls k a0 _ _ l1 true _ ?side1 ?side2 A3.out).mono ?_); (case side1 => repeat (first | exact HR1.out | (with_reducible refine Kd.C_alloc ?_ _) | (with_reducible refine Kd.C_drewN ?_ _) | (with_reducible refine Kd.C_drew ?_))); (case side2 => exact HC1.out); rintro e w8 ⟨rfl, hb⟩; refine ⟨_, rfl, ?_⟩; have n0_ := Aside0.mk (below_step (by repeat (first | (with_reducible first | exact HB.out | apply below_alloc | apply pw_below_drewN | apply below_drew1) | exact HB.out)) hb); clear HB; have HB := n0_; clear n0_; (try clear hb); (try clear hb2); (try clear hk); (try clear hi)) | ((with_reducible refine gate_dst (N := 19) rfl ?_); refine Kd.R_lit (Kd.int .u8) _ 5 ?hg (N := 19) ?hd (xs := ([a0] : List Int)) (inner := [.int .u8 a0]) (ok := fun _ => True) (okp := fun _ => True) ?hr ?hp (fun _ hk => hk) trivial (Below.refl _ _) (Nat.le_refl _) (by simp) ?_; (case hd => rfl); (case hg => rfl); (case hr => first | (go_simp; done) | (go_simp; rfl)); (case hp => exact (Reps.one (show Kd.M (Kd.int .u8) _ _ _ a0 [.int .u8 a0] from rfl) (Reps.none _ _))); intro v443 w9 ho10 hb hg_ hnew_; clear hg_ hnew_; (first | rw [← Ny442.out] at ho10 | (simp only [Int.reduceToNat] at ho10; rw [← Ny442.out] at ho10)); have n0_ := Aside0.mk (Kd.R_lower ho10 (below_size (by repeat (first | (with_reducible first | exact HB.out | apply below_alloc | apply pw_below_drewN | apply below_drew1) | exact HB.out)))); have n1_ := Aside0.mk (below_step (by repeat (first | (with_reducible first | exact HB.out | apply below_alloc | apply pw_below_drewN | apply below_drew1) | exact HB.out)) hb); clear HB; have HO444 := n0_; have HB := n1_; clear n0_ n1_; clear hb ho10; obtain ⟨Ao11, co11, eo11⟩ := Kd.R_slice HO444.out; subst eo11) | ((with_reducible refine gate_callee (f := 94) rfl ?_); refine goesL_ (some 23) rfl rfl Try.func94 (by kernel_rfl) rfl #[.slice Ao11 y442.length co11, .int .u64 (IntKind.u64.wrap ((l1.length : Int))), .int .i64 4] rfl (by (try simp only [List.map_toArray, List.map_cons, List.map_nil]); first | done | rfl | (simp only [List.length_drop, List.length_take]; rfl)) ?_; (with_reducible refine (wire_big.calls k (fun k_ => some k_ = (.slice Ao11 y442.length co11 : Value).ownBlock) (.slice Ao11 y442.length co11) y442 (IntKind.u64.wrap ((l1.length : Int))) 4 t445 w _ ?side1 ?side2 A7.out).mono ?_); (case side1 => repeat (first | (with_reducible first | exact HB.out | apply below_alloc | apply pw_below_drewN | apply below_drew1) | exact HB.out)); (case side2 => exact Kd.R_tight rfl HO444.out); rintro e w12 ⟨v446, rfl, ho0, hb, hkp⟩; refine ⟨_, rfl, ?_⟩; have n0_ := Aside0.mk (Kd.R_mono (ok' := fun k_ => True) ho0 (fun k_ hk_ => trivial)); have n1_ := Aside0.mk (hb); clear HB; clear HO444; have HO447 := n0_; have HB := n1_; clear n0_ n1_; (try clear hb); (try clear hkp); (try clear ho0)))
      go_loopg [6, 26] k (fun kq v6 v26 w' => ∃ (x6_1 : List Int) (x26_1 : Int), v26 = .int .i64 x26_1 ∧ Aside0 (wire_List.l0 kq a0 x6_1 l1 (l1.length : Int) x26_1 = some (r1, r2)) ∧ Aside0 (kq ≤ k) ∧ Aside0 (Kd.R (Kd.int .u8) 5 w' w.heap.size (fun _ => True) v6 x6_1) ∧ Aside0 (Below w.heap.size w w'))
      case atStart => exact ⟨(t445), (0), (by first | rfl | (simp; done) | (simp [*]; done)), H', ⟨Nat.le_refl _⟩, ⟨by (with_reducible repeat (first | apply Kd.R_alloc | apply Kd.R_drewN | apply Kd.R_drew)); exact HO447.out⟩, ⟨by repeat (first | (with_reducible first | exact HB.out | apply below_alloc | apply pw_below_drewN | apply below_drew1) | exact HB.out)⟩⟩
      case round =>
        clear H'
        try clear c1
        try clear p2
        try clear c4
        try clear c5
        try clear c5b0
        try clear c5b1
        try clear c7
        try clear c9
        obtain ⟨x6_1, x26_1, rfl, HA, HK1, HO_6, HB⟩ := hrel
        cases gk with
        | zero => exact absurd HA.out (by simp [wire_List.l0])
        | succ k1 =>
          have H := HA.out
          clear HA
          simp only [wire_List.l0] at H
          by_cases c13 : x26_1 < (l1.length : Int)
          · rw [if_pos c13] at H
            have c13b0 : decide (x26_1 < (l1.length : Int)) = true := decide_eq_true c13
            clear c13
            by_cases c14 : 0 ≤ x26_1
            · rw [if_pos c14] at H
              have c14b0 : decide (0 ≤ x26_1) = true := decide_eq_true c14
              clear c14
              by_cases c15 : x26_1 < (l1.length : Int)
              · rw [if_pos c15] at H
                have c15b0 : decide (x26_1 < (l1.length : Int)) = true := decide_eq_true c15
                clear c15
                replace H := Option.bind_eq_some_iff.mp H
                obtain ⟨t449, A160, H⟩ := H
                replace H : ((wire_big.f k1 x6_1 (rd l1 x26_1) t449).bind fun t450 => (wire_List.l0 k1 a0 t450 l1 (l1.length : Int) (wrap64 (x26_1 + 1)))) = some (r1, r2) := H
                have A16 := Aside0.mk A160
                clear A160
                replace H := Option.bind_eq_some_iff.mp H
                obtain ⟨t450, A170, H⟩ := H
                replace H : (wire_List.l0 k1 a0 t450 l1 (l1.length : Int) (wrap64 (x26_1 + 1))) = some (r1, r2) := H
                have A17 := Aside0.mk A170
                clear A170
                have H' := Aside0.mk H
                clear H
                have p448 : 0 ≤ (x26_1 : Int) := of_decide_eq_true (by first | (with_reducible assumption) | assumption)
                have q448 : x26_1 < (l1.length : Int) := of_decide_eq_true (by first | (with_reducible assumption) | assumption)
                obtain ⟨ad448, e448, hx448_0⟩ := Kd.at_int HR1.out x26_1 p448 q448
                cases e448
                replace hx448_0 := (HB.out.cell (World.block_lt_of_cell? w _ hx448_0)).trans hx448_0
                replace p448 := eq_true p448
                replace q448 := eq_true q448
                go_wp2_with (first | ((with_reducible refine gate_callee (f := 104) rfl ?_); refine goesL_ (some 33) rfl rfl Try.func104 (by kernel_rfl) rfl #[.int .u8 a0] rfl (by (try simp only [List.map_toArray, List.map_cons, List.map_nil]); first | done | rfl | (simp only [List.length_drop, List.length_take]; rfl)) ?_; (with_reducible refine (wire_width.calls a0 t449 _ A16.out).mono ?_); rintro e w' ⟨rfl, ⟨nd, rfl⟩⟩; refine ⟨_, rfl, ?_⟩; obtain ⟨Ao18, co18, eo18⟩ := Kd.R_slice HO_6.out; subst eo18) | ((with_reducible refine gate_callee (f := 94) rfl ?_); refine goesL_ (some 34) rfl rfl Try.func94 (by kernel_rfl) rfl #[.slice Ao18 x6_1.length co18, .int .u64 (rd l1 x26_1), .int .i64 t449] rfl (by (try simp only [List.map_toArray, List.map_cons, List.map_nil]); first | done | rfl | (simp only [List.length_drop, List.length_take]; rfl)) ?_; (with_reducible refine (wire_big.calls k1 (fun k_ => some k_ = (.slice Ao18 x6_1.length co18 : Value).ownBlock) (.slice Ao18 x6_1.length co18) x6_1 (rd l1 x26_1) t449 t450 w _ ?side1 ?side2 A17.out).mono ?_); (case side1 => repeat (first | (with_reducible first | exact HB.out | apply below_alloc | apply pw_below_drewN | apply below_drew1) | exact HB.out)); (case side2 => exact Kd.R_tight rfl HO_6.out); rintro e w19 ⟨v451, rfl, ho0, hb, hkp⟩; refine ⟨_, rfl, ?_⟩; have n0_ := Aside0.mk (Kd.R_mono (ok' := fun k_ => True) ho0 (fun k_ hk_ => trivial)); have n1_ := Aside0.mk (hb); clear HB; clear HO_6; have HO452 := n0_; have HB := n1_; clear n0_ n1_; (try clear hb); (try clear hkp); (try clear ho0)))
                go_roundg k1
                case measure => have := HK1.out; omega
                case rel => exact ⟨(t450), (wrap64 (x26_1 + 1)), (by first | rfl | (simp; done) | (simp [*]; done)), H', ⟨by have := HK1.out; omega⟩, ⟨by (with_reducible repeat (first | apply Kd.R_alloc | apply Kd.R_drewN | apply Kd.R_drew)); exact HO452.out⟩, ⟨by repeat (first | (with_reducible first | exact HB.out | apply below_alloc | apply pw_below_drewN | apply below_drew1) | exact HB.out)⟩⟩
              · rw [if_neg c15] at H
                exact absurd H (by simp)
            · rw [if_neg c14] at H
              exact absurd H (by simp)
          · rw [if_neg c13] at H
            have c13b0 : decide (x26_1 < (l1.length : Int)) = false := decide_eq_false c13
            clear c13
            simp only [Option.some.injEq, Prod.mk.injEq] at H
            obtain ⟨rfl, rfl⟩ := H
            go_wp2
            go_ret2
            exact ⟨_, by first | rfl | (simp [errW_none, errW_some] <;> rfl) | (simp [*, errW_none, errW_some] <;> rfl), by (with_reducible repeat (first | apply Kd.R_alloc | apply Kd.R_drewN | apply Kd.R_drew)); exact HO_6.out, by repeat (first | (with_reducible first | exact HB.out | apply below_alloc | apply pw_below_drewN | apply below_drew1) | exact HB.out)⟩
  · replace c4 := Bool.eq_false_iff.mpr c4
    subst c4
    have H1 : (some (([] : List Int), 2)) = some (r1, r2) := by rw [if_neg (show ¬ (false = true) by decide)] at H; exact H
    clear H
    have H := H1
    clear H1
    simp only [Option.some.injEq, Prod.mk.injEq] at H
    obtain ⟨rfl, rfl⟩ := H
    go_enter Try.func76, Try.ntmps76
    go_wp2_with (first | ((with_reducible refine gate_callee (f := 79) rfl ?_); refine goesL_ (some 12) rfl rfl Try.func79 (by kernel_rfl) rfl #[.int .u8 a0, .slice A1 l1.length c1] rfl (by (try simp only [List.map_toArray, List.map_cons, List.map_nil]); first | done | rfl | (simp only [List.length_drop, List.length_take]; rfl)) ?_; (with_reducible refine (field_In.calls k a0 _ _ l1 false _ ?side1 ?side2 A3.out).mono ?_); (case side1 => repeat (first | exact HR1.out | (with_reducible refine Kd.C_alloc ?_ _) | (with_reducible refine Kd.C_drewN ?_ _) | (with_reducible refine Kd.C_drew ?_))); (case side2 => exact HC1.out); rintro e w20 ⟨rfl, hb⟩; refine ⟨_, rfl, ?_⟩; have n0_ := Aside0.mk (below_step (by repeat (first | (with_reducible first | exact HB.out | apply below_alloc | apply pw_below_drewN | apply below_drew1) | exact HB.out)) hb); clear HB; have HB := n0_; clear n0_; (try clear hb); (try clear hb2); (try clear hk); (try clear hi)))
    go_ret2
    exact ⟨_, by first | rfl | (simp [errW_none, errW_some] <;> rfl) | (simp [*, errW_none, errW_some] <;> rfl), by first | exact Kd.R_nil _ _ _ _ _ | exact Kd.N_nil _ _ _ _ _ | exact Kd.V_nil _ _ _ _ _ | exact Kd.Q_nil _ _ _ _ _ | exact Kd.S_nil _ _ _ _ _, by repeat (first | (with_reducible first | exact HB.out | apply below_alloc | apply pw_below_drewN | apply below_drew1) | exact HB.out)⟩
def slices_Concat_byte_byte.l0 : Nat → List Int → List (List Int) → Int → Int → Option (List Int)
  | 0, _, _, _, _ => none
  | k + 1, x6, x25, x26, x27 => if x27 < x26 then (if 0 ≤ x27 then (if x27 < (x25.length : Int) then (if x6.length + (rd_L1 x25 x27).length < 140737488355328 then (slices_Concat_byte_byte.l0 k (x6 ++ (rd_L1 x25 x27)) x25 x26 (wrap64 (x27 + 1))) else (none)) else (none)) else (none)) else (some x6)
def slices_Concat_byte_byte.f (k : Nat) (l0 : List (List Int)) : Option (List Int) := slices_Concat_byte_byte.l0 k ([] : List Int) l0 (l0.length : Int) 0
set_option maxHeartbeats 1000000 in
set_option maxRecDepth 100000 in
theorem grow_nil_105 (n : Int) (w : World) (h0 : 0 ≤ n) (hb : n * 1 ≤ 140737488355328) :
    Calls Try.prog 105 #[.slice none 0 0, .int .i64 n] w fun e w' => ∃ v : Value, e = .returned v ∧ w'.ownsRow w.heap.size 5 1 v 0 [] ∧ Below w.heap.size w w' := by
  obtain ⟨m, rfl⟩ := Int.eq_ofNat_of_zero_le h0
  by_cases hm : m = 0
  · subst hm
    go_enter Try.func105, Try.ntmps105
    go_wp2
    go_ret
    exact ⟨_, rfl, own_nil _ _ _ _, Below.refl _ _⟩
  · have c1 : decide ((m : Int) < 0) = false := by simp
    have c2 : decide (0 < (m : Int)) = true := by simp; omega
    have c3 : decide (0 < m) = true := by simp; omega
    have kc : ∀ W : World, (Instr.slice 22 (.slice none 0 0) none (some (.int .i64 0)) none).run Try.prog W = .ok (.slice none 0 0) W := fun W => by kernel_rfl
    go_enter Try.func105, Try.ntmps105
    go_wp2_with (at_builtin; refine Hand.wpList_append_zeros_nil rfl (.tmp 20) (.tmp 21) 22 3 5 rfl Try.underlying22 Try.underlying3 (.int .u8 0) 1 1 info5 rfl (by decide) (by decide) m (by omega) (by omega) rfl rfl (Nat.le_refl _) ?_; intro cap w1 ho hbel)
    go_ret
    exact ⟨_, rfl, Hand.own_emptied ho, hbel⟩
theorem slices_Concat_byte_byte_len (k : Nat) : ∀ (x : List Int) (l : List (List Int)) (n i : Int) (r : List Int), n = l.length → l.length ≤ 9223372036854775807 → 0 ≤ i → x.length < 140737488355328 → slices_Concat_byte_byte.l0 k x l n i = some r → x.length + Hand.slen (l.drop i.toNat) < 140737488355328 := by
  induction k with
  | zero => intro x l n i r _ _ _ _ h; simp [slices_Concat_byte_byte.l0] at h
  | succ k ih =>
    intro x l n i r hn hm h0 hx h
    subst hn
    simp only [slices_Concat_byte_byte.l0] at h
    by_cases c : i < (l.length : Int)
    · rw [if_pos c, if_pos h0, if_pos c] at h
      split at h
      · rename_i c5
        have hl := Hand.slen_step l i h0 c
        have hd := Hand.slen_drop l i h0 c
        have ew : wrap64 (i + 1) = i + 1 := by unfold wrap64; omega
        rw [ew] at h
        have h2 := ih _ _ _ _ _ rfl hm (by omega) (by rw [List.length_append]; exact c5) h
        rw [List.length_append] at h2
        simp only [rd_L1] at h2 ⊢
        omega
      · exact absurd h (by simp)
    · rw [show l.drop i.toNat = [] from List.drop_eq_nil_of_le (by omega)]
      simp only [Hand.slen, List.map_nil, List.sum_nil]
      omega
set_option maxHeartbeats 8000000 in
set_option maxRecDepth 100000 in
theorem slices_Concat_byte_byte.calls (k : Nat) (A0 : Option Addr) (c0 : Nat) (l0 : List (List Int)) (r : List Int) (w : World) (hr0 : Kd.C (Kd.slice 5 (Kd.int .u8)) w A0 l0.length l0) (hc0 : l0.length ≤ c0) (h : slices_Concat_byte_byte.f k l0 = some r) :
    Calls Try.prog 77 #[.slice A0 l0.length c0] w fun e w' => ∃ v0_ : Value, e = .returned (v0_) ∧ Kd.R (Kd.int .u8) 5 w' w.heap.size (fun _ => True) v0_ r ∧ Below w.heap.size w w' := by
  have HR0 := Aside0.mk hr0
  have HC0 := Aside0.mk hc0
  clear hr0 hc0
  have HB := Aside0.mk (Below.refl w.heap.size w)
  have H : (slices_Concat_byte_byte.l0 k ([] : List Int) l0 (l0.length : Int) 0) = some r := h
  clear h
  have H' := Aside0.mk H
  clear H
  go_enter Try.func77, Try.ntmps77
  have HT := Aside0.mk (show Hand.slen l0 < 140737488355328 from by have h_ := slices_Concat_byte_byte_len k [] l0 _ 0 r rfl (HR0.out.2.1) (Int.le_refl _) (by simp) H'.out; simpa using h_)
  go_wp2
  go_loopg [3, 11] l0.length (fun kq v3 v11 w' => ∃ (x3 : Int) (x11 : Int), v3 = .int .i64 x3 ∧ v11 = .int .i64 x11 ∧ Aside0 (0 ≤ x11 ∧ x11 + kq = l0.length ∧ x3 = Hand.slen (l0.take x11.toNat)) ∧ w = w')
  case atStart => exact ⟨0, 0, rfl, rfl, ⟨by omega, by simp, by simp [Hand.slen]⟩, rfl⟩
  case round =>
    obtain ⟨x3, x11, rfl, rfl, HI, rfl⟩ := hrel
    by_cases c2 : x11 < (l0.length : Int)
    · obtain ⟨k1, rfl⟩ : ∃ m, gk = m + 1 := ⟨gk - 1, by have := HI.out; omega⟩
      have c2b0 : decide (x11 < (l0.length : Int)) = true := decide_eq_true c2
      have p0 : 0 ≤ x11 := HI.out.1
      obtain ⟨ad, A1, c1, e1, hx1, hl1, hi1⟩ := at_L1 HR0.out x11 p0 c2
      cases e1
      have hst := Hand.slen_step l0 x11 p0 c2
      have h1 := Hand.slen_take_le l0 (x11 + 1).toNat
      have h2 := Hand.slen_nonneg (l0.take x11.toNat)
      have h3 := HT.out
      have h4 := HI.out.2.2
      obtain ⟨n1, hn1⟩ : ∃ n1, n1 = (rd_L1 l0 x11).length := ⟨_, rfl⟩
      have hst2 : Hand.slen (l0.take (x11 + 1).toNat) = x3 + n1 := by rw [hst, hn1, h4]; rfl
      rw [← hn1] at hx1
      have c3b0 : decide (x3 + (n1 : Int) < 0) = false := decide_eq_false (by omega)
      have b1 : 0 ≤ x3 := by omega
      have b2 : x3 + (n1 : Int) < 140737488355328 := by omega
      have HI2 := Aside0.mk (show 0 ≤ x11 + 1 ∧ x11 + 1 + (k1 : Int) = l0.length ∧ x3 + (n1 : Int) = Hand.slen (l0.take (x11 + 1).toNat) from ⟨by omega, by have := HI.out; omega, hst2.symm⟩)
      have hle : (l0.length : Int) ≤ 9223372036854775807 := by have := HR0.out.2.1; omega
      have b3 : x11 + 1 ≤ 9223372036854775807 := by omega
      have EW := Aside0.mk (show wrap64 (x11 + 1) = x11 + 1 from by unfold wrap64; omega)
      replace p0 := eq_true p0
      have q0 := eq_true c2
      clear c2 HI hst h1 h2 h3 h4 hn1 hst2 hle hl1 hi1
      go_wp2
      go_roundg k1
      case measure => omega
      case rel => exact ⟨x3 + n1, x11 + 1, (by first | rfl | (simp; done) | (rw [EW.out])), (by first | rfl | (simp; done) | (rw [EW.out])), HI2, rfl⟩
    · have c2b0 : decide (x11 < (l0.length : Int)) = false := decide_eq_false c2
      have hg0 : 0 ≤ x3 ∧ x3 * 1 ≤ 140737488355328 := by
        have h2 := Hand.slen_nonneg (l0.take x11.toNat)
        have h1 := Hand.slen_take_le l0 x11.toNat
        have h3 := HT.out
        have h4 := HI.out.2.2
        omega
      have HG0 := Aside0.mk hg0
      clear c2 HI HT hg0
      go_wp2_with fail
      refine (grow_nil_105 x3 _ HG0.out.1 HG0.out.2).mono ?_
      rintro e w9 ⟨vg, rfl, hog, hbg⟩
      have HG := Aside0.mk (Hand.R_of_own_nil (ok := (fun _ => True)) (Kd.int .u8) hog (fun k_ hk => trivial))
      have HB9 := Aside0.mk (below_step HB.out hbg)
      skip
      skip
      clear HB hog hbg
      have HB := HB9
      clear HB9
      go_wp2
      go_loopg [6, 27] k (fun kq v6 v27 w' => ∃ (x6_1 : List Int) (x27_1 : Int), v27 = .int .i64 x27_1 ∧ Aside0 (slices_Concat_byte_byte.l0 kq x6_1 l0 (l0.length : Int) x27_1 = some r) ∧ Aside0 (kq ≤ k) ∧ Aside0 (Kd.R (Kd.int .u8) 5 w' w.heap.size (fun _ => True) v6 x6_1) ∧ Aside0 (Below w.heap.size w w'))
      case atStart => exact ⟨(([] : List Int)), (0), (by first | rfl | (simp; done) | (simp [*]; done)), H', ⟨Nat.le_refl _⟩, ⟨by first | exact (by (with_reducible repeat (first | apply Kd.R_alloc | apply Kd.R_drewN | apply Kd.R_drew)); exact HG.out) | exact Kd.R_nil _ _ _ _ _ | exact Kd.N_nil _ _ _ _ _ | exact Kd.V_nil _ _ _ _ _ | exact Kd.Q_nil _ _ _ _ _ | exact Kd.S_nil _ _ _ _ _⟩, ⟨by repeat (first | (with_reducible first | exact HB.out | apply below_alloc | apply pw_below_drewN | apply below_drew1) | exact HB.out)⟩⟩
      case round =>
        clear H'
        obtain ⟨x6_1, x27_1, rfl, HA, HK1, HO_6, HB⟩ := hrel
        cases gk with
        | zero => exact absurd HA.out (by simp [slices_Concat_byte_byte.l0])
        | succ k1 =>
          have H := HA.out
          clear HA
          simp only [slices_Concat_byte_byte.l0] at H
          by_cases c2 : x27_1 < (l0.length : Int)
          · rw [if_pos c2] at H
            have c2b0 : decide (x27_1 < (l0.length : Int)) = true := decide_eq_true c2
            clear c2
            by_cases c3 : 0 ≤ x27_1
            · rw [if_pos c3] at H
              have c3b0 : decide (0 ≤ x27_1) = true := decide_eq_true c3
              clear c3
              by_cases c4 : x27_1 < (l0.length : Int)
              · rw [if_pos c4] at H
                have c4b0 : decide (x27_1 < (l0.length : Int)) = true := decide_eq_true c4
                clear c4
                by_cases c5 : x6_1.length + (rd_L1 l0 x27_1).length < 140737488355328
                · rw [if_pos c5] at H
                  have LMc5 := Aside0.mk c5
                  clear c5
                  obtain ⟨y454, hy454⟩ : ∃ y_ : List Int, y_ = (x6_1 ++ (rd_L1 l0 x27_1)) := ⟨_, rfl⟩
                  replace H : (slices_Concat_byte_byte.l0 k1 y454 l0 (l0.length : Int) (wrap64 (x27_1 + 1))) = some r := by first | (rw [hy454]; with_reducible exact H) | (have H2_ := (Option.bind_some _ _).symm.trans H; rw [hy454]; with_reducible exact H2_) | (have H2_ := (Option.bind_some _ _).symm.trans H; with_reducible exact H2_) | with_reducible exact H | (rw [hy454]; exact H) | exact H
                  have Ny454 := Aside0.mk hy454
                  clear hy454
                  have H' := Aside0.mk H
                  clear H
                  have p453 : 0 ≤ (x27_1 : Int) := of_decide_eq_true (by first | (with_reducible assumption) | assumption)
                  have q453 : x27_1 < (l0.length : Int) := of_decide_eq_true (by first | (with_reducible assumption) | assumption)
                  obtain ⟨ad453, A453_0, c453_0, e453, hx453_0, hl453_0, hi453_0⟩ := at_L1 HR0.out x27_1 p453 q453
                  cases e453
                  replace hx453_0 := (HB.out.cell (World.block_lt_of_cell? w _ hx453_0)).trans hx453_0
                  have HR453_0 := Aside0.mk hi453_0
                  have HC453_0 := Aside0.mk hl453_0
                  clear hi453_0 hl453_0
                  replace p453 := eq_true p453
                  replace q453 := eq_true q453
                  go_wp2_with (first | ((with_reducible refine gate_builtin (b := .append) (xs := #[.tmp 31, .tmp 32]) rfl ?_); at_builtin; refine Kd.R_append_rows (Kd.int .u8) (w0 := w) w.heap.size rfl (.tmp 31) (.tmp 32) 22 5 (.int .u8 0) 1 rfl Try.underlying22 info5 rfl (by decide) (by omega) u6 x6_1 (rd_L1 l0 x27_1) _ _ _ (fun _ => True) (fun _ => False) rfl rfl ?aO ?aR (fun _ _ h => h) (fun _ h => h.elim) ?aF ?aB ?aS ?aL ?_; (case aR => repeat (first | exact (Kd.C_below HR453_0.out HB.out) | (with_reducible refine Kd.C_alloc ?_ _) | (with_reducible refine Kd.C_drewN ?_ _) | (with_reducible refine Kd.C_drew ?_))); (case aB => exact (by repeat (first | (with_reducible first | exact HB.out | apply below_alloc | apply pw_below_drewN | apply below_drew1) | exact HB.out))); (case aF => exact (fun _ _ => trivial)); (case aO => exact (by (with_reducible repeat (first | apply Kd.R_alloc | apply Kd.R_drewN | apply Kd.R_drew)); exact HO_6.out)); (case aS => exact (below_size (by repeat (first | (with_reducible first | exact HB.out | apply below_alloc | apply pw_below_drewN | apply below_drew1) | exact HB.out)))); (case aL => have := LMc5.out; omega); intro v455 w6 ho hb hg hat; rw [← Ny454.out] at ho; have n0_ := Aside0.mk (hb); have n1_ := Aside0.mk (ho); clear HB; clear HO_6; have HB := n0_; have HO456 := n1_; clear n0_ n1_; clear ho hb hg hat))
                  go_roundg k1
                  case measure => have := HK1.out; omega
                  case rel => exact ⟨(y454), (wrap64 (x27_1 + 1)), (by first | rfl | (simp; done) | (simp [*]; done)), H', ⟨by have := HK1.out; omega⟩, ⟨by (with_reducible repeat (first | apply Kd.R_alloc | apply Kd.R_drewN | apply Kd.R_drew)); exact HO456.out⟩, ⟨by repeat (first | (with_reducible first | exact HB.out | apply below_alloc | apply pw_below_drewN | apply below_drew1) | exact HB.out)⟩⟩
                · rw [if_neg c5] at H
                  exact absurd H (by simp)
              · rw [if_neg c4] at H
                exact absurd H (by simp)
            · rw [if_neg c3] at H
              exact absurd H (by simp)
          · rw [if_neg c2] at H
            have c2b0 : decide (x27_1 < (l0.length : Int)) = false := decide_eq_false c2
            clear c2
            obtain rfl := Option.some.inj H
            go_wp2
            go_ret
            exact ⟨_, by first | rfl | (simp [errW_none, errW_some] <;> rfl) | (simp [*, errW_none, errW_some] <;> rfl), by (with_reducible repeat (first | apply Kd.R_alloc | apply Kd.R_drewN | apply Kd.R_drew)); exact HO_6.out, by repeat (first | (with_reducible first | exact HB.out | apply below_alloc | apply pw_below_drewN | apply below_drew1) | exact HB.out)⟩
end Go.Proofs.Ytkppklinmcnecaa.P
end
