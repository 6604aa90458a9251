import Derived.Test.YtjgojlnnphkefaaSDegreeStays0
import Derived.Test.YtjgojlnnphkefaaSDegreeStays3
import Derived.Test.YtjgojlnnphkefaaSDegreeStays8
import Derived.Deep.WholeRow
import Derived.StillTailTactics
import Derived.Shelf.Bits.Mul64
import Derived.Laws.CopyOwn
import Derived.Laws.Rows
namespace Go.Proofs.Ytjgojlnnphkefaa.Arr
open Go.RowKit Go.Proofs Go.Proofs.YtjgojlnnphkefaaW.PrintWords
set_option linter.unusedVariables false
@[reducible] def ptrOf : Value → Value
  | .slice A _ _ => .pointer A
  | v => v
@[simp, go_sem] theorem ptrOf_slice (A : Option Addr) (n c : Nat) : ptrOf (.slice A n c) = .pointer A := rfl
theorem len_of {A : Option Addr} {n c m : Nat} (h : ∃ g, Value.slice A n c = .slice (some ⟨g, 0, none⟩) m m) : n = m := by
  obtain ⟨g, h⟩ := h
  injection h
section
variable {P : Program} {ops : Array Oper} {rest : List Oper} {o : Oper} {a : Act} {Q : Exit → Act → World → Prop}
variable {α : Type} {enc : α → Value} {h1 : ∀ x, (enc x).oneCell' = true}
theorem own_blk_of {w : World} {base e n : Nat} {g : Nat} {cs : List Value} (hb : base ≤ g) (hh : w.heap[g]? = some (.cells cs.toArray e (0, 0))) (hn : cs.length = n) (hm : n ≤ maxLen) : w.ownsRow base e 1 (.slice (some ⟨g, 0, none⟩) n n) n cs :=
  ⟨by omega, .inr ⟨g, n, cs.toArray, rfl, hb, hh, Nat.le_refl _, hm, by simpa using hn, by simp [List.take_of_length_le (Nat.le_of_eq hn)]⟩⟩
theorem R_blk {w : World} {base e n : Nat} {g : Nat} {xs : List α} (hb : base ≤ g) (hh : w.heap[g]? = some (.cells (encs enc xs).toArray e (0, 0))) (hn : xs.length = n) (hm : n ≤ maxLen) (ok : Nat → Prop) (hok : ok g) :
    (Kd.scalar enc h1).R e w base ok (.slice (some ⟨g, 0, none⟩) n n) xs := by
  subst hn
  refine ⟨fun k hk => ?_, encs enc xs, own_blk_of hb hh (by simp [encs]) hm, Kd.reps_scalar xs⟩
  have : g = k := by simpa [Value.ownBlock] using hk
  subst this; exact hok
theorem R_whole {w : World} {base e n : Nat} {ok : Nat → Prop} {v : Value} {xs : List α} (h : (Kd.scalar enc h1).R e w base ok v xs) (hv : ∃ g, v = .slice (some ⟨g, 0, none⟩) n n) :
    ∃ g, v = .slice (some ⟨g, 0, none⟩) n n ∧ xs.length = n ∧ w.heap[g]? = some (.cells (encs enc xs).toArray e (0, 0)) := by
  obtain ⟨g, rfl⟩ := hv
  obtain ⟨_, inner, ho, hr⟩ := h
  have hi : inner = encs enc xs := Kd.reps_encs hr
  subst hi
  obtain ⟨hl, hx⟩ := ho
  rcases hx with ⟨hx, _⟩ | ⟨g', cap, cur, hx, _, hh, h2, h3, h4, h5⟩
  · cases hx
  · injection hx with hx1 hx2 hx3
    injection hx1 with hx1
    injection hx1 with hx1
    subst hx1
    refine ⟨g, rfl, hx2.symm, ?_⟩
    rw [hh]
    have hsz : (Kd.scalar enc h1).sz = 1 := rfl
    rw [hsz] at h4 h5
    have e1 : cur.toList.length = xs.length * 1 := by rw [Array.length_toList, h4]; omega
    rw [List.take_of_length_le (Nat.le_of_eq e1)] at h5
    rw [← h5]
theorem arr_new {W : World} (hgd : o.guard = none) {N : Tmp} (_hN : o.dst = some N) (t n : Nat) (ho : o.op = .alloc t) (z : α)
    (hz : (P.info? t).map (fun i => (i.zero, i.size)) = some (some (.agg (Array.replicate n (enc z))), n)) (hn : n ≤ maxLen) (ok : Nat → Prop) (hok : ok W.heap.size)
    (h : ∀ v w1, (∃ g, v = .slice (some ⟨g, 0, none⟩) n n) → (Kd.scalar enc h1).R t w1 W.heap.size ok v (List.replicate n z) → Below W.heap.size W w1 → wpList P ops Q rest (a.put o.dst (ptrOf v)) w1) :
    wpList P ops Q (o :: rest) a W := by
  obtain ⟨hz1, hz2⟩ := zero_of_info hz
  refine Kd.event_run (v := .pointer (some ⟨W.heap.size, 0, none⟩)) (w1 := W.alloc (.cells (Array.replicate n (enc z)) t)) hgd ?_ (h (.slice (some ⟨W.heap.size, 0, none⟩) n n) _ ⟨_, rfl⟩ ?_ (below_alloc (Below.refl _ _) _))
  · unfold execOp
    simp [ho, Instr.alloc, Sem.run_bind, hz1, newVar, newRow, newObj, Value.cells]
    rfl
  · refine R_blk (Nat.le_refl _) ?_ (by simp) hn ok hok
    rw [heap_alloc_last]
    simp [encs, List.map_replicate]
theorem below_two {a b c : World} (h1 : Below a.heap.size a b) (h2 : Below b.heap.size b c) : Below a.heap.size a c := below_step h1 h2
theorem below_grown {a b c d : World} {row : Option Nat} (h0 : Below a.heap.size a b) (h1 : Below b.heap.size b c) (hg : c.grownBy d row) (hr : ∀ k, row = some k → a.heap.size ≤ k) : Below a.heap.size a d :=
  pw_below_grown (below_step h0 h1) row (below_size (below_step h0 h1)) hg hr
theorem arr_laid {W : World} {o2 : Oper} (hgd : o.guard = none) {N : Tmp} (hN : o.dst = some N) (t n : Nat) (y : Operand) (ho : o.op = .alloc t) (hgd2 : o2.guard = none) (ho2 : o2.op = .store t (.tmp N) y) (hN2 : o2.dst = none) {xs : List α}
    (hx : ∀ q, (a.put (some N) q).eval (.tmp N) = q) (hy : ∀ q, (a.put (some N) q).eval y = .agg (encs enc xs).toArray) (hl : xs.length = n) (z : α)
    (hz : (P.info? t).map (fun i => (i.zero, i.size)) = some (some (.agg (Array.replicate n (enc z))), n)) (hn : n ≤ maxLen) (ok : Nat → Prop) (hok : ok W.heap.size)
    (h : ∀ v w1, (∃ g, v = .slice (some ⟨g, 0, none⟩) n n) → (Kd.scalar enc h1).R t w1 W.heap.size ok v xs → Below W.heap.size W w1 → wpList P ops Q rest (a.put (some N) (ptrOf v)) w1) :
    wpList P ops Q (o :: o2 :: rest) a W := by
  obtain ⟨hz1, hz2⟩ := zero_of_info hz
  refine Kd.event_run (v := .pointer (some ⟨W.heap.size, 0, none⟩)) (w1 := W.alloc (.cells (Array.replicate n (enc z)) t)) hgd ?_ ?_
  · unfold execOp
    simp [ho, Instr.alloc, Sem.run_bind, hz1, newVar, newRow, newObj, Value.cells]
    rfl
  · rw [hN]
    have hrun := run_storeAt_new (P := P) W t (Array.replicate n (enc z)) (encs enc xs).toArray (by rw [hz2]; simp [encs, hl]) (by simp [encs, hl]) (by simp [encs, h1])
    refine store_event (w1 := W.alloc (.cells (encs enc xs).toArray t)) hgd2 ho2 hN2 ?_ (fun w' hw' => ?_)
    · unfold execOp
      simp only [ho2, hx, hy, Sem.run_bind, hrun]
      rfl
    · subst hw'
      exact h (.slice (some ⟨W.heap.size, 0, none⟩) n n) _ ⟨_, rfl⟩ (R_blk (Nat.le_refl _) (heap_alloc_last W _) hl hn ok hok) (below_alloc (Below.refl _ _) _)
theorem cells_laid {W : World} {o2 : Oper} (hgd : o.guard = none) {N : Tmp} (hN : o.dst = some N) (t : Nat) (y : Operand) (ho : o.op = .alloc t) (hgd2 : o2.guard = none) (ho2 : o2.op = .store t (.tmp N) y) (hN2 : o2.dst = none) {cs : Array Value}
    (hx : ∀ q, (a.put (some N) q).eval (.tmp N) = q) (hy : ∀ q, (a.put (some N) q).eval y = .agg cs) {zs : Array Value}
    (hz : (P.info? t).map (fun i => (i.zero, i.size)) = some (some (.agg zs), cs.size)) (hs : zs.size = cs.size) (hc1 : cs.all (·.oneCell') = true)
    (h : ∀ g, g = W.heap.size → ∀ w1, w1.heap[g]? = some (.cells cs t (0, 0)) → Below W.heap.size W w1 → wpList P ops Q rest (a.put (some N) (.pointer (some ⟨g, 0, none⟩))) w1) :
    wpList P ops Q (o :: o2 :: rest) a W := by
  obtain ⟨hz1, hz2⟩ := zero_of_info hz
  refine Kd.event_run (v := .pointer (some ⟨W.heap.size, 0, none⟩)) (w1 := W.alloc (.cells zs t)) hgd ?_ ?_
  · unfold execOp
    simp [ho, Instr.alloc, Sem.run_bind, hz1, newVar, newRow, newObj, Value.cells]
    rfl
  · rw [hN]
    have hrun := run_storeAt_new (P := P) W t zs cs hz2 hs hc1
    refine store_event (w1 := W.alloc (.cells cs t)) hgd2 ho2 hN2 ?_ (fun w' hw' => ?_)
    · unfold execOp
      simp only [ho2, hx, hy, Sem.run_bind, hrun]
      rfl
    · subst hw'
      exact h _ rfl _ (heap_alloc_last W _) (below_alloc (Below.refl _ _) _)
theorem make_blk {W : World} {e bytes : Nat} (hgd : o.guard = none) {N : Tmp} (hd : o.dst = some N) (t : TypeId) (x y : Operand) (ho : o.op = .makeSlice t x y) (n : Int) (hx : a.eval x = .int .i64 n) (hy : a.eval y = .int .i64 n)
    (ht : P.underlying t = some (.slice e)) (z : α) (hinfo : (P.info? e).map (fun i => (i.zero, i.size, i.bytes)) = some (some (enc z), 1, bytes)) (hz1 : (enc z).cells = #[enc z]) (hb0 : 0 < bytes) (h0 : 0 ≤ n) (hl : n.toNat * bytes ≤ 281474976710656)
    (h : ∀ g, g = W.heap.size → ∀ w1, w1.heap[g]? = some (.cells (List.replicate n.toNat (enc z)).toArray e (0, 0)) → Below W.heap.size W w1 → wpList P ops Q rest (a.put o.dst (.slice (some ⟨g, 0, none⟩) n.toNat n.toNat)) w1) : wpList P ops Q (o :: rest) a W := by
  obtain ⟨m, rfl⟩ := Int.eq_ofNat_of_zero_le h0
  simp only [Int.toNat_natCast] at hl h
  obtain ⟨i0, hi, hzz⟩ := Option.map_eq_some_iff.1 hinfo
  simp only [Prod.mk.injEq] at hzz
  obtain ⟨hz0, hzs, hz2⟩ := hzz
  have hm : m ≤ 281474976710656 := Nat.le_trans (Nat.le_mul_of_pos_right _ hb0) hl
  have hr := run_make (P := P) W t e i0 (enc z) ht hi hz0 .i64 .i64 (m : Int) (m : Int) (by omega) (by omega)
    (by
      have h3 : ((i0.bytes * m : Nat) : Int) ≤ 281474976710656 := by rw [hz2, Nat.mul_comm]; omega
      rwa [Int.natCast_mul] at h3) (by omega)
  simp only [Int.toNat_natCast] at hr
  rw [hzs, Nat.mul_one] at hr
  refine Kd.event_run (v := .slice (some ⟨W.heap.size, 0, none⟩) m m) (w1 := W.alloc (.cells (madeCells (enc z).cells m) e)) hgd ?_ (h _ rfl _ ?_ (below_alloc (Below.refl _ _) _))
  · simp [execOp, ho, hx, hy, hr]
  · rw [heap_alloc_last]
    congr 2
    apply Array.ext
    · simp [madeCells]
    · intro i h1 h2
      simp [madeCells, hz1, Nat.mod_one]
theorem arr_load {W : World} (hgd : o.guard = none) {N : Tmp} (_hN : o.dst = some N) (t n el : Nat) (x : Operand) (ho : o.op = .load t x) (v : Value) (hx : a.eval x = ptrOf v) (hv : ∃ g, v = .slice (some ⟨g, 0, none⟩) n n)
    {base : Nat} {ok : Nat → Prop} {xs : List α} (hR : (Kd.scalar enc h1).R t W base ok v xs) (hu : P.underlying t = some (.array n el)) (hi : (P.info? t).map (·.size) = some n)
    (h : xs.length = n → wpList P ops Q rest (a.put o.dst (.agg (encs enc xs).toArray)) W) : wpList P ops Q (o :: rest) a W := by
  obtain ⟨g, rfl, hl, hh⟩ := R_whole hR hv
  exact wpList_load_row hgd t x ho g hx t _ (0, 0) _ hh hu rfl (by rw [hi]; simp [encs, hl]) (h hl)
theorem heap_setRow_same (w : World) (g : Nat) (cs cur : Array Value) (t : TypeId) (hg : w.heap[g]? = some (.cells cur t (0, 0))) : (w.setRow g cs).heap[g]? = some (.cells cs t (0, 0)) := by
  have hlt : g < w.heap.size := blk_lt hg
  simp only [World.setRow, Array.getElem?_modify, if_pos, hg, Option.map_some]
theorem heap_setRow_other (w : World) (g k : Nat) (cs : Array Value) (hk : k ≠ g) : (w.setRow g cs).heap[k]? = w.heap[k]? := by
  simp only [World.setRow, Array.getElem?_modify]
  rw [if_neg (Ne.symm hk)]
theorem arr_store {W : World} (hgd : o.guard = none) (t n : Nat) {p : Tmp} (y : Operand) (ho : o.op = .store t (.tmp p) y) (hN : o.dst = none) (v : Value) (hx : a.eval (.tmp p) = ptrOf v) (hv : ∃ g, v = .slice (some ⟨g, 0, none⟩) n n)
    {xs : List α} (hy : a.eval y = .agg (encs enc xs).toArray) (hl : xs.length = n)
    {base : Nat} {ok : Nat → Prop} {ys : List α} (hR : (Kd.scalar enc h1).R t W base ok v ys) (hi : (P.info? t).map (·.size) = some n)
    (h : ∀ w1, (Kd.scalar enc h1).R t w1 base ok v xs → W.grownBy w1 v.ownBlock → wpList P ops Q rest a w1) : wpList P ops Q (o :: rest) a W := by
  have hok := hR.1
  obtain ⟨g, rfl, hly, hh⟩ := R_whole hR hv
  obtain ⟨inner, ho2⟩ := Kd.R_own hR
  have hb := own_base ho2 g (by simp [Value.ownBlock])
  have hcap : n ≤ maxLen := by
    rcases ho2.2 with ⟨hx, _⟩ | ⟨g', cap, cur, hx, _, _, _, h3, _⟩
    · cases hx
    · injection hx with _ _ hx3; omega
  have hrun := run_storeVar_row (P := P) W g t t (encs enc ys).toArray (encs enc xs).toArray hh (by rw [hi]; simp [encs, hl]) (by simp [encs, hl, hly]) (by simp [encs, h1])
  refine store_event (w1 := W.setRow g (encs enc xs).toArray) hgd ho hN ?_ (fun w' hw' => ?_)
  · unfold execOp
    simp only [ho, hx, hy, Instr.storeAt, ptrOf, Instr.sureAddr, Sem.run_bind, Sem.run_pure, Result.andThen_ok, hrun]
  · subst hw'
    have hblk := heap_setRow_same W g (encs enc xs).toArray _ t hh
    refine h _ (R_blk hb hblk hl hcap ok (hok g (by simp [Value.ownBlock]))) ⟨rfl, rfl, rfl, by simp, fun k hk hne => heap_setRow_other W g k _ (fun e => hne (by rw [e]; rfl))⟩
end
end Go.Proofs.Ytjgojlnnphkefaa.Arr
