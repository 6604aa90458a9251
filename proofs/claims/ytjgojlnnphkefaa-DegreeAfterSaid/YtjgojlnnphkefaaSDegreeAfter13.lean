import Derived.Test.YtjgojlnnphkefaaSDegreeAfter0
import Derived.Test.YtjgojlnnphkefaaSDegreeAfter7
import Derived.Deep.WholeRow
import Derived.StillTailTactics
import Derived.Shelf.Bits.Mul64
import Derived.Laws.CopyOwn
import Derived.Laws.Rows
namespace Go.Proofs.Ytjgojlnnphkefaa.Arr
open Go.RowKit Go.Proofs Go.Proofs.YtjgojlnnphkefaaW.PrintWords
set_option linter.unusedVariables false
@[reducible] def ptrOf : Value → Value
  | .slice A _ _ => .pointer A
  | v => v
def lenOf : Value → Nat
  | .slice _ n _ => n
  | _ => 0
@[simp, go_sem] theorem ptrOf_slice (A : Option Addr) (n c : Nat) : ptrOf (.slice A n c) = .pointer A := rfl
section
variable {P : Program} {ops : Array Oper} {rest : List Oper} {o : Oper} {a : Act} {Q : Exit → Act → World → Prop}
variable {α : Type} {enc : α → Value} {h1 : ∀ x, (enc x).oneCell' = true}
theorem own_blk_of {w : World} {base e n : Nat} {g : Nat} {cs : List Value} (hb : base ≤ g) (hh : w.heap[g]? = some (.cells cs.toArray e (0, 0))) (hn : cs.length = n) (hm : n ≤ maxLen) : w.ownsRow base e 1 (.slice (some ⟨g, 0, none⟩) n n) n cs :=
  ⟨by omega, .inr ⟨g, n, cs.toArray, rfl, hb, hh, Nat.le_refl _, hm, by simpa using hn, by simp [List.take_of_length_le (Nat.le_of_eq hn)]⟩⟩
theorem R_blk {w : World} {base e n : Nat} {g : Nat} {xs : List α} (hb : base ≤ g) (hh : w.heap[g]? = some (.cells (encs enc xs).toArray e (0, 0))) (hn : xs.length = n) (hm : n ≤ maxLen) (ok : Nat → Prop) (hok : ok g) :
    (Kd.scalar enc h1).R e w base ok (.slice (some ⟨g, 0, none⟩) n n) xs := by
  subst hn
  refine ⟨fun k hk => ?_, encs enc xs, own_blk_of hb hh (by simp [encs]) hm, Kd.reps_scalar xs⟩
  have : g = k := by simpa [Value.ownBlock] using hk
  subst this; exact hok
theorem cells_laid {W : World} {o2 : Oper} (hgd : o.guard = none) {N : Tmp} (hN : o.dst = some N) (t : Nat) (y : Operand) (ho : o.op = .alloc t) (hgd2 : o2.guard = none) (ho2 : o2.op = .store t (.tmp N) y) (hN2 : o2.dst = none) {cs : Array Value}
    (hx : ∀ q, (a.put (some N) q).eval (.tmp N) = q) (hy : ∀ q, (a.put (some N) q).eval y = .agg cs) {zs : Array Value}
    (hz : (P.info? t).map (fun i => (i.zero, i.size)) = some (some (.agg zs), cs.size)) (hs : zs.size = cs.size) (hc1 : cs.all (·.oneCell') = true)
    (h : ∀ g, g = W.heap.size → ∀ w1, w1.heap[g]? = some (.cells cs t (0, 0)) → Below W.heap.size W w1 → wpList P ops Q rest (a.put (some N) (.pointer (some ⟨g, 0, none⟩))) w1) :
    wpList P ops Q (o :: o2 :: rest) a W := by
  obtain ⟨hz1, hz2⟩ := zero_of_info hz
  refine Kd.event_run (v := .pointer (some ⟨W.heap.size, 0, none⟩)) (w1 := W.alloc (.cells zs t)) hgd ?_ ?_
  · unfold execOp
    simp [ho, Instr.alloc, Sem.run_bind, hz1, newVar, newRow, newObj, Value.cells]
    rfl
  · rw [hN]
    have hrun := run_storeAt_new (P := P) W t zs cs hz2 hs hc1
    refine store_event (w1 := W.alloc (.cells cs t)) hgd2 ho2 hN2 ?_ (fun w' hw' => ?_)
    · unfold execOp
      simp only [ho2, hx, hy, Sem.run_bind, hrun]
      rfl
    · subst hw'
      exact h _ rfl _ (heap_alloc_last W _) (below_alloc (Below.refl _ _) _)
theorem make_blk {W : World} {e bytes : Nat} (hgd : o.guard = none) {N : Tmp} (hd : o.dst = some N) (t : TypeId) (x y : Operand) (ho : o.op = .makeSlice t x y) (n : Int) (hx : a.eval x = .int .i64 n) (hy : a.eval y = .int .i64 n)
    (ht : P.underlying t = some (.slice e)) (z : α) (hinfo : (P.info? e).map (fun i => (i.zero, i.size, i.bytes)) = some (some (enc z), 1, bytes)) (hz1 : (enc z).cells = #[enc z]) (hb0 : 0 < bytes) (h0 : 0 ≤ n) (hl : n.toNat * bytes ≤ 281474976710656)
    (h : ∀ g, g = W.heap.size → ∀ w1, w1.heap[g]? = some (.cells (List.replicate n.toNat (enc z)).toArray e (0, 0)) → Below W.heap.size W w1 → wpList P ops Q rest (a.put o.dst (.slice (some ⟨g, 0, none⟩) n.toNat n.toNat)) w1) : wpList P ops Q (o :: rest) a W := by
  obtain ⟨m, rfl⟩ := Int.eq_ofNat_of_zero_le h0
  simp only [Int.toNat_natCast] at hl h
  obtain ⟨i0, hi, hzz⟩ := Option.map_eq_some_iff.1 hinfo
  simp only [Prod.mk.injEq] at hzz
  obtain ⟨hz0, hzs, hz2⟩ := hzz
  have hm : m ≤ 281474976710656 := Nat.le_trans (Nat.le_mul_of_pos_right _ hb0) hl
  have hr := run_make (P := P) W t e i0 (enc z) ht hi hz0 .i64 .i64 (m : Int) (m : Int) (by omega) (by omega)
    (by
      have h3 : ((i0.bytes * m : Nat) : Int) ≤ 281474976710656 := by rw [hz2, Nat.mul_comm]; omega
      rwa [Int.natCast_mul] at h3) (by omega)
  simp only [Int.toNat_natCast] at hr
  rw [hzs, Nat.mul_one] at hr
  refine Kd.event_run (v := .slice (some ⟨W.heap.size, 0, none⟩) m m) (w1 := W.alloc (.cells (madeCells (enc z).cells m) e)) hgd ?_ (h _ rfl _ ?_ (below_alloc (Below.refl _ _) _))
  · simp [execOp, ho, hx, hy, hr]
  · rw [heap_alloc_last]
    congr 2
    apply Array.ext
    · simp [madeCells]
    · intro i h1 h2
      simp [madeCells, hz1, Nat.mod_one]
end
end Go.Proofs.Ytjgojlnnphkefaa.Arr
