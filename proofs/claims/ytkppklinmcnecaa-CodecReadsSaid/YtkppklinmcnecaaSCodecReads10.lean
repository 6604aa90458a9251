import Derived.Test.YtkppklinmcnecaaSCodecReads9
import Derived.Defers
import Derived.Recover
import Derived.WalkSmall
import Derived.Deep.RegionHeld3
import Derived.Laws.EntriesVeiled
import Derived.Laws.Externs
import Derived.Shelf.Spec.BitsCarry
import Derived.Maps.OwnOps
import Derived.Maps.Views
namespace Go.Proofs.Ytkppklinmcnecaa.Hand
open Go.RowKit Go.Proofs.YtkppklinmcnecaaW.PrintWords Go.Proofs.YtkppklinmcnecaaW.PrintLast Go.Proofs.YtkppklinmcnecaaW.PrintMore
set_option linter.unusedVariables false
set_option linter.unusedSimpArgs false
set_option maxRecDepth 100000 in
theorem run_append_zeros_nil {P : Program} (w : World) (t ti ty e : TypeId) (i : TypeInfo) (z : Value) (ht : P.underlying t = some (.slice e)) (hti : P.underlying ti = some (.int .i64)) (hi : P.info? e = some i) (hz : i.zero = some z)
    (n : Nat) (h0 : 0 < n) (hs : 0 < i.size) (h48 : n * i.bytes ≤ 140737488355328) (h1 : 0 < i.bytes) :
    (Builtin.append_ #[t, ti] ty #[.slice none 0 0, .int .i64 (n : Int)]).run P w =
      .ok (.slice (some ⟨w.heap.size, 0, none⟩) n (grownCap w n 0 e)) (w.drew.alloc (.cells (Builtin.zeroCells z.cells n ++ Builtin.zeroCells z.cells (grownCap w n 0 e - n)) e)) := by
  have hn : n ≠ 0 := by omega
  have hle : n ≤ 140737488355328 := Nat.le_trans (Nat.le_mul_of_pos_right _ h1) h48
  have hw : IntKind.i64.wrap (n : Int) = n := by rw [IntKind.wrap_i64]; omega
  have h63' : ¬ (9223372036854775807 < (n : Int)) := by omega
  have h48' : ¬ (281474976710656 < Builtin.nextslicecap n 0 * i.bytes) := by rw [nextslicecap_zero h0]; omega
  have hneg : ¬ ((n : Int) < 0) := by omega
  have h48i : ¬ (281474976710656 < (n : Int) * (i.bytes : Int)) := by
    have := Int.ofNat_le.2 h48
    rw [Int.natCast_mul] at this
    omega
  have hsz : ¬ (n * i.size = 0) := by
    intro h
    rcases Nat.mul_eq_zero.1 h with h | h <;> omega
  have hle0 : ¬ ((n : Int) ≤ 0) := by omega
  have hmax : max (n : Int) 0 = n := by omega
  simp [Builtin.append_, run_underlying ht, run_underlying hti, sizeOf, typeInfo, zeroValue, hi, hz, Builtin.lenOf, hn, h63', h48', hw, hneg, h48i, hsz, Question.forced, run_firstCells_none, newRow, grownCap, asInt, asIntOf, hle0, hmax]
theorem own_emptied {w : World} {base : Nat} {e : TypeId} {size n g cap : Nat} {xs : List Value} (h : w.ownsRow base e size (.slice (some ⟨g, 0, none⟩) n cap) n xs) : w.ownsRow base e size (.slice (some ⟨g, 0, none⟩) 0 cap) 0 [] := by
  obtain ⟨h1, h2⟩ := h
  refine ⟨by simp, .inr ?_⟩
  rcases h2 with ⟨h3, _⟩ | ⟨g', cap', cur, he, hb, hh, hn, hc, hs, ht⟩
  · cases h3
  · injection he with ha hb' hc'
    injection ha with ha
    injection ha with ha
    subst ha; subst hc'
    exact ⟨g, cap, cur, rfl, hb, hh, Nat.zero_le _, hc, hs, by simp⟩
theorem R_of_own_nil {α : Type} (d : Kd α) {e : Nat} {w : World} {base : Nat} {ok : Nat → Prop} {v : Value} (h : w.ownsRow base e d.sz v 0 []) (h0 : ∀ k, v.ownBlock = some k → ok k) : Kd.R d e w base ok v [] :=
  ⟨h0, [], h, by simp, fun j p hj => by simp at hj⟩
theorem wpList_append_zeros_nil {P : Program} {ops : Array Oper} {rest : List Oper} {o : Oper} {a : Act} {Q : Exit → Act → World → Prop} {w : World} (hgd : o.guard = none) (s x : Operand) (t ti e : TypeId)
    (ho : o.op = .call { callee := .builtin .append, args := #[s, x], argTypes := #[t, ti] }) (ht : P.underlying t = some (.slice e)) (hti : P.underlying ti = some (.int .i64)) (z : Value) (size bytes : Nat)
    (hinfo : (P.info? e).map (fun i => (i.zero, i.size, i.bytes)) = some (some z, size, bytes)) (hzs : z.cells.size = size) (hsz : 0 < size) (h1 : 0 < bytes) (n : Nat) (h0 : 0 < n) (h48 : n * bytes ≤ 140737488355328)
    (hs : a.eval s = .slice none 0 0) (hx : a.eval x = .int .i64 (n : Int)) {base : Nat} (hbase : base ≤ w.heap.size)
    (h : ∀ cap w', w'.ownsRow base e size (.slice (some ⟨w.heap.size, 0, none⟩) n cap) n (Builtin.zeroCells z.cells n).toList → Below w.heap.size w w' → wpList P ops Q rest (a.put o.dst (.slice (some ⟨w.heap.size, 0, none⟩) n cap)) w') : wpList P ops Q (o :: rest) a w := by
  obtain ⟨i, hi, hzz⟩ := Option.map_eq_some_iff.1 hinfo
  simp only [Prod.mk.injEq] at hzz
  obtain ⟨hz0, rfl, rfl⟩ := hzz
  have hr := run_append_zeros_nil (P := P) w t ti o.type e i z ht hti hi hz0 n h0 hsz h48 h1
  have hle : n ≤ 140737488355328 := Nat.le_trans (Nat.le_mul_of_pos_right _ h1) h48
  have hge := grownCap_ge w n 0 e
  have hcm : grownCap w n 0 e ≤ maxLen := grownCap_le_maxLen w n 0 e (by simp only [maxLen]; omega)
  refine wpList_plain hgd fun K hK => ?_
  unfold Oper.wp execOp
  simp only [ho, resolve, invoke, builtin, Sem.run_bind, Sem.run_pure, Result.andThen_ok, List.map_toArray, List.map_cons, List.map_nil, hs, hx, hr]
  refine hK _ _ (h _ _ ⟨by simp [size_zeroCells, hzs], .inr ⟨w.heap.size, _, _, rfl, hbase, heap_alloc_new w.drew _, hge, hcm, ?_, ?_⟩⟩ ?_)
  · simp only [Array.size_append, size_zeroCells, hzs, ← Nat.add_mul]
    congr 1
    omega
  · simp only [Array.toList_append]
    have hl : (Builtin.zeroCells z.cells n).toList.length = n * i.size := by simp [size_zeroCells, hzs]
    rw [← hl]
    exact List.take_left
  · exact below_alloc (below_drew (Below.refl _ _)) _
def slen {α : Type} (l : List (List α)) : Int := (l.map (fun x => (x.length : Int))).sum
theorem slen_nonneg {α : Type} (l : List (List α)) : 0 ≤ slen l := by
  induction l with
  | nil => simp [slen]
  | cons x l ih => simp only [slen, List.map_cons, List.sum_cons] at ih ⊢; omega
theorem slen_append {α : Type} (l m : List (List α)) : slen (l ++ m) = slen l + slen m := by simp [slen]
theorem slen_one {α : Type} (x : List α) : slen [x] = x.length := by simp [slen]
theorem slen_take_le {α : Type} (l : List (List α)) (n : Nat) : slen (l.take n) ≤ slen l := by
  have h := slen_append (l.take n) (l.drop n)
  rw [List.take_append_drop] at h
  have := slen_nonneg (l.drop n)
  omega
theorem slen_step {α : Type} (l : List (List α)) (i : Int) (h0 : 0 ≤ i) (h1 : i < (l.length : Int)) : slen (l.take (i + 1).toNat) = slen (l.take i.toNat) + (l.getD i.toNat []).length := by
  have e : (i + 1).toNat = i.toNat + 1 := by omega
  have hl : i.toNat < l.length := by omega
  rw [e, List.take_succ_eq_append_getElem hl, slen_append, slen_one]
  simp [List.getD_eq_getElem?_getD, hl]
theorem slen_drop {α : Type} (l : List (List α)) (i : Int) (h0 : 0 ≤ i) (h1 : i < (l.length : Int)) : slen (l.drop i.toNat) = (l.getD i.toNat []).length + slen (l.drop (i + 1).toNat) := by
  have e : (i + 1).toNat = i.toNat + 1 := by omega
  have hl : i.toNat < l.length := by omega
  rw [e, List.drop_eq_getElem_cons hl, show ∀ (x : List α) m, slen (x :: m) = x.length + slen m from fun x m => by simp [slen]]
  simp [List.getD_eq_getElem?_getD, hl]
def Uniq (l : List Int) : Prop := ∀ i j : Nat, i < j → ∀ (hj : j < l.length) (hi : i < l.length), l[i] ≠ l[j]
theorem Uniq.step {l : List Int} {n : Nat} (hn : n < l.length) (hu : Uniq (l.take n)) (h : l[n] ∉ l.take n) : Uniq (l.take (n + 1)) := by
  intro i j hij hj hi
  rw [List.length_take] at hi hj
  rw [List.getElem_take, List.getElem_take]
  by_cases e : j = n
  · subst e
    intro e
    exact h (List.mem_iff_getElem.2 ⟨i, by rw [List.length_take]; omega, by rw [List.getElem_take]; exact e⟩)
  · have := hu i j hij (by rw [List.length_take]; omega) (by rw [List.length_take]; omega)
    rw [List.getElem_take, List.getElem_take] at this
    exact this
end Go.Proofs.Ytkppklinmcnecaa.Hand
