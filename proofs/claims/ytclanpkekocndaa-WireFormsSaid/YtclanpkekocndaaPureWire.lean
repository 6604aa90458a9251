/- What the functions of the package wire on numbers and sums come to, in plain words: for all bytes and numbers. -/
import Derived.Test.YtclanpkekocndaaPlain
import Derived.Test.YtclanpkekocndaaPx1
import Derived.Test.YtclanpkekocndaaPx2
import Derived.Test.YtclanpkekocndaaPx3
namespace Go.Proofs.Ytclanpkekocndaa.Plain
open Go.RowKit Go.Proofs.Ytclanpkekocndaa.P Go.Proofs.YtclanpkekocndaaW.PrintWords Go.Proofs.YtclanpkekocndaaW.PrintLast Go.Proofs.YtclanpkekocndaaW.PrintMore
set_option linter.unusedVariables false
set_option linter.unusedSimpArgs false

theorem big_ev (n : Int) : ∀ (s : Nat) (acc : List Int), s ≤ 8 → acc.length + s < 140737488355328 → Ev (fun k => wire_big.l0 k acc n ((s : Int) - 1)) (acc ++ be s n) := by
  intro s
  induction s with
  | zero =>
    intro acc _ _
    refine Ev.step (f := fun _ => some acc) (fun k => ?_) (by simpa [be] using Ev.now acc)
    simp only [wire_big.l0]
    rw [if_neg (by omega)]
  | succ s ih =>
    intro acc hs hl
    refine Ev.step (f := fun k => wire_big.l0 k (acc ++ [(n / 2 ^ (8 * s)) % 256]) n ((s : Int) - 1)) (fun k => ?_) ?_
    · simp only [wire_big.l0]
      rw [show (((s + 1 : Nat) : Int) - 1) = (s : Int) by omega, if_pos (by omega), w64 (x := 8 * (s : Int)) (by omega) (by omega), if_pos (by omega), if_pos (by omega), shr8 n s (by omega), w64 (x := (s : Int) - 1) (by omega) (by omega)]
    · have := ih (acc ++ [(n / 2 ^ (8 * s)) % 256]) (by omega) (by simp; omega)
      simpa [be] using this
theorem big_f (acc : List Int) (n : Int) (s : Nat) (hs : s ≤ 8) (hl : acc.length + s < 140737488355328) : Ev (fun k => wire_big.f k acc n (s : Int)) (acc ++ be s n) :=
  Ev.congr (fun k => by unfold wire_big.f; rw [w64 (by omega) (by omega)]) (big_ev n s acc hs hl)
theorem taken_ev (l : List Int) (hb : Bytes l) (hl : l.length ≤ 9223372036854775807) : ∀ (d i : Nat) (s : Int), i + d = l.length → Ev (fun k => wire_taken.l0 k s l (l.length : Int) (i : Int)) (tk s (l.drop i)) := by
  intro d
  induction d with
  | zero =>
    intro i s hi
    refine Ev.step (f := fun _ => some s) (fun k => ?_) (by rw [List.drop_eq_nil_of_le (by omega)]; exact Ev.now s)
    simp only [wire_taken.l0]
    rw [if_neg (by omega)]
  | succ d ih =>
    intro i s hi
    have hlt : i < l.length := by omega
    have hc := hb _ (List.getElem_mem hlt)
    rw [← rd_at hlt] at hc
    refine Ev.step (f := fun k => wire_taken.l0 k ((s * 256 + rd l (i : Int)) % 18446744073709551616) l (l.length : Int) ((i + 1 : Nat) : Int)) (fun k => ?_) ?_
    · simp only [wire_taken.l0]
      rw [if_pos (by omega), if_pos (by omega), if_pos (by omega), or_step hc.1 hc.2, w64 (by omega) (by omega)]; rfl
    · rw [drop_at hlt, tk_cons]; exact ih (i + 1) _ (by omega)
theorem taken_f (l : List Int) (hb : Bytes l) (hl : l.length ≤ 9223372036854775807) : Ev (fun k => wire_taken.f k l) (tk 0 l) := taken_ev l hb hl l.length 0 0 (by omega)
theorem Sum_ev (l : List Int) (hl : l.length ≤ 9223372036854775807) : ∀ (d i : Nat) (s : Int), i + d = l.length → Ev (fun k => wire_Sum.l0 k s l (l.length : Int) (i : Int)) (sm s (l.drop i)) := by
  intro d
  induction d with
  | zero =>
    intro i s hi
    refine Ev.step (f := fun _ => some s) (fun k => ?_) (by rw [List.drop_eq_nil_of_le (by omega)]; exact Ev.now s)
    simp only [wire_Sum.l0]
    rw [if_neg (by omega)]
  | succ d ih =>
    intro i s hi
    have hlt : i < l.length := by omega
    refine Ev.step (f := fun k => wire_Sum.l0 k (sums s (rd l (i : Int))) l (l.length : Int) ((i + 1 : Nat) : Int)) (fun k => ?_) ?_
    · simp only [wire_Sum.l0]
      rw [if_pos (by omega), if_pos (by omega), if_pos (by omega), w64 (by omega) (by omega)]; rfl
    · rw [drop_at hlt, sm_cons]; exact ih (i + 1) _ (by omega)
/-- The sum of bytes. -/
def sum (l : List Int) : Int := sm 14695981039346656037 l
theorem Sum_f (l : List Int) (hl : l.length ≤ 9223372036854775807) : Ev (fun k => wire_Sum.f k l) (sum l) := Sum_ev l hl l.length 0 _ (by omega)
/-- Count's answer. -/
def count (n : Int) : List Int × Int := if n < 0 then ([], 2) else if n > 2147483647 then ([], 2) else (be 4 n, 0)
theorem Count_f (n : Int) : Ev (fun k => wire_Count.f k n) (count n) := by
  unfold wire_Count.f count
  by_cases h0 : n < 0
  · simp only [if_pos h0]; exact Ev.now _
  · by_cases h1 : n > 2147483647
    · simp only [if_neg h0, if_pos h1]; exact Ev.now _
    · simp only [if_neg h0, if_neg h1]
      rw [wu64_in (by omega) (by omega)]
      exact Ev.bind (f := fun _ t => some (t, 0)) (big_f [] n 4 (by omega) (by simp)) (Ev.now _)
/-- ReadCount's answer. -/
def readCount (l : List Int) : Int × Int × Int := if l.length < 4 then (0, 0, 7) else if tk 0 (l.take 4) > 2147483647 then (0, 0, 8) else (tk 0 (l.take 4), 4, 0)
theorem ReadCount_f (l : List Int) (hb : Bytes l) : Ev (fun k => wire_ReadCount.f k l) (readCount l) := by
  unfold wire_ReadCount.f readCount
  by_cases h0 : l.length < 4
  · rw [if_pos h0]
    refine Ev.congr (f := fun _ => some (0, 0, 7)) (fun k => ?_) (Ev.now _)
    rw [if_pos (by omega)]
  · rw [if_neg h0]
    have ht := taken_f (l.take 4) (hb.take 4) (by simp; omega)
    have hr := tk_range (l := l.take 4) (s := 0) (by omega) (by omega)
    refine Ev.congr (f := fun k => (wire_taken.f k (l.take 4)).bind fun t => if t > 2147483647 then some (0, 0, 8) else some (wrap64 t, 4, 0)) (fun k => ?_) (Ev.bind (f := fun _ t => if t > 2147483647 then some (0, 0, 8) else some (wrap64 t, 4, 0)) ht ?_)
    · rw [if_neg (by omega), if_pos (by omega)]
    · by_cases h1 : tk 0 (l.take 4) > 2147483647
      · simp only [if_pos h1]; exact Ev.now _
      · simp only [if_neg h1]; rw [w64 (by omega) (by omega)]; exact Ev.now _
theorem Same_f (l : List Int) : conclaveref08_Same.f l l = some true := by simp [conclaveref08_Same.f]
theorem nums_inj {a b : List Int} (ha : Bytes a) (hb : Bytes b) (h : (a.map fun n => UInt8.ofNat n.toNat) = b.map fun n => UInt8.ofNat n.toNat) : a = b := by
  induction a generalizing b with
  | nil => cases b with
    | nil => rfl
    | cons y b => simp at h
  | cons x a ih => cases b with
    | nil => simp at h
    | cons y b =>
      simp only [List.map_cons, List.cons.injEq] at h
      have hx := ha x (List.mem_cons_self ..)
      have hy := hb y (List.mem_cons_self ..)
      have e := congrArg UInt8.toNat h.1
      simp only [UInt8.toNat_ofNat'] at e
      rw [ih (fun z hz => ha z (List.mem_cons_of_mem _ hz)) (fun z hz => hb z (List.mem_cons_of_mem _ hz)) h.2]
      congr 1
      omega
theorem Same_any (a b : List Int) (ha : Bytes a) (hb : Bytes b) : conclaveref08_Same.f a b = some (decide (a = b)) := by
  unfold conclaveref08_Same.f
  rw [ByteArray.toList_eq, ByteArray.toList_eq, strOfNums_data, strOfNums_data]
  congr 1
  by_cases h : a = b
  · subst h; simp
  · rw [decide_eq_false h]
    simp only [beq_eq_false_iff_ne, ne_eq]
    exact fun h' => h (nums_inj ha hb h')
end Go.Proofs.Ytclanpkekocndaa.Plain
