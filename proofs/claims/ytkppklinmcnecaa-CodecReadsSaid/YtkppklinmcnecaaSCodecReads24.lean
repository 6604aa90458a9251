import Derived.Test.YtkppklinmcnecaaSCodecReads15
import Derived.Test.YtkppklinmcnecaaSCodecReads16
import Derived.Test.YtkppklinmcnecaaSCodecReads17
import Derived.Test.YtkppklinmcnecaaSCodecReads18
import Derived.Test.YtkppklinmcnecaaSCodecReads20
import Derived.Test.YtkppklinmcnecaaSCodecReads21
section
namespace Go.Proofs.Ytkppklinmcnecaa.Plain
open Go.RowKit Go.Proofs.YtkppklinmcnecaaW.PrintWords Go.Proofs.YtkppklinmcnecaaW.PrintLast Go.Proofs.YtkppklinmcnecaaW.PrintMore
set_option linter.unusedVariables false
set_option linter.unusedSimpArgs false
theorem w64 {x : Int} (h0 : -9223372036854775808 ≤ x) (h1 : x ≤ 9223372036854775807) : wrap64 x = x := by unfold wrap64; omega
theorem wu64 (x : Int) : IntKind.u64.wrap x = x % 18446744073709551616 := by simp [IntKind.wrap, IntKind.bits, IntKind.signed]
theorem wu64_in {x : Int} (h0 : 0 ≤ x) (h1 : x < 18446744073709551616) : IntKind.u64.wrap x = x := by rw [wu64]; omega
theorem wf_u8 {x : Int} (h : (Lit.int .u8 x).wf = true) : 0 ≤ x ∧ x < 256 := by
  simp [Lit.wf, IntKind.min, IntKind.max, IntKind.bits, IntKind.signed] at h; omega
def Bytes (l : List Int) : Prop := ∀ x ∈ l, 0 ≤ x ∧ x < 256
theorem bytes_of_wf {l : List Int} (h : ∀ x ∈ l, (Lit.int .u8 x).wf = true) : Bytes l := fun x hx => wf_u8 (h x hx)
theorem Bytes.take {l : List Int} (h : Bytes l) (n : Nat) : Bytes (l.take n) := fun x hx => h x (List.mem_of_mem_take hx)
theorem Bytes.drop {l : List Int} (h : Bytes l) (n : Nat) : Bytes (l.drop n) := fun x hx => h x (List.mem_of_mem_drop hx)
theorem Bytes.append {a b : List Int} (h : Bytes a) (h' : Bytes b) : Bytes (a ++ b) := fun x hx => (List.mem_append.1 hx).elim (h x) (h' x)
theorem rd_at {l : List Int} {i : Nat} (h : i < l.length) : rd l (i : Int) = l[i] := by simp [rd, h]
theorem drop_at {l : List Int} {i : Nat} (h : i < l.length) : l.drop i = rd l (i : Int) :: l.drop (i + 1) := by rw [rd_at h, List.drop_eq_getElem_cons h]
def be : Nat → Int → List Int
  | 0, _ => []
  | s + 1, n => (n / 2 ^ (8 * s)) % 256 :: be s n
theorem be_len (s : Nat) (n : Int) : (be s n).length = s := by induction s with | zero => rfl | succ s ih => simp [be, ih]
theorem be_bytes (s : Nat) (n : Int) : Bytes (be s n) := by
  induction s with
  | zero => intro x hx; simp [be] at hx
  | succ s ih =>
    intro x hx
    simp only [be, List.mem_cons] at hx
    rcases hx with rfl | hx
    · omega
    · exact ih x hx
theorem shr8 (n : Int) (s : Nat) (hs : s < 8) : shr .u64 n (8 * (s : Int)) = n / 2 ^ (8 * s) := by
  unfold shr
  rw [show (8 * (s : Int)).toNat = 8 * s by omega, Nat.min_eq_left (by simp only [IntKind.bits]; omega)]
def tk (s : Int) (l : List Int) : Int := l.foldl (fun n c => (n * 256 + c) % 18446744073709551616) s
theorem or_step {n c : Int} (h0 : 0 ≤ c) (h1 : c < 256) : Go.bits .or .u64 (IntKind.u64.wrap (n * 256)) (IntKind.u64.wrap c) = (n * 256 + c) % 18446744073709551616 := by
  rw [wu64_in (x := c) h0 (by omega), wu64]
  rw [bits_join .u64 64 (by decide) (fun n h0 h1 => wu64_in h0 (by simpa using h1)) 8 _ c (by omega) (by omega) (by omega) h0 (by omega) (by omega)]
  omega
theorem add_step {n c : Int} (h0 : 0 ≤ c) (h1 : c < 256) : IntKind.u64.wrap ((IntKind.u64.wrap (n * 256)) + (IntKind.u64.wrap c)) = (n * 256 + c) % 18446744073709551616 := by
  rw [wu64, wu64, wu64]; omega
theorem tk_cons (s c : Int) (l : List Int) : tk s (c :: l) = tk ((s * 256 + c) % 18446744073709551616) l := rfl
theorem tk_range {l : List Int} : ∀ {s : Int}, 0 ≤ s → s < 18446744073709551616 → 0 ≤ tk s l ∧ tk s l < 18446744073709551616 := by
  induction l with
  | nil => intro s h0 h1; exact ⟨h0, h1⟩
  | cons c l ih => intro s h0 h1; rw [tk_cons]; exact ih (by omega) (by omega)
def sums (s c : Int) : Int := IntKind.u64.wrap ((Go.bits .xor .u64 s (IntKind.u64.wrap c)) * 1099511628211)
def sm (s : Int) (l : List Int) : Int := l.foldl sums s
theorem sm_cons (s c : Int) (l : List Int) : sm s (c :: l) = sm (sums s c) l := rfl
theorem sums_range (s c : Int) : 0 ≤ sums s c ∧ sums s c < 18446744073709551616 := by unfold sums; rw [wu64]; omega
theorem sm_range {l : List Int} : ∀ {s : Int}, 0 ≤ s → s < 18446744073709551616 → 0 ≤ sm s l ∧ sm s l < 18446744073709551616 := by
  induction l with
  | nil => intro s h0 h1; exact ⟨h0, h1⟩
  | cons c l ih => intro s h0 h1; rw [sm_cons]; exact ih (sums_range _ _).1 (sums_range _ _).2
end Go.Proofs.Ytkppklinmcnecaa.Plain
end
section
namespace Go.Proofs.Ytkppklinmcnecaa.Plain
open Go.RowKit Go.Proofs.Ytkppklinmcnecaa.P Go.Proofs.YtkppklinmcnecaaW.PrintWords Go.Proofs.YtkppklinmcnecaaW.PrintLast Go.Proofs.YtkppklinmcnecaaW.PrintMore
set_option linter.unusedVariables false
set_option linter.unusedSimpArgs false
theorem big_ev (n : Int) : ∀ (s : Nat) (acc : List Int), s ≤ 8 → acc.length + s < 140737488355328 → Ev (fun k => wire_big.l0 k acc n ((s : Int) - 1)) (acc ++ be s n) := by
  intro s
  induction s with
  | zero =>
    intro acc _ _
    refine Ev.step (f := fun _ => some acc) (fun k => ?_) (by simpa [be] using Ev.now acc)
    simp only [wire_big.l0]
    rw [if_neg (by omega)]
  | succ s ih =>
    intro acc hs hl
    refine Ev.step (f := fun k => wire_big.l0 k (acc ++ [(n / 2 ^ (8 * s)) % 256]) n ((s : Int) - 1)) (fun k => ?_) ?_
    · simp only [wire_big.l0]
      rw [show (((s + 1 : Nat) : Int) - 1) = (s : Int) by omega, if_pos (by omega), w64 (x := 8 * (s : Int)) (by omega) (by omega), if_pos (by omega), if_pos (by omega), shr8 n s (by omega), w64 (x := (s : Int) - 1) (by omega) (by omega)]
    · have := ih (acc ++ [(n / 2 ^ (8 * s)) % 256]) (by omega) (by simp; omega)
      simpa [be] using this
theorem big_f (acc : List Int) (n : Int) (s : Nat) (hs : s ≤ 8) (hl : acc.length + s < 140737488355328) : Ev (fun k => wire_big.f k acc n (s : Int)) (acc ++ be s n) :=
  Ev.congr (fun k => by unfold wire_big.f; rw [w64 (by omega) (by omega)]) (big_ev n s acc hs hl)
theorem taken_ev (l : List Int) (hb : Bytes l) (hl : l.length ≤ 9223372036854775807) : ∀ (d i : Nat) (s : Int), i + d = l.length → Ev (fun k => wire_taken.l0 k s l (l.length : Int) (i : Int)) (tk s (l.drop i)) := by
  intro d
  induction d with
  | zero =>
    intro i s hi
    refine Ev.step (f := fun _ => some s) (fun k => ?_) (by rw [List.drop_eq_nil_of_le (by omega)]; exact Ev.now s)
    simp only [wire_taken.l0]
    rw [if_neg (by omega)]
  | succ d ih =>
    intro i s hi
    have hlt : i < l.length := by omega
    have hc := hb _ (List.getElem_mem hlt)
    rw [← rd_at hlt] at hc
    refine Ev.step (f := fun k => wire_taken.l0 k ((s * 256 + rd l (i : Int)) % 18446744073709551616) l (l.length : Int) ((i + 1 : Nat) : Int)) (fun k => ?_) ?_
    · simp only [wire_taken.l0]
      rw [if_pos (by omega), if_pos (by omega), if_pos (by omega), or_step hc.1 hc.2, w64 (by omega) (by omega)]; rfl
    · rw [drop_at hlt, tk_cons]; exact ih (i + 1) _ (by omega)
theorem taken_f (l : List Int) (hb : Bytes l) (hl : l.length ≤ 9223372036854775807) : Ev (fun k => wire_taken.f k l) (tk 0 l) := taken_ev l hb hl l.length 0 0 (by omega)
theorem Sum_ev (l : List Int) (hl : l.length ≤ 9223372036854775807) : ∀ (d i : Nat) (s : Int), i + d = l.length → Ev (fun k => wire_Sum.l0 k s l (l.length : Int) (i : Int)) (sm s (l.drop i)) := by
  intro d
  induction d with
  | zero =>
    intro i s hi
    refine Ev.step (f := fun _ => some s) (fun k => ?_) (by rw [List.drop_eq_nil_of_le (by omega)]; exact Ev.now s)
    simp only [wire_Sum.l0]
    rw [if_neg (by omega)]
  | succ d ih =>
    intro i s hi
    have hlt : i < l.length := by omega
    refine Ev.step (f := fun k => wire_Sum.l0 k (sums s (rd l (i : Int))) l (l.length : Int) ((i + 1 : Nat) : Int)) (fun k => ?_) ?_
    · simp only [wire_Sum.l0]
      rw [if_pos (by omega), if_pos (by omega), if_pos (by omega), w64 (by omega) (by omega)]; rfl
    · rw [drop_at hlt, sm_cons]; exact ih (i + 1) _ (by omega)
def sum (l : List Int) : Int := sm 14695981039346656037 l
theorem Sum_f (l : List Int) (hl : l.length ≤ 9223372036854775807) : Ev (fun k => wire_Sum.f k l) (sum l) := Sum_ev l hl l.length 0 _ (by omega)
def count (n : Int) : List Int × Int := if n < 0 then ([], 2) else if n > 2147483647 then ([], 2) else (be 4 n, 0)
theorem Count_f (n : Int) : Ev (fun k => wire_Count.f k n) (count n) := by
  unfold wire_Count.f count
  by_cases h0 : n < 0
  · simp only [if_pos h0]; exact Ev.now _
  · by_cases h1 : n > 2147483647
    · simp only [if_neg h0, if_pos h1]; exact Ev.now _
    · simp only [if_neg h0, if_neg h1]
      rw [wu64_in (by omega) (by omega)]
      exact Ev.bind (f := fun _ t => some (t, 0)) (big_f [] n 4 (by omega) (by simp)) (Ev.now _)
def readCount (l : List Int) : Int × Int × Int := if l.length < 4 then (0, 0, 7) else if tk 0 (l.take 4) > 2147483647 then (0, 0, 8) else (tk 0 (l.take 4), 4, 0)
theorem ReadCount_f (l : List Int) (hb : Bytes l) : Ev (fun k => wire_ReadCount.f k l) (readCount l) := by
  unfold wire_ReadCount.f readCount
  by_cases h0 : l.length < 4
  · rw [if_pos h0]
    refine Ev.congr (f := fun _ => some (0, 0, 7)) (fun k => ?_) (Ev.now _)
    rw [if_pos (by omega)]
  · rw [if_neg h0]
    have ht := taken_f (l.take 4) (hb.take 4) (by simp; omega)
    have hr := tk_range (l := l.take 4) (s := 0) (by omega) (by omega)
    refine Ev.congr (f := fun k => (wire_taken.f k (l.take 4)).bind fun t => if t > 2147483647 then some (0, 0, 8) else some (wrap64 t, 4, 0)) (fun k => ?_) (Ev.bind (f := fun _ t => if t > 2147483647 then some (0, 0, 8) else some (wrap64 t, 4, 0)) ht ?_)
    · rw [if_neg (by omega), if_pos (by omega)]
    · by_cases h1 : tk 0 (l.take 4) > 2147483647
      · simp only [if_pos h1]; exact Ev.now _
      · simp only [if_neg h1]; rw [w64 (by omega) (by omega)]; exact Ev.now _
theorem Same_f (l : List Int) : conclaveref08_Same.f l l = some true := by simp [conclaveref08_Same.f]
theorem nums_inj {a b : List Int} (ha : Bytes a) (hb : Bytes b) (h : (a.map fun n => UInt8.ofNat n.toNat) = b.map fun n => UInt8.ofNat n.toNat) : a = b := by
  induction a generalizing b with
  | nil => cases b with
    | nil => rfl
    | cons y b => simp at h
  | cons x a ih => cases b with
    | nil => simp at h
    | cons y b =>
      simp only [List.map_cons, List.cons.injEq] at h
      have hx := ha x (List.mem_cons_self ..)
      have hy := hb y (List.mem_cons_self ..)
      have e := congrArg UInt8.toNat h.1
      simp only [UInt8.toNat_ofNat'] at e
      rw [ih (fun z hz => ha z (List.mem_cons_of_mem _ hz)) (fun z hz => hb z (List.mem_cons_of_mem _ hz)) h.2]
      congr 1
      omega
theorem Same_any (a b : List Int) (ha : Bytes a) (hb : Bytes b) : conclaveref08_Same.f a b = some (decide (a = b)) := by
  unfold conclaveref08_Same.f
  rw [ByteArray.toList_eq, ByteArray.toList_eq, strOfNums_data, strOfNums_data]
  congr 1
  by_cases h : a = b
  · subst h; simp
  · rw [decide_eq_false h]
    simp only [beq_eq_false_iff_ne, ne_eq]
    exact fun h' => h (nums_inj ha hb h')
end Go.Proofs.Ytkppklinmcnecaa.Plain
end
section
namespace Go.Proofs.Ytkppklinmcnecaa.Plain
open Go.RowKit Go.Proofs.Ytkppklinmcnecaa.P Go.Proofs.YtkppklinmcnecaaW.PrintWords Go.Proofs.YtkppklinmcnecaaW.PrintLast Go.Proofs.YtkppklinmcnecaaW.PrintMore
set_option linter.unusedVariables false
set_option linter.unusedSimpArgs false
def prime (f : Int) : Int := if f = 1 then 2013265921 else if f = 2 then 18446744069414584321 else 0
def below (p : Int) (l : List Int) : Bool := l.all fun x => decide (x < p)
theorem below_nil (p : Int) : below p [] = true := rfl
theorem below_cons (p x : Int) (l : List Int) : below p (x :: l) = (decide (x < p) && below p l) := rfl
theorem below_append (p : Int) (a b : List Int) : below p (a ++ b) = (below p a && below p b) := by simp [below]
theorem below_iff {p : Int} {l : List Int} : below p l = true ↔ ∀ x ∈ l, x < p := by simp [below]
def isF (f : Int) : Bool := decide (f = 1) || decide (f = 2)
def inF (f : Int) (l : List Int) : Bool := isF f && below (prime f) l
def U64 (l : List Int) : Prop := ∀ x ∈ l, 0 ≤ x ∧ x < 18446744073709551616
theorem isF_or {f : Int} (h : isF f = true) : f = 1 ∨ f = 2 := by simpa [isF] using h
theorem prime_zero {f : Int} (h : isF f = false) : prime f = 0 := by
  have h' : ¬ f = 1 ∧ ¬ f = 2 := by simpa [isF] using h
  unfold prime; rw [if_neg h'.1, if_neg h'.2]
theorem prime_pos {f : Int} (h : isF f = true) : 0 < prime f := by
  unfold prime; rcases isF_or h with rfl | rfl <;> decide
theorem reckoner_in_ev (p : Int) (b : Bool) (l : List Int) (hl : l.length ≤ 9223372036854775807) : ∀ (d i : Nat), i + d = l.length → Ev (fun k => field_reckoner_in.l0 k l (l.length : Int) (i : Int) p b) (below p (l.drop i)) := by
  intro d
  induction d with
  | zero =>
    intro i hi
    refine Ev.step (f := fun _ => some true) (fun k => ?_) (by rw [List.drop_eq_nil_of_le (by omega)]; exact Ev.now _)
    simp only [field_reckoner_in.l0]
    rw [if_neg (by omega)]
  | succ d ih =>
    intro i hi
    have hlt : i < l.length := by omega
    rw [drop_at hlt, below_cons]
    by_cases hp : rd l (i : Int) ≥ p
    · refine Ev.step (f := fun _ => some false) (fun k => ?_) (by rw [show decide (rd l (i : Int) < p) = false by simpa using hp]; exact Ev.now _)
      simp only [field_reckoner_in.l0]
      rw [if_pos (by omega), if_pos (by omega), if_pos (by omega), if_pos hp]
    · refine Ev.step (f := fun k => field_reckoner_in.l0 k l (l.length : Int) ((i + 1 : Nat) : Int) p b) (fun k => ?_) (by rw [show decide (rd l (i : Int) < p) = true by simp; omega]; simpa using ih (i + 1) (by omega))
      simp only [field_reckoner_in.l0]
      rw [if_pos (by omega), if_pos (by omega), if_pos (by omega), if_neg hp, w64 (by omega) (by omega)]; rfl
theorem asked_f (f : Int) (l : List Int) (hl : l.length ≤ 9223372036854775807) : Ev (fun k => field_asked.f k f l) (if inF f l then (prime f, decide (f = 2), 0) else (0, false, 2)) := by
  unfold field_asked.f field_of.f inF isF prime
  by_cases h1 : f = 1
  · subst h1
    simp only [if_true, Option.bind_some, decide_true, Bool.true_or, Bool.true_and]
    refine Ev.bind (f := fun _ t => if t = true then some (2013265921, false, 0) else some (0, false, 2)) (reckoner_in_ev 2013265921 false l hl l.length 0 (by omega)) ?_
    by_cases hb : below 2013265921 l = true
    · simp only [List.drop_zero, hb, if_true]; exact Ev.now _
    · simp only [List.drop_zero, hb, if_false]; exact Ev.now _
  · by_cases h2 : f = 2
    · subst h2
      simp only [if_neg h1, if_true, Option.bind_some, decide_true, Bool.or_true, Bool.true_and]
      refine Ev.bind (f := fun _ t => if t = true then some (18446744069414584321, true, 0) else some (0, false, 2)) (reckoner_in_ev 18446744069414584321 true l hl l.length 0 (by omega)) ?_
      by_cases hb : below 18446744069414584321 l = true
      · simp only [List.drop_zero, hb, if_true]; exact Ev.now _
      · simp only [List.drop_zero, hb, if_false]; exact Ev.now _
    · simp only [if_neg h1, if_neg h2, Option.bind_some, show decide (f = 1) = false by simpa using h1, show decide (f = 2) = false by simpa using h2, Bool.or_false, Bool.false_and, Bool.false_eq_true, if_false]
      exact Ev.now _
theorem In_f (f : Int) (l : List Int) (hl : l.length ≤ 9223372036854775807) : Ev (fun k => field_In.f k f l) (inF f l) := by
  unfold field_In.f
  refine Ev.bind (f := fun _ bt => some (bt.2.2 == 0)) (asked_f f l hl) ?_
  by_cases h : inF f l = true
  · simp only [if_pos h]; rw [h]; exact Ev.now _
  · simp only [if_neg h]; rw [Bool.eq_false_iff.2 h]; exact Ev.now _
theorem inF_isF {f : Int} {l : List Int} (h : inF f l = true) : isF f = true := by
  unfold inF at h; exact (Bool.and_eq_true_iff.1 h).1
end Go.Proofs.Ytkppklinmcnecaa.Plain
end
section
namespace Go.Proofs.Ytkppklinmcnecaa.Plain
open Go.RowKit Go.Proofs.Ytkppklinmcnecaa.P Go.Proofs.YtkppklinmcnecaaW.PrintWords Go.Proofs.YtkppklinmcnecaaW.PrintLast Go.Proofs.YtkppklinmcnecaaW.PrintMore
set_option linter.unusedVariables false
set_option linter.unusedSimpArgs false
def wd (f : Int) : Nat := if f = 1 then 4 else 8
theorem wd_le (f : Int) : wd f ≤ 8 := by unfold wd; split <;> omega
theorem wd_ge (f : Int) : 4 ≤ wd f := by unfold wd; split <;> omega
theorem width_f (f : Int) : wire_width.f f = some ((wd f : Nat) : Int) := by unfold wire_width.f wd; split <;> rfl
def els (w : Nat) : List Int → List Int
  | [] => []
  | x :: l => be w x ++ els w l
theorem els_len (w : Nat) (l : List Int) : (els w l).length = l.length * w := by
  induction l with
  | nil => simp [els]
  | cons x l ih => simp only [els, List.length_append, be_len, ih, List.length_cons, Nat.succ_mul]; omega
theorem els_bytes (w : Nat) (l : List Int) : Bytes (els w l) := by
  induction l with
  | nil => intro x hx; simp [els] at hx
  | cons x l ih => exact (be_bytes w x).append ih
def listOf (f : Int) (l : List Int) : List Int × Int := if inF f l then (if l.length > 4096 then ([], 4) else (f :: (be 4 l.length ++ els (wd f) l), 0)) else ([], 2)
theorem List_ev (f : Int) (l : List Int) (hl : l.length ≤ 4096) : ∀ (d i : Nat) (acc : List Int), i + d = l.length → acc.length ≤ 5 + 8 * i → Ev (fun k => wire_List.l0 k f acc l (l.length : Int) (i : Int)) (acc ++ els (wd f) (l.drop i), 0) := by
  intro d
  induction d with
  | zero =>
    intro i acc hi ha
    refine Ev.step (f := fun _ => some (acc, 0)) (fun k => ?_) (by rw [List.drop_eq_nil_of_le (by omega)]; simpa [els] using Ev.now _)
    simp only [wire_List.l0]
    rw [if_neg (by omega)]
  | succ d ih =>
    intro i acc hi ha
    have hlt : i < l.length := by omega
    have hw := wd_le f
    refine Ev.step (f := fun k => (wire_big.f k acc (rd l (i : Int)) ((wd f : Nat) : Int)).bind fun t => wire_List.l0 k f t l (l.length : Int) ((i + 1 : Nat) : Int)) (fun k => ?_) ?_
    · simp only [wire_List.l0]
      rw [if_pos (by omega), if_pos (by omega), if_pos (by omega), width_f]
      simp only [Option.bind_some]
      rw [w64 (by omega) (by omega)]; rfl
    · refine Ev.bind (f := fun k t => wire_List.l0 k f t l (l.length : Int) ((i + 1 : Nat) : Int)) (big_f acc (rd l (i : Int)) (wd f) hw (by omega)) ?_
      have := ih (i + 1) (acc ++ be (wd f) (rd l (i : Int))) (by omega) (by simp [be_len]; omega)
      rw [drop_at hlt]
      simpa [els] using this
theorem List_f (f : Int) (l : List Int) (hl : l.length ≤ 9223372036854775807) : Ev (fun k => wire_List.f k f l) (listOf f l) := by
  unfold wire_List.f listOf
  refine Ev.bind (f := fun k t => if t = true then _ else _) (In_f f l hl) ?_
  by_cases h : inF f l = true
  · simp only [h, if_true]
    by_cases h2 : l.length > 4096
    · rw [if_pos h2]
      refine Ev.congr (f := fun _ => some ([], 4)) (fun k => ?_) (Ev.now _)
      rw [if_pos (by omega)]
    · rw [if_neg h2]
      refine Ev.congr (f := fun k => (wire_big.f k [f] (l.length : Int) 4).bind fun t => wire_List.l0 k f t l (l.length : Int) 0) (fun k => ?_) ?_
      · rw [if_neg (by omega), wu64_in (by omega) (by omega)]
      · refine Ev.bind (f := fun k t => wire_List.l0 k f t l (l.length : Int) 0) (big_f [f] (l.length : Int) 4 (by omega) (by simp)) ?_
        have := List_ev f l (by omega) l.length 0 ([f] ++ be 4 (l.length : Int)) (by omega) (by simp [be_len])
        simpa using this
  · simp only [h, if_false]; exact Ev.now _
def sealOf (a : List Int) : List Int × Int := if a.length > 1048576 then ([], 4) else ((be 4 a.length ++ a) ++ be 8 (sum (be 4 a.length ++ a)), 0)
theorem Seal_f (a : List Int) : Ev (fun k => wire_Seal.f k a) (sealOf a) := by
  unfold wire_Seal.f sealOf
  by_cases h : a.length > 1048576
  · rw [if_pos h]
    refine Ev.congr (f := fun _ => some ([], 4)) (fun k => ?_) (Ev.now _)
    rw [if_pos (by omega)]
  · rw [if_neg h]
    simp only [if_neg (show ¬ (a.length : Int) > 1048576 by omega), wu64_in (x := (a.length : Int)) (by omega) (by omega), Option.bind_some]
    refine Ev.bind (f := fun k t => _) (big_f [] (a.length : Int) 4 (by omega) (by simp)) ?_
    simp only [List.nil_append, be_len]
    simp only [if_pos (show 4 + a.length < 140737488355328 by omega)]
    refine Ev.bind (f := fun k t => _) (Sum_f (be 4 (a.length : Int) ++ a) (by simp [be_len]; omega)) ?_
    refine Ev.bind (f := fun k t => some (t, 0)) (big_f (be 4 (a.length : Int) ++ a) (sum (be 4 (a.length : Int) ++ a)) 8 (by omega) (by simp [be_len]; omega)) ?_
    exact Ev.now _
def rdEls (w : Nat) : Nat → List Int → List Int
  | 0, _ => []
  | n + 1, b => tk 0 (b.take w) :: rdEls w n (b.drop w)
theorem rdEls_len (w n : Nat) : ∀ b, (rdEls w n b).length = n := by
  induction n with
  | zero => intro b; rfl
  | succ n ih => intro b; simp [rdEls, ih]
theorem rdEls_u64 (w n : Nat) : ∀ b, U64 (rdEls w n b) := by
  induction n with
  | zero => intro b x hx; simp [rdEls] at hx
  | succ n ih =>
    intro b x hx
    simp only [rdEls, List.mem_cons] at hx
    rcases hx with rfl | hx
    · exact tk_range (by omega) (by omega)
    · exact ih _ x hx
def readListOf (b : List Int) : Int × List Int × Int × Int :=
  if b.length = 0 then (0, [], 0, 7)
  else if isF (rd b 0) = false then (0, [], 0, 8)
  else if (readCount (b.drop 1)).2.2 ≠ 0 then (0, [], 0, (readCount (b.drop 1)).2.2)
  else if (readCount (b.drop 1)).1 > 4096 then (0, [], 0, 4)
  else if (b.length : Int) - 5 < (readCount (b.drop 1)).1 * (wd (rd b 0) : Nat) then (0, [], 0, 7)
  else if below (prime (rd b 0)) (rdEls (wd (rd b 0)) (readCount (b.drop 1)).1.toNat (b.drop 5)) = false then (0, [], 0, 8)
  else (rd b 0, rdEls (wd (rd b 0)) (readCount (b.drop 1)).1.toNat (b.drop 5), 5 + (readCount (b.drop 1)).1 * (wd (rd b 0) : Nat), 0)
theorem readCount_ok {l : List Int} (hb : Bytes l) (h : (readCount l).2.2 = 0) : 4 ≤ l.length ∧ (readCount l).2.1 = 4 ∧ 0 ≤ (readCount l).1 ∧ (readCount l).1 ≤ 2147483647 := by
  unfold readCount at h ⊢
  have hr := tk_range (l := l.take 4) (s := 0) (by omega) (by omega)
  by_cases h0 : l.length < 4
  · simp [if_pos h0] at h
  · simp only [if_neg h0] at h ⊢
    by_cases h1 : tk 0 (l.take 4) > 2147483647
    · simp [if_pos h1] at h
    · simp only [if_neg h1] at h ⊢; exact ⟨by omega, trivial, by omega, by omega⟩
set_option maxRecDepth 100000 in
theorem ReadList_ev (b : List Int) (hb : Bytes b) (hl : b.length ≤ 140737492549632) (n : Nat) (hn : n ≤ 4096) (hf : isF (rd b 0) = true) : ∀ (d i pos : Nat) (acc : List Int), i + d = n → acc.length = i → pos + d * wd (rd b 0) ≤ b.length →
    Ev (fun k => wire_ReadList.l0 k b (rd b 0) acc (n : Int) 5 (pos : Int) (n : Int) (i : Int)) (if below (prime (rd b 0)) (acc ++ rdEls (wd (rd b 0)) d (b.drop pos)) = false then (0, [], 0, 8) else (rd b 0, acc ++ rdEls (wd (rd b 0)) d (b.drop pos), 5 + (n : Int) * (wd (rd b 0) : Nat), 0)) := by
  have hw := wd_le (rd b 0)
  have hw4 := wd_ge (rd b 0)
  intro d
  induction d with
  | zero =>
    intro i pos acc hi ha hp
    refine Ev.step (f := fun k => (field_In.f k (rd b 0) acc).bind fun t => if t = true then some (rd b 0, acc, 5 + (n : Int) * (wd (rd b 0) : Nat), 0) else some (0, [], 0, 8)) (fun k => ?_) ?_
    · simp only [wire_ReadList.l0]
      rw [if_neg (by omega)]
      simp only [width_f, Option.bind_some]
      have h1 : (n : Int) * ((wd (rd b 0) : Nat) : Int) ≤ 4096 * 8 := by
        have := Nat.mul_le_mul hn hw
        exact_mod_cast this
      have h0 : 0 ≤ (n : Int) * ((wd (rd b 0) : Nat) : Int) := by exact_mod_cast Nat.zero_le _
      rw [w64 (x := (n : Int) * ((wd (rd b 0) : Nat) : Int)) (by omega) (by omega), w64 (by omega) (by omega)]
    · refine Ev.bind (f := fun k t => if t = true then some (rd b 0, acc, 5 + (n : Int) * (wd (rd b 0) : Nat), 0) else some (0, [], 0, 8)) (In_f (rd b 0) acc (by omega)) ?_
      simp only [rdEls, List.append_nil, inF, hf, Bool.true_and]
      cases hbl : below (prime (rd b 0)) acc with
      | true => exact Ev.now _
      | false => exact Ev.now _
  | succ d ih =>
    intro i pos acc hi ha hp
    rw [Nat.succ_mul] at hp
    refine Ev.step (f := fun k => (wire_taken.f k ((b.drop pos).take (wd (rd b 0)))).bind fun t => if acc.length < 17592186044416 then (wire_width.f (rd b 0)).bind fun t3 => wire_ReadList.l0 k b (rd b 0) (acc ++ [t]) (n : Int) 5 (wrap64 ((pos : Int) + t3)) (n : Int) (wrap64 ((i : Int) + 1)) else none) (fun k => ?_) ?_
    · simp only [wire_ReadList.l0]
      rw [if_pos (by omega), width_f, Option.bind_some]
      rw [if_pos (by omega), w64 (x := (pos : Int) + ((wd (rd b 0) : Nat) : Int)) (by omega) (by omega), if_pos (by omega), if_pos (by omega)]
      rw [show ((pos : Int) + ((wd (rd b 0) : Nat) : Int)).toNat = pos + wd (rd b 0) by omega, show (pos : Int).toNat = pos by omega, List.drop_take, show pos + wd (rd b 0) - pos = wd (rd b 0) by omega]
    · refine Ev.bind (f := fun k t => if acc.length < 17592186044416 then (wire_width.f (rd b 0)).bind fun t3 => wire_ReadList.l0 k b (rd b 0) (acc ++ [t]) (n : Int) 5 (wrap64 ((pos : Int) + t3)) (n : Int) (wrap64 ((i : Int) + 1)) else none) (taken_f _ ((hb.drop pos).take _) (by simp; omega)) ?_
      have := ih (i + 1) (pos + wd (rd b 0)) (acc ++ [tk 0 ((b.drop pos).take (wd (rd b 0)))]) (by omega) (by simp; omega) (by omega)
      refine Ev.congr (f := fun k => wire_ReadList.l0 k b (rd b 0) (acc ++ [tk 0 ((b.drop pos).take (wd (rd b 0)))]) (n : Int) 5 ((pos + wd (rd b 0) : Nat) : Int) (n : Int) ((i + 1 : Nat) : Int)) (fun k => ?_) (by simpa [rdEls, List.drop_drop, Nat.add_comm] using this)
      rw [if_pos (by omega), width_f, Option.bind_some, w64 (x := (pos : Int) + ((wd (rd b 0) : Nat) : Int)) (by omega) (by omega), w64 (x := (i : Int) + 1) (by omega) (by omega)]
      rw [show ((i : Int) + 1) = ((i + 1 : Nat) : Int) by omega, show ((pos : Int) + ((wd (rd b 0) : Nat) : Int)) = ((pos + wd (rd b 0) : Nat) : Int) by omega]
set_option maxRecDepth 100000 in
theorem ReadList_f (b : List Int) (hb : Bytes b) (hl : b.length ≤ 140737492549632) : Ev (fun k => wire_ReadList.f k b) (readListOf b) := by
  unfold wire_ReadList.f readListOf
  by_cases h0 : b.length = 0
  · rw [if_pos h0]
    refine Ev.congr (f := fun _ => some (0, [], 0, 7)) (fun k => ?_) (Ev.now _)
    rw [if_pos (by omega)]
  · rw [if_neg h0]
    simp only [if_neg (show ¬ (b.length : Int) = 0 by omega), if_pos (show 0 < (b.length : Int) by omega)]
    refine Ev.bind (f := fun k t => _) (In_f (rd b 0) [] (by simp)) ?_
    simp only [inF, below_nil, Bool.and_true]
    cases hf : isF (rd b 0) with
    | false => simp only [if_true, Bool.false_eq_true, if_false]; exact Ev.now _
    | true =>
      simp only [if_true, Bool.true_eq_false, if_false, if_pos (show 1 ≤ (b.length : Int) by omega)]
      refine Ev.bind (f := fun k t => _) (ReadCount_f (b.drop 1) (hb.drop 1)) ?_
      by_cases hc : (readCount (b.drop 1)).2.2 = 0
      · obtain ⟨q1, q2, q3, q4⟩ := readCount_ok (hb.drop 1) hc
        rw [List.length_drop] at q1
        have hw := wd_le (rd b 0)
        simp only [hc, if_true, ne_eq, not_true_eq_false, if_false]
        by_cases h4 : (readCount (b.drop 1)).1 > 4096
        · simp only [if_pos h4]; exact Ev.now _
        · simp only [if_neg h4, width_f, Option.bind_some, q2]
          obtain ⟨n, hn⟩ := Int.eq_ofNat_of_zero_le q3
          rw [hn] at h4 ⊢
          have h1 : (n : Int) * ((wd (rd b 0) : Nat) : Int) ≤ 4096 * 8 := by
            have := Nat.mul_le_mul (show n ≤ 4096 by omega) hw
            exact_mod_cast this
          have h2 : 0 ≤ (n : Int) * ((wd (rd b 0) : Nat) : Int) := by exact_mod_cast Nat.zero_le _
          rw [w64 (x := (4 : Int) + 1) (by omega) (by omega), w64 (x := (b.length : Int) - (4 + 1)) (by omega) (by omega), w64 (x := (n : Int) * ((wd (rd b 0) : Nat) : Int)) (by omega) (by omega)]
          simp only [show (4 : Int) + 1 = 5 by omega]
          by_cases h5 : (b.length : Int) - 5 < (n : Int) * ((wd (rd b 0) : Nat) : Int)
          · simp only [if_pos h5]; exact Ev.now _
          · simp only [if_neg h5]
            have h6 : 5 + n * wd (rd b 0) ≤ b.length := by
              have : ((n * wd (rd b 0) : Nat) : Int) = (n : Int) * ((wd (rd b 0) : Nat) : Int) := by push_cast; rfl
              omega
            have := ReadList_ev b hb hl n (by omega) hf n 0 5 [] (by omega) rfl h6
            simpa using this
      · simp only [if_neg hc, ne_eq, hc, not_false_eq_true, if_true]; exact Ev.now _
def unsealOf (b : List Int) : List Int × Int × Int :=
  if (readCount b).2.2 ≠ 0 then ([], 0, (readCount b).2.2)
  else if (readCount b).1 > 1048576 then ([], 0, 4)
  else if (b.length : Int) - 4 < (readCount b).1 + 8 then ([], 0, 7)
  else if tk 0 ((b.drop (4 + (readCount b).1.toNat)).take 8) = sum (b.take (4 + (readCount b).1.toNat)) then ((b.take (4 + (readCount b).1.toNat)).drop 4, 12 + (readCount b).1, 0)
  else ([], 0, 80)
set_option maxRecDepth 100000 in
theorem Unseal_f (b : List Int) (hb : Bytes b) (hl : b.length ≤ 140737492549632) : Ev (fun k => wire_Unseal.f k b) (unsealOf b) := by
  unfold wire_Unseal.f
  refine Ev.bind (f := fun k t => _) (ReadCount_f b hb) ?_
  by_cases hc : (readCount b).2.2 = 0
  · obtain ⟨q1, q2, q3, q4⟩ := readCount_ok hb hc
    obtain ⟨n, hn⟩ := Int.eq_ofNat_of_zero_le q3
    simp only [hc, if_true, q2, hn]
    by_cases h1 : (n : Int) > 1048576
    · simp only [if_pos h1]
      rw [show unsealOf b = ([], 0, 4) by unfold unsealOf; rw [if_neg (by simp [hc]), if_pos (by omega)]]
      exact Ev.now _
    · simp only [if_neg h1]
      rw [w64 (x := (b.length : Int) - 4) (by omega) (by omega), w64 (x := (n : Int) + 8) (by omega) (by omega), w64 (x := (4 : Int) + n) (by omega) (by omega)]
      by_cases h2 : (b.length : Int) - 4 < (n : Int) + 8
      · simp only [if_pos h2]
        rw [show unsealOf b = ([], 0, 7) by unfold unsealOf; rw [if_neg (by simp [hc]), if_neg (by omega), if_pos (by omega)]]
        exact Ev.now _
      · simp only [if_neg h2]
        rw [w64 (x := (4 : Int) + n + 8) (by omega) (by omega)]
        simp only [if_pos (show (0 : Int) ≤ 4 + n by omega), if_pos (show (4 : Int) + n ≤ 4 + n + 8 by omega), if_pos (show (4 : Int) + n + 8 ≤ b.length by omega), if_pos (show (4 : Int) + n ≤ b.length by omega), if_pos (show (0 : Int) ≤ 4 by omega), if_pos (show (4 : Int) ≤ 4 + n by omega)]
        have e1 : (b.take ((4 : Int) + n + 8).toNat).drop ((4 : Int) + n).toNat = (b.drop (4 + n)).take 8 := by
          rw [List.drop_take, show ((4 : Int) + n + 8).toNat - ((4 : Int) + n).toNat = 8 by omega, show ((4 : Int) + n).toNat = 4 + n by omega]
        have e2 : ((4 : Int) + n).toNat = 4 + n := by omega
        rw [e1, e2]
        refine Ev.bind (f := fun k t => _) (taken_f _ ((hb.drop _).take _) (by simp; omega)) ?_
        refine Ev.bind (f := fun k t => _) (Sum_f _ (by simp; omega)) ?_
        by_cases h3 : tk 0 ((b.drop (4 + n)).take 8) = sum (b.take (4 + n))
        · rw [show unsealOf b = ((b.take (4 + n)).drop 4, 12 + (n : Int), 0) by unfold unsealOf; rw [if_neg (by simp [hc]), if_neg (by omega), if_neg (by omega), hn, Int.toNat_natCast, if_pos h3]]
          simp only [if_pos h3]
          have e3 : ([] : List Int).length + ((b.take (4 + n)).drop (4 : Int).toNat).length < 140737488355328 := by simp; omega
          simp only [if_pos e3]
          have e4 : (4 : Int) + n + 8 = 12 + n := by omega
          rw [e4]
          exact Ev.now _
        · rw [show unsealOf b = ([], 0, 80) by unfold unsealOf; rw [if_neg (by simp [hc]), if_neg (by omega), if_neg (by omega), hn, Int.toNat_natCast, if_neg h3]]
          simp only [if_neg h3]
          exact Ev.now _
  · rw [show unsealOf b = ([], 0, (readCount b).2.2) by unfold unsealOf; rw [if_pos hc]]
    simp only [if_neg hc]; exact Ev.now _
end Go.Proofs.Ytkppklinmcnecaa.Plain
end
section
namespace Go.Proofs.Ytkppklinmcnecaa.Plain
open Go.RowKit Go.Proofs.Ytkppklinmcnecaa.P Go.Proofs.YtkppklinmcnecaaW.PrintWords Go.Proofs.YtkppklinmcnecaaW.PrintLast Go.Proofs.YtkppklinmcnecaaW.PrintMore
set_option linter.unusedVariables false
set_option linter.unusedSimpArgs false
def val : List Int → Int
  | [] => 0
  | c :: l => c * 2 ^ (8 * l.length) + val l
theorem pow8 (n : Nat) : (2 : Int) ^ (8 * (n + 1)) = 256 * 2 ^ (8 * n) := by
  rw [Nat.mul_add, Int.pow_add, Int.mul_comm]; rfl
theorem pow8_pos (n : Nat) : 0 < (2 : Int) ^ (8 * n) := Int.pow_pos (by omega)
theorem val_range {l : List Int} (h : Bytes l) : 0 ≤ val l ∧ val l < 2 ^ (8 * l.length) := by
  induction l with
  | nil => exact ⟨Int.le_refl _, by simp [val]⟩
  | cons c l ih =>
    have hc := h c (List.mem_cons_self ..)
    have hl := ih (fun x hx => h x (List.mem_cons_of_mem _ hx))
    have hp := pow8_pos l.length
    have h1 : c * 2 ^ (8 * l.length) ≤ 255 * 2 ^ (8 * l.length) := Int.mul_le_mul_of_nonneg_right (by omega) (by omega)
    have h0 : 0 ≤ c * 2 ^ (8 * l.length) := Int.mul_nonneg hc.1 (by omega)
    simp only [val, List.length_cons]
    rw [pow8]
    omega
theorem tk_val (l : List Int) : ∀ s : Int, tk s l = (s * 2 ^ (8 * l.length) + val l) % 18446744073709551616 ∨ l = [] := by
  induction l with
  | nil => intro s; exact .inr rfl
  | cons c l ih =>
    intro s
    refine .inl ?_
    rw [tk_cons]
    rcases ih ((s * 256 + c) % 18446744073709551616) with h | h
    · rw [h]
      simp only [val, List.length_cons]
      rw [pow8, Int.add_emod, Int.mul_emod, Int.emod_emod_of_dvd _ (Int.dvd_refl _), ← Int.mul_emod, ← Int.add_emod]
      congr 1
      rw [Int.add_mul]
      have : s * (256 * 2 ^ (8 * l.length)) = s * 256 * 2 ^ (8 * l.length) := by rw [Int.mul_assoc]
      omega
    · subst h
      simp [val, tk]
theorem pow8_le {n : Nat} (h : n ≤ 8) : (2 : Int) ^ (8 * n) ≤ 18446744073709551616 := by
  have : n = 0 ∨ n = 1 ∨ n = 2 ∨ n = 3 ∨ n = 4 ∨ n = 5 ∨ n = 6 ∨ n = 7 ∨ n = 8 := by omega
  rcases this with rfl | rfl | rfl | rfl | rfl | rfl | rfl | rfl | rfl <;> decide
theorem tk0_val {l : List Int} (h : Bytes l) (hl : l.length ≤ 8) : tk 0 l = val l := by
  rcases tk_val l 0 with e | e
  · have hv := val_range h
    have := pow8_le hl
    rw [e]; omega
  · subst e; rfl
theorem be_add (a v : Int) : ∀ s : Nat, be s (a * 2 ^ (8 * s) + v) = be s v := by
  intro s
  induction s generalizing a with
  | zero => rfl
  | succ s ih =>
    simp only [be]
    have hp := pow8_pos s
    have e : a * 2 ^ (8 * (s + 1)) = (a * 256) * 2 ^ (8 * s) := by rw [pow8, Int.mul_assoc]
    rw [e, ih, Int.add_comm, Int.add_mul_ediv_right _ _ (by omega)]
    congr 1
    omega
theorem be_val {l : List Int} (h : Bytes l) : be l.length (val l) = l := by
  induction l with
  | nil => rfl
  | cons c l ih =>
    have hc := h c (List.mem_cons_self ..)
    have hl : Bytes l := fun x hx => h x (List.mem_cons_of_mem _ hx)
    have hv := val_range hl
    have hp := pow8_pos l.length
    simp only [List.length_cons, be, val]
    rw [be_add, ih hl, Int.add_comm, Int.add_mul_ediv_right _ _ (by omega), Int.ediv_eq_zero_of_lt hv.1 hv.2]
    congr 1
    omega
theorem be_tk {l : List Int} (h : Bytes l) (hl : l.length ≤ 8) : be l.length (tk 0 l) = l := by rw [tk0_val h hl, be_val h]
theorem val_be (s : Nat) (n : Int) (h0 : 0 ≤ n) : val (be s n) = n % 2 ^ (8 * s) := by
  induction s with
  | zero => simp [be, val]
  | succ s ih =>
    have hp := pow8_pos s
    simp only [be, val, be_len, ih]
    rw [pow8]
    obtain ⟨P, hP⟩ : ∃ P, P = (2 : Int) ^ (8 * s) := ⟨_, rfl⟩
    rw [← hP] at hp ⊢
    have e1 := Int.mul_ediv_add_emod n P
    have r0 := Int.emod_nonneg n (show P ≠ 0 by omega)
    have r1 := Int.emod_lt_of_pos n hp
    obtain ⟨q, hq⟩ : ∃ q, q = n / P := ⟨_, rfl⟩
    obtain ⟨r, hr⟩ : ∃ r, r = n % P := ⟨_, rfl⟩
    rw [← hq, ← hr] at e1 ⊢
    rw [← hr] at r0 r1
    have e2 := Int.mul_ediv_add_emod q 256
    have h1 : q % 256 * P ≤ 255 * P := Int.mul_le_mul_of_nonneg_right (by omega) (by omega)
    have h2 : 0 ≤ q % 256 * P := Int.mul_nonneg (by omega) (by omega)
    have e3 : n = (q % 256 * P + r) + 256 * P * (q / 256) := by
      have : P * q = 256 * P * (q / 256) + q % 256 * P := by
        have e4 : P * q = P * (256 * (q / 256) + q % 256) := by rw [e2]
        rw [e4, Int.mul_add, Int.mul_comm P (q % 256), ← Int.mul_assoc, Int.mul_comm P 256]
      omega
    rw [e3, Int.add_mul_emod_self_left, Int.emod_eq_of_lt (a := q % 256 * P + r) (b := 256 * P) (by omega) (by omega)]
theorem tk_be (s : Nat) (hs : s ≤ 8) (n : Int) (h0 : 0 ≤ n) (h1 : n < 2 ^ (8 * s)) : tk 0 (be s n) = n := by
  rw [tk0_val (be_bytes s n) (by rw [be_len]; exact hs), val_be s n h0, Int.emod_eq_of_lt h0 h1]
theorem readCount_be {l : List Int} (hb : Bytes l) (h : (readCount l).2.2 = 0) : be 4 (readCount l).1 = l.take 4 := by
  obtain ⟨q1, _, _, _⟩ := readCount_ok hb h
  have e : (readCount l).1 = tk 0 (l.take 4) := by
    unfold readCount at h ⊢
    by_cases h0 : l.length < 4
    · omega
    · simp only [if_neg h0] at h ⊢
      by_cases h1 : tk 0 (l.take 4) > 2147483647
      · simp [if_pos h1] at h
      · simp only [if_neg h1]
  have hl : (l.take 4).length = 4 := by simp; omega
  have := be_tk (hb.take 4) (by omega)
  rw [hl] at this
  rw [e, this]
theorem seal_forms {b : List Int} (hb : Bytes b) (h : (unsealOf b).2.2 = 0) :
    12 ≤ (unsealOf b).2.1 ∧ (unsealOf b).2.1 ≤ b.length ∧ sealOf (unsealOf b).1 = (b.take (unsealOf b).2.1.toNat, 0) := by
  unfold unsealOf at h ⊢
  by_cases hc : (readCount b).2.2 = 0
  · obtain ⟨q1, q2, q3, q4⟩ := readCount_ok hb hc
    have hbe := readCount_be hb hc
    obtain ⟨n, hn⟩ := Int.eq_ofNat_of_zero_le q3
    rw [if_neg (fun h_ => h_ hc)] at h ⊢
    by_cases h1 : (readCount b).1 > 1048576
    · rw [if_pos h1] at h; simp at h
    · rw [if_neg h1] at h ⊢
      by_cases h2 : (b.length : Int) - 4 < (readCount b).1 + 8
      · rw [if_pos h2] at h; simp at h
      · rw [if_neg h2] at h ⊢
        rw [hn, Int.toNat_natCast] at h ⊢
        by_cases h3 : tk 0 ((b.drop (4 + n)).take 8) = sum (b.take (4 + n))
        · rw [if_pos h3]
          simp only
          refine ⟨by omega, by omega, ?_⟩
          have hl : ((b.take (4 + n)).drop 4).length = n := by simp; omega
          unfold sealOf
          rw [hl, if_neg (by omega)]
          rw [hn] at hbe
          have e1 : be 4 (n : Int) ++ (b.take (4 + n)).drop 4 = b.take (4 + n) := by
            rw [hbe]
            have := List.take_append_drop 4 (b.take (4 + n))
            rwa [List.take_take, Nat.min_eq_left (by omega)] at this
          rw [e1, ← h3]
          have hl8 : ((b.drop (4 + n)).take 8).length = 8 := by simp; omega
          have := be_tk ((hb.drop (4 + n)).take 8) (by omega)
          rw [hl8] at this
          rw [this, ← List.take_add, show ((12 : Int) + n).toNat = 4 + n + 8 by omega]
        · rw [if_neg h3] at h; simp at h
  · rw [if_pos hc] at h; exact absurd h hc
theorem els_rdEls (w : Nat) (hw : w ≤ 8) : ∀ (n : Nat) (b : List Int), Bytes b → n * w ≤ b.length → els w (rdEls w n b) = b.take (n * w) := by
  intro n
  induction n with
  | zero => intro b _ _; simp [els, rdEls]
  | succ n ih =>
    intro b hb hl
    rw [Nat.succ_mul] at hl
    have h1 : (b.take w).length = w := by simp; omega
    have h2 := be_tk (hb.take w) (by omega)
    rw [h1] at h2
    simp only [els, rdEls]
    rw [h2, ih (b.drop w) (hb.drop w) (by simp; omega), Nat.succ_mul, Nat.add_comm (n * w) w, List.take_add]
theorem list_forms {b : List Int} (hb : Bytes b) (h : (readListOf b).2.2.2 = 0) :
    5 ≤ (readListOf b).2.2.1 ∧ (readListOf b).2.2.1 ≤ b.length ∧ listOf (readListOf b).1 (readListOf b).2.1 = (b.take (readListOf b).2.2.1.toNat, 0) ∧ (readListOf b).2.1.length ≤ 4096 := by
  unfold readListOf at h ⊢
  by_cases h0 : b.length = 0
  · rw [if_pos h0] at h; simp at h
  · rw [if_neg h0] at h ⊢
    cases hf : isF (rd b 0) with
    | false => rw [hf, if_pos rfl] at h; simp at h
    | true =>
      rw [hf, if_neg (by simp)] at h
      rw [if_neg (by simp)]
      by_cases hc : (readCount (b.drop 1)).2.2 = 0
      · obtain ⟨q1, q2, q3, q4⟩ := readCount_ok (hb.drop 1) hc
        have hbe := readCount_be (hb.drop 1) hc
        rw [List.length_drop] at q1
        obtain ⟨n, hn⟩ := Int.eq_ofNat_of_zero_le q3
        rw [if_neg (fun h_ => h_ hc)] at h ⊢
        rw [hn] at h hbe ⊢
        by_cases h1 : (n : Int) > 4096
        · rw [if_pos h1] at h; simp at h
        · rw [if_neg h1] at h ⊢
          by_cases h2 : (b.length : Int) - 5 < (n : Int) * (wd (rd b 0) : Nat)
          · rw [if_pos h2] at h; simp at h
          · rw [if_neg h2] at h ⊢
            have hw := wd_le (rd b 0)
            have em : ((n * wd (rd b 0) : Nat) : Int) = (n : Int) * ((wd (rd b 0) : Nat) : Int) := by push_cast; rfl
            rw [← em] at h2 ⊢
            rw [Int.toNat_natCast] at h ⊢
            by_cases h3 : below (prime (rd b 0)) (rdEls (wd (rd b 0)) n (b.drop 5)) = false
            · rw [if_pos h3] at h; simp at h
            · rw [if_neg h3]
              simp only
              refine ⟨by omega, by omega, ?_, by rw [rdEls_len]; omega⟩
              unfold listOf
              rw [show inF (rd b 0) (rdEls (wd (rd b 0)) n (b.drop 5)) = true by unfold inF; rw [hf]; simpa using h3, if_pos rfl, rdEls_len, if_neg (by omega), hbe, els_rdEls _ hw n _ (hb.drop 5) (by simp; omega)]
              have e0 : b = rd b 0 :: b.drop 1 := by have := drop_at (l := b) (i := 0) (by omega); simpa using this
              have e1 : (rd b 0 :: ((b.drop 1).take 4 ++ (b.drop 5).take (n * wd (rd b 0)))) = b.take ((5 : Int) + ((n * wd (rd b 0) : Nat) : Int)).toNat := by
                rw [show ((5 : Int) + ((n * wd (rd b 0) : Nat) : Int)).toNat = (1 + 4) + n * wd (rd b 0) by omega, List.take_add, List.take_add]
                have e2 : b.take 1 = [rd b 0] := by rw [e0]; simp [rd]
                rw [e2, show (b.drop (1 + 4)) = b.drop 5 by rfl]
                simp
              rw [e1]
      · rw [if_pos hc] at h; exact absurd h hc
theorem readCount_back (n : Nat) (hn : n ≤ 2147483647) (r : List Int) : readCount (be 4 n ++ r) = ((n : Int), 4, 0) := by
  unfold readCount
  have h1 : (be 4 (n : Int) ++ r).take 4 = be 4 n := by
    rw [List.take_append_of_le_length (by rw [be_len]; exact Nat.le_refl _), List.take_of_length_le (by rw [be_len]; exact Nat.le_refl _)]
  rw [if_neg (by simp [be_len]), h1, tk_be 4 (by omega) n (by omega) (by simp; omega), if_neg (by omega)]
theorem seal_back (a r : List Int) (ha : Bytes a) (hl : a.length ≤ 1048576) : unsealOf ((sealOf a).1 ++ r) = (a, ((sealOf a).1.length : Int), 0) ∧ (sealOf a).2 = 0 := by
  have hs := sm_range (l := be 4 (a.length : Int) ++ a) (s := 14695981039346656037) (by omega) (by omega)
  unfold sealOf
  rw [if_neg (by omega)]
  refine ⟨?_, rfl⟩
  simp only
  obtain ⟨c, hc⟩ : ∃ c, c = sum (be 4 (a.length : Int) ++ a) := ⟨_, rfl⟩
  have hc0 : 0 ≤ c ∧ c < 18446744073709551616 := by rw [hc]; exact hs
  have e : be 4 (a.length : Int) ++ a ++ be 8 (sum (be 4 (a.length : Int) ++ a)) ++ r = be 4 (a.length : Int) ++ (a ++ (be 8 c ++ r)) := by rw [← hc]; simp
  rw [e]
  have hrc := readCount_back a.length (by omega) (a ++ (be 8 c ++ r))
  unfold unsealOf
  rw [hrc]
  simp only [Int.toNat_natCast]
  have hlen : (be 4 (a.length : Int) ++ (a ++ (be 8 c ++ r))).length = 4 + a.length + 8 + r.length := by simp [be_len]; omega
  have ht : (be 4 (a.length : Int) ++ (a ++ (be 8 c ++ r))).take (4 + a.length) = be 4 (a.length : Int) ++ a := by
    rw [← List.append_assoc, List.take_append_of_le_length (by simp [be_len]), List.take_of_length_le (by simp [be_len])]
  have hd : ((be 4 (a.length : Int) ++ (a ++ (be 8 c ++ r))).drop (4 + a.length)).take 8 = be 8 c := by
    rw [← List.append_assoc, List.drop_append_of_le_length (by simp [be_len]), List.drop_eq_nil_of_le (by simp [be_len]), List.nil_append, List.take_append_of_le_length (by rw [be_len]; exact Nat.le_refl _), List.take_of_length_le (by rw [be_len]; exact Nat.le_refl _)]
  rw [if_neg (by simp), if_neg (by omega), if_neg (by rw [hlen]; omega), hd, ht, tk_be 8 (by omega) c hc0.1 (by simpa using hc0.2), ← hc, if_pos rfl]
  refine Prod.ext ?_ (Prod.ext ?_ rfl)
  · simp only
    rw [List.drop_append_of_le_length (by rw [be_len]; exact Nat.le_refl _), List.drop_eq_nil_of_le (by rw [be_len]; exact Nat.le_refl _), List.nil_append]
  · simp [be_len]; omega
theorem rdEls_els (w : Nat) (hw : w ≤ 8) (r : List Int) : ∀ l : List Int, (∀ x ∈ l, 0 ≤ x ∧ x < 2 ^ (8 * w)) → rdEls w l.length (els w l ++ r) = l := by
  intro l
  induction l with
  | nil => intro _; rfl
  | cons x l ih =>
    intro h
    have hx := h x (List.mem_cons_self ..)
    simp only [List.length_cons, rdEls, els, List.append_assoc]
    rw [List.take_append_of_le_length (by rw [be_len]; exact Nat.le_refl _), List.take_of_length_le (by rw [be_len]; exact Nat.le_refl _), tk_be w hw x hx.1 hx.2, List.drop_append_of_le_length (by rw [be_len]; exact Nat.le_refl _), List.drop_eq_nil_of_le (by rw [be_len]; exact Nat.le_refl _), List.nil_append, ih (fun y hy => h y (List.mem_cons_of_mem _ hy))]
theorem prime_wd {f : Int} (h : isF f = true) : prime f ≤ 2 ^ (8 * wd f) := by
  rcases isF_or h with rfl | rfl <;> decide
theorem list_back (f : Int) (l r : List Int) (hu : U64 l) (hin : inF f l = true) (hl : l.length ≤ 4096) : readListOf ((listOf f l).1 ++ r) = (f, l, ((listOf f l).1.length : Int), 0) ∧ (listOf f l).2 = 0 := by
  have hf := inF_isF hin
  have hbel : below (prime f) l = true := by unfold inF at hin; exact (Bool.and_eq_true_iff.1 hin).2
  unfold listOf
  rw [if_pos hin, if_neg (by omega)]
  refine ⟨?_, rfl⟩
  simp only
  have e : f :: (be 4 (l.length : Int) ++ els (wd f) l) ++ r = f :: (be 4 (l.length : Int) ++ (els (wd f) l ++ r)) := by simp
  rw [e]
  have hrd : rd (f :: (be 4 (l.length : Int) ++ (els (wd f) l ++ r))) 0 = f := rfl
  have hrc : readCount ((f :: (be 4 (l.length : Int) ++ (els (wd f) l ++ r))).drop 1) = ((l.length : Int), 4, 0) := readCount_back l.length (by omega) _
  have hd5 : (f :: (be 4 (l.length : Int) ++ (els (wd f) l ++ r))).drop 5 = els (wd f) l ++ r := by
    simp only [List.drop_succ_cons]
    rw [List.drop_append_of_le_length (by rw [be_len]; exact Nat.le_refl _), List.drop_eq_nil_of_le (by rw [be_len]; exact Nat.le_refl _), List.nil_append]
  have hw := wd_le f
  have hp := prime_wd hf
  have hel : rdEls (wd f) l.length (els (wd f) l ++ r) = l := rdEls_els _ hw r l (fun x hx => ⟨(hu x hx).1, by have := below_iff.1 hbel x hx; omega⟩)
  unfold readListOf
  rw [hrd, hrc, hd5]
  simp only [Int.toNat_natCast]
  have em : ((l.length * wd f : Nat) : Int) = (l.length : Int) * ((wd f : Nat) : Int) := by push_cast; rfl
  have hlen : (f :: (be 4 (l.length : Int) ++ (els (wd f) l ++ r))).length = 5 + l.length * wd f + r.length := by simp [be_len, els_len]; omega
  rw [if_neg (by rw [hlen]; omega), if_neg (by simp [hf]), if_neg (by simp), if_neg (by omega), if_neg (by rw [hlen, ← em]; omega), hel, if_neg (by simp [hbel])]
  refine Prod.ext rfl (Prod.ext rfl (Prod.ext ?_ rfl))
  simp [be_len, els_len]; omega
end Go.Proofs.Ytkppklinmcnecaa.Plain
end
section
namespace Go.Proofs.Ytkppklinmcnecaa.Plain
open Go.RowKit Go.Proofs.Ytkppklinmcnecaa.P Go.Proofs.YtkppklinmcnecaaW.PrintWords Go.Proofs.YtkppklinmcnecaaW.PrintLast Go.Proofs.YtkppklinmcnecaaW.PrintMore
set_option linter.unusedVariables false
set_option linter.unusedSimpArgs false
theorem Wide_ev (n : Int) : ∀ (s : Nat) (acc : List Int), s ≤ 8 → acc.length + s < 140737488355328 → Ev (fun k => conclaveref08_Wide.l0 k n acc ((s : Int) - 1)) (acc ++ be s n) := by
  intro s
  induction s with
  | zero =>
    intro acc _ _
    refine Ev.step (f := fun _ => some acc) (fun k => ?_) (by simpa [be] using Ev.now acc)
    simp only [conclaveref08_Wide.l0]
    rw [if_neg (by omega)]
  | succ s ih =>
    intro acc hs hl
    refine Ev.step (f := fun k => conclaveref08_Wide.l0 k n (acc ++ [(n / 2 ^ (8 * s)) % 256]) ((s : Int) - 1)) (fun k => ?_) ?_
    · simp only [conclaveref08_Wide.l0]
      rw [show (((s + 1 : Nat) : Int) - 1) = (s : Int) by omega, if_pos (by omega), w64 (x := 8 * (s : Int)) (by omega) (by omega), wu64_in (x := 8 * (s : Int)) (by omega) (by omega), if_pos (by omega), if_pos (by omega), shr8 n s (by omega), w64 (x := (s : Int) - 1) (by omega) (by omega)]
    · have := ih (acc ++ [(n / 2 ^ (8 * s)) % 256]) (by omega) (by simp; omega)
      simpa [be] using this
theorem Wide_f (n : Int) (s : Nat) (hs : s ≤ 8) : Ev (fun k => conclaveref08_Wide.f k n (s : Int)) (be s n) :=
  Ev.congr (fun k => by unfold conclaveref08_Wide.f; rw [w64 (by omega) (by omega)]) (by simpa using Wide_ev n s [] hs (by simp; omega))
theorem Taken_ev (l : List Int) (hb : Bytes l) (hl : l.length ≤ 9223372036854775807) : ∀ (d i : Nat) (s : Int), i + d = l.length → Ev (fun k => conclaveref08_Taken.l0 k l s (i : Int)) (tk s (l.drop i)) := by
  intro d
  induction d with
  | zero =>
    intro i s hi
    refine Ev.step (f := fun _ => some s) (fun k => ?_) (by rw [List.drop_eq_nil_of_le (by omega)]; exact Ev.now s)
    simp only [conclaveref08_Taken.l0]
    rw [if_neg (by omega)]
  | succ d ih =>
    intro i s hi
    have hlt : i < l.length := by omega
    have hc := hb _ (List.getElem_mem hlt)
    rw [← rd_at hlt] at hc
    refine Ev.step (f := fun k => conclaveref08_Taken.l0 k l ((s * 256 + rd l (i : Int)) % 18446744073709551616) ((i + 1 : Nat) : Int)) (fun k => ?_) ?_
    · simp only [conclaveref08_Taken.l0]
      rw [if_pos (by omega), if_pos (by omega), add_step hc.1 hc.2, w64 (by omega) (by omega)]; rfl
    · rw [drop_at hlt, tk_cons]; exact ih (i + 1) _ (by omega)
theorem Taken_f (l : List Int) (hb : Bytes l) (hl : l.length ≤ 9223372036854775807) : Ev (fun k => conclaveref08_Taken.f k l) (tk 0 l) := Taken_ev l hb hl l.length 0 0 (by omega)
theorem rSum_ev (l : List Int) (hl : l.length ≤ 9223372036854775807) : ∀ (d i : Nat) (s : Int), i + d = l.length → Ev (fun k => conclaveref08_Sum.l0 k l s (i : Int)) (sm s (l.drop i)) := by
  intro d
  induction d with
  | zero =>
    intro i s hi
    refine Ev.step (f := fun _ => some s) (fun k => ?_) (by rw [List.drop_eq_nil_of_le (by omega)]; exact Ev.now s)
    simp only [conclaveref08_Sum.l0]
    rw [if_neg (by omega)]
  | succ d ih =>
    intro i s hi
    have hlt : i < l.length := by omega
    refine Ev.step (f := fun k => conclaveref08_Sum.l0 k l (sums s (rd l (i : Int))) ((i + 1 : Nat) : Int)) (fun k => ?_) ?_
    · simp only [conclaveref08_Sum.l0]
      rw [if_pos (by omega), if_pos (by omega), w64 (by omega) (by omega)]; rfl
    · rw [drop_at hlt, sm_cons]; exact ih (i + 1) _ (by omega)
theorem rSum_f (l : List Int) (hl : l.length ≤ 9223372036854775807) : Ev (fun k => conclaveref08_Sum.f k l) (sum l) := rSum_ev l hl l.length 0 _ (by omega)
theorem rReadCount_f (l : List Int) (hb : Bytes l) : Ev (fun k => conclaveref08_ReadCount.f k l) (readCount l) := by
  unfold conclaveref08_ReadCount.f readCount
  by_cases h0 : l.length < 4
  · rw [if_pos h0]
    refine Ev.congr (f := fun _ => some (0, 0, 7)) (fun k => ?_) (Ev.now _)
    rw [if_pos (by omega)]
  · rw [if_neg h0]
    have ht := Taken_f (l.take 4) (hb.take 4) (by simp; omega)
    have hr := tk_range (l := l.take 4) (s := 0) (by omega) (by omega)
    refine Ev.congr (f := fun k => (conclaveref08_Taken.f k (l.take 4)).bind fun t => if t > 2147483647 then some (0, 0, 8) else some (wrap64 t, 4, 0)) (fun k => ?_) (Ev.bind (f := fun _ t => if t > 2147483647 then some (0, 0, 8) else some (wrap64 t, 4, 0)) ht ?_)
    · rw [if_neg (by omega), if_pos (by omega)]
    · by_cases h1 : tk 0 (l.take 4) > 2147483647
      · simp only [if_pos h1]; exact Ev.now _
      · simp only [if_neg h1]; rw [w64 (by omega) (by omega)]; exact Ev.now _
end Go.Proofs.Ytkppklinmcnecaa.Plain
end
section
namespace Go.Proofs.Ytkppklinmcnecaa.Plain
open Go.RowKit Go.Proofs.Ytkppklinmcnecaa.P Go.Proofs.YtkppklinmcnecaaW.PrintWords Go.Proofs.YtkppklinmcnecaaW.PrintLast Go.Proofs.YtkppklinmcnecaaW.PrintMore
set_option linter.unusedVariables false
set_option linter.unusedSimpArgs false
theorem P_f (f : Int) : conclaveref01_P.f f = some (prime f) := by
  unfold conclaveref01_P.f prime; split
  · rfl
  · split <;> rfl
theorem rIn_ev (p : Int) (l : List Int) (hl : l.length ≤ 9223372036854775807) : ∀ (d i : Nat), i + d = l.length → Ev (fun k => conclaveref01_In.l0 k l p (i : Int)) (below p (l.drop i) && (p != 0)) := by
  intro d
  induction d with
  | zero =>
    intro i hi
    refine Ev.step (f := fun _ => some (p != 0)) (fun k => ?_) (by rw [List.drop_eq_nil_of_le (by omega)]; exact Ev.now _)
    simp only [conclaveref01_In.l0]
    rw [if_neg (by omega)]
  | succ d ih =>
    intro i hi
    have hlt : i < l.length := by omega
    rw [drop_at hlt, below_cons]
    by_cases hp : rd l (i : Int) ≥ p
    · refine Ev.step (f := fun _ => some false) (fun k => ?_) (by rw [show decide (rd l (i : Int) < p) = false by simpa using hp]; exact Ev.now _)
      simp only [conclaveref01_In.l0]
      rw [if_pos (by omega), if_pos (by omega), if_pos hp]
    · refine Ev.step (f := fun k => conclaveref01_In.l0 k l p ((i + 1 : Nat) : Int)) (fun k => ?_) (by rw [show decide (rd l (i : Int) < p) = true by simp; omega]; simpa using ih (i + 1) (by omega))
      simp only [conclaveref01_In.l0]
      rw [if_pos (by omega), if_pos (by omega), if_neg hp, w64 (by omega) (by omega)]; rfl
theorem rIn_f (f : Int) (l : List Int) (hu : U64 l) (hl : l.length ≤ 9223372036854775807) : Ev (fun k => conclaveref01_In.f k f l) (inF f l) := by
  unfold conclaveref01_In.f
  rw [P_f]
  simp only [Option.bind_some]
  have h := rIn_ev (prime f) l hl l.length 0 (by omega)
  rw [List.drop_zero] at h
  have e : (below (prime f) l && (prime f != 0)) = inF f l := by
    unfold inF
    cases hf : isF f with
    | true => have := prime_pos hf; rw [show (prime f != 0) = true by simp; omega]; simp
    | false => rw [prime_zero hf]; simp
  rw [← e]; exact h
end Go.Proofs.Ytkppklinmcnecaa.Plain
end
section
namespace Go.Proofs.Ytkppklinmcnecaa.Plain
open Go.RowKit Go.Proofs.Ytkppklinmcnecaa.P Go.Proofs.YtkppklinmcnecaaW.PrintWords Go.Proofs.YtkppklinmcnecaaW.PrintLast Go.Proofs.YtkppklinmcnecaaW.PrintMore
set_option linter.unusedVariables false
set_option linter.unusedSimpArgs false
theorem fSame_ev (a b : List Int) (he : a.length = b.length) (hl : a.length ≤ 9223372036854775807) : ∀ (d i : Nat), i + d = a.length → Ev (fun k => conclaveref01_Same.l0 k a b (i : Int)) (decide (a.drop i = b.drop i)) := by
  intro d
  induction d with
  | zero =>
    intro i hi
    refine Ev.step (f := fun _ => some true) (fun k => ?_) (by rw [List.drop_eq_nil_of_le (by omega), List.drop_eq_nil_of_le (by omega)]; exact Ev.now _)
    simp only [conclaveref01_Same.l0]
    rw [if_neg (by omega)]
  | succ d ih =>
    intro i hi
    have hlt : i < a.length := by omega
    have hlt2 : i < b.length := by omega
    rw [drop_at hlt, drop_at hlt2]
    by_cases hp : rd a (i : Int) = rd b (i : Int)
    · refine Ev.step (f := fun k => conclaveref01_Same.l0 k a b ((i + 1 : Nat) : Int)) (fun k => ?_) (by rw [hp]; simpa using ih (i + 1) (by omega))
      simp only [conclaveref01_Same.l0]
      rw [if_pos (by omega), if_pos (by omega), if_pos (by omega), if_pos hp, w64 (by omega) (by omega)]; rfl
    · refine Ev.step (f := fun k => some false) (fun k => ?_) (by rw [show decide (rd a (i : Int) :: a.drop (i + 1) = rd b (i : Int) :: b.drop (i + 1)) = false by simp [hp]]; exact Ev.now _)
      simp only [conclaveref01_Same.l0]
      rw [if_pos (by omega), if_pos (by omega), if_pos (by omega), if_neg hp]
theorem fSame_f (a b : List Int) (hl : a.length ≤ 9223372036854775807) : Ev (fun k => conclaveref01_Same.f k a b) (decide (a = b)) := by
  unfold conclaveref01_Same.f
  by_cases he : a.length = b.length
  · simp only [if_pos (show (a.length : Int) = (b.length : Int) by omega)]
    exact fSame_ev a b he hl a.length 0 (by omega)
  · simp only [if_neg (show ¬ (a.length : Int) = (b.length : Int) by omega)]
    rw [show decide (a = b) = false by simp; intro h; exact he (by rw [h])]
    exact Ev.now _
theorem Bytes_f (l : List Int) (hl : l.length < 140737488355328) : conclaveref08_Bytes.f l = some l := by
  unfold conclaveref08_Bytes.f
  simp only [Option.bind_some, List.length_nil, Nat.zero_add, if_pos hl, List.nil_append]
end Go.Proofs.Ytkppklinmcnecaa.Plain
end
section
namespace Go.Proofs.Ytkppklinmcnecaa.Plain
open Go.RowKit Go.Proofs.Ytkppklinmcnecaa.P Go.Proofs.YtkppklinmcnecaaW.PrintWords Go.Proofs.YtkppklinmcnecaaW.PrintLast Go.Proofs.YtkppklinmcnecaaW.PrintMore
set_option linter.unusedVariables false
set_option linter.unusedSimpArgs false
theorem rwidth_f {f : Int} (h : isF f = true) : conclaveref08_width.f f = some ((wd f : Nat) : Int) := by
  rcases isF_or h with rfl | rfl <;> simp [conclaveref08_width.f, wd, wrap64]
theorem rList_ev (f : Int) (hf : isF f = true) (l : List Int) (hl : l.length ≤ 4096) : ∀ (d i : Nat) (acc : List Int), i + d = l.length → acc.length ≤ 5 + 8 * i → Ev (fun k => conclaveref08_List.l0 k f l acc (i : Int)) (acc ++ els (wd f) (l.drop i), 0) := by
  intro d
  induction d with
  | zero =>
    intro i acc hi ha
    refine Ev.step (f := fun _ => some (acc, 0)) (fun k => ?_) (by rw [List.drop_eq_nil_of_le (by omega)]; simpa [els] using Ev.now _)
    simp only [conclaveref08_List.l0]
    rw [if_neg (by omega)]
  | succ d ih =>
    intro i acc hi ha
    have hlt : i < l.length := by omega
    have hw := wd_le f
    refine Ev.step (f := fun k => (conclaveref08_Wide.f k (rd l (i : Int)) ((wd f : Nat) : Int)).bind fun t => if acc.length + t.length < 140737488355328 then conclaveref08_List.l0 k f l (acc ++ t) ((i + 1 : Nat) : Int) else none) (fun k => ?_) ?_
    · simp only [conclaveref08_List.l0]
      rw [if_pos (by omega), if_pos (by omega), rwidth_f hf]
      simp only [Option.bind_some]
      rw [w64 (by omega) (by omega)]; rfl
    · refine Ev.bind (f := fun k t => if acc.length + t.length < 140737488355328 then conclaveref08_List.l0 k f l (acc ++ t) ((i + 1 : Nat) : Int) else none) (Wide_f (rd l (i : Int)) (wd f) hw) ?_
      have := ih (i + 1) (acc ++ be (wd f) (rd l (i : Int))) (by omega) (by simp [be_len]; omega)
      simp only [be_len]
      simp only [if_pos (show acc.length + wd f < 140737488355328 by omega)]
      rw [drop_at hlt]
      simpa [els] using this
theorem rList_f (f : Int) (l : List Int) (hu : U64 l) (hl : l.length ≤ 9223372036854775807) : Ev (fun k => conclaveref08_List.f k f l) (listOf f l) := by
  unfold conclaveref08_List.f listOf
  refine Ev.bind (f := fun k t => if t = true then _ else _) (rIn_f f l hu hl) ?_
  by_cases h : inF f l = true
  · simp only [h, if_true]
    by_cases h2 : l.length > 4096
    · rw [if_pos h2]
      refine Ev.congr (f := fun _ => some ([], 4)) (fun k => ?_) (Ev.now _)
      rw [if_pos (by omega)]
    · rw [if_neg h2]
      refine Ev.congr (f := fun k => (conclaveref08_Wide.f k (l.length : Int) 4).bind fun t => if ([f] : List Int).length + t.length < 140737488355328 then conclaveref08_List.l0 k f l ([f] ++ t) 0 else none) (fun k => ?_) ?_
      · rw [if_neg (by omega), wu64_in (by omega) (by omega)]; rfl
      · refine Ev.bind (f := fun k t => if ([f] : List Int).length + t.length < 140737488355328 then conclaveref08_List.l0 k f l ([f] ++ t) 0 else none) (Wide_f (l.length : Int) 4 (by omega)) ?_
        have := rList_ev f (inF_isF h) l (by omega) l.length 0 ([f] ++ be 4 (l.length : Int)) (by omega) (by simp [be_len])
        simp only [be_len]
        simp only [if_pos (show ([f] : List Int).length + 4 < 140737488355328 by simp)]
        simpa using this
  · simp only [h, if_false]; exact Ev.now _
theorem rSeal_f (a : List Int) : Ev (fun k => conclaveref08_Seal.f k a) (sealOf a) := by
  unfold conclaveref08_Seal.f sealOf
  by_cases h : a.length > 1048576
  · rw [if_pos h]
    refine Ev.congr (f := fun _ => some ([], 4)) (fun k => ?_) (Ev.now _)
    rw [if_pos (by omega)]
  · rw [if_neg h]
    simp only [if_neg (show ¬ (a.length : Int) > 1048576 by omega), wu64_in (x := (a.length : Int)) (by omega) (by omega), Option.bind_some]
    refine Ev.bind (f := fun k t => _) (Wide_f (a.length : Int) 4 (by omega)) ?_
    simp only [be_len]
    simp only [if_pos (show 4 + a.length < 140737488355328 by omega)]
    refine Ev.bind (f := fun k t => _) (rSum_f (be 4 (a.length : Int) ++ a) (by simp [be_len]; omega)) ?_
    refine Ev.bind (f := fun k t => _) (Wide_f (sum (be 4 (a.length : Int) ++ a)) 8 (by omega)) ?_
    simp only [be_len, List.length_append]
    simp only [if_pos (show 4 + a.length + 8 < 140737488355328 by omega)]
    exact Ev.now _
set_option maxRecDepth 100000 in
theorem rUnseal_f (b : List Int) (hb : Bytes b) (hl : b.length ≤ 140737488351232) : Ev (fun k => conclaveref08_Unseal.f k b) (unsealOf b) := by
  unfold conclaveref08_Unseal.f
  refine Ev.bind (f := fun k t => _) (rReadCount_f b hb) ?_
  have fin : ∀ x5 e : Int, e ≠ 0 → Ev (fun k => conclaveref08_Unseal.j1 k b x5 e) ([], 0, e) := by
    intro x5 e he
    refine Ev.step (f := fun k => conclaveref08_Unseal.j2 k b x5 e false) (fun k => by simp only [conclaveref08_Unseal.j1, if_neg he]) ?_
    refine Ev.step (f := fun k => conclaveref08_Unseal.j3 k b x5 e) (fun k => by simp only [conclaveref08_Unseal.j2, Bool.false_eq_true, if_false]) ?_
    refine Ev.step (f := fun k => conclaveref08_Unseal.j4 k b x5 e false) (fun k => by simp only [conclaveref08_Unseal.j3, if_neg he]) ?_
    exact Ev.step (f := fun k => some ([], 0, e)) (fun k => by simp only [conclaveref08_Unseal.j4, Bool.false_eq_true, if_false, if_neg he]) (Ev.now _)
  by_cases hc : (readCount b).2.2 = 0
  · obtain ⟨q1, q2, q3, q4⟩ := readCount_ok hb hc
    obtain ⟨n, hn⟩ := Int.eq_ofNat_of_zero_le q3
    simp only [hc, if_true, hn]
    by_cases h1 : (n : Int) > 1048576
    · rw [show unsealOf b = ([], 0, 4) by unfold unsealOf; rw [if_neg (by simp [hc]), if_pos (by omega)]]
      refine Ev.step (f := fun k => conclaveref08_Unseal.j1 k b n 4) (fun k => by simp only [conclaveref08_Unseal.j0, decide_eq_true h1, if_true]) (fin n 4 (by omega))
    · refine Ev.step (f := fun k => conclaveref08_Unseal.j1 k b n 0) (fun k => by simp only [conclaveref08_Unseal.j0, decide_eq_false h1, Bool.false_eq_true, if_false]) ?_
      refine Ev.step (f := fun k => conclaveref08_Unseal.j2 k b n 0 (decide ((b.length : Int) < (4 + n) + 8))) (fun k => by simp only [conclaveref08_Unseal.j1, if_true]; rw [w64 (x := (4 : Int) + n) (by omega) (by omega), w64 (x := (4 : Int) + n + 8) (by omega) (by omega)]) ?_
      by_cases h2 : (b.length : Int) - 4 < (n : Int) + 8
      · rw [show unsealOf b = ([], 0, 7) by unfold unsealOf; rw [if_neg (by simp [hc]), if_neg (by omega), if_pos (by omega)]]
        have h2' : (b.length : Int) < (4 + n) + 8 := by omega
        refine Ev.step (f := fun k => conclaveref08_Unseal.j3 k b n 7) (fun k => by simp only [conclaveref08_Unseal.j2, decide_eq_true h2', if_true]) ?_
        refine Ev.step (f := fun k => conclaveref08_Unseal.j4 k b n 7 false) (fun k => by simp only [conclaveref08_Unseal.j3, if_neg (show ¬ (7 : Int) = 0 by omega)]) ?_
        exact Ev.step (f := fun k => some ([], 0, 7)) (fun k => by simp only [conclaveref08_Unseal.j4, Bool.false_eq_true, if_false, if_neg (show ¬ (7 : Int) = 0 by omega)]) (Ev.now _)
      · have h2' : ¬ (b.length : Int) < (4 + n) + 8 := by omega
        refine Ev.step (f := fun k => conclaveref08_Unseal.j3 k b n 0) (fun k => by simp only [conclaveref08_Unseal.j2, decide_eq_false h2', Bool.false_eq_true, if_false]) ?_
        have e1 : (b.take ((12 : Int) + n).toNat).drop ((4 : Int) + n).toNat = (b.drop (4 + n)).take 8 := by
          rw [List.drop_take, show ((12 : Int) + n).toNat - ((4 : Int) + n).toNat = 8 by omega, show ((4 : Int) + n).toNat = 4 + n by omega]
        have e2 : ((4 : Int) + n).toNat = 4 + n := by omega
        refine Ev.step (f := fun k => (conclaveref08_Taken.f k ((b.drop (4 + n)).take 8)).bind fun t => (conclaveref08_Sum.f k (b.take (4 + n))).bind fun t2 => conclaveref08_Unseal.j4 k b n 0 (t != t2)) (fun k => ?_) ?_
        · simp only [conclaveref08_Unseal.j3, if_true]
          rw [w64 (x := (4 : Int) + n) (by omega) (by omega), w64 (x := (12 : Int) + n) (by omega) (by omega)]
          rw [if_pos (by omega), if_pos (by omega), if_pos (by omega)]
          simp only [if_pos (show (4 : Int) + n ≤ b.length by omega)]
          rw [e1, e2]
        · refine Ev.bind (f := fun k t => (conclaveref08_Sum.f k (b.take (4 + n))).bind fun t2 => conclaveref08_Unseal.j4 k b n 0 (t != t2)) (Taken_f _ ((hb.drop _).take _) (by simp; omega)) ?_
          refine Ev.bind (f := fun k t2 => conclaveref08_Unseal.j4 k b n 0 (tk 0 ((b.drop (4 + n)).take 8) != t2)) (rSum_f _ (by simp; omega)) ?_
          by_cases h3 : tk 0 ((b.drop (4 + n)).take 8) = sum (b.take (4 + n))
          · rw [show unsealOf b = ((b.take (4 + n)).drop 4, 12 + (n : Int), 0) by unfold unsealOf; rw [if_neg (by simp [hc]), if_neg (by omega), if_neg (by omega), hn, Int.toNat_natCast, if_pos h3]]
            refine Ev.step (f := fun k => some ((b.take (4 + n)).drop 4, 12 + (n : Int), 0)) (fun k => ?_) (Ev.now _)
            have h3' : (tk 0 ((b.drop (4 + n)).take 8) != sum (b.take (4 + n))) = false := by simpa using h3
            simp only [conclaveref08_Unseal.j4, h3', Bool.false_eq_true, if_false, if_true]
            rw [w64 (x := (4 : Int) + n) (by omega) (by omega), w64 (x := (12 : Int) + n) (by omega) (by omega), if_pos (by omega), if_pos (by omega), e2, Bytes_f _ (by simp; omega), Option.bind_some]
          · rw [show unsealOf b = ([], 0, 80) by unfold unsealOf; rw [if_neg (by simp [hc]), if_neg (by omega), if_neg (by omega), hn, Int.toNat_natCast, if_neg h3]]
            refine Ev.step (f := fun k => some ([], 0, 80)) (fun k => ?_) (Ev.now _)
            have h3' : (tk 0 ((b.drop (4 + n)).take 8) != sum (b.take (4 + n))) = true := by simpa using h3
            simp only [conclaveref08_Unseal.j4, h3', if_true]
            rw [if_neg (by omega)]
  · rw [show unsealOf b = ([], 0, (readCount b).2.2) by unfold unsealOf; rw [if_pos hc]]
    simp only [if_neg hc]
    exact Ev.step (f := fun k => conclaveref08_Unseal.j1 k b (readCount b).1 (readCount b).2.2) (fun k => by simp only [conclaveref08_Unseal.j0, Bool.false_eq_true, if_false]) (fin _ _ hc)
theorem rReadList_end (b : List Int) (f n : Int) (pos : Int) (e : Int) (acc : List Int) (i : Int) (h : ¬ (i < n ∧ e = 0)) : Ev (fun k => conclaveref08_ReadList.l0 k b f n pos e acc i) (if e = 0 then (f, acc, pos, 0) else (0, [], 0, e)) := by
  have h6 : Ev (fun k => conclaveref08_ReadList.j6 k b f n pos e acc i false) (if e = 0 then (f, acc, pos, 0) else (0, [], 0, e)) := by
    refine Ev.step (f := fun k => some (if e = 0 then (f, acc, pos, 0) else (0, [], 0, e))) (fun k => ?_) (Ev.now _)
    simp only [conclaveref08_ReadList.j6, Bool.false_eq_true, if_false]
    by_cases he : e = 0
    · rw [if_pos he, if_pos he]
    · rw [if_neg he, if_neg he]
  by_cases hi : i < n
  · have he : ¬ e = 0 := fun he => h ⟨hi, he⟩
    refine Ev.step (f := fun k => conclaveref08_ReadList.j6 k b f n pos e acc i false) (fun k => ?_) h6
    simp only [conclaveref08_ReadList.l0, if_pos hi]
    rw [show (e == 0) = false by simpa using he]
  · refine Ev.step (f := fun k => conclaveref08_ReadList.j6 k b f n pos e acc i false) (fun k => ?_) h6
    simp only [conclaveref08_ReadList.l0, if_neg hi]
theorem rReadList_ev (b : List Int) (hb : Bytes b) (hl : b.length ≤ 140737488351232) (n : Nat) (hn : n ≤ 4096) (hf : isF (rd b 0) = true) : ∀ (d i pos : Nat) (acc : List Int), i + d = n → acc.length = i → pos + d * wd (rd b 0) ≤ b.length → below (prime (rd b 0)) acc = true →
    Ev (fun k => conclaveref08_ReadList.l0 k b (rd b 0) (n : Int) (pos : Int) 0 acc (i : Int)) (if below (prime (rd b 0)) (acc ++ rdEls (wd (rd b 0)) d (b.drop pos)) = false then (0, [], 0, 8) else (rd b 0, acc ++ rdEls (wd (rd b 0)) d (b.drop pos), (pos : Int) + (d : Int) * (wd (rd b 0) : Nat), 0)) := by
  have hw := wd_le (rd b 0)
  have hw4 := wd_ge (rd b 0)
  intro d
  induction d with
  | zero =>
    intro i pos acc hi ha hp hacc
    have := rReadList_end b (rd b 0) n pos 0 acc i (by omega)
    simpa [rdEls, hacc] using this
  | succ d ih =>
    intro i pos acc hi ha hp hacc
    rw [Nat.succ_mul] at hp
    have e1 : (b.take ((pos : Int) + ((wd (rd b 0) : Nat) : Int)).toNat).drop (pos : Int).toNat = (b.drop pos).take (wd (rd b 0)) := by
      rw [show ((pos : Int) + ((wd (rd b 0) : Nat) : Int)).toNat = pos + wd (rd b 0) by omega, show (pos : Int).toNat = pos by omega, List.drop_take, show pos + wd (rd b 0) - pos = wd (rd b 0) by omega]
    have hx := tk_range (l := (b.drop pos).take (wd (rd b 0))) (s := 0) (by omega) (by omega)
    obtain ⟨x, hxe⟩ : ∃ x, x = tk 0 ((b.drop pos).take (wd (rd b 0))) := ⟨_, rfl⟩
    rw [← hxe] at hx
    have hin : inF (rd b 0) [x] = decide (x < prime (rd b 0)) := by simp [inF, hf, below]
    refine Ev.step (f := fun k => conclaveref08_ReadList.j6 k b (rd b 0) (n : Int) (pos : Int) 0 acc (i : Int) true) (fun k => by simp only [conclaveref08_ReadList.l0, if_pos (show (i : Int) < n by omega)]; rfl) ?_
    refine Ev.step (f := fun k => (conclaveref08_Taken.f k ((b.drop pos).take (wd (rd b 0)))).bind fun t => (conclaveref01_In.f k (rd b 0) [t]).bind fun t2 => if t2 = true then (if acc.length < 17592186044416 then ((conclaveref08_width.f (rd b 0)).bind fun t347 => (conclaveref08_ReadList.l0 k b (rd b 0) n (wrap64 (pos + t347)) 0 (acc ++ [t]) (wrap64 (i + 1)))) else (none)) else (if acc.length < 17592186044416 then ((conclaveref08_width.f (rd b 0)).bind fun t351 => (conclaveref08_ReadList.l0 k b (rd b 0) n (wrap64 (pos + t351)) 8 (acc ++ [t]) (wrap64 (i + 1)))) else (none))) (fun k => ?_) ?_
    · simp only [conclaveref08_ReadList.j6, if_true]
      rw [rwidth_f hf, Option.bind_some, if_pos (by omega), w64 (x := (pos : Int) + ((wd (rd b 0) : Nat) : Int)) (by omega) (by omega), if_pos (by omega), if_pos (by omega), e1]
    · refine Ev.bind (f := fun k t => (conclaveref01_In.f k (rd b 0) [t]).bind fun t2 => if t2 = true then (if acc.length < 17592186044416 then ((conclaveref08_width.f (rd b 0)).bind fun t347 => (conclaveref08_ReadList.l0 k b (rd b 0) n (wrap64 (pos + t347)) 0 (acc ++ [t]) (wrap64 (i + 1)))) else (none)) else (if acc.length < 17592186044416 then ((conclaveref08_width.f (rd b 0)).bind fun t351 => (conclaveref08_ReadList.l0 k b (rd b 0) n (wrap64 (pos + t351)) 8 (acc ++ [t]) (wrap64 (i + 1)))) else (none))) (Taken_f _ ((hb.drop pos).take _) (by simp; omega)) ?_
      rw [← hxe]
      refine Ev.bind (f := fun k t2 => if t2 = true then (if acc.length < 17592186044416 then ((conclaveref08_width.f (rd b 0)).bind fun t347 => (conclaveref08_ReadList.l0 k b (rd b 0) n (wrap64 (pos + t347)) 0 (acc ++ [x]) (wrap64 (i + 1)))) else (none)) else (if acc.length < 17592186044416 then ((conclaveref08_width.f (rd b 0)).bind fun t351 => (conclaveref08_ReadList.l0 k b (rd b 0) n (wrap64 (pos + t351)) 8 (acc ++ [x]) (wrap64 (i + 1)))) else (none))) (rIn_f (rd b 0) [x] (fun y hy => by simp at hy; subst hy; exact hx) (by simp)) ?_
      rw [hin]
      by_cases hlt : x < prime (rd b 0)
      · have := ih (i + 1) (pos + wd (rd b 0)) (acc ++ [x]) (by omega) (by simp; omega) (by omega) (by rw [below_append, hacc]; simpa [below] using hlt)
        refine Ev.congr (f := fun k => conclaveref08_ReadList.l0 k b (rd b 0) n ((pos + wd (rd b 0) : Nat) : Int) 0 (acc ++ [x]) ((i + 1 : Nat) : Int)) (fun k => ?_) ?_
        · rw [if_pos (decide_eq_true hlt), if_pos (by omega), rwidth_f hf, Option.bind_some, w64 (x := (pos : Int) + ((wd (rd b 0) : Nat) : Int)) (by omega) (by omega), w64 (x := (i : Int) + 1) (by omega) (by omega)]
          rw [show ((i : Int) + 1) = ((i + 1 : Nat) : Int) by omega, show ((pos : Int) + ((wd (rd b 0) : Nat) : Int)) = ((pos + wd (rd b 0) : Nat) : Int) by omega]
        · rw [List.append_assoc] at this
          simp only [rdEls, ← hxe, List.drop_drop]
          rw [show ((pos + wd (rd b 0) : Nat) : Int) + (d : Int) * ((wd (rd b 0) : Nat) : Int) = (pos : Int) + ((d + 1 : Nat) : Int) * ((wd (rd b 0) : Nat) : Int) by push_cast; rw [Int.add_mul]; omega] at this
          simpa using this
      · refine Ev.congr (f := fun k => conclaveref08_ReadList.l0 k b (rd b 0) n ((pos + wd (rd b 0) : Nat) : Int) 8 (acc ++ [x]) ((i + 1 : Nat) : Int)) (fun k => ?_) ?_
        · rw [if_neg (by simpa using hlt), if_pos (by omega), rwidth_f hf, Option.bind_some, w64 (x := (pos : Int) + ((wd (rd b 0) : Nat) : Int)) (by omega) (by omega), w64 (x := (i : Int) + 1) (by omega) (by omega)]
          rw [show ((i : Int) + 1) = ((i + 1 : Nat) : Int) by omega, show ((pos : Int) + ((wd (rd b 0) : Nat) : Int)) = ((pos + wd (rd b 0) : Nat) : Int) by omega]
        · have := rReadList_end b (rd b 0) n ((pos + wd (rd b 0) : Nat) : Int) 8 (acc ++ [x]) ((i + 1 : Nat) : Int) (by omega)
          rw [if_neg (by omega)] at this
          rw [if_pos]
          · exact this
          · simp only [rdEls, ← hxe]
            rw [below_append, below_cons, show decide (x < prime (rd b 0)) = false by simpa using hlt]; simp
set_option maxRecDepth 100000 in
theorem rReadList_f (b : List Int) (hb : Bytes b) (hl : b.length ≤ 140737488351232) : Ev (fun k => conclaveref08_ReadList.f k b) (readListOf b) := by
  unfold conclaveref08_ReadList.f
  by_cases h0 : b.length = 0
  · rw [show readListOf b = (0, [], 0, 7) by unfold readListOf; rw [if_pos h0]]
    simp only [if_pos (show (b.length : Int) = 0 by omega)]
    exact Ev.now _
  · simp only [if_neg (show ¬ (b.length : Int) = 0 by omega), if_pos (show 0 < (b.length : Int) by omega)]
    have key : isF (rd b 0) = true → Ev (fun k => conclaveref08_ReadList.j0 k b (rd b 0) false) (readListOf b) := by
      intro hf
      refine Ev.step (f := fun k => (conclaveref08_ReadCount.f k (b.drop 1)).bind fun r => if r.2.2 = 0 then conclaveref08_ReadList.j1 k b (rd b 0) r.1 r.2.1 r.2.2 (decide (r.1 > 4096)) else conclaveref08_ReadList.j1 k b (rd b 0) r.1 r.2.1 r.2.2 false) (fun k => by simp only [conclaveref08_ReadList.j0, Bool.false_eq_true, if_false, if_pos (show 1 ≤ (b.length : Int) by omega)]) ?_
      refine Ev.bind (f := fun k r => if r.2.2 = 0 then conclaveref08_ReadList.j1 k b (rd b 0) r.1 r.2.1 r.2.2 (decide (r.1 > 4096)) else conclaveref08_ReadList.j1 k b (rd b 0) r.1 r.2.1 r.2.2 false) (rReadCount_f (b.drop 1) (hb.drop 1)) ?_
      have fin : ∀ (x7 x8 e : Int), e ≠ 0 → Ev (fun k => conclaveref08_ReadList.j2 k b (rd b 0) x7 x8 e) (0, [], 0, e) := by
        intro x7 x8 e he
        refine Ev.step (f := fun k => conclaveref08_ReadList.j3 k b (rd b 0) x7 (wrap64 (x8 + 1)) e false) (fun k => by simp only [conclaveref08_ReadList.j2, if_neg he]) ?_
        refine Ev.step (f := fun k => conclaveref08_ReadList.j4 k b (rd b 0) x7 (wrap64 (x8 + 1)) e) (fun k => by simp only [conclaveref08_ReadList.j3, Bool.false_eq_true, if_false]) ?_
        refine Ev.step (f := fun k => conclaveref08_ReadList.l0 k b (rd b 0) x7 (wrap64 (x8 + 1)) e [] 0) (fun k => by simp only [conclaveref08_ReadList.j4]) ?_
        have := rReadList_end b (rd b 0) x7 (wrap64 (x8 + 1)) e [] 0 (fun h => he h.2)
        rw [if_neg he] at this; exact this
      by_cases hc : (readCount (b.drop 1)).2.2 = 0
      · obtain ⟨q1, q2, q3, q4⟩ := readCount_ok (hb.drop 1) hc
        rw [List.length_drop] at q1
        have hw := wd_le (rd b 0)
        obtain ⟨n, hn⟩ := Int.eq_ofNat_of_zero_le q3
        simp only [hc, if_true, q2, hn]
        by_cases h4 : (n : Int) > 4096
        · rw [show readListOf b = (0, [], 0, 4) by unfold readListOf; rw [if_neg h0, if_neg (by simp [hf]), if_neg (fun h_ => h_ hc), if_pos (by omega)]]
          exact Ev.step (f := fun k => conclaveref08_ReadList.j2 k b (rd b 0) n 4 4) (fun k => by simp only [conclaveref08_ReadList.j1, decide_eq_true h4, if_true]) (fin n 4 4 (by omega))
        · have h1 : (n : Int) * ((wd (rd b 0) : Nat) : Int) ≤ 4096 * 8 := by
            have := Nat.mul_le_mul (show n ≤ 4096 by omega) hw
            exact_mod_cast this
          have h2 : 0 ≤ (n : Int) * ((wd (rd b 0) : Nat) : Int) := by exact_mod_cast Nat.zero_le _
          refine Ev.step (f := fun k => conclaveref08_ReadList.j2 k b (rd b 0) n 4 0) (fun k => by simp only [conclaveref08_ReadList.j1, decide_eq_false h4, Bool.false_eq_true, if_false]) ?_
          refine Ev.step (f := fun k => conclaveref08_ReadList.j3 k b (rd b 0) n 5 0 (decide ((b.length : Int) - 5 < (n : Int) * ((wd (rd b 0) : Nat) : Int)))) (fun k => ?_) ?_
          · simp only [conclaveref08_ReadList.j2, if_true]
            rw [rwidth_f hf, Option.bind_some, w64 (x := (4 : Int) + 1) (by omega) (by omega), w64 (x := (b.length : Int) - (4 + 1)) (by omega) (by omega), w64 (x := (n : Int) * ((wd (rd b 0) : Nat) : Int)) (by omega) (by omega)]
            rfl
          · by_cases h5 : (b.length : Int) - 5 < (n : Int) * ((wd (rd b 0) : Nat) : Int)
            · rw [show readListOf b = (0, [], 0, 7) by unfold readListOf; rw [if_neg h0, if_neg (by simp [hf]), if_neg (fun h_ => h_ hc), if_neg (by omega), hn, if_pos h5]]
              refine Ev.step (f := fun k => conclaveref08_ReadList.j4 k b (rd b 0) n 5 7) (fun k => by simp only [conclaveref08_ReadList.j3, decide_eq_true h5, if_true]) ?_
              refine Ev.step (f := fun k => conclaveref08_ReadList.l0 k b (rd b 0) n 5 7 [] 0) (fun k => by simp only [conclaveref08_ReadList.j4]) ?_
              have := rReadList_end b (rd b 0) n 5 7 [] 0 (by omega)
              rw [if_neg (by omega)] at this; exact this
            · refine Ev.step (f := fun k => conclaveref08_ReadList.j4 k b (rd b 0) n 5 0) (fun k => by simp only [conclaveref08_ReadList.j3, decide_eq_false h5, Bool.false_eq_true, if_false]) ?_
              refine Ev.step (f := fun k => conclaveref08_ReadList.l0 k b (rd b 0) n 5 0 [] 0) (fun k => by simp only [conclaveref08_ReadList.j4]) ?_
              have h6 : 5 + n * wd (rd b 0) ≤ b.length := by
                have : ((n * wd (rd b 0) : Nat) : Int) = (n : Int) * ((wd (rd b 0) : Nat) : Int) := by push_cast; rfl
                omega
              have := rReadList_ev b hb hl n (by omega) hf n 0 5 [] (by omega) rfl h6 rfl
              rw [show readListOf b = (if below (prime (rd b 0)) ([] ++ rdEls (wd (rd b 0)) n (b.drop 5)) = false then (0, [], 0, 8) else (rd b 0, [] ++ rdEls (wd (rd b 0)) n (b.drop 5), ((5 : Nat) : Int) + (n : Int) * (wd (rd b 0) : Nat), 0)) by
                unfold readListOf; rw [if_neg h0, if_neg (by simp [hf]), if_neg (fun h_ => h_ hc), if_neg (by omega), hn, if_neg h5, Int.toNat_natCast, List.nil_append]; rfl]
              exact this
      · rw [show readListOf b = (0, [], 0, (readCount (b.drop 1)).2.2) by unfold readListOf; rw [if_neg h0, if_neg (by simp [hf]), if_pos hc]]
        simp only [if_neg hc]
        exact Ev.step (f := fun k => conclaveref08_ReadList.j2 k b (rd b 0) (readCount (b.drop 1)).1 (readCount (b.drop 1)).2.1 (readCount (b.drop 1)).2.2) (fun k => by simp only [conclaveref08_ReadList.j1, Bool.false_eq_true, if_false]) (fin _ _ _ hc)
    by_cases h1 : rd b 0 = 1
    · simp only [if_pos h1]
      exact key (by simp [isF, h1])
    · simp only [if_neg h1]
      by_cases h2 : rd b 0 = 2
      · rw [show (rd b 0 != 2) = false by simpa using h2]
        exact key (by simp [isF, h2])
      · rw [show (rd b 0 != 2) = true by simpa using h2]
        rw [show readListOf b = (0, [], 0, 8) by unfold readListOf; rw [if_neg h0, if_pos (by simp [isF, h1, h2])]]
        exact Ev.step (f := fun k => some (0, [], 0, 8)) (fun k => by simp only [conclaveref08_ReadList.j0, if_true]) (Ev.now _)
end Go.Proofs.Ytkppklinmcnecaa.Plain
end
