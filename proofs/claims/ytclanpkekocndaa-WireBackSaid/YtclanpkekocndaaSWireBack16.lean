import Derived.Test.YtclanpkekocndaaSWireBack13
import Derived.Test.YtclanpkekocndaaSWireBack14
import Derived.Test.YtclanpkekocndaaSWireBack15
import Derived.Test.YtclanpkekocndaaRows
import Derived.WalkKit
import Derived.ProofKit
import Derived.OpenShut
import Derived.ShutString
import Derived.ChangeOld
import Derived.Below
import Derived.SizedLaws
section
/- Plain lemmas on numbers and lists that the pure parts of this seat's laws share; no program in sight. -/
namespace Go.Proofs.Ytclanpkekocndaa.Plain
open Go.RowKit Go.Proofs.YtclanpkekocndaaW.PrintWords Go.Proofs.YtclanpkekocndaaW.PrintLast Go.Proofs.YtclanpkekocndaaW.PrintMore
set_option linter.unusedVariables false
set_option linter.unusedSimpArgs false

theorem w64 {x : Int} (h0 : -9223372036854775808 ≤ x) (h1 : x ≤ 9223372036854775807) : wrap64 x = x := by unfold wrap64; omega
theorem wu64 (x : Int) : IntKind.u64.wrap x = x % 18446744073709551616 := by simp [IntKind.wrap, IntKind.bits, IntKind.signed]
theorem wu64_in {x : Int} (h0 : 0 ≤ x) (h1 : x < 18446744073709551616) : IntKind.u64.wrap x = x := by rw [wu64]; omega
theorem wf_u8 {x : Int} (h : (Lit.int .u8 x).wf = true) : 0 ≤ x ∧ x < 256 := by
  simp [Lit.wf, IntKind.min, IntKind.max, IntKind.bits, IntKind.signed] at h; omega
theorem wf_u64 {x : Int} (h : (Lit.int .u64 x).wf = true) : 0 ≤ x ∧ x < 18446744073709551616 := by
  simp [Lit.wf, IntKind.min, IntKind.max, IntKind.bits, IntKind.signed] at h; omega
/-- A list of bytes. -/
def Bytes (l : List Int) : Prop := ∀ x ∈ l, 0 ≤ x ∧ x < 256
theorem bytes_of_wf {l : List Int} (h : ∀ x ∈ l, (Lit.int .u8 x).wf = true) : Bytes l := fun x hx => wf_u8 (h x hx)
theorem Bytes.take {l : List Int} (h : Bytes l) (n : Nat) : Bytes (l.take n) := fun x hx => h x (List.mem_of_mem_take hx)
theorem Bytes.drop {l : List Int} (h : Bytes l) (n : Nat) : Bytes (l.drop n) := fun x hx => h x (List.mem_of_mem_drop hx)
theorem Bytes.append {a b : List Int} (h : Bytes a) (h' : Bytes b) : Bytes (a ++ b) := fun x hx => (List.mem_append.1 hx).elim (h x) (h' x)

theorem rd_at {l : List Int} {i : Nat} (h : i < l.length) : rd l (i : Int) = l[i] := by simp [rd, h]
theorem drop_at {l : List Int} {i : Nat} (h : i < l.length) : l.drop i = rd l (i : Int) :: l.drop (i + 1) := by rw [rd_at h, List.drop_eq_getElem_cons h]

/-! ### numbers as bytes, the highest first -/
def be : Nat → Int → List Int
  | 0, _ => []
  | s + 1, n => (n / 2 ^ (8 * s)) % 256 :: be s n
theorem be_len (s : Nat) (n : Int) : (be s n).length = s := by induction s with | zero => rfl | succ s ih => simp [be, ih]
theorem be_bytes (s : Nat) (n : Int) : Bytes (be s n) := by
  induction s with
  | zero => intro x hx; simp [be] at hx
  | succ s ih =>
    intro x hx
    simp only [be, List.mem_cons] at hx
    rcases hx with rfl | hx
    · omega
    · exact ih x hx
theorem shr8 (n : Int) (s : Nat) (hs : s < 8) : shr .u64 n (8 * (s : Int)) = n / 2 ^ (8 * s) := by
  unfold shr
  rw [show (8 * (s : Int)).toNat = 8 * s by omega, Nat.min_eq_left (by simp only [IntKind.bits]; omega)]

/-! ### bytes as a number -/
def tk (s : Int) (l : List Int) : Int := l.foldl (fun n c => (n * 256 + c) % 18446744073709551616) s
theorem or_step {n c : Int} (h0 : 0 ≤ c) (h1 : c < 256) : Go.bits .or .u64 (IntKind.u64.wrap (n * 256)) (IntKind.u64.wrap c) = (n * 256 + c) % 18446744073709551616 := by
  rw [wu64_in (x := c) h0 (by omega), wu64]
  rw [bits_join .u64 64 (by decide) (fun n h0 h1 => wu64_in h0 (by simpa using h1)) 8 _ c (by omega) (by omega) (by omega) h0 (by omega) (by omega)]
  omega
theorem tk_cons (s c : Int) (l : List Int) : tk s (c :: l) = tk ((s * 256 + c) % 18446744073709551616) l := rfl
theorem tk_range {l : List Int} : ∀ {s : Int}, 0 ≤ s → s < 18446744073709551616 → 0 ≤ tk s l ∧ tk s l < 18446744073709551616 := by
  induction l with
  | nil => intro s h0 h1; exact ⟨h0, h1⟩
  | cons c l ih => intro s h0 h1; rw [tk_cons]; exact ih (by omega) (by omega)

/-! ### sums -/
def sums (s c : Int) : Int := IntKind.u64.wrap ((Go.bits .xor .u64 s (IntKind.u64.wrap c)) * 1099511628211)
def sm (s : Int) (l : List Int) : Int := l.foldl sums s
theorem sm_cons (s c : Int) (l : List Int) : sm s (c :: l) = sm (sums s c) l := rfl
theorem sums_range (s c : Int) : 0 ≤ sums s c ∧ sums s c < 18446744073709551616 := by unfold sums; rw [wu64]; omega
theorem sm_range {l : List Int} : ∀ {s : Int}, 0 ≤ s → s < 18446744073709551616 → 0 ≤ sm s l ∧ sm s l < 18446744073709551616 := by
  induction l with
  | nil => intro s h0 h1; exact ⟨h0, h1⟩
  | cons c l ih => intro s h0 h1; rw [sm_cons]; exact ih (sums_range _ _).1 (sums_range _ _).2
end Go.Proofs.Ytclanpkekocndaa.Plain
end
section
/- What the functions of the package wire on numbers and sums come to, in plain words: for all bytes and numbers. -/
namespace Go.Proofs.Ytclanpkekocndaa.Plain
open Go.RowKit Go.Proofs.Ytclanpkekocndaa.P Go.Proofs.YtclanpkekocndaaW.PrintWords Go.Proofs.YtclanpkekocndaaW.PrintLast Go.Proofs.YtclanpkekocndaaW.PrintMore
set_option linter.unusedVariables false
set_option linter.unusedSimpArgs false

theorem big_ev (n : Int) : ∀ (s : Nat) (acc : List Int), s ≤ 8 → acc.length + s < 140737488355328 → Ev (fun k => wire_big.l0 k acc n ((s : Int) - 1)) (acc ++ be s n) := by
  intro s
  induction s with
  | zero =>
    intro acc _ _
    refine Ev.step (f := fun _ => some acc) (fun k => ?_) (by simpa [be] using Ev.now acc)
    simp only [wire_big.l0]
    rw [if_neg (by omega)]
  | succ s ih =>
    intro acc hs hl
    refine Ev.step (f := fun k => wire_big.l0 k (acc ++ [(n / 2 ^ (8 * s)) % 256]) n ((s : Int) - 1)) (fun k => ?_) ?_
    · simp only [wire_big.l0]
      rw [show (((s + 1 : Nat) : Int) - 1) = (s : Int) by omega, if_pos (by omega), w64 (x := 8 * (s : Int)) (by omega) (by omega), if_pos (by omega), if_pos (by omega), shr8 n s (by omega), w64 (x := (s : Int) - 1) (by omega) (by omega)]
    · have := ih (acc ++ [(n / 2 ^ (8 * s)) % 256]) (by omega) (by simp; omega)
      simpa [be] using this
theorem big_f (acc : List Int) (n : Int) (s : Nat) (hs : s ≤ 8) (hl : acc.length + s < 140737488355328) : Ev (fun k => wire_big.f k acc n (s : Int)) (acc ++ be s n) :=
  Ev.congr (fun k => by unfold wire_big.f; rw [w64 (by omega) (by omega)]) (big_ev n s acc hs hl)
theorem taken_ev (l : List Int) (hb : Bytes l) (hl : l.length ≤ 9223372036854775807) : ∀ (d i : Nat) (s : Int), i + d = l.length → Ev (fun k => wire_taken.l0 k s l (l.length : Int) (i : Int)) (tk s (l.drop i)) := by
  intro d
  induction d with
  | zero =>
    intro i s hi
    refine Ev.step (f := fun _ => some s) (fun k => ?_) (by rw [List.drop_eq_nil_of_le (by omega)]; exact Ev.now s)
    simp only [wire_taken.l0]
    rw [if_neg (by omega)]
  | succ d ih =>
    intro i s hi
    have hlt : i < l.length := by omega
    have hc := hb _ (List.getElem_mem hlt)
    rw [← rd_at hlt] at hc
    refine Ev.step (f := fun k => wire_taken.l0 k ((s * 256 + rd l (i : Int)) % 18446744073709551616) l (l.length : Int) ((i + 1 : Nat) : Int)) (fun k => ?_) ?_
    · simp only [wire_taken.l0]
      rw [if_pos (by omega), if_pos (by omega), if_pos (by omega), or_step hc.1 hc.2, w64 (by omega) (by omega)]; rfl
    · rw [drop_at hlt, tk_cons]; exact ih (i + 1) _ (by omega)
theorem taken_f (l : List Int) (hb : Bytes l) (hl : l.length ≤ 9223372036854775807) : Ev (fun k => wire_taken.f k l) (tk 0 l) := taken_ev l hb hl l.length 0 0 (by omega)
theorem Sum_ev (l : List Int) (hl : l.length ≤ 9223372036854775807) : ∀ (d i : Nat) (s : Int), i + d = l.length → Ev (fun k => wire_Sum.l0 k s l (l.length : Int) (i : Int)) (sm s (l.drop i)) := by
  intro d
  induction d with
  | zero =>
    intro i s hi
    refine Ev.step (f := fun _ => some s) (fun k => ?_) (by rw [List.drop_eq_nil_of_le (by omega)]; exact Ev.now s)
    simp only [wire_Sum.l0]
    rw [if_neg (by omega)]
  | succ d ih =>
    intro i s hi
    have hlt : i < l.length := by omega
    refine Ev.step (f := fun k => wire_Sum.l0 k (sums s (rd l (i : Int))) l (l.length : Int) ((i + 1 : Nat) : Int)) (fun k => ?_) ?_
    · simp only [wire_Sum.l0]
      rw [if_pos (by omega), if_pos (by omega), if_pos (by omega), w64 (by omega) (by omega)]; rfl
    · rw [drop_at hlt, sm_cons]; exact ih (i + 1) _ (by omega)
/-- The sum of bytes. -/
def sum (l : List Int) : Int := sm 14695981039346656037 l
theorem Sum_f (l : List Int) (hl : l.length ≤ 9223372036854775807) : Ev (fun k => wire_Sum.f k l) (sum l) := Sum_ev l hl l.length 0 _ (by omega)
/-- ReadCount's answer. -/
def readCount (l : List Int) : Int × Int × Int := if l.length < 4 then (0, 0, 7) else if tk 0 (l.take 4) > 2147483647 then (0, 0, 8) else (tk 0 (l.take 4), 4, 0)
theorem ReadCount_f (l : List Int) (hb : Bytes l) : Ev (fun k => wire_ReadCount.f k l) (readCount l) := by
  unfold wire_ReadCount.f readCount
  by_cases h0 : l.length < 4
  · rw [if_pos h0]
    refine Ev.congr (f := fun _ => some (0, 0, 7)) (fun k => ?_) (Ev.now _)
    rw [if_pos (by omega)]
  · rw [if_neg h0]
    have ht := taken_f (l.take 4) (hb.take 4) (by simp; omega)
    have hr := tk_range (l := l.take 4) (s := 0) (by omega) (by omega)
    refine Ev.congr (f := fun k => (wire_taken.f k (l.take 4)).bind fun t => if t > 2147483647 then some (0, 0, 8) else some (wrap64 t, 4, 0)) (fun k => ?_) (Ev.bind (f := fun _ t => if t > 2147483647 then some (0, 0, 8) else some (wrap64 t, 4, 0)) ht ?_)
    · rw [if_neg (by omega), if_pos (by omega)]
    · by_cases h1 : tk 0 (l.take 4) > 2147483647
      · simp only [if_pos h1]; exact Ev.now _
      · simp only [if_neg h1]; rw [w64 (by omega) (by omega)]; exact Ev.now _
theorem Same_f (l : List Int) : conclaveref08_Same.f l l = some true := by simp [conclaveref08_Same.f]
end Go.Proofs.Ytclanpkekocndaa.Plain
end
section
/- What the functions of the package field that ask for elements come to, in plain words. -/
namespace Go.Proofs.Ytclanpkekocndaa.Plain
open Go.RowKit Go.Proofs.Ytclanpkekocndaa.P Go.Proofs.YtclanpkekocndaaW.PrintWords Go.Proofs.YtclanpkekocndaaW.PrintLast Go.Proofs.YtclanpkekocndaaW.PrintMore
set_option linter.unusedVariables false
set_option linter.unusedSimpArgs false

/-- A field's prime; 0: no field. -/
def prime (f : Int) : Int := if f = 1 then 2013265921 else if f = 2 then 18446744069414584321 else 0
/-- Are all of a list less than a number? -/
def below (p : Int) (l : List Int) : Bool := l.all fun x => decide (x < p)
theorem below_nil (p : Int) : below p [] = true := rfl
theorem below_cons (p x : Int) (l : List Int) : below p (x :: l) = (decide (x < p) && below p l) := rfl
theorem below_append (p : Int) (a b : List Int) : below p (a ++ b) = (below p a && below p b) := by simp [below]
theorem below_iff {p : Int} {l : List Int} : below p l = true ↔ ∀ x ∈ l, x < p := by simp [below]
def isF (f : Int) : Bool := decide (f = 1) || decide (f = 2)
/-- Is it a field, and are these its elements? -/
def inF (f : Int) (l : List Int) : Bool := isF f && below (prime f) l
/-- Numbers of 64 bits. -/
def U64 (l : List Int) : Prop := ∀ x ∈ l, 0 ≤ x ∧ x < 18446744073709551616
theorem u64_of_wf {l : List Int} (h : ∀ x ∈ l, (Lit.int .u64 x).wf = true) : U64 l := fun x hx => wf_u64 (h x hx)
theorem isF_or {f : Int} (h : isF f = true) : f = 1 ∨ f = 2 := by simpa [isF] using h
theorem prime_range (f : Int) : 0 ≤ prime f ∧ prime f < 18446744073709551616 := by
  unfold prime; split
  · omega
  · split <;> omega
theorem prime_pos {f : Int} (h : isF f = true) : 0 < prime f := by
  unfold prime; rcases isF_or h with rfl | rfl <;> decide
theorem reckoner_in_ev (p : Int) (b : Bool) (l : List Int) (hl : l.length ≤ 9223372036854775807) : ∀ (d i : Nat), i + d = l.length → Ev (fun k => field_reckoner_in.l0 k l (l.length : Int) (i : Int) p b) (below p (l.drop i)) := by
  intro d
  induction d with
  | zero =>
    intro i hi
    refine Ev.step (f := fun _ => some true) (fun k => ?_) (by rw [List.drop_eq_nil_of_le (by omega)]; exact Ev.now _)
    simp only [field_reckoner_in.l0]
    rw [if_neg (by omega)]
  | succ d ih =>
    intro i hi
    have hlt : i < l.length := by omega
    rw [drop_at hlt, below_cons]
    by_cases hp : rd l (i : Int) ≥ p
    · refine Ev.step (f := fun _ => some false) (fun k => ?_) (by rw [show decide (rd l (i : Int) < p) = false by simpa using hp]; exact Ev.now _)
      simp only [field_reckoner_in.l0]
      rw [if_pos (by omega), if_pos (by omega), if_pos (by omega), if_pos hp]
    · refine Ev.step (f := fun k => field_reckoner_in.l0 k l (l.length : Int) ((i + 1 : Nat) : Int) p b) (fun k => ?_) (by rw [show decide (rd l (i : Int) < p) = true by simp; omega]; simpa using ih (i + 1) (by omega))
      simp only [field_reckoner_in.l0]
      rw [if_pos (by omega), if_pos (by omega), if_pos (by omega), if_neg hp, w64 (by omega) (by omega)]; rfl
theorem asked_f (f : Int) (l : List Int) (hl : l.length ≤ 9223372036854775807) : Ev (fun k => field_asked.f k f l) (if inF f l then (prime f, decide (f = 2), 0) else (0, false, 2)) := by
  unfold field_asked.f field_of.f inF isF prime
  by_cases h1 : f = 1
  · subst h1
    simp only [if_true, Option.bind_some, decide_true, Bool.true_or, Bool.true_and]
    refine Ev.bind (f := fun _ t => if t = true then some (2013265921, false, 0) else some (0, false, 2)) (reckoner_in_ev 2013265921 false l hl l.length 0 (by omega)) ?_
    by_cases hb : below 2013265921 l = true
    · simp only [List.drop_zero, hb, if_true]; exact Ev.now _
    · simp only [List.drop_zero, hb, if_false]; exact Ev.now _
  · by_cases h2 : f = 2
    · subst h2
      simp only [if_neg h1, if_true, Option.bind_some, decide_true, Bool.or_true, Bool.true_and]
      refine Ev.bind (f := fun _ t => if t = true then some (18446744069414584321, true, 0) else some (0, false, 2)) (reckoner_in_ev 18446744069414584321 true l hl l.length 0 (by omega)) ?_
      by_cases hb : below 18446744069414584321 l = true
      · simp only [List.drop_zero, hb, if_true]; exact Ev.now _
      · simp only [List.drop_zero, hb, if_false]; exact Ev.now _
    · simp only [if_neg h1, if_neg h2, Option.bind_some, show decide (f = 1) = false by simpa using h1, show decide (f = 2) = false by simpa using h2, Bool.or_false, Bool.false_and, Bool.false_eq_true, if_false]
      exact Ev.now _
theorem In_f (f : Int) (l : List Int) (hl : l.length ≤ 9223372036854775807) : Ev (fun k => field_In.f k f l) (inF f l) := by
  unfold field_In.f
  refine Ev.bind (f := fun _ bt => some (bt.2.2 == 0)) (asked_f f l hl) ?_
  by_cases h : inF f l = true
  · simp only [if_pos h]; rw [h]; exact Ev.now _
  · simp only [if_neg h]; rw [Bool.eq_false_iff.2 h]; exact Ev.now _
theorem inF_isF {f : Int} {l : List Int} (h : inF f l = true) : isF f = true := by
  unfold inF at h; exact (Bool.and_eq_true_iff.1 h).1
end Go.Proofs.Ytclanpkekocndaa.Plain
end
section
/- What List, ReadList, Seal, Unseal of the package wire come to, in plain words: for all bytes and numbers. -/
namespace Go.Proofs.Ytclanpkekocndaa.Plain
open Go.RowKit Go.Proofs.Ytclanpkekocndaa.P Go.Proofs.YtclanpkekocndaaW.PrintWords Go.Proofs.YtclanpkekocndaaW.PrintLast Go.Proofs.YtclanpkekocndaaW.PrintMore
set_option linter.unusedVariables false
set_option linter.unusedSimpArgs false

/-- How many bytes an element has. -/
def wd (f : Int) : Nat := if f = 1 then 4 else 8
theorem wd_le (f : Int) : wd f ≤ 8 := by unfold wd; split <;> omega
theorem wd_ge (f : Int) : 4 ≤ wd f := by unfold wd; split <;> omega
theorem width_f (f : Int) : wire_width.f f = some ((wd f : Nat) : Int) := by unfold wire_width.f wd; split <;> rfl
/-- The elements as bytes. -/
def els (w : Nat) : List Int → List Int
  | [] => []
  | x :: l => be w x ++ els w l
theorem els_len (w : Nat) (l : List Int) : (els w l).length = l.length * w := by
  induction l with
  | nil => simp [els]
  | cons x l ih => simp only [els, List.length_append, be_len, ih, List.length_cons, Nat.succ_mul]; omega
theorem els_bytes (w : Nat) (l : List Int) : Bytes (els w l) := by
  induction l with
  | nil => intro x hx; simp [els] at hx
  | cons x l ih => exact (be_bytes w x).append ih
/-- List's answer. -/
def listOf (f : Int) (l : List Int) : List Int × Int := if inF f l then (if l.length > 4096 then ([], 4) else (f :: (be 4 l.length ++ els (wd f) l), 0)) else ([], 2)
theorem List_ev (f : Int) (l : List Int) (hl : l.length ≤ 4096) : ∀ (d i : Nat) (acc : List Int), i + d = l.length → acc.length ≤ 5 + 8 * i → Ev (fun k => wire_List.l0 k f acc l (l.length : Int) (i : Int)) (acc ++ els (wd f) (l.drop i), 0) := by
  intro d
  induction d with
  | zero =>
    intro i acc hi ha
    refine Ev.step (f := fun _ => some (acc, 0)) (fun k => ?_) (by rw [List.drop_eq_nil_of_le (by omega)]; simpa [els] using Ev.now _)
    simp only [wire_List.l0]
    rw [if_neg (by omega)]
  | succ d ih =>
    intro i acc hi ha
    have hlt : i < l.length := by omega
    have hw := wd_le f
    refine Ev.step (f := fun k => (wire_big.f k acc (rd l (i : Int)) ((wd f : Nat) : Int)).bind fun t => wire_List.l0 k f t l (l.length : Int) ((i + 1 : Nat) : Int)) (fun k => ?_) ?_
    · simp only [wire_List.l0]
      rw [if_pos (by omega), if_pos (by omega), if_pos (by omega), width_f]
      simp only [Option.bind_some]
      rw [w64 (by omega) (by omega)]; rfl
    · refine Ev.bind (f := fun k t => wire_List.l0 k f t l (l.length : Int) ((i + 1 : Nat) : Int)) (big_f acc (rd l (i : Int)) (wd f) hw (by omega)) ?_
      have := ih (i + 1) (acc ++ be (wd f) (rd l (i : Int))) (by omega) (by simp [be_len]; omega)
      rw [drop_at hlt]
      simpa [els] using this
theorem List_f (f : Int) (l : List Int) (hl : l.length ≤ 9223372036854775807) : Ev (fun k => wire_List.f k f l) (listOf f l) := by
  unfold wire_List.f listOf
  refine Ev.bind (f := fun k t => if t = true then _ else _) (In_f f l hl) ?_
  by_cases h : inF f l = true
  · simp only [h, if_true]
    by_cases h2 : l.length > 4096
    · rw [if_pos h2]
      refine Ev.congr (f := fun _ => some ([], 4)) (fun k => ?_) (Ev.now _)
      rw [if_pos (by omega)]
    · rw [if_neg h2]
      refine Ev.congr (f := fun k => (wire_big.f k [f] (l.length : Int) 4).bind fun t => wire_List.l0 k f t l (l.length : Int) 0) (fun k => ?_) ?_
      · rw [if_neg (by omega), wu64_in (by omega) (by omega)]
      · refine Ev.bind (f := fun k t => wire_List.l0 k f t l (l.length : Int) 0) (big_f [f] (l.length : Int) 4 (by omega) (by simp)) ?_
        have := List_ev f l (by omega) l.length 0 ([f] ++ be 4 (l.length : Int)) (by omega) (by simp [be_len])
        simpa using this
  · simp only [h, if_false]; exact Ev.now _
/-- Seal's answer. -/
def sealOf (a : List Int) : List Int × Int := if a.length > 1048576 then ([], 4) else ((be 4 a.length ++ a) ++ be 8 (sum (be 4 a.length ++ a)), 0)
theorem Seal_f (a : List Int) : Ev (fun k => wire_Seal.f k a) (sealOf a) := by
  unfold wire_Seal.f sealOf
  by_cases h : a.length > 1048576
  · rw [if_pos h]
    refine Ev.congr (f := fun _ => some ([], 4)) (fun k => ?_) (Ev.now _)
    rw [if_pos (by omega)]
  · rw [if_neg h]
    simp only [if_neg (show ¬ (a.length : Int) > 1048576 by omega), wu64_in (x := (a.length : Int)) (by omega) (by omega), Option.bind_some]
    refine Ev.bind (f := fun k t => _) (big_f [] (a.length : Int) 4 (by omega) (by simp)) ?_
    simp only [List.nil_append, be_len]
    simp only [if_pos (show 4 + a.length < 140737488355328 by omega)]
    refine Ev.bind (f := fun k t => _) (Sum_f (be 4 (a.length : Int) ++ a) (by simp [be_len]; omega)) ?_
    refine Ev.bind (f := fun k t => some (t, 0)) (big_f (be 4 (a.length : Int) ++ a) (sum (be 4 (a.length : Int) ++ a)) 8 (by omega) (by simp [be_len]; omega)) ?_
    exact Ev.now _
/-- The elements that so many bytes stand for. -/
def rdEls (w : Nat) : Nat → List Int → List Int
  | 0, _ => []
  | n + 1, b => tk 0 (b.take w) :: rdEls w n (b.drop w)
/-- ReadList's answer. -/
def readListOf (b : List Int) : Int × List Int × Int × Int :=
  if b.length = 0 then (0, [], 0, 7)
  else if isF (rd b 0) = false then (0, [], 0, 8)
  else if (readCount (b.drop 1)).2.2 ≠ 0 then (0, [], 0, (readCount (b.drop 1)).2.2)
  else if (readCount (b.drop 1)).1 > 4096 then (0, [], 0, 4)
  else if (b.length : Int) - 5 < (readCount (b.drop 1)).1 * (wd (rd b 0) : Nat) then (0, [], 0, 7)
  else if below (prime (rd b 0)) (rdEls (wd (rd b 0)) (readCount (b.drop 1)).1.toNat (b.drop 5)) = false then (0, [], 0, 8)
  else (rd b 0, rdEls (wd (rd b 0)) (readCount (b.drop 1)).1.toNat (b.drop 5), 5 + (readCount (b.drop 1)).1 * (wd (rd b 0) : Nat), 0)
theorem readCount_ok {l : List Int} (hb : Bytes l) (h : (readCount l).2.2 = 0) : 4 ≤ l.length ∧ (readCount l).2.1 = 4 ∧ 0 ≤ (readCount l).1 ∧ (readCount l).1 ≤ 2147483647 := by
  unfold readCount at h ⊢
  have hr := tk_range (l := l.take 4) (s := 0) (by omega) (by omega)
  by_cases h0 : l.length < 4
  · simp [if_pos h0] at h
  · simp only [if_neg h0] at h ⊢
    by_cases h1 : tk 0 (l.take 4) > 2147483647
    · simp [if_pos h1] at h
    · simp only [if_neg h1] at h ⊢; exact ⟨by omega, trivial, by omega, by omega⟩
set_option maxRecDepth 100000 in
theorem ReadList_ev (b : List Int) (hb : Bytes b) (hl : b.length ≤ 140737492549632) (n : Nat) (hn : n ≤ 4096) (hf : isF (rd b 0) = true) : ∀ (d i pos : Nat) (acc : List Int), i + d = n → acc.length = i → pos + d * wd (rd b 0) ≤ b.length →
    Ev (fun k => wire_ReadList.l0 k b (rd b 0) acc (n : Int) 5 (pos : Int) (n : Int) (i : Int)) (if below (prime (rd b 0)) (acc ++ rdEls (wd (rd b 0)) d (b.drop pos)) = false then (0, [], 0, 8) else (rd b 0, acc ++ rdEls (wd (rd b 0)) d (b.drop pos), 5 + (n : Int) * (wd (rd b 0) : Nat), 0)) := by
  have hw := wd_le (rd b 0)
  have hw4 := wd_ge (rd b 0)
  intro d
  induction d with
  | zero =>
    intro i pos acc hi ha hp
    refine Ev.step (f := fun k => (field_In.f k (rd b 0) acc).bind fun t => if t = true then some (rd b 0, acc, 5 + (n : Int) * (wd (rd b 0) : Nat), 0) else some (0, [], 0, 8)) (fun k => ?_) ?_
    · simp only [wire_ReadList.l0]
      rw [if_neg (by omega)]
      simp only [width_f, Option.bind_some]
      have h1 : (n : Int) * ((wd (rd b 0) : Nat) : Int) ≤ 4096 * 8 := by
        have := Nat.mul_le_mul hn hw
        exact_mod_cast this
      have h0 : 0 ≤ (n : Int) * ((wd (rd b 0) : Nat) : Int) := by exact_mod_cast Nat.zero_le _
      rw [w64 (x := (n : Int) * ((wd (rd b 0) : Nat) : Int)) (by omega) (by omega), w64 (by omega) (by omega)]
    · refine Ev.bind (f := fun k t => if t = true then some (rd b 0, acc, 5 + (n : Int) * (wd (rd b 0) : Nat), 0) else some (0, [], 0, 8)) (In_f (rd b 0) acc (by omega)) ?_
      simp only [rdEls, List.append_nil, inF, hf, Bool.true_and]
      cases hbl : below (prime (rd b 0)) acc with
      | true => exact Ev.now _
      | false => exact Ev.now _
  | succ d ih =>
    intro i pos acc hi ha hp
    rw [Nat.succ_mul] at hp
    refine Ev.step (f := fun k => (wire_taken.f k ((b.drop pos).take (wd (rd b 0)))).bind fun t => if acc.length < 17592186044416 then (wire_width.f (rd b 0)).bind fun t3 => wire_ReadList.l0 k b (rd b 0) (acc ++ [t]) (n : Int) 5 (wrap64 ((pos : Int) + t3)) (n : Int) (wrap64 ((i : Int) + 1)) else none) (fun k => ?_) ?_
    · simp only [wire_ReadList.l0]
      rw [if_pos (by omega), width_f, Option.bind_some]
      rw [if_pos (by omega), w64 (x := (pos : Int) + ((wd (rd b 0) : Nat) : Int)) (by omega) (by omega), if_pos (by omega), if_pos (by omega)]
      rw [show ((pos : Int) + ((wd (rd b 0) : Nat) : Int)).toNat = pos + wd (rd b 0) by omega, show (pos : Int).toNat = pos by omega, List.drop_take, show pos + wd (rd b 0) - pos = wd (rd b 0) by omega]
    · refine Ev.bind (f := fun k t => if acc.length < 17592186044416 then (wire_width.f (rd b 0)).bind fun t3 => wire_ReadList.l0 k b (rd b 0) (acc ++ [t]) (n : Int) 5 (wrap64 ((pos : Int) + t3)) (n : Int) (wrap64 ((i : Int) + 1)) else none) (taken_f _ ((hb.drop pos).take _) (by simp; omega)) ?_
      have := ih (i + 1) (pos + wd (rd b 0)) (acc ++ [tk 0 ((b.drop pos).take (wd (rd b 0)))]) (by omega) (by simp; omega) (by omega)
      refine Ev.congr (f := fun k => wire_ReadList.l0 k b (rd b 0) (acc ++ [tk 0 ((b.drop pos).take (wd (rd b 0)))]) (n : Int) 5 ((pos + wd (rd b 0) : Nat) : Int) (n : Int) ((i + 1 : Nat) : Int)) (fun k => ?_) (by simpa [rdEls, List.drop_drop, Nat.add_comm] using this)
      rw [if_pos (by omega), width_f, Option.bind_some, w64 (x := (pos : Int) + ((wd (rd b 0) : Nat) : Int)) (by omega) (by omega), w64 (x := (i : Int) + 1) (by omega) (by omega)]
      rw [show ((i : Int) + 1) = ((i + 1 : Nat) : Int) by omega, show ((pos : Int) + ((wd (rd b 0) : Nat) : Int)) = ((pos + wd (rd b 0) : Nat) : Int) by omega]
set_option maxRecDepth 100000 in
theorem ReadList_f (b : List Int) (hb : Bytes b) (hl : b.length ≤ 140737492549632) : Ev (fun k => wire_ReadList.f k b) (readListOf b) := by
  unfold wire_ReadList.f readListOf
  by_cases h0 : b.length = 0
  · rw [if_pos h0]
    refine Ev.congr (f := fun _ => some (0, [], 0, 7)) (fun k => ?_) (Ev.now _)
    rw [if_pos (by omega)]
  · rw [if_neg h0]
    simp only [if_neg (show ¬ (b.length : Int) = 0 by omega), if_pos (show 0 < (b.length : Int) by omega)]
    refine Ev.bind (f := fun k t => _) (In_f (rd b 0) [] (by simp)) ?_
    simp only [inF, below_nil, Bool.and_true]
    cases hf : isF (rd b 0) with
    | false => simp only [if_true, Bool.false_eq_true, if_false]; exact Ev.now _
    | true =>
      simp only [if_true, Bool.true_eq_false, if_false, if_pos (show 1 ≤ (b.length : Int) by omega)]
      refine Ev.bind (f := fun k t => _) (ReadCount_f (b.drop 1) (hb.drop 1)) ?_
      by_cases hc : (readCount (b.drop 1)).2.2 = 0
      · obtain ⟨q1, q2, q3, q4⟩ := readCount_ok (hb.drop 1) hc
        rw [List.length_drop] at q1
        have hw := wd_le (rd b 0)
        simp only [hc, if_true, ne_eq, not_true_eq_false, if_false]
        by_cases h4 : (readCount (b.drop 1)).1 > 4096
        · simp only [if_pos h4]; exact Ev.now _
        · simp only [if_neg h4, width_f, Option.bind_some, q2]
          obtain ⟨n, hn⟩ := Int.eq_ofNat_of_zero_le q3
          rw [hn] at h4 ⊢
          have h1 : (n : Int) * ((wd (rd b 0) : Nat) : Int) ≤ 4096 * 8 := by
            have := Nat.mul_le_mul (show n ≤ 4096 by omega) hw
            exact_mod_cast this
          have h2 : 0 ≤ (n : Int) * ((wd (rd b 0) : Nat) : Int) := by exact_mod_cast Nat.zero_le _
          rw [w64 (x := (4 : Int) + 1) (by omega) (by omega), w64 (x := (b.length : Int) - (4 + 1)) (by omega) (by omega), w64 (x := (n : Int) * ((wd (rd b 0) : Nat) : Int)) (by omega) (by omega)]
          simp only [show (4 : Int) + 1 = 5 by omega]
          by_cases h5 : (b.length : Int) - 5 < (n : Int) * ((wd (rd b 0) : Nat) : Int)
          · simp only [if_pos h5]; exact Ev.now _
          · simp only [if_neg h5]
            have h6 : 5 + n * wd (rd b 0) ≤ b.length := by
              have : ((n * wd (rd b 0) : Nat) : Int) = (n : Int) * ((wd (rd b 0) : Nat) : Int) := by push_cast; rfl
              omega
            have := ReadList_ev b hb hl n (by omega) hf n 0 5 [] (by omega) rfl h6
            simpa using this
      · simp only [if_neg hc, ne_eq, hc, not_false_eq_true, if_true]; exact Ev.now _
/-- Unseal's answer. -/
def unsealOf (b : List Int) : List Int × Int × Int :=
  if (readCount b).2.2 ≠ 0 then ([], 0, (readCount b).2.2)
  else if (readCount b).1 > 1048576 then ([], 0, 4)
  else if (b.length : Int) - 4 < (readCount b).1 + 8 then ([], 0, 7)
  else if tk 0 ((b.drop (4 + (readCount b).1.toNat)).take 8) = sum (b.take (4 + (readCount b).1.toNat)) then ((b.take (4 + (readCount b).1.toNat)).drop 4, 12 + (readCount b).1, 0)
  else ([], 0, 80)
set_option maxRecDepth 100000 in
theorem Unseal_f (b : List Int) (hb : Bytes b) (hl : b.length ≤ 140737492549632) : Ev (fun k => wire_Unseal.f k b) (unsealOf b) := by
  unfold wire_Unseal.f
  refine Ev.bind (f := fun k t => _) (ReadCount_f b hb) ?_
  by_cases hc : (readCount b).2.2 = 0
  · obtain ⟨q1, q2, q3, q4⟩ := readCount_ok hb hc
    obtain ⟨n, hn⟩ := Int.eq_ofNat_of_zero_le q3
    simp only [hc, if_true, q2, hn]
    by_cases h1 : (n : Int) > 1048576
    · simp only [if_pos h1]
      rw [show unsealOf b = ([], 0, 4) by unfold unsealOf; rw [if_neg (by simp [hc]), if_pos (by omega)]]
      exact Ev.now _
    · simp only [if_neg h1]
      rw [w64 (x := (b.length : Int) - 4) (by omega) (by omega), w64 (x := (n : Int) + 8) (by omega) (by omega), w64 (x := (4 : Int) + n) (by omega) (by omega)]
      by_cases h2 : (b.length : Int) - 4 < (n : Int) + 8
      · simp only [if_pos h2]
        rw [show unsealOf b = ([], 0, 7) by unfold unsealOf; rw [if_neg (by simp [hc]), if_neg (by omega), if_pos (by omega)]]
        exact Ev.now _
      · simp only [if_neg h2]
        rw [w64 (x := (4 : Int) + n + 8) (by omega) (by omega)]
        simp only [if_pos (show (0 : Int) ≤ 4 + n by omega), if_pos (show (4 : Int) + n ≤ 4 + n + 8 by omega), if_pos (show (4 : Int) + n + 8 ≤ b.length by omega), if_pos (show (4 : Int) + n ≤ b.length by omega), if_pos (show (0 : Int) ≤ 4 by omega), if_pos (show (4 : Int) ≤ 4 + n by omega)]
        have e1 : (b.take ((4 : Int) + n + 8).toNat).drop ((4 : Int) + n).toNat = (b.drop (4 + n)).take 8 := by
          rw [List.drop_take, show ((4 : Int) + n + 8).toNat - ((4 : Int) + n).toNat = 8 by omega, show ((4 : Int) + n).toNat = 4 + n by omega]
        have e2 : ((4 : Int) + n).toNat = 4 + n := by omega
        rw [e1, e2]
        refine Ev.bind (f := fun k t => _) (taken_f _ ((hb.drop _).take _) (by simp; omega)) ?_
        refine Ev.bind (f := fun k t => _) (Sum_f _ (by simp; omega)) ?_
        by_cases h3 : tk 0 ((b.drop (4 + n)).take 8) = sum (b.take (4 + n))
        · rw [show unsealOf b = ((b.take (4 + n)).drop 4, 12 + (n : Int), 0) by unfold unsealOf; rw [if_neg (by simp [hc]), if_neg (by omega), if_neg (by omega), hn, Int.toNat_natCast, if_pos h3]]
          simp only [if_pos h3]
          have e3 : ([] : List Int).length + ((b.take (4 + n)).drop (4 : Int).toNat).length < 140737488355328 := by simp; omega
          simp only [if_pos e3]
          have e4 : (4 : Int) + n + 8 = 12 + n := by omega
          rw [e4]
          exact Ev.now _
        · rw [show unsealOf b = ([], 0, 80) by unfold unsealOf; rw [if_neg (by simp [hc]), if_neg (by omega), if_neg (by omega), hn, Int.toNat_natCast, if_neg h3]]
          simp only [if_neg h3]
          exact Ev.now _
  · rw [show unsealOf b = ([], 0, (readCount b).2.2) by unfold unsealOf; rw [if_pos hc]]
    simp only [if_neg hc]; exact Ev.now _
end Go.Proofs.Ytclanpkekocndaa.Plain
end
section
/- Numbers as bytes, and back; what is read is written as the bytes that were read; what is written is read: plain laws on the forms of lists and pieces. -/
namespace Go.Proofs.Ytclanpkekocndaa.Plain
open Go.RowKit Go.Proofs.Ytclanpkekocndaa.P Go.Proofs.YtclanpkekocndaaW.PrintWords Go.Proofs.YtclanpkekocndaaW.PrintLast Go.Proofs.YtclanpkekocndaaW.PrintMore
set_option linter.unusedVariables false
set_option linter.unusedSimpArgs false

/-- The number of some bytes, without a bound. -/
def val : List Int → Int
  | [] => 0
  | c :: l => c * 2 ^ (8 * l.length) + val l
theorem pow8 (n : Nat) : (2 : Int) ^ (8 * (n + 1)) = 256 * 2 ^ (8 * n) := by
  rw [Nat.mul_add, Int.pow_add, Int.mul_comm]; rfl
theorem pow8_pos (n : Nat) : 0 < (2 : Int) ^ (8 * n) := Int.pow_pos (by omega)
theorem val_range {l : List Int} (h : Bytes l) : 0 ≤ val l ∧ val l < 2 ^ (8 * l.length) := by
  induction l with
  | nil => exact ⟨Int.le_refl _, by simp [val]⟩
  | cons c l ih =>
    have hc := h c (List.mem_cons_self ..)
    have hl := ih (fun x hx => h x (List.mem_cons_of_mem _ hx))
    have hp := pow8_pos l.length
    have h1 : c * 2 ^ (8 * l.length) ≤ 255 * 2 ^ (8 * l.length) := Int.mul_le_mul_of_nonneg_right (by omega) (by omega)
    have h0 : 0 ≤ c * 2 ^ (8 * l.length) := Int.mul_nonneg hc.1 (by omega)
    simp only [val, List.length_cons]
    rw [pow8]
    omega
theorem tk_val (l : List Int) : ∀ s : Int, tk s l = (s * 2 ^ (8 * l.length) + val l) % 18446744073709551616 ∨ l = [] := by
  induction l with
  | nil => intro s; exact .inr rfl
  | cons c l ih =>
    intro s
    refine .inl ?_
    rw [tk_cons]
    rcases ih ((s * 256 + c) % 18446744073709551616) with h | h
    · rw [h]
      simp only [val, List.length_cons]
      rw [pow8, Int.add_emod, Int.mul_emod, Int.emod_emod_of_dvd _ (Int.dvd_refl _), ← Int.mul_emod, ← Int.add_emod]
      congr 1
      rw [Int.add_mul]
      have : s * (256 * 2 ^ (8 * l.length)) = s * 256 * 2 ^ (8 * l.length) := by rw [Int.mul_assoc]
      omega
    · subst h
      simp [val, tk]
theorem pow8_le {n : Nat} (h : n ≤ 8) : (2 : Int) ^ (8 * n) ≤ 18446744073709551616 := by
  have : n = 0 ∨ n = 1 ∨ n = 2 ∨ n = 3 ∨ n = 4 ∨ n = 5 ∨ n = 6 ∨ n = 7 ∨ n = 8 := by omega
  rcases this with rfl | rfl | rfl | rfl | rfl | rfl | rfl | rfl | rfl <;> decide
theorem tk0_val {l : List Int} (h : Bytes l) (hl : l.length ≤ 8) : tk 0 l = val l := by
  rcases tk_val l 0 with e | e
  · have hv := val_range h
    have := pow8_le hl
    rw [e]; omega
  · subst e; rfl
theorem val_be (s : Nat) (n : Int) (h0 : 0 ≤ n) : val (be s n) = n % 2 ^ (8 * s) := by
  induction s with
  | zero => simp [be, val]
  | succ s ih =>
    have hp := pow8_pos s
    simp only [be, val, be_len, ih]
    rw [pow8]
    obtain ⟨P, hP⟩ : ∃ P, P = (2 : Int) ^ (8 * s) := ⟨_, rfl⟩
    rw [← hP] at hp ⊢
    have e1 := Int.mul_ediv_add_emod n P
    have r0 := Int.emod_nonneg n (show P ≠ 0 by omega)
    have r1 := Int.emod_lt_of_pos n hp
    obtain ⟨q, hq⟩ : ∃ q, q = n / P := ⟨_, rfl⟩
    obtain ⟨r, hr⟩ : ∃ r, r = n % P := ⟨_, rfl⟩
    rw [← hq, ← hr] at e1 ⊢
    rw [← hr] at r0 r1
    have e2 := Int.mul_ediv_add_emod q 256
    have h1 : q % 256 * P ≤ 255 * P := Int.mul_le_mul_of_nonneg_right (by omega) (by omega)
    have h2 : 0 ≤ q % 256 * P := Int.mul_nonneg (by omega) (by omega)
    have e3 : n = (q % 256 * P + r) + 256 * P * (q / 256) := by
      have : P * q = 256 * P * (q / 256) + q % 256 * P := by
        have e4 : P * q = P * (256 * (q / 256) + q % 256) := by rw [e2]
        rw [e4, Int.mul_add, Int.mul_comm P (q % 256), ← Int.mul_assoc, Int.mul_comm P 256]
      omega
    rw [e3, Int.add_mul_emod_self_left, Int.emod_eq_of_lt (a := q % 256 * P + r) (b := 256 * P) (by omega) (by omega)]
theorem tk_be (s : Nat) (hs : s ≤ 8) (n : Int) (h0 : 0 ≤ n) (h1 : n < 2 ^ (8 * s)) : tk 0 (be s n) = n := by
  rw [tk0_val (be_bytes s n) (by rw [be_len]; exact hs), val_be s n h0, Int.emod_eq_of_lt h0 h1]
theorem readCount_back (n : Nat) (hn : n ≤ 2147483647) (r : List Int) : readCount (be 4 n ++ r) = ((n : Int), 4, 0) := by
  unfold readCount
  have h1 : (be 4 (n : Int) ++ r).take 4 = be 4 n := by
    rw [List.take_append_of_le_length (by rw [be_len]; exact Nat.le_refl _), List.take_of_length_le (by rw [be_len]; exact Nat.le_refl _)]
  rw [if_neg (by simp [be_len]), h1, tk_be 4 (by omega) n (by omega) (by simp; omega), if_neg (by omega)]
theorem seal_back (a r : List Int) (ha : Bytes a) (hl : a.length ≤ 1048576) : unsealOf ((sealOf a).1 ++ r) = (a, ((sealOf a).1.length : Int), 0) ∧ (sealOf a).2 = 0 := by
  have hs := sm_range (l := be 4 (a.length : Int) ++ a) (s := 14695981039346656037) (by omega) (by omega)
  unfold sealOf
  rw [if_neg (by omega)]
  refine ⟨?_, rfl⟩
  simp only
  obtain ⟨c, hc⟩ : ∃ c, c = sum (be 4 (a.length : Int) ++ a) := ⟨_, rfl⟩
  have hc0 : 0 ≤ c ∧ c < 18446744073709551616 := by rw [hc]; exact hs
  have e : be 4 (a.length : Int) ++ a ++ be 8 (sum (be 4 (a.length : Int) ++ a)) ++ r = be 4 (a.length : Int) ++ (a ++ (be 8 c ++ r)) := by rw [← hc]; simp
  rw [e]
  have hrc := readCount_back a.length (by omega) (a ++ (be 8 c ++ r))
  unfold unsealOf
  rw [hrc]
  simp only [Int.toNat_natCast]
  have hlen : (be 4 (a.length : Int) ++ (a ++ (be 8 c ++ r))).length = 4 + a.length + 8 + r.length := by simp [be_len]; omega
  have ht : (be 4 (a.length : Int) ++ (a ++ (be 8 c ++ r))).take (4 + a.length) = be 4 (a.length : Int) ++ a := by
    rw [← List.append_assoc, List.take_append_of_le_length (by simp [be_len]), List.take_of_length_le (by simp [be_len])]
  have hd : ((be 4 (a.length : Int) ++ (a ++ (be 8 c ++ r))).drop (4 + a.length)).take 8 = be 8 c := by
    rw [← List.append_assoc, List.drop_append_of_le_length (by simp [be_len]), List.drop_eq_nil_of_le (by simp [be_len]), List.nil_append, List.take_append_of_le_length (by rw [be_len]; exact Nat.le_refl _), List.take_of_length_le (by rw [be_len]; exact Nat.le_refl _)]
  rw [if_neg (by simp), if_neg (by omega), if_neg (by rw [hlen]; omega), hd, ht, tk_be 8 (by omega) c hc0.1 (by simpa using hc0.2), ← hc, if_pos rfl]
  refine Prod.ext ?_ (Prod.ext ?_ rfl)
  · simp only
    rw [List.drop_append_of_le_length (by rw [be_len]; exact Nat.le_refl _), List.drop_eq_nil_of_le (by rw [be_len]; exact Nat.le_refl _), List.nil_append]
  · simp [be_len]; omega
theorem rdEls_els (w : Nat) (hw : w ≤ 8) (r : List Int) : ∀ l : List Int, (∀ x ∈ l, 0 ≤ x ∧ x < 2 ^ (8 * w)) → rdEls w l.length (els w l ++ r) = l := by
  intro l
  induction l with
  | nil => intro _; rfl
  | cons x l ih =>
    intro h
    have hx := h x (List.mem_cons_self ..)
    simp only [List.length_cons, rdEls, els, List.append_assoc]
    rw [List.take_append_of_le_length (by rw [be_len]; exact Nat.le_refl _), List.take_of_length_le (by rw [be_len]; exact Nat.le_refl _), tk_be w hw x hx.1 hx.2, List.drop_append_of_le_length (by rw [be_len]; exact Nat.le_refl _), List.drop_eq_nil_of_le (by rw [be_len]; exact Nat.le_refl _), List.nil_append, ih (fun y hy => h y (List.mem_cons_of_mem _ hy))]
theorem prime_wd {f : Int} (h : isF f = true) : prime f ≤ 2 ^ (8 * wd f) := by
  rcases isF_or h with rfl | rfl <;> decide
theorem list_back (f : Int) (l r : List Int) (hu : U64 l) (hin : inF f l = true) (hl : l.length ≤ 4096) : readListOf ((listOf f l).1 ++ r) = (f, l, ((listOf f l).1.length : Int), 0) ∧ (listOf f l).2 = 0 := by
  have hf := inF_isF hin
  have hbel : below (prime f) l = true := by unfold inF at hin; exact (Bool.and_eq_true_iff.1 hin).2
  unfold listOf
  rw [if_pos hin, if_neg (by omega)]
  refine ⟨?_, rfl⟩
  simp only
  have e : f :: (be 4 (l.length : Int) ++ els (wd f) l) ++ r = f :: (be 4 (l.length : Int) ++ (els (wd f) l ++ r)) := by simp
  rw [e]
  have hrd : rd (f :: (be 4 (l.length : Int) ++ (els (wd f) l ++ r))) 0 = f := rfl
  have hrc : readCount ((f :: (be 4 (l.length : Int) ++ (els (wd f) l ++ r))).drop 1) = ((l.length : Int), 4, 0) := readCount_back l.length (by omega) _
  have hd5 : (f :: (be 4 (l.length : Int) ++ (els (wd f) l ++ r))).drop 5 = els (wd f) l ++ r := by
    simp only [List.drop_succ_cons]
    rw [List.drop_append_of_le_length (by rw [be_len]; exact Nat.le_refl _), List.drop_eq_nil_of_le (by rw [be_len]; exact Nat.le_refl _), List.nil_append]
  have hw := wd_le f
  have hp := prime_wd hf
  have hel : rdEls (wd f) l.length (els (wd f) l ++ r) = l := rdEls_els _ hw r l (fun x hx => ⟨(hu x hx).1, by have := below_iff.1 hbel x hx; omega⟩)
  unfold readListOf
  rw [hrd, hrc, hd5]
  simp only [Int.toNat_natCast]
  have em : ((l.length * wd f : Nat) : Int) = (l.length : Int) * ((wd f : Nat) : Int) := by push_cast; rfl
  have hlen : (f :: (be 4 (l.length : Int) ++ (els (wd f) l ++ r))).length = 5 + l.length * wd f + r.length := by simp [be_len, els_len]; omega
  rw [if_neg (by rw [hlen]; omega), if_neg (by simp [hf]), if_neg (by simp), if_neg (by omega), if_neg (by rw [hlen, ← em]; omega), hel, if_neg (by simp [hbel])]
  refine Prod.ext rfl (Prod.ext rfl (Prod.ext ?_ rfl))
  simp [be_len, els_len]; omega
end Go.Proofs.Ytclanpkekocndaa.Plain
end
section
/- The statements' anchor holds. -/
namespace Go.Proofs.Ytclanpkekocndaa.Plain
open Go.RowKit Go.Proofs.Ytclanpkekocndaa.P Go.Proofs.YtclanpkekocndaaW.PrintWords Go.Proofs.YtclanpkekocndaaW.PrintLast Go.Proofs.YtclanpkekocndaaW.PrintMore
set_option linter.unusedVariables false
set_option linter.unusedSimpArgs false

theorem anchored_f : Ev (fun k => conclavelaw08_anchored.f k) true := by
  unfold conclavelaw08_anchored.f
  refine Ev.bind (f := fun k bt => _) (List_f 1 [1] (by simp)) ?_
  have e1 : listOf 1 [1] = ([1, 0, 0, 0, 1, 0, 0, 0, 1], 0) := by decide
  rw [e1]
  refine Ev.bind (f := fun k bt => _) (ReadCount_f [128, 0, 0, 0] (by intro x hx; simp at hx; omega)) ?_
  have e2 : readCount [128, 0, 0, 0] = (0, 0, 8) := by decide
  rw [e2]
  simp only [if_true, Same_f, Option.bind_some]
  refine Ev.bind (f := fun k t => some (t == 14695981039346656037)) (Sum_f [] (by simp)) ?_
  exact Ev.now _
end Go.Proofs.Ytclanpkekocndaa.Plain
end
section
/- The reference's functions that hold lists against each other, and copy bytes. -/
namespace Go.Proofs.Ytclanpkekocndaa.Plain
open Go.RowKit Go.Proofs.Ytclanpkekocndaa.P Go.Proofs.YtclanpkekocndaaW.PrintWords Go.Proofs.YtclanpkekocndaaW.PrintLast Go.Proofs.YtclanpkekocndaaW.PrintMore
set_option linter.unusedVariables false
set_option linter.unusedSimpArgs false

theorem fSame_ev (a b : List Int) (he : a.length = b.length) (hl : a.length ≤ 9223372036854775807) : ∀ (d i : Nat), i + d = a.length → Ev (fun k => conclaveref01_Same.l0 k a b (i : Int)) (decide (a.drop i = b.drop i)) := by
  intro d
  induction d with
  | zero =>
    intro i hi
    refine Ev.step (f := fun _ => some true) (fun k => ?_) (by rw [List.drop_eq_nil_of_le (by omega), List.drop_eq_nil_of_le (by omega)]; exact Ev.now _)
    simp only [conclaveref01_Same.l0]
    rw [if_neg (by omega)]
  | succ d ih =>
    intro i hi
    have hlt : i < a.length := by omega
    have hlt2 : i < b.length := by omega
    rw [drop_at hlt, drop_at hlt2]
    by_cases hp : rd a (i : Int) = rd b (i : Int)
    · refine Ev.step (f := fun k => conclaveref01_Same.l0 k a b ((i + 1 : Nat) : Int)) (fun k => ?_) (by rw [hp]; simpa using ih (i + 1) (by omega))
      simp only [conclaveref01_Same.l0]
      rw [if_pos (by omega), if_pos (by omega), if_pos (by omega), if_pos hp, w64 (by omega) (by omega)]; rfl
    · refine Ev.step (f := fun k => some false) (fun k => ?_) (by rw [show decide (rd a (i : Int) :: a.drop (i + 1) = rd b (i : Int) :: b.drop (i + 1)) = false by simp [hp]]; exact Ev.now _)
      simp only [conclaveref01_Same.l0]
      rw [if_pos (by omega), if_pos (by omega), if_pos (by omega), if_neg hp]
theorem fSame_f (a b : List Int) (hl : a.length ≤ 9223372036854775807) : Ev (fun k => conclaveref01_Same.f k a b) (decide (a = b)) := by
  unfold conclaveref01_Same.f
  by_cases he : a.length = b.length
  · simp only [if_pos (show (a.length : Int) = (b.length : Int) by omega)]
    exact fSame_ev a b he hl a.length 0 (by omega)
  · simp only [if_neg (show ¬ (a.length : Int) = (b.length : Int) by omega)]
    rw [show decide (a = b) = false by simp; intro h; exact he (by rw [h])]
    exact Ev.now _
theorem Bytes_f (l : List Int) (hl : l.length < 140737488355328) : conclaveref08_Bytes.f l = some l := by
  unfold conclaveref08_Bytes.f
  simp only [Option.bind_some, List.length_nil, Nat.zero_add, if_pos hl, List.nil_append]
end Go.Proofs.Ytclanpkekocndaa.Plain
end
section
/- What the reference's functions that ask for elements come to. -/
namespace Go.Proofs.Ytclanpkekocndaa.Plain
open Go.RowKit Go.Proofs.Ytclanpkekocndaa.P Go.Proofs.YtclanpkekocndaaW.PrintWords Go.Proofs.YtclanpkekocndaaW.PrintLast Go.Proofs.YtclanpkekocndaaW.PrintMore
set_option linter.unusedVariables false
set_option linter.unusedSimpArgs false

theorem P_f (f : Int) : conclaveref01_P.f f = some (prime f) := by
  unfold conclaveref01_P.f prime; split
  · rfl
  · split <;> rfl
end Go.Proofs.Ytclanpkekocndaa.Plain
end
section
/- Proved: WireBack: whatever list and bytes are written, they are read again, with any bytes behind. No condition beyond the statement's own. -/
namespace Go.Proofs.Ytclanpkekocndaa.Pure
open Go.RowKit Go.Proofs.Ytclanpkekocndaa.P Go.Proofs.Ytclanpkekocndaa.Plain Go.Proofs.YtclanpkekocndaaW.PrintWords Go.Proofs.YtclanpkekocndaaW.PrintLast
set_option linter.unusedVariables false
set_option linter.unusedSimpArgs false

theorem listOf_bytes (f : Int) (l : List Int) (hf : isF f = true) : Bytes (listOf f l).1 := by
  unfold listOf
  repeat' split
  · intro x hx; cases hx
  · intro x hx
    rcases List.mem_cons.1 hx with rfl | hx
    · rcases isF_or hf with rfl | rfl <;> omega
    · rcases List.mem_append.1 hx with hx | hx
      · exact be_bytes _ _ x hx
      · exact els_bytes _ _ x hx
  · intro x hx; cases hx
theorem listOf_len (f : Int) (l : List Int) (hl : l.length ≤ 4096) : (listOf f l).1.length ≤ 32773 := by
  have := wd_le f
  have h : l.length * wd f ≤ 4096 * 8 := Nat.mul_le_mul hl this
  unfold listOf
  repeat' split
  · simp
  · simp only [List.length_cons, List.length_append, be_len, els_len]; omega
  · simp
theorem sealOf_bytes (a : List Int) (ha : Bytes a) : Bytes (sealOf a).1 := by
  unfold sealOf
  split
  · intro x hx; cases hx
  · intro x hx
    rcases List.mem_append.1 hx with hx | hx
    · rcases List.mem_append.1 hx with hx | hx
      · exact be_bytes _ _ x hx
      · exact ha x hx
    · exact be_bytes _ _ x hx
theorem sealOf_len (a : List Int) : (sealOf a).1.length ≤ a.length + 12 := by
  unfold sealOf
  split
  · simp
  · simp only [List.length_append, be_len]; omega
theorem bytes_app {a b : List Int} (ha : Bytes a) (hb : Bytes b) : Bytes (a ++ b) := fun x hx => (List.mem_append.1 hx).elim (ha x) (hb x)

theorem back1 (g : Int) (hg : isF g = true) (r x : List Int) (hr : Bytes r) (hrl : r.length ≤ 140737488351232) (hx : U64 x) (hxl : x.length ≤ 4096) (hb : below (prime g) x = true) : Ev (fun k => conclavelaw08_WireBack.j1 k r g x) true := by
  have hin : inF g x = true := by unfold inF; rw [hg, hb]; rfl
  have hL := listOf_bytes g x hg
  have hLl := listOf_len g x hxl
  have hS := sealOf_bytes _ hL
  have hSl := sealOf_len (listOf g x).1
  obtain ⟨hb1, hb2⟩ := list_back g x r hx hin hxl
  obtain ⟨hs1, hs2⟩ := seal_back (listOf g x).1 r hL (by omega)
  obtain ⟨b, hbe⟩ : ∃ b, b = (listOf g x).1 := ⟨_, rfl⟩
  obtain ⟨s, hse⟩ : ∃ s, s = (sealOf b).1 := ⟨_, rfl⟩
  rw [← hbe] at hL hLl hb1 hs1 hs2 hS hSl
  rw [← hse] at hs1 hS hSl
  have hpL : listOf g x = (b, 0) := Prod.ext hbe.symm hb2
  have hpS : sealOf b = (s, 0) := Prod.ext hse.symm hs2
  have eb := Bytes_f b (by omega)
  have es := Bytes_f s (by omega)
  have g1 : b.length + r.length < 140737492549632 := by omega
  have g2 : s.length + r.length < 140737492549632 := by omega
  refine Ev.step (f := fun k => _) (fun k => rfl) ?_
  have hA := List_f g x (by omega)
  rw [hpL] at hA
  refine Ev.bind (f := fun k bt => _) hA ?_
  simp only [eb, Option.bind_some]
  simp only [if_pos g1]
  have hR := ReadList_f (b ++ r) (bytes_app hL hr) (by rw [List.length_append]; omega)
  rw [hb1] at hR
  refine Ev.bind (f := fun k bt => _) hR ?_
  have hS1 := Seal_f b
  rw [hpS] at hS1
  refine Ev.bind (f := fun k bt => _) hS1 ?_
  simp only [es, Option.bind_some]
  simp only [if_pos g2]
  have hU := Unseal_f (s ++ r) (bytes_app hS hr) (by rw [List.length_append]; omega)
  rw [hs1] at hU
  refine Ev.bind (f := fun k bt => _) hU ?_
  refine Ev.bind (f := fun k bt => _) anchored_f ?_
  simp only [if_true]
  have hF := fSame_f x x (by omega)
  refine Ev.bind (f := fun k bt => _) hF ?_
  simp only [decide_true, if_true, Same_f, Option.bind_some, beq_self_eq_true]
  exact Ev.now _
theorem back0 (g : Int) (hg : isF g = true) (l r : List Int) (hl : U64 l) (hll : l.length ≤ 9223372036854775807) (hr : Bytes r) (hrl : r.length ≤ 140737488351232) : ∀ (d i : Nat) (x : List Int), i + d = 4096 → U64 x → x.length = i → i ≤ l.length → below (prime g) x = true →
    Ev (fun k => conclavelaw08_WireBack.l0 k l r g x (i : Int)) true := by
  have hp := prime_pos hg
  have hpr := prime_range g
  intro d
  induction d with
  | zero =>
    intro i x hi hx hxl hil hb
    refine Ev.step (f := fun k => conclavelaw08_WireBack.j1 k r g x) (fun k => ?_) (back1 g hg r x hr hrl hx (by omega) hb)
    simp only [conclavelaw08_WireBack.l0]
    by_cases h : (i : Int) < (l.length : Int)
    · rw [if_pos h, if_neg (by omega)]
    · rw [if_neg h]
  | succ d ih =>
    intro i x hi hx hxl hil hb
    by_cases h : (i : Int) < (l.length : Int)
    · have hrd : 0 ≤ rd l (i : Int) ∧ rd l (i : Int) < 18446744073709551616 := by
        rw [rd_at (by omega)]
        exact hl _ (List.getElem_mem _)
      have e : Int.tmod (rd l (i : Int)) (prime g) = rd l (i : Int) % prime g := Int.tmod_eq_emod_of_nonneg hrd.1
      have h0 := Int.emod_nonneg (rd l (i : Int)) (show prime g ≠ 0 by omega)
      have h1 := Int.emod_lt_of_pos (rd l (i : Int)) hp
      refine Ev.step (f := fun k => conclavelaw08_WireBack.l0 k l r g (x ++ [rd l (i : Int) % prime g]) ((i + 1 : Nat) : Int)) (fun k => ?_) ?_
      · simp only [conclavelaw08_WireBack.l0]
        rw [if_pos h, if_pos (by omega), if_pos (by omega), P_f, Option.bind_some, if_neg (by omega), if_pos (by omega), w64 (by omega) (by omega), e]
        rfl
      · refine ih (i + 1) _ (by omega) ?_ (by simp [hxl]) (by omega) (by rw [below_append, hb]; simp [below, h1])
        intro y hy
        rcases List.mem_append.1 hy with hy | hy
        · exact hx y hy
        · simp only [List.mem_singleton] at hy
          subst hy
          omega
    · refine Ev.step (f := fun k => conclavelaw08_WireBack.j1 k r g x) (fun k => ?_) (back1 g hg r x hr hrl hx (by omega) hb)
      simp only [conclavelaw08_WireBack.l0]
      rw [if_neg h]
theorem WireBack : conclavelaw08_WireBack.Pure := by
  intro a l r ha hl8 hl hu hm8 hm hb
  have ha := wf_u8 ha
  have hg : isF (((Int.tmod a 2) + 1) % 256) = true := by
    rw [Int.tmod_eq_emod_of_nonneg ha.1]
    have h2 := Int.emod_two_eq a
    rcases h2 with h2 | h2 <;> rw [h2] <;> decide
  refine Ev.rounds ?_
  unfold conclavelaw08_WireBack.f
  exact back0 _ hg l r (u64_of_wf hu) (by omega) (bytes_of_wf hb) (by omega) 4096 0 [] (by omega) (fun x hx => by cases hx) rfl (by omega) rfl

end Go.Proofs.Ytclanpkekocndaa.Pure
end
section
-- Written by the kit's printer, called by a program of ours: the row of the law conclavelaw08_WireBack, out of its Pure (the session's) and the printed walk. Not trusted: Lean checks it.
namespace Go.Proofs.Ytclanpkekocndaa.wireBack
open Go.ChangeShapes Go.WideShapes Go.ChangeAt Go.RowKit
open Go.ChangeMaps (open_string shut_string)
set_option linter.unusedVariables false
theorem own : ownKnob Try.prog.godebug = none := by kernel_rfl
theorem laidOut : laidOutB Try.prog = true := by kernel_rfl
def IsRow (k : IntKind) (w : World) (a : Option Addr) (len cap : Nat) (zs : List Int) : Prop :=
  (a = none ∧ len = 0 ∧ cap = 0 ∧ zs = []) ∨
  ∃ x, a = some x ∧ len ≤ cap ∧ cap ≤ maxLen ∧ zs.length = cap ∧ (∀ i, i < zs.length → w.cell? (x.add i) = some (.int k (zs.getD i 0))) ∧ ∀ n ∈ zs, (Lit.int k n).wf = true
set_option maxRecDepth 100000 in
theorem lifted (os : Os) (started : os.Started) (H : Type) (enc : TypeId × Value → H) :
    ReturnsInHanded {} Try.checked os 10 .any (Rows.wireBackSpec.pre6 enc Try.prog Try.f10 Rows.wireBackRow.domain false) (Rows.wireBackSpec.post enc Try.prog Try.f10 false true false false) := by
  refine returnsInHanded_of_change_sized (C := Try.checked) own started (by kernel_rfl) Try.func10
    (ChangeSpec.witness6 (enc := enc) (C := Try.checked) false ⟨#[], #[.int .u8 0, .slice none 0 0, .slice none 0 0], []⟩ 8 (by kernel_rfl) (by kernel_rfl) (by kernel_rfl) (by kernel_rfl)) ?_
  intro W base args ds gs before hval0 hW hcnd hsz0 _
  have hsz : (DataW.weightsEach Try.prog (Try.f10.params.toList ++ Rows.wireBackSpec.plain.varTypes Try.prog) (ds ++ gs)).all (· ≤ reachBytes) = true := hsz0
  have hval : ∀ (j : Nat) t v, Try.f10.params[j]? = some t → args[j]? = some v → Value.okWide Try.prog W .any base t v := hval0
  have hW' := hW
  obtain ⟨p, q, hA0, hV, rfl, hfz, hnd⟩ := hW
  have hA : DataW.TrodAll enc Try.prog W 0 (fun _ => true) true Try.f10.params.toList args.toList ds p := hA0
  rw [Try.params10] at hA hval hsz
  obtain ⟨v0, vs0, d0, ds0, p0, q0, hargs, rfl, rfl, h0, r0⟩ := trodAll_cons hA
  obtain ⟨v1, vs1, d1, ds1, p1, q1, rfl, rfl, rfl, h1, r1⟩ := trodAll_cons r0
  obtain ⟨v2, vs2, d2, ds2, p2, q2, rfl, rfl, rfl, h2, r2⟩ := trodAll_cons r1
  obtain ⟨rfl, rfl, rfl⟩ := trodAll_nil r2
  obtain rfl : args = #[v0, v1, v2] := by cases args; simp_all
  obtain ⟨rfl, rfl⟩ := trodVars_none hV
  obtain ⟨a0, rfl, rfl, rfl, w0⟩ := open_int Try.underlying5 (hval 0 5 v0 rfl rfl) h0
  obtain ⟨a1, len1, cap1, rfl⟩ := okWide_slice Try.underlying36 (hval 1 36 v1 rfl rfl)
  have k1 := h1
  have lt1 : ∀ x ∈ p1, x.block < W.heap.size := by obtain ⟨m, hm⟩ := k1; exact DataW.trod_lt m _ _ _ hm
  obtain ⟨z1, w1⟩ : ∃ zs, IsRow .u64 W a1 len1 cap1 zs := by
    obtain ⟨fuel, hf⟩ := h1
    rcases open_ints Try.underlying36 Try.underlying32 (by kernel_rfl) hf with ⟨hcs, _⟩ | ⟨x, l, c, zs, hcs, _, hl, hm, hz, _, hcell, hwz⟩
    · simp [Value.cells] at hcs
      obtain ⟨rfl, rfl, rfl⟩ := hcs
      exact ⟨[], .inl ⟨rfl, rfl, rfl, rfl⟩⟩
    · simp [Value.cells] at hcs
      obtain ⟨rfl, rfl, rfl⟩ := hcs
      exact ⟨zs, .inr ⟨_, rfl, hl, hm, by simpa using hz, hcell, hwz⟩⟩
  have y1 : len1 * 8 ≤ 140737488351232 := Go.Proofs.YtclanpkekocndaaW.PrintWords.sized_ints hsz (j := 1) (t := 36) rfl rfl Try.underlying36 Try.underlying32 (by kernel_rfl) (by kernel_rfl) h1
  obtain ⟨a2, len2, cap2, rfl⟩ := okWide_slice Try.underlying22 (hval 2 22 v2 rfl rfl)
  have k2 := h2
  have lt2 : ∀ x ∈ p2, x.block < W.heap.size := by obtain ⟨m, hm⟩ := k2; exact DataW.trod_lt m _ _ _ hm
  obtain ⟨z2, w2⟩ : ∃ zs, IsRow .u8 W a2 len2 cap2 zs := by
    obtain ⟨fuel, hf⟩ := h2
    rcases open_ints Try.underlying22 Try.underlying5 (by kernel_rfl) hf with ⟨hcs, _⟩ | ⟨x, l, c, zs, hcs, _, hl, hm, hz, _, hcell, hwz⟩
    · simp [Value.cells] at hcs
      obtain ⟨rfl, rfl, rfl⟩ := hcs
      exact ⟨[], .inl ⟨rfl, rfl, rfl, rfl⟩⟩
    · simp [Value.cells] at hcs
      obtain ⟨rfl, rfl, rfl⟩ := hcs
      exact ⟨zs, .inr ⟨_, rfl, hl, hm, by simpa using hz, hcell, hwz⟩⟩
  have y2 : len2 * 1 ≤ 140737488351232 := Go.Proofs.YtclanpkekocndaaW.PrintWords.sized_ints hsz (j := 2) (t := 22) rfl rfl Try.underlying22 Try.underlying5 (by kernel_rfl) (by kernel_rfl) h2
  clear hA0 hval0 hsz0 hsz
  refine (P.conclavelaw08_WireBack.walk Pure.WireBack a0 a1 len1 cap1 z1 a2 len2 cap2 z2 W w0 w1 y1 w2 y2).mono fun e W' ⟨he, bel⟩ => ?_
  subst he
  exact ⟨_, rfl, _, _, _, [], _, [], hW', trodAll_mk1 (shut_bool Try.underlying4 _), (trodAll_cons_mk (shut_int Try.underlying5 w0) (trodAll_cons_mk (Below.trod laidOut (by kernel_rfl) (of_decide_eq_true (by kernel_rfl)) k1 bel lt1) (trodAll_cons_mk (Below.trod laidOut (by kernel_rfl) (of_decide_eq_true (by kernel_rfl)) k2 bel lt2) trodAll_mk0))), rfl, bel.frame _, fun h => by cases h⟩
theorem over : Rows.wireBackRow.holds Try.pinned (OpenSpec.ofChange Rows.wireBackSpec) :=
  OpenClaim.holds_of_wide 10 Try.f10 rfl rfl rfl rfl rfl rfl rfl ⟨rfl, rfl, rfl, rfl, rfl⟩ rfl rfl rfl rfl rfl (by kernel_rfl) Try.func10 (by kernel_rfl)
    (of_decide_eq_true (by kernel_rfl)) (by unfold Func.isWrapper; first | (rw [if_pos (by decide +kernel)]; kernel_rfl) | (rw [if_neg (by decide +kernel)]; exact ⟨rfl, rfl⟩))
    (fun os started H enc _ => lifted os started H enc)
theorem proved : Rows.WireBackSaid := over
end Go.Proofs.Ytclanpkekocndaa.wireBack
namespace Go.Proofs.Ytclanpkekocndaa
/-- The row, under a short name, for the claim. -/
theorem wireBack_holds : Rows.WireBackSaid := wireBack.proved
end Go.Proofs.Ytclanpkekocndaa
end
