/- Plain lemmas on numbers and lists that the pure parts of this seat's laws share; no program in sight. -/
import Derived.Test.YtclanpkekocndaaPx0
namespace Go.Proofs.Ytclanpkekocndaa.Plain
open Go.RowKit Go.Proofs.YtclanpkekocndaaW.PrintWords Go.Proofs.YtclanpkekocndaaW.PrintLast Go.Proofs.YtclanpkekocndaaW.PrintMore
set_option linter.unusedVariables false
set_option linter.unusedSimpArgs false

theorem w64 {x : Int} (h0 : -9223372036854775808 ≤ x) (h1 : x ≤ 9223372036854775807) : wrap64 x = x := by unfold wrap64; omega
theorem wu64 (x : Int) : IntKind.u64.wrap x = x % 18446744073709551616 := by simp [IntKind.wrap, IntKind.bits, IntKind.signed]
theorem wu64_in {x : Int} (h0 : 0 ≤ x) (h1 : x < 18446744073709551616) : IntKind.u64.wrap x = x := by rw [wu64]; omega
theorem wi64 (x : Int) : IntKind.i64.wrap x = wrap64 x := i64_w x
theorem wf_u8 {x : Int} (h : (Lit.int .u8 x).wf = true) : 0 ≤ x ∧ x < 256 := by
  simp [Lit.wf, IntKind.min, IntKind.max, IntKind.bits, IntKind.signed] at h; omega
theorem wf_u64 {x : Int} (h : (Lit.int .u64 x).wf = true) : 0 ≤ x ∧ x < 18446744073709551616 := by
  simp [Lit.wf, IntKind.min, IntKind.max, IntKind.bits, IntKind.signed] at h; omega
theorem wf_i64 {x : Int} (h : (Lit.int .i64 x).wf = true) : -9223372036854775808 ≤ x ∧ x ≤ 9223372036854775807 := by
  simp [Lit.wf, IntKind.min, IntKind.max, IntKind.bits, IntKind.signed] at h; omega

/-- A list of bytes. -/
def Bytes (l : List Int) : Prop := ∀ x ∈ l, 0 ≤ x ∧ x < 256
theorem bytes_of_wf {l : List Int} (h : ∀ x ∈ l, (Lit.int .u8 x).wf = true) : Bytes l := fun x hx => wf_u8 (h x hx)
theorem Bytes.take {l : List Int} (h : Bytes l) (n : Nat) : Bytes (l.take n) := fun x hx => h x (List.mem_of_mem_take hx)
theorem Bytes.drop {l : List Int} (h : Bytes l) (n : Nat) : Bytes (l.drop n) := fun x hx => h x (List.mem_of_mem_drop hx)
theorem Bytes.append {a b : List Int} (h : Bytes a) (h' : Bytes b) : Bytes (a ++ b) := fun x hx => (List.mem_append.1 hx).elim (h x) (h' x)

theorem rd_at {l : List Int} {i : Nat} (h : i < l.length) : rd l (i : Int) = l[i] := by simp [rd, h]
theorem drop_at {l : List Int} {i : Nat} (h : i < l.length) : l.drop i = rd l (i : Int) :: l.drop (i + 1) := by rw [rd_at h, List.drop_eq_getElem_cons h]

/-! ### numbers as bytes, the highest first -/
def be : Nat → Int → List Int
  | 0, _ => []
  | s + 1, n => (n / 2 ^ (8 * s)) % 256 :: be s n
theorem be_len (s : Nat) (n : Int) : (be s n).length = s := by induction s with | zero => rfl | succ s ih => simp [be, ih]
theorem be_bytes (s : Nat) (n : Int) : Bytes (be s n) := by
  induction s with
  | zero => intro x hx; simp [be] at hx
  | succ s ih =>
    intro x hx
    simp only [be, List.mem_cons] at hx
    rcases hx with rfl | hx
    · omega
    · exact ih x hx
theorem shr8 (n : Int) (s : Nat) (hs : s < 8) : shr .u64 n (8 * (s : Int)) = n / 2 ^ (8 * s) := by
  unfold shr
  rw [show (8 * (s : Int)).toNat = 8 * s by omega, Nat.min_eq_left (by simp only [IntKind.bits]; omega)]

/-! ### bytes as a number -/
def tk (s : Int) (l : List Int) : Int := l.foldl (fun n c => (n * 256 + c) % 18446744073709551616) s
theorem or_step {n c : Int} (h0 : 0 ≤ c) (h1 : c < 256) : Go.bits .or .u64 (IntKind.u64.wrap (n * 256)) (IntKind.u64.wrap c) = (n * 256 + c) % 18446744073709551616 := by
  rw [wu64_in (x := c) h0 (by omega), wu64]
  rw [bits_join .u64 64 (by decide) (fun n h0 h1 => wu64_in h0 (by simpa using h1)) 8 _ c (by omega) (by omega) (by omega) h0 (by omega) (by omega)]
  omega
theorem add_step {n c : Int} (h0 : 0 ≤ c) (h1 : c < 256) : IntKind.u64.wrap ((IntKind.u64.wrap (n * 256)) + (IntKind.u64.wrap c)) = (n * 256 + c) % 18446744073709551616 := by
  rw [wu64, wu64, wu64]; omega
theorem tk_cons (s c : Int) (l : List Int) : tk s (c :: l) = tk ((s * 256 + c) % 18446744073709551616) l := rfl
theorem tk_range {l : List Int} : ∀ {s : Int}, 0 ≤ s → s < 18446744073709551616 → 0 ≤ tk s l ∧ tk s l < 18446744073709551616 := by
  induction l with
  | nil => intro s h0 h1; exact ⟨h0, h1⟩
  | cons c l ih => intro s h0 h1; rw [tk_cons]; exact ih (by omega) (by omega)

/-! ### sums -/
def sums (s c : Int) : Int := IntKind.u64.wrap ((Go.bits .xor .u64 s (IntKind.u64.wrap c)) * 1099511628211)
def sm (s : Int) (l : List Int) : Int := l.foldl sums s
theorem sm_cons (s c : Int) (l : List Int) : sm s (c :: l) = sm (sums s c) l := rfl
theorem sums_range (s c : Int) : 0 ≤ sums s c ∧ sums s c < 18446744073709551616 := by unfold sums; rw [wu64]; omega
theorem sm_range {l : List Int} : ∀ {s : Int}, 0 ≤ s → s < 18446744073709551616 → 0 ≤ sm s l ∧ sm s l < 18446744073709551616 := by
  induction l with
  | nil => intro s h0 h1; exact ⟨h0, h1⟩
  | cons c l ih => intro s h0 h1; rw [sm_cons]; exact ih (sums_range _ _).1 (sums_range _ _).2
end Go.Proofs.Ytclanpkekocndaa.Plain
