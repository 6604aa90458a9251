import Derived.Test.YtdafolenaibccaaSInterpChain14
import Derived.Test.YtdafolenaibccaaSInterpChain17
import Derived.Test.YtdafolenaibccaaSInterpChain22
import Derived.Test.YtdafolenaibccaaSInterpChain23
import Derived.Test.YtdafolenaibccaaSInterpChain24
import Derived.Test.YtdafolenaibccaaSInterpChain25
import Derived.Test.YtdafolenaibccaaSInterpChain26
import Derived.Test.YtdafolenaibccaaSInterpChain27
import Derived.Test.YtdafolenaibccaaSInterpChain28
import Derived.Test.YtdafolenaibccaaSInterpChain29
import Derived.Test.YtdafolenaibccaaRows
import Derived.WalkKit
import Derived.ProofKit
import Derived.OpenShut
import Derived.ShutString
import Derived.ChangeOld
import Derived.Below
import Derived.SizedLaws
section
namespace Go.Proofs.Ytdafolenaibccaa.Plain
open Go.RowKit Go.Proofs Go.Proofs.Ytdafolenaibccaa.P Go.Proofs.Ytdafolenaibccaa.Mth Go.Proofs.YtdafolenaibccaaW.PrintWords Go.Proofs.YtdafolenaibccaaW.PrintLast Go.Proofs.YtdafolenaibccaaW.PrintMore
set_option linter.unusedVariables false
set_option linter.unusedSimpArgs false
set_option linter.unusedSectionVars false
variable {f : Int} {p : Nat} [NeZero p]
theorem pMul1_f (hF : Fld f p) (x y : Fin p) : Ev (fun k => poly_reckoner_mul.f k f (tI x) (tI y)) (tI (x * y)) := by
  unfold poly_reckoner_mul.f
  exact Ev.bind (f := fun _ t => some t.1) (Mul_f hF x y) (Ev.now _)
theorem pAdd1_f (hF : Fld f p) (x y : Fin p) : Ev (fun k => poly_reckoner_add.f k f (tI x) (tI y)) (tI (x + y)) := by
  unfold poly_reckoner_add.f
  exact Ev.bind (f := fun _ t => some t.1) (Add_f hF x y) (Ev.now _)
theorem trimN_ev (n : Nat) (hn : n ≤ 1048576) (g : Nat → Fin p) : ∀ m, m ≤ n → (∀ j, m ≤ j → j < n → g j = 0) → ∃ m' : Nat, m' ≤ n ∧ (∀ j, m' ≤ j → j < n → g j = 0) ∧ Trimmed m' g ∧ Ev (fun k => poly_trimN.l0 k (arr n g) (m : Int)) (m' : Int) := by
  intro m
  induction m with
  | zero =>
    intro hm hz
    refine ⟨0, by omega, hz, Or.inl rfl, Ev.step (f := fun _ => some ((0 : Nat) : Int)) (fun k => ?_) (Ev.now _)⟩
    simp only [poly_trimN.l0]
    rw [if_neg (by omega)]
  | succ m ih =>
    intro hm hz
    have e1 : wrap64 (((m + 1 : Nat) : Int) - 1) = (m : Int) := by rw [w64 (by omega) (by omega)]; omega
    by_cases c : g m = 0
    · obtain ⟨m', h1, h2, h3, h4⟩ := ih (by omega) fun j h5 h6 => by
        by_cases cj : j = m
        · rw [cj, c]
        · exact hz j (by omega) h6
      refine ⟨m', h1, h2, h3, Ev.step (f := fun k => poly_trimN.l0 k (arr n g) (m : Int)) (fun k => ?_) h4⟩
      simp only [poly_trimN.l0]
      rw [if_pos (by omega), e1, if_pos (by omega), arr_len, if_pos (by omega), rd_arr (by omega), if_pos (tI_eq_zero.2 c)]
    · refine ⟨m + 1, hm, hz, Or.inr c, Ev.step (f := fun _ => some ((m + 1 : Nat) : Int)) (fun k => ?_) (Ev.now _)⟩
      simp only [poly_trimN.l0]
      rw [if_pos (by omega), e1, if_pos (by omega), arr_len, if_pos (by omega), rd_arr (by omega), if_neg (fun h => c (tI_eq_zero.1 h))]
theorem trimN_f (n : Nat) (hn : n ≤ 1048576) (g : Nat → Fin p) : ∃ m : Nat, m ≤ n ∧ (∀ j, m ≤ j → j < n → g j = 0) ∧ Trimmed m g ∧ Ev (fun k => poly_trimN.f k (arr n g)) (m : Int) := by
  obtain ⟨m, h1, h2, h3, h4⟩ := trimN_ev n hn g n (Nat.le_refl _) fun j h1 h2 => absurd h1 (by omega)
  refine ⟨m, h1, h2, h3, ?_⟩
  unfold poly_trimN.f
  simp only [arr_len]
  exact h4
theorem trimN_of {n : Nat} (hn : n ≤ 1048576) {g : Nat → Fin p} (ht : Trimmed n g) : Ev (fun k => poly_trimN.f k (arr n g)) (n : Int) := by
  obtain ⟨m, h1, h2, h3, h4⟩ := trimN_f n hn g
  by_cases c : m = n
  · rw [c] at h4; exact h4
  · rcases ht with h | h
    · omega
    · exact absurd (h2 (n - 1) (by omega) (by omega)) h
theorem Clone_fP (l : List Int) (hl : l.length < 17592186044416) : slices_Clone_uint64_uint64.f l = some l := by
  unfold slices_Clone_uint64_uint64.f
  rw [Option.bind_some, if_pos (by simpa using hl), List.nil_append]
theorem pTrim_f (n : Nat) (hn : n ≤ 1048576) (g : Nat → Fin p) : ∃ m : Nat, m ≤ n ∧ (∀ j, m ≤ j → j < n → g j = 0) ∧ Trimmed m g ∧ Ev (fun k => poly_Trim.f k (arr n g)) (arr m g) := by
  obtain ⟨m, h1, h2, h3, h4⟩ := trimN_f n hn g
  refine ⟨m, h1, h2, h3, ?_⟩
  unfold poly_Trim.f
  refine Ev.bind (f := fun k t => _) h4 ?_
  simp only [arr_len, if_pos (show (0 : Int) ≤ (m : Int) by omega), if_pos (show (m : Int) ≤ (n : Int) by omega), Int.toNat_natCast, arr_take h1, Clone_fP (arr m g) (by rw [arr_len]; omega), Option.bind_some]
  exact Ev.now _
theorem pTrim_of {n : Nat} (hn : n ≤ 1048576) {g : Nat → Fin p} (ht : Trimmed n g) : Ev (fun k => poly_Trim.f k (arr n g)) (arr n g) := by
  unfold poly_Trim.f
  refine Ev.bind (f := fun k t => _) (trimN_of hn ht) ?_
  simp only [arr_len, if_pos (show (0 : Int) ≤ (n : Int) by omega), if_pos (show (n : Int) ≤ (n : Int) by omega), Int.toNat_natCast, arr_take (Nat.le_refl n), Clone_fP (arr n g) (by rw [arr_len]; omega), Option.bind_some]
  exact Ev.now _
theorem isF_In (hF : Fld f p) : Ev (fun k => field_In.f k f []) true := by
  have h := In_f f [] (by simp)
  rw [show inF f [] = true by unfold inF; rw [hF.isF]; rfl] at h
  exact h
theorem inA (hF : Fld f p) (n : Nat) (x : Nat → Fin p) (hn : n ≤ 1048576) : Ev (fun k => field_In.f k f (arr n x)) true := by
  have h := In_f f (arr n x) (by rw [arr_len]; omega)
  rw [inF_arr hF] at h
  exact h
theorem pmay_ev (hF : Fld f p) (L : List (List Int)) (hl : L.length ≤ 1048576) (h : ∀ r ∈ L, inF f r = true ∧ r.length ≤ 4096) : ∀ (d i : Nat), i + d = L.length → Ev (fun k => poly_may.l0 k f 0 L (L.length : Int) (i : Int)) 0 := by
  intro d
  induction d with
  | zero =>
    intro i hi
    refine Ev.step (f := fun _ => some 0) (fun k => ?_) (Ev.now _)
    simp only [poly_may.l0]
    rw [if_neg (by omega)]
  | succ d ih =>
    intro i hi
    have hr := h L[i] (List.getElem_mem (by omega))
    have e : rd_L1 L (i : Int) = L[i] := by simp [rd_L1, show i < L.length by omega]
    refine Ev.step (f := fun k => (field_In.f k f L[i]).bind fun (t : Bool) => if t = true then poly_may.l0 k f 0 L (L.length : Int) ((i + 1 : Nat) : Int) else some 2) (fun k => ?_) ?_
    · simp only [poly_may.l0]
      rw [if_pos (by omega), if_pos (by omega), if_pos (by omega), e, w64 (by omega) (by omega)]
      simp only [if_neg (show ¬ (L[i].length : Int) > 4096 by have := hr.2; omega)]
      rfl
    · have hin := In_f f L[i] (by have := hr.2; omega)
      rw [hr.1] at hin
      refine Ev.bind (f := fun k (t : Bool) => if t = true then poly_may.l0 k f 0 L (L.length : Int) ((i + 1 : Nat) : Int) else some 2) hin ?_
      simp only [if_true]
      exact ih (i + 1) (by omega)
theorem pmay_f (hF : Fld f p) {a b : Nat} (u v : Nat → Fin p) (ha : a ≤ 4096) (hb : b ≤ 4096) : Ev (fun k => poly_may.f k f [arr a u, arr b v]) 0 := by
  unfold poly_may.f
  refine Ev.bind (f := fun k t => _) (isF_In hF) ?_
  simp only [if_true]
  refine pmay_ev hF [arr a u, arr b v] (by simp) (fun r hr => ?_) 2 0 rfl
  rcases List.mem_cons.1 hr with rfl | hr
  · exact ⟨inF_arr hF _ _, by rw [arr_len]; exact ha⟩
  · rw [List.mem_singleton.1 hr]; exact ⟨inF_arr hF _ _, by rw [arr_len]; exact hb⟩
def PTop (c b i : Nat) (u v g : Nat → Fin p) : Prop := (∀ t, i + b ≤ t + 1 → t < c → g t = 0) ∧ (0 < i → g (i + b - 2) = u (i - 1) * v (b - 1))
def prow (b i j : Nat) (u v g : Nat → Fin p) (t : Nat) : Fin p := g t + (if i ≤ t ∧ t < i + j then u i * v (t - i) else 0)
theorem prow_zero (b i : Nat) (u v g : Nat → Fin p) : prow b i 0 u v g = g := funext fun t => by unfold prow; rw [if_neg (by omega)]; grind
theorem prow_upd (b i j : Nat) (u v g : Nat → Fin p) : prow b i (j + 1) u v g = upd (prow b i j u v g) (i + j) (prow b i j u v g (i + j) + u i * v j) := funext fun t => by
  by_cases ct : t = i + j
  · subst ct
    rw [upd_self]
    unfold prow
    rw [if_pos (by omega), if_neg (by omega), show i + j - i = j by omega]; grind
  · rw [upd_ne _ _ ct]
    unfold prow
    by_cases c2 : i ≤ t ∧ t < i + j
    · rw [if_pos c2, if_pos (by omega)]
    · rw [if_neg c2, if_neg (by omega)]
theorem prow_ev (c b i j : Nat) (hj : i + j ≤ c) (u v g : Nat → Fin p) (x : Fin p) : evR c (prow b i j u v g) x = evR c g x + sumR j fun t => u i * v t * pw x (i + t) := by
  induction j with
  | zero => rw [prow_zero]; simp only [sumR]; grind
  | succ j ih =>
    rw [prow_upd, evR_upd (by omega), ih (by omega)]
    simp only [sumR]; grind
theorem pProd0 (hF : Fld f p) (a b c : Nat) (ha : a ≤ 4096) (hb : b ≤ 4096) (hb0 : 0 < b) (hc : c + 1 = a + b) (u v : Nat → Fin p) : ∀ (d i : Nat) (g : Nat → Fin p), i + d = a → (∀ x, evR c g x = evR i u x * evR b v x) → PTop c b i u v g →
    ∃ g', (∀ x, evR c g' x = evR a u x * evR b v x) ∧ PTop c b a u v g' ∧ Ev (fun k => poly_reckoner_product.l0 k (arr b v) (arr c g) (arr a u) (a : Int) (i : Int) f) (arr c g') := by
  intro d
  induction d with
  | zero =>
    intro i g hi hg hp
    obtain rfl : i = a := by omega
    refine ⟨g, hg, hp, Ev.step (f := fun _ => some (arr c g)) (fun k => ?_) (Ev.now _)⟩
    simp only [poly_reckoner_product.l0]
    rw [if_neg (by omega)]
  | succ d ih =>
    intro i g hi hg hp
    obtain ⟨g', h1, h2, h3⟩ := ih (i + 1) (prow b i b u v g) (by omega) (fun x => by
      rw [prow_ev c b i b (by omega), evR_mul_row, hg]
      unfold evR
      simp only [sumR]; grind) ⟨fun t h1 h2 => by
        unfold prow
        rw [hp.1 t (by omega) h2, if_neg (by omega)]; grind, fun _ => by
        unfold prow
        rw [hp.1 (i + 1 + b - 2) (by omega) (by omega), if_pos (by omega), show i + 1 + b - 2 - i = b - 1 by omega, show i + 1 - 1 = i by omega]; grind⟩
    refine ⟨g', h1, h2, ?_⟩
    refine Ev.step (f := fun k => poly_reckoner_product.l1 k (arr b v) (arr c (prow b i 0 u v g)) (i : Int) (tI (u i)) (arr a u) (a : Int) (i : Int) (arr b v) (b : Int) 0 f) (fun k => ?_) ?_
    · simp only [poly_reckoner_product.l0]
      rw [if_pos (by omega), if_pos (by omega), arr_len, if_pos (by omega), rd_arr (by omega), arr_len, prow_zero]
    · have inner : ∀ (e j : Nat), j + e = b → Ev (fun k => poly_reckoner_product.l1 k (arr b v) (arr c (prow b i j u v g)) (i : Int) (tI (u i)) (arr a u) (a : Int) (i : Int) (arr b v) (b : Int) (j : Int) f) (arr c g') := by
        intro e
        induction e with
        | zero =>
          intro j hj
          obtain rfl : j = b := by omega
          refine Ev.step (f := fun k => poly_reckoner_product.l0 k (arr j v) (arr c (prow j i j u v g)) (arr a u) (a : Int) ((i + 1 : Nat) : Int) f) (fun k => ?_) h3
          simp only [poly_reckoner_product.l1]
          rw [if_neg (by omega), w64 (by omega) (by omega)]
          rfl
        | succ e ihe =>
          intro j hj
          have hs : wrap64 ((i : Int) + (j : Int)) = ((i + j : Nat) : Int) := by rw [w64 (by omega) (by omega)]; omega
          have hn := ihe (j + 1) (by omega)
          rw [prow_upd, ← set_arr (by omega)] at hn
          refine Ev.step (f := fun k => (poly_reckoner_mul.f k f (tI (u i)) (tI (v j))).bind fun (t : Int) => (poly_reckoner_add.f k f (tI (prow b i j u v g (i + j))) t).bind fun (t2 : Int) => poly_reckoner_product.l1 k (arr b v) ((arr c (prow b i j u v g)).set (i + j) t2) (i : Int) (tI (u i)) (arr a u) (a : Int) (i : Int) (arr b v) (b : Int) ((j + 1 : Nat) : Int) f) (fun k => ?_) ?_
          · simp only [poly_reckoner_product.l1]
            rw [if_pos (by omega), if_pos (by omega), arr_len, if_pos (by omega), hs, if_pos (by omega), arr_len, if_pos (by omega), rd_arr (by omega), rd_arr (by omega), Int.toNat_natCast, w64 (x := (j : Int) + 1) (by omega) (by omega)]
            rfl
          · refine Ev.bind (f := fun k (t : Int) => (poly_reckoner_add.f k f (tI (prow b i j u v g (i + j))) t).bind fun (t2 : Int) => poly_reckoner_product.l1 k (arr b v) ((arr c (prow b i j u v g)).set (i + j) t2) (i : Int) (tI (u i)) (arr a u) (a : Int) (i : Int) (arr b v) (b : Int) ((j + 1 : Nat) : Int) f) (pMul1_f hF _ _) ?_
            exact Ev.bind (f := fun k (t2 : Int) => poly_reckoner_product.l1 k (arr b v) ((arr c (prow b i j u v g)).set (i + j) t2) (i : Int) (tI (u i)) (arr a u) (a : Int) (i : Int) (arr b v) (b : Int) ((j + 1 : Nat) : Int) f) (pAdd1_f hF _ _) hn
      exact inner b 0 (by omega)
theorem pMul_f (hF : Fld f p) {a b : Nat} (u v : Nat → Fin p) (ha0 : 0 < a) (hb0 : 0 < b) (hab : a + b ≤ 4097) (hu : Trimmed a u) (hv : Trimmed b v) :
    ∃ g, Trimmed (a + b - 1) g ∧ (∀ x, evR (a + b - 1) g x = evR a u x * evR b v x) ∧ Ev (fun k => poly_Mul.f k f (arr a u) (arr b v)) (arr (a + b - 1) g, 0) := by
  obtain ⟨g, h1, h2, h3⟩ := pProd0 hF a b (a + b - 1) (by omega) (by omega) hb0 (by omega) u v a 0 (fun _ => 0) (by omega) (fun x => by rw [evR_zero, evR_nil]; grind) ⟨fun _ _ _ => rfl, fun h => absurd h (by omega)⟩
  refine ⟨g, Or.inr ?_, h1, ?_⟩
  · rw [show a + b - 1 - 1 = a + b - 2 by omega, h2.2 ha0]
    exact mul_ne hF.pr (hu.resolve_left (by omega)) (hv.resolve_left (by omega))
  · unfold poly_Mul.f
    refine Ev.bind (f := fun k t => _) (pmay_f hF u v (by omega) (by omega)) ?_
    simp only [if_true]
    refine Ev.bind (f := fun k t => _) (trimN_of (by omega) hu) ?_
    simp only [arr_len, if_pos (show (0 : Int) ≤ (a : Int) by omega), if_pos (show (a : Int) ≤ (a : Int) by omega), Int.toNat_natCast, arr_take (Nat.le_refl a), Option.bind_some]
    refine Ev.bind (f := fun k t => _) (trimN_of (by omega) hv) ?_
    simp only [arr_len, if_pos (show (0 : Int) ≤ (b : Int) by omega), if_pos (show (b : Int) ≤ (b : Int) by omega), Int.toNat_natCast, arr_take (Nat.le_refl b), Option.bind_some, if_pos (show (a : Int) > 0 by omega), if_pos (show (b : Int) > 0 by omega)]
    have ew : wrap64 (wrap64 ((a : Int) + (b : Int)) - 1) = ((a + b - 1 : Nat) : Int) := by rw [w64 (x := (a : Int) + (b : Int)) (by omega) (by omega), w64 (by omega) (by omega)]; omega
    simp only [ew, if_neg (show ¬ ((a + b - 1 : Nat) : Int) > 4096 by omega)]
    refine Ev.bind (f := fun _ t => some (t, 0)) ?_ (Ev.now _)
    unfold poly_reckoner_product.f
    simp only [arr_len, if_neg (show ¬ (a : Int) = 0 by omega), show ((b : Int) == 0) = false by simp; omega]
    refine Ev.step (f := fun k => poly_reckoner_product.l0 k (arr b v) (arr (a + b - 1) fun _ => 0) (arr a u) (a : Int) 0 f) (fun k => ?_) h3
    simp only [poly_reckoner_product.j0, Bool.false_eq_true, if_false, arr_len]
    rw [ew, if_pos (by omega), Int.toNat_natCast, if_pos (by omega), rep_arr (p := p)]
end Go.Proofs.Ytdafolenaibccaa.Plain
end
section
namespace Go.Proofs.Ytdafolenaibccaa.Plain
open Go.RowKit Go.Proofs Go.Proofs.Ytdafolenaibccaa.P Go.Proofs.Ytdafolenaibccaa.Mth Go.Proofs.YtdafolenaibccaaW.PrintWords Go.Proofs.YtdafolenaibccaaW.PrintLast Go.Proofs.YtdafolenaibccaaW.PrintMore
set_option linter.unusedVariables false
set_option linter.unusedSimpArgs false
set_option linter.unusedSectionVars false
variable {f : Int} {p : Nat} [NeZero p]
inductive Lv : List (List Int) → Nat → (Fin p → Fin p) → Prop
  | nil : Lv [] 0 (fun _ => 1)
  | cons {L : List (List Int)} {n : Nat} {F : Fin p → Fin p} (d : Nat) (g : Nat → Fin p) (h : g d ≠ 0) (hL : Lv L n F) : Lv (arr (d + 1) g :: L) (d + n) (fun z => evR (d + 1) g z * F z)
theorem Lv.uncons {r : List Int} {L : List (List Int)} {n : Nat} {F : Fin p → Fin p} (h : Lv (r :: L) n F) : ∃ (d : Nat) (g : Nat → Fin p) (n' : Nat) (F' : Fin p → Fin p), r = arr (d + 1) g ∧ g d ≠ 0 ∧ Lv L n' F' ∧ n = d + n' ∧ ∀ z, F z = evR (d + 1) g z * F' z := by
  cases h with
  | cons d g hg hL => exact ⟨d, g, _, _, rfl, hg, hL, rfl, fun _ => rfl⟩
theorem Lv.unnil {n : Nat} {F : Fin p → Fin p} (h : Lv [] n F) : n = 0 ∧ ∀ z, F z = 1 := by
  cases h with
  | nil => exact ⟨rfl, fun _ => rfl⟩
theorem Lv.snoc {L : List (List Int)} {n : Nat} {F : Fin p → Fin p} (hL : Lv L n F) (d : Nat) (g : Nat → Fin p) (h : g d ≠ 0) : ∃ F', Lv (L ++ [arr (d + 1) g]) (n + d) F' ∧ ∀ z, F' z = F z * evR (d + 1) g z := by
  induction hL with
  | nil => exact ⟨_, by rw [show 0 + d = d + 0 by omega]; exact Lv.cons d g h Lv.nil, fun z => by grind⟩
  | cons d' g' h' hL ih =>
    obtain ⟨F', h1, h2⟩ := ih
    refine ⟨_, by rw [Nat.add_assoc]; exact Lv.cons d' g' h' h1, fun z => ?_⟩
    rw [h2]; grind
theorem grow1_f (hF : Fld f p) {a b : Nat} (u v : Nat → Fin p) (hab : a + b + 2 ≤ 4097) (hu : u a ≠ 0) (hv : v b ≠ 0) :
    ∃ g, g (a + b) ≠ 0 ∧ (∀ x, evR (a + b + 1) g x = evR (a + 1) u x * evR (b + 1) v x) ∧ Ev (fun k => tree_grow_1.f k (arr (a + 1) u) (arr (b + 1) v) f) (arr (a + b + 1) g, 0) := by
  obtain ⟨g, h1, h2, h3⟩ := pMul_f hF (a := a + 1) (b := b + 1) u v (by omega) (by omega) (by omega) (Or.inr hu) (Or.inr hv)
  rw [show a + 1 + (b + 1) - 1 = a + b + 1 by omega] at h1 h2 h3
  refine ⟨g, h1.resolve_left (by omega), h2, ?_⟩
  unfold tree_grow_1.f
  exact Ev.bind (f := fun _ t => some (t.1, t.2)) h3 (Ev.now _)
theorem rd_L1_i {l : List (List Int)} {i : Nat} (h : i < l.length) : rd_L1 l (i : Int) = l[i] := by simp [rd_L1, h]
theorem grow_l2 (hF : Fld f p) (n : Nat) (hn : n ≤ 2048) (x11 : List (List (List Int))) (hx : x11.length ≤ 1048576) (x99 : List (List Int)) (hl : x99.length ≤ 1048576) (G : Fin p → Fin p) :
    ∀ (d i : Nat) (x13 : List (List Int)) (n1 n2 : Nat) (F1 F2 : Fin p → Fin p), x99.length ≤ i + d → i ≤ x99.length → i = 2 * x13.length → Lv x13 n1 F1 → Lv (x99.drop i) n2 F2 → n1 + n2 = n → (∀ z, F1 z * F2 z = G z) →
    ∃ next F, next.length = (x99.length + 1) / 2 ∧ Lv next n F ∧ (∀ z, F z = G z) ∧ ∀ r, Ev (fun k => tree_grow.l1 k f (x11 ++ [next]) next) r → Ev (fun k => tree_grow.l2 k f x11 x13 (i : Int) x99) r := by
  intro d
  induction d using Nat.strongRecOn with
  | ind d ih =>
    intro i x13 n1 n2 F1 F2 hd hi hi2 h1 h2 h12 hG
    have w1 : wrap64 ((i : Int) + 1) = ((i + 1 : Nat) : Int) := by rw [w64 (by omega) (by omega)]; rfl
    by_cases c : i + 1 < x99.length
    · rw [List.drop_eq_getElem_cons (by omega), List.drop_eq_getElem_cons (by omega)] at h2
      obtain ⟨d1, g1, n3, F3, e1, hg1, h3, en3, hF3⟩ := h2.uncons
      obtain ⟨d2, g2, n4, F4, e2, hg2, h4, en4, hF4⟩ := h3.uncons
      obtain ⟨g, hg, hgv, hgE⟩ := grow1_f hF g1 g2 (by omega) hg1 hg2
      obtain ⟨F', hL', hF'⟩ := h1.snoc (d1 + d2) g hg
      obtain ⟨next, F, q1, q2, q3, q4⟩ := ih (d - 2) (by omega) (i + 2) _ _ _ _ _ (by omega) (by omega) (by simp; omega) hL' h4 (by omega) fun z => by
        rw [hF', hgv, ← hG, hF3, hF4]; grind
      refine ⟨next, F, q1, q2, q3, fun r hr => ?_⟩
      refine Ev.step (f := fun k => (tree_grow_1.f k (arr (d1 + 1) g1) (arr (d2 + 1) g2) f).bind fun (t : List Int × Int) => if t.2 = 0 then tree_grow.l2 k f x11 (x13 ++ [t.1]) ((i + 2 : Nat) : Int) x99 else some (([] : List (List (List Int))), t.2)) (fun k => ?_) ?_
      · simp only [tree_grow.l2]
        rw [w1, if_pos (by omega), if_pos (by omega), if_pos (by omega), if_pos (by omega), rd_L1_i (by omega), rd_L1_i c, e1, e2, w64 (by omega) (by omega)]
        simp only [if_pos (show x13.length < 5864062014805 by omega)]
        rfl
      · refine Ev.bind (f := fun k (t : List Int × Int) => if t.2 = 0 then tree_grow.l2 k f x11 (x13 ++ [t.1]) ((i + 2 : Nat) : Int) x99 else some (([] : List (List (List Int))), t.2)) hgE ?_
        simp only [if_true]
        exact q4 r hr
    · by_cases c2 : i < x99.length
      · rw [List.drop_eq_getElem_cons c2, List.drop_eq_nil_of_le (by omega)] at h2
        obtain ⟨d1, g1, n3, F3, e1, hg1, h3, en3, hF3⟩ := h2.uncons
        obtain ⟨e0, hF0⟩ := h3.unnil
        obtain ⟨F', hL', hF'⟩ := h1.snoc d1 g1 hg1
        have hlen : ((x99.length : Nat) : Int) % 2 = 1 := by omega
        have w2 : wrap64 ((x99.length : Int) - 1) = (i : Int) := by rw [w64 (by omega) (by omega)]; omega
        refine ⟨x13 ++ [arr (d1 + 1) g1], F', by simp; omega, by rw [show n = n1 + d1 by omega]; exact hL', fun z => by rw [hF', ← hG, hF3, hF0]; grind, fun r hr => ?_⟩
        refine Ev.step (f := fun k => (poly_Trim.f k (arr (d1 + 1) g1)).bind fun (t : List Int) => tree_grow.l1 k f (x11 ++ [x13 ++ [t]]) (x13 ++ [t])) (fun k => ?_) ?_
        · simp only [tree_grow.l2]
          rw [w1, if_neg (by omega), if_pos hlen, w2, if_pos (by omega), if_pos (by omega), rd_L1_i c2, e1]
          simp only [if_pos (show x13.length < 5864062014805 by omega), tree_sealed.f, Option.bind_some, if_pos (show x11.length < 5864062014805 by omega)]
        · refine Ev.bind (f := fun k (t : List Int) => tree_grow.l1 k f (x11 ++ [x13 ++ [t]]) (x13 ++ [t])) (pTrim_of (by omega) (Or.inr hg1)) ?_
          exact hr
      · have e9 : i = x99.length := by omega
        rw [List.drop_eq_nil_of_le (by omega)] at h2
        obtain ⟨e0, hF0⟩ := h2.unnil
        refine ⟨x13, F1, by omega, by rw [show n = n1 by omega]; exact h1, fun z => by rw [← hG, hF0]; grind, fun r hr => ?_⟩
        refine Ev.step (f := fun k => tree_grow.l1 k f (x11 ++ [x13]) x13) (fun k => ?_) hr
        simp only [tree_grow.l2]
        rw [w1, if_neg (by omega), if_neg (by omega)]
        simp only [tree_sealed.f, Option.bind_some, if_pos (show x11.length < 5864062014805 by omega)]
theorem grow_l1 (hF : Fld f p) (n : Nat) (hn : n ≤ 2048) : ∀ (d : Nat) (Y : List (List (List Int))) (x99 : List (List Int)) (F : Fin p → Fin p), x99.length ≤ d → 0 < x99.length → Y.length + x99.length ≤ 1000000 → Lv x99 n F →
    ∃ (g : Nat → Fin p) (Y' : List (List (List Int))), Y'.length ≤ 1000000 ∧ g n ≠ 0 ∧ (∀ z, evR (n + 1) g z = F z) ∧ Ev (fun k => tree_grow.l1 k f (Y ++ [x99]) x99) (Y' ++ [[arr (n + 1) g]], 0) := by
  intro d
  induction d with
  | zero => intro Y x99 F h1 h2; omega
  | succ d ih =>
    intro Y x99 F hd h0 hY hL
    by_cases c : x99.length > 1
    · obtain ⟨next, F', e1, h1, h2, h3⟩ := grow_l2 hF n hn (Y ++ [x99]) (by simp; omega) x99 (by omega) F x99.length 0 [] 0 n (fun _ => 1) F (by omega) (by omega) rfl Lv.nil hL (by omega) fun z => by grind
      obtain ⟨g, Y', a0, a1, a2, a3⟩ := ih (Y ++ [x99]) next F' (by omega) (by omega) (by simp; omega) h1
      refine ⟨g, Y', a0, a1, fun z => by rw [a2, h2], Ev.step (f := fun k => tree_grow.l2 k f (Y ++ [x99]) [] 0 x99) (fun k => ?_) (h3 _ a3)⟩
      simp only [tree_grow.l1]
      rw [if_pos (by omega)]
    · obtain ⟨r, hr⟩ := List.length_eq_one_iff.1 (show x99.length = 1 by omega)
      rw [hr] at hL
      obtain ⟨d1, g1, n3, F3, e1, hg1, h3, en3, hF3⟩ := hL.uncons
      obtain ⟨e0, hF0⟩ := h3.unnil
      obtain rfl : n = d1 := by omega
      refine ⟨g1, Y, by omega, hg1, fun z => by rw [hF3, hF0]; grind, Ev.step (f := fun _ => some (Y ++ [x99], 0)) (fun k => ?_) (by rw [hr, e1]; exact Ev.now _)⟩
      simp only [tree_grow.l1]
      rw [if_neg (by omega)]
theorem grow_l0 (hF : Fld f p) (n : Nat) (hn : n ≤ 2048) (h0 : 0 < n) (x : Nat → Fin p) : ∀ (d i : Nat) (L : List (List Int)) (F : Fin p → Fin p), i + d = n → L.length = i → Lv L i F → (∀ z, F z = prodR i fun t => z - x t) →
    ∃ (g : Nat → Fin p) (Y' : List (List (List Int))), Y'.length ≤ 1000000 ∧ g n ≠ 0 ∧ (∀ z, evR (n + 1) g z = prodR n fun t => z - x t) ∧ Ev (fun k => tree_grow.l0 k f L (arr n x) (n : Int) (i : Int) f) (Y' ++ [[arr (n + 1) g]], 0) := by
  intro d
  induction d with
  | zero =>
    intro i L F hi hl hL hG
    obtain rfl : i = n := by omega
    obtain ⟨g, Y', a0, a1, a2, a3⟩ := grow_l1 hF i hn L.length [] L F (Nat.le_refl _) (by omega) (by simp; omega) hL
    refine ⟨g, Y', a0, a1, fun z => by rw [a2, hG], Ev.step (f := fun k => tree_grow.l1 k f ([] ++ [L]) L) (fun k => ?_) a3⟩
    simp only [tree_grow.l0]
    rw [if_neg (by omega)]
    simp only [tree_sealed.f, Option.bind_some]
    rfl
  | succ d ih =>
    intro i L F hi hl hL hG
    obtain ⟨F', h1, h2⟩ := hL.snoc 1 (fun t => if t = 0 then 0 - x i else 1) (by simp only [if_neg (show ¬ (1 : Nat) = 0 by omega)]; exact pr_one_ne hF.pr)
    obtain ⟨g, Y', a0, a1, a2, a3⟩ := ih (i + 1) _ F' (by omega) (by simp; omega) h1 fun z => by
      rw [h2, hG]
      unfold evR
      simp only [prodR, sumR, pw, if_true, if_neg (show ¬ (1 : Nat) = 0 by omega)]; grind
    refine ⟨g, Y', a0, a1, a2, ?_⟩
    have e1 : arr (1 + 1) (fun t => if t = 0 then 0 - x i else (1 : Fin p)) = [tI (0 - x i), 1] := by
      have : (1 : Int) = tI (1 : Fin p) := (tI_one hF).symm
      rw [this]; rfl
    rw [e1] at a3
    refine Ev.step (f := fun k => (field_Sub.f k f 0 (tI (x i))).bind fun (t : Int × Int) => if t.2 = 0 then tree_grow.l0 k f (L ++ [[t.1, 1]]) (arr n x) (n : Int) ((i + 1 : Nat) : Int) f else some (([] : List (List (List Int))), t.2)) (fun k => ?_) ?_
    · simp only [tree_grow.l0]
      rw [if_pos (by omega), if_pos (by omega), arr_len, if_pos (by omega), rd_arr (by omega), w64 (by omega) (by omega)]
      simp only [if_pos (show L.length < 5864062014805 by omega)]
      rfl
    · refine Ev.bind (f := fun k (t : Int × Int) => if t.2 = 0 then tree_grow.l0 k f (L ++ [[t.1, 1]]) (arr n x) (n : Int) ((i + 1 : Nat) : Int) f else some (([] : List (List (List Int))), t.2)) (Sub_f hF 0 (x i)) ?_
      simp only [if_true]
      exact a3
theorem tmay_f (hF : Fld f p) {a : Nat} (u : Nat → Fin p) (ha : a ≤ 2048) : Ev (fun k => tree_may.f k f [arr a u]) 0 := by
  unfold tree_may.f
  refine Ev.bind (f := fun k t => _) (isF_In hF) ?_
  simp only [if_true]
  refine Ev.step (f := fun k => (field_In.f k f (arr a u)).bind fun (t : Bool) => if t = true then tree_may.l0 k f 0 [arr a u] 1 1 else some 2) (fun k => ?_) ?_
  · simp only [tree_may.l0, rd_L1, List.length_cons, List.length_nil]
    rw [if_pos (by omega), if_pos (by omega), if_pos (by omega)]
    simp only [Int.toNat_zero, List.getD_cons_zero, arr_len, if_neg (show ¬ (a : Int) > 2048 by omega)]
    rw [show wrap64 (0 + 1) = 1 from w64 (by omega) (by omega), show (((0 + 1 : Nat)) : Int) = 1 by decide]
  · refine Ev.bind (f := fun k (t : Bool) => if t = true then tree_may.l0 k f 0 [arr a u] 1 1 else some 2) (inA hF a u (by omega)) ?_
    simp only [if_true]
    refine Ev.step (f := fun _ => some 0) (fun k => ?_) (Ev.now _)
    simp only [tree_may.l0]
    rw [if_neg (by omega)]
theorem Zero_f (hF : Fld f p) (n : Nat) (hn : n ≤ 2048) (x : Nat → Fin p) : ∃ g, g n ≠ 0 ∧ (∀ z, evR (n + 1) g z = prodR n fun t => z - x t) ∧ Ev (fun k => tree_Zero.f k f (arr n x)) (arr (n + 1) g, 0) := by
  by_cases c : n = 0
  · subst c
    refine ⟨fun _ => 1, pr_one_ne hF.pr, fun z => by unfold evR; simp only [sumR, pw, prodR]; grind, ?_⟩
    unfold tree_Zero.f
    refine Ev.bind (f := fun k t => _) (a := (([] : List (List (List Int))), 0)) ?_ ?_
    · unfold tree_Tree.f
      refine Ev.bind (f := fun k t => _) (tmay_f hF x (by omega)) ?_
      simp only [if_true, arr_len]
      exact Ev.now _
    · simp only [if_true, List.length_nil]
      rw [show arr (0 + 1) (fun _ => (1 : Fin p)) = [1] by rw [← arr_one, tI_one hF]]
      exact Ev.now _
  · obtain ⟨g, Y', a0, a1, a2, a3⟩ := grow_l0 hF n hn (by omega) x n 0 [] (fun _ => 1) (by omega) rfl Lv.nil fun z => by simp only [prodR]
    refine ⟨g, a1, a2, ?_⟩
    unfold tree_Zero.f
    refine Ev.bind (f := fun k t => _) (a := (Y' ++ [[arr (n + 1) g]], 0)) ?_ ?_
    · unfold tree_Tree.f
      refine Ev.bind (f := fun k t => _) (tmay_f hF x hn) ?_
      simp only [if_true, arr_len, if_neg (show ¬ (n : Int) = 0 by omega)]
      unfold tree_grow.f
      simp only [arr_len]
      exact Ev.bind (f := fun _ t => some (t.1, t.2)) a3 (Ev.now _)
    · have el : (Y' ++ [[arr (n + 1) g]]).length = Y'.length + 1 := by simp
      have er : rd_L2 (Y' ++ [[arr (n + 1) g]]) ((Y'.length : Nat) : Int) = [arr (n + 1) g] := by simp [rd_L2]
      simp only [if_true, el, if_neg (show ¬ ((Y'.length + 1 : Nat) : Int) = 0 by omega)]
      rw [show wrap64 (((Y'.length + 1 : Nat) : Int) - 1) = ((Y'.length : Nat) : Int) by rw [w64 (by omega) (by omega)]; omega, er]
      simp only [if_pos (show (0 : Int) ≤ ((Y'.length : Nat) : Int) by omega), if_pos (show ((Y'.length : Nat) : Int) < ((Y'.length + 1 : Nat) : Int) by omega)]
      exact Ev.now _
end Go.Proofs.Ytdafolenaibccaa.Plain
end
section
namespace Go.Proofs.Ytdafolenaibccaa.Plain
open Go.RowKit Go.Proofs Go.Proofs.Ytdafolenaibccaa.P Go.Proofs.Ytdafolenaibccaa.Mth Go.Proofs.YtdafolenaibccaaW.PrintWords Go.Proofs.YtdafolenaibccaaW.PrintLast Go.Proofs.YtdafolenaibccaaW.PrintMore
set_option linter.unusedVariables false
set_option linter.unusedSimpArgs false
set_option linter.unusedSectionVars false
variable {f : Int} {p : Nat} [NeZero p]
theorem iAdd_f (hF : Fld f p) (x y : Fin p) : Ev (fun k => interp_reckoner_add.f k f (tI x) (tI y)) (tI (x + y)) := by
  unfold interp_reckoner_add.f
  exact Ev.bind (f := fun _ t => some t.1) (Add_f hF x y) (Ev.now _)
theorem syn_prod (hF : Fld f p) {n : Nat} (hn : n ≤ 512) (x Z : Nat → Fin p) (hZ : ∀ z, evR (n + 1) Z z = prodR n fun t => z - x t) {i : Nat} (hi : i < n) (z : Fin p) : evR n (syn n Z (x i)) z = prodR n fun t => if t = i then 1 else z - x t := by
  obtain ⟨m, P, h1, _, h3, _⟩ := rZero_f hF (n - 1) (by omega) (fun t => if t < i then x t else x (t + 1))
  have hP : ∀ z, evR n (fun t => if t < m then P t else 0) z = prodR n fun t => if t = i then 1 else z - x t := fun z => by
    rw [evR_pad (by omega), h3, prodR_without n i hi x z]
  have hsplit : ∀ z, (prodR n fun t => z - x t) = (z - x i) * prodR n fun t => if t = i then 1 else z - x t := fun z => by
    have e : n = i + (1 + (n - (i + 1))) := by omega
    rw [prodR_skip n i hi]
    conv => lhs; rw [e]
    rw [prodR_split, prodR_split]
    simp only [prodR, Nat.add_zero]
    rw [prodR_congr (n := n - (i + 1)) (g := fun j => z - x (i + (1 + j))) (h := fun j => z - x (i + 1 + j)) fun j _ => by rw [Nat.add_assoc]]
    grind
  have hgt := hF.gt
  have h0 : evR (n + 1) Z (x i) = 0 := by rw [hZ]; exact prodR_zero hi (by grind)
  have e := zero_but hF.pr (n := n) (by omega) (fun t => syn n Z (x i) t - (if t < m then P t else 0)) (x i) fun z hz => by
    have h := syn_div n Z z (x i)
    rw [h0, hZ, hsplit] at h
    rw [evR_sub, hP]
    have hne : z - x i ≠ 0 := fun c => hz (by have : z = z - x i + x i := by grind
                                              rw [this, c]; grind)
    have := cancel hF.pr (a := z - x i) (b := evR n (syn n Z (x i)) z) (c := prodR n fun t => if t = i then 1 else z - x t) hne (by rw [h]; grind)
    rw [this]; grind
  rw [← hP z]
  exact evR_congr (fun j hj => by
    have := e j hj
    have e2 : syn n Z (x i) j = (syn n Z (x i) j - (if j < m then P j else 0)) + (if j < m then P j else 0) := by grind
    rw [e2, this]; grind) z
def lay (n : Nat) (c : Fin p) (s o : Nat → Fin p) (j : Nat) (t : Nat) : Fin p := o t + (if j ≤ t then c * s t else 0)
theorem lay_upd (n : Nat) (c : Fin p) (s o : Nat → Fin p) (j : Nat) : lay n c s o j = upd (lay n c s o (j + 1)) j (lay n c s o (j + 1) j + c * s j) := funext fun t => by
  by_cases ct : t = j
  · subst ct
    rw [upd_self]; unfold lay
    rw [if_pos (by omega), if_neg (by omega)]; grind
  · rw [upd_ne _ _ ct]; unfold lay
    by_cases c2 : j ≤ t
    · rw [if_pos c2, if_pos (by omega)]
    · rw [if_neg c2, if_neg (by omega)]
theorem Through1 (hF : Fld f p) (n : Nat) (hn : n ≤ 512) (x y w Z : Nat → Fin p) (i : Nat) (hi : i < n) (c : Fin p) (o : Nat → Fin p) (r : List Int × Int)
    (hr : Ev (fun k => interp_Through.l0 k (arr n x) (arr n y) (arr n w) (arr (n + 1) Z) (arr n (lay n c (syn n Z (x i)) o 0)) (arr n x) (n : Int) ((i + 1 : Nat) : Int) f) r) :
    ∀ (j : Nat), j ≤ n → Ev (fun k => interp_Through.l1 k (arr n x) (arr n y) (arr n w) (arr (n + 1) Z) (arr n (lay n c (syn n Z (x i)) o j)) (tI (x i)) (tI c) (tI (syn n Z (x i) j)) ((j : Int) - 1) (arr n x) (n : Int) (i : Int) f) r := by
  intro j
  induction j with
  | zero =>
    intro hj
    refine Ev.step (f := fun k => interp_Through.l0 k (arr n x) (arr n y) (arr n w) (arr (n + 1) Z) (arr n (lay n c (syn n Z (x i)) o 0)) (arr n x) (n : Int) ((i + 1 : Nat) : Int) f) (fun k => ?_) hr
    simp only [interp_Through.l1]
    rw [if_neg (by omega), w64 (by omega) (by omega)]
    rfl
  | succ j ih =>
    intro hj
    have h := ih (by omega)
    rw [lay_upd n c _ o j, ← set_arr (by omega), syn_step (by omega)] at h
    refine Ev.step (f := fun k => (interp_reckoner_mul.f k f (tI (syn n Z (x i) (j + 1))) (tI (x i))).bind fun (t : Int) => (interp_reckoner_add.f k f t (tI (Z (j + 1)))).bind fun (t2 : Int) => (interp_reckoner_mul.f k f (tI c) t2).bind fun (t3 : Int) => (interp_reckoner_add.f k f (tI (lay n c (syn n Z (x i)) o (j + 1) j)) t3).bind fun (t4 : Int) => interp_Through.l1 k (arr n x) (arr n y) (arr n w) (arr (n + 1) Z) ((arr n (lay n c (syn n Z (x i)) o (j + 1))).set j t4) (tI (x i)) (tI c) t2 ((j : Int) - 1) (arr n x) (n : Int) (i : Int) f) (fun k => ?_) ?_
    · have e0 : ((j + 1 : Nat) : Int) - 1 = (j : Int) := by omega
      have e1 : wrap64 ((j : Int) + 1) = ((j + 1 : Nat) : Int) := by rw [w64 (by omega) (by omega)]; rfl
      simp only [interp_Through.l1]
      rw [e0, if_pos (by omega), e1]
      refine congrArg _ (funext fun t => ?_)
      rw [if_pos (by omega), arr_len, if_pos (by omega), rd_arr (by omega)]
      refine congrArg _ (funext fun t2 => ?_)
      rw [if_pos (by omega), arr_len, if_pos (by omega), rd_arr (by omega), Int.toNat_natCast, w64 (x := (j : Int) - 1) (by omega) (by omega)]
    · refine Ev.bind (f := fun k (t : Int) => (interp_reckoner_add.f k f t (tI (Z (j + 1)))).bind fun (t2 : Int) => (interp_reckoner_mul.f k f (tI c) t2).bind fun (t3 : Int) => (interp_reckoner_add.f k f (tI (lay n c (syn n Z (x i)) o (j + 1) j)) t3).bind fun (t4 : Int) => interp_Through.l1 k (arr n x) (arr n y) (arr n w) (arr (n + 1) Z) ((arr n (lay n c (syn n Z (x i)) o (j + 1))).set j t4) (tI (x i)) (tI c) t2 ((j : Int) - 1) (arr n x) (n : Int) (i : Int) f) (iMul_f hF _ _) ?_
      refine Ev.bind (f := fun k (t2 : Int) => (interp_reckoner_mul.f k f (tI c) t2).bind fun (t3 : Int) => (interp_reckoner_add.f k f (tI (lay n c (syn n Z (x i)) o (j + 1) j)) t3).bind fun (t4 : Int) => interp_Through.l1 k (arr n x) (arr n y) (arr n w) (arr (n + 1) Z) ((arr n (lay n c (syn n Z (x i)) o (j + 1))).set j t4) (tI (x i)) (tI c) t2 ((j : Int) - 1) (arr n x) (n : Int) (i : Int) f) (iAdd_f hF _ _) ?_
      rw [show syn n Z (x i) (j + 1) * x i + Z (j + 1) = Z (j + 1) + x i * syn n Z (x i) (j + 1) by grind]
      refine Ev.bind (f := fun k (t3 : Int) => (interp_reckoner_add.f k f (tI (lay n c (syn n Z (x i)) o (j + 1) j)) t3).bind fun (t4 : Int) => interp_Through.l1 k (arr n x) (arr n y) (arr n w) (arr (n + 1) Z) ((arr n (lay n c (syn n Z (x i)) o (j + 1))).set j t4) (tI (x i)) (tI c) (tI (Z (j + 1) + x i * syn n Z (x i) (j + 1))) ((j : Int) - 1) (arr n x) (n : Int) (i : Int) f) (iMul_f hF _ _) ?_
      exact Ev.bind (f := fun k (t4 : Int) => interp_Through.l1 k (arr n x) (arr n y) (arr n w) (arr (n + 1) Z) ((arr n (lay n c (syn n Z (x i)) o (j + 1))).set j t4) (tI (x i)) (tI c) (tI (Z (j + 1) + x i * syn n Z (x i) (j + 1))) ((j : Int) - 1) (arr n x) (n : Int) (i : Int) f) (iAdd_f hF _ _) h
theorem Through0 (hF : Fld f p) (n : Nat) (hn : n ≤ 512) (x y w Z : Nat → Fin p) : ∀ (d i : Nat), i + d = n → ∃ m g, m ≤ n ∧ Trimmed m g ∧ (∀ z, evR m g z = sumR n fun s => (w s * y s) * evR n (syn n Z (x s)) z) ∧
    Ev (fun k => interp_Through.l0 k (arr n x) (arr n y) (arr n w) (arr (n + 1) Z) (arr n fun t => sumR i fun s => (w s * y s) * syn n Z (x s) t) (arr n x) (n : Int) (i : Int) f) (arr m g, 0) := by
  intro d
  induction d with
  | zero =>
    intro i hi
    obtain rfl : i = n := by omega
    obtain ⟨m, h1, h2, h3, h4⟩ := pTrim_f i (by omega) (fun t => sumR i fun s => (w s * y s) * syn i Z (x s) t)
    refine ⟨m, _, h1, h3, fun z => by rw [← evR_cut h1 _ h2, evR_sum], Ev.step (f := fun k => (poly_Trim.f k (arr i fun t => sumR i fun s => (w s * y s) * syn i Z (x s) t)).bind fun t => some (t, 0)) (fun k => ?_) (Ev.bind (f := fun _ t => some (t, 0)) h4 (Ev.now _))⟩
    simp only [interp_Through.l0]
    rw [if_neg (by omega)]
  | succ d ih =>
    intro i hi
    obtain ⟨m, g, h1, h2, h3, h4⟩ := ih (i + 1) (by omega)
    refine ⟨m, g, h1, h2, h3, ?_⟩
    have e0 : (fun t => sumR (i + 1) fun s => (w s * y s) * syn n Z (x s) t) = lay n (w i * y i) (syn n Z (x i)) (fun t => sumR i fun s => (w s * y s) * syn n Z (x s) t) 0 := funext fun t => by unfold lay; rw [if_pos (by omega)]; simp only [sumR]
    rw [e0] at h4
    have hI := Through1 hF n hn x y w Z i (by omega) (w i * y i) (fun t => sumR i fun s => (w s * y s) * syn n Z (x s) t) _ h4 n (Nat.le_refl _)
    rw [syn_last, tI_zero, show arr n (lay n (w i * y i) (syn n Z (x i)) (fun t => sumR i fun s => (w s * y s) * syn n Z (x s) t) n) = arr n (fun t => sumR i fun s => (w s * y s) * syn n Z (x s) t) from arr_congr fun t ht => by unfold lay; rw [if_neg (by omega)]; grind] at hI
    refine Ev.step (f := fun k => (interp_reckoner_mul.f k f (tI (w i)) (tI (y i))).bind fun (t : Int) => interp_Through.l1 k (arr n x) (arr n y) (arr n w) (arr (n + 1) Z) (arr n fun t => sumR i fun s => (w s * y s) * syn n Z (x s) t) (tI (x i)) t 0 ((n : Int) - 1) (arr n x) (n : Int) (i : Int) f) (fun k => ?_) (Ev.bind (f := fun k (t : Int) => interp_Through.l1 k (arr n x) (arr n y) (arr n w) (arr (n + 1) Z) (arr n fun t => sumR i fun s => (w s * y s) * syn n Z (x s) t) (tI (x i)) t 0 ((n : Int) - 1) (arr n x) (n : Int) (i : Int) f) (iMul_f hF _ _) hI)
    simp only [interp_Through.l0]
    rw [if_pos (by omega), if_pos (by omega), arr_len, if_pos (by omega), arr_len, if_pos (by omega), arr_len, if_pos (by omega), rd_arr (by omega), rd_arr (by omega), rd_arr (by omega), w64 (by omega) (by omega)]
theorem ThroughG (hF : Fld f p) (n : Nat) (hn : n ≤ 512) (x y : Nat → Fin p) (hu : Dist (arr n x)) : ∃ m g, m ≤ n ∧ Trimmed m g ∧ (∀ z, evR m g z = sumR n fun t => bas n x z t * y t) ∧ Ev (fun k => interp_Through.f k f (arr n x) (arr n y)) (arr m g, 0) := by
  obtain ⟨Z, z1, z2, z3⟩ := Zero_f hF n (by omega) x
  obtain ⟨m, g, h1, h2, h3, h4⟩ := Through0 hF n hn x y (wt n x) Z n 0 (by omega)
  refine ⟨m, g, h1, h2, fun z => ?_, ?_⟩
  · rw [h3]
    exact sumR_congr fun s hs => by rw [syn_prod hF hn x Z z2 hs z]; unfold bas; grind
  · unfold interp_Through.f
    rw [arr_nil x]
    refine Ev.bind (f := fun k t => _) (mayG hF (m := 0) x y x hn (by omega) hu) ?_
    simp only [if_true]
    refine Ev.bind (f := fun k t => _) (weights_f hF n (by omega) x (dist_arr hu)) ?_
    simp only [if_true]
    refine Ev.bind (f := fun k t => _) z3 ?_
    simp only [if_true, arr_len, if_pos (show (0 : Int) ≤ (n : Int) by omega), Int.toNat_natCast, if_pos (show n ≤ 35184372088832 by omega), rep_arr (p := p)]
    exact h4
end Go.Proofs.Ytdafolenaibccaa.Plain
end
section
namespace Go.Proofs.Ytdafolenaibccaa.Plain
open Go.RowKit Go.Proofs Go.Proofs.Ytdafolenaibccaa.P Go.Proofs.Ytdafolenaibccaa.Mth Go.Proofs.YtdafolenaibccaaW.PrintWords Go.Proofs.YtdafolenaibccaaW.PrintLast Go.Proofs.YtdafolenaibccaaW.PrintMore
set_option linter.unusedVariables false
set_option linter.unusedSimpArgs false
set_option linter.unusedSectionVars false
variable {f : Int} {p : Nat} [NeZero p]
theorem bas_self (hF : Fld f p) {n : Nat} {x : Nat → Fin p} (hu : Dist (arr n x)) {i : Nat} (hi : i < n) : bas n x (x i) i = 1 := by
  have h := mul_iv hF.pr (dif_ne hF (dist_arr hu) hi)
  unfold bas wt
  show iv (dif n x i) * dif n x i = 1
  rw [← h]; grind
theorem bas_other (hF : Fld f p) {n : Nat} (x : Nat → Fin p) {i t : Nat} (hi : i < n) (hit : i ≠ t) : bas n x (x i) t = 0 := by
  unfold bas
  rw [prodR_zero (i := i) hi (by rw [if_neg hit]; grind)]
  grind
theorem sumR_single {n i : Nat} (hi : i < n) (g : Nat → Fin p) (h : ∀ t, t < n → t ≠ i → g t = 0) : sumR n g = g i := by
  induction n with
  | zero => omega
  | succ n ih =>
    simp only [sumR]
    by_cases c : i = n
    · subst c
      rw [sumR_zero _ fun j hj => h j (by omega) (by omega)]; grind
    · rw [ih (by omega) fun t ht hne => h t (by omega) hne, h n (by omega) (by omega)]; grind
theorem through_at (hF : Fld f p) {n : Nat} {x : Nat → Fin p} (hu : Dist (arr n x)) (y : Nat → Fin p) {i : Nat} (hi : i < n) : (sumR n fun t => bas n x (x i) t * y t) = y i := by
  rw [sumR_single hi _ fun t ht hne => by rw [bas_other hF x hi (Ne.symm hne)]; grind, bas_self hF hu hi]; grind
theorem interp_all (hF : Fld f p) {n : Nat} (hn : n ≤ 512) {x : Nat → Fin p} (hu : Dist (arr n x)) {m : Nat} (hm : m ≤ n) (g : Nat → Fin p) (z : Fin p) : (sumR n fun t => bas n x z t * evR m g (x t)) = evR m g z := by
  obtain ⟨m', g', h1, _, h3, _⟩ := ThroughG hF n hn x (fun t => evR m g (x t)) hu
  have e := roots hF.pr n (fun t => (if t < m' then g' t else 0) - (if t < m then g t else 0)) x (dist_arr hu) fun i hi => by
    rw [evR_sub, evR_pad h1, evR_pad hm, h3, through_at hF hu _ hi]; grind
  rw [← h3 z, ← evR_pad h1 g' z, ← evR_pad hm g z]
  exact evR_congr (fun j hj => by
    have := e j hj
    have e2 : (if j < m' then g' j else 0) = ((if j < m' then g' j else 0) - (if j < m then g j else 0)) + (if j < m then g j else 0) := by grind
    rw [e2, this]; grind) z
end Go.Proofs.Ytdafolenaibccaa.Plain
end
section
namespace Go.Proofs.Ytdafolenaibccaa.Form.InterpChanges
open Go.RowKit Go.Proofs.Ytdafolenaibccaa.P Go.Proofs.YtdafolenaibccaaW.PrintWords Go.Proofs.YtdafolenaibccaaW.PrintLast
set_option linter.unusedVariables false
def Pure : Prop := ∀ (a0 : Int) (l1 : List Int) (l2 : List Int), ((Lit.int .u8 a0).wf = true) → (l1.length ≤ maxLen ∧ l1.length * 8 ≤ 140737488351232 ∧ ∀ y1 ∈ l1, (Lit.int .u64 y1).wf = true) → (l2.length ≤ maxLen ∧ l2.length * 8 ≤ 140737488351232 ∧ ∀ y2 ∈ l2, (Lit.int .u64 y2).wf = true) → ∃ k, conclavelaw07_InterpChanges.f k a0 l1 l2 = some true
end Go.Proofs.Ytdafolenaibccaa.Form.InterpChanges
end
section
namespace Go.Proofs.Ytdafolenaibccaa.Plain
open Go.RowKit Go.Proofs Go.Proofs.Ytdafolenaibccaa.P Go.Proofs.Ytdafolenaibccaa.Mth Go.Proofs.YtdafolenaibccaaW.PrintWords Go.Proofs.YtdafolenaibccaaW.PrintLast Go.Proofs.YtdafolenaibccaaW.PrintMore
set_option linter.unusedVariables false
set_option linter.unusedSimpArgs false
noncomputable def codC (b : Bool) (xs zs : List Int) : Int := if b = true then (if xs.length > 512 then 4 else if zs.length > 512 then 4 else dup xs) else 2
theorem mayC_f (f : Int) (xs zs : List Int) (hu : U64 xs) (h1 : xs.length ≤ 9223372036854775807) (h3 : zs.length ≤ 9223372036854775807) : Ev (fun k => interp_may.f k f xs xs zs) (codC (inF f xs && inF f zs) xs zs) := by
  unfold interp_may.f
  have bad : Ev (fun k => interp_may.j0 k xs xs zs true) 2 := Ev.step (f := fun _ => some 2) (fun k => by simp only [interp_may.j0, if_true]) (Ev.now _)
  have good : Ev (fun k => interp_may.j0 k xs xs zs false) (codC true xs zs) := by
    refine Ev.step (f := fun k => _) (fun k => rfl) ?_
    simp only [interp_may.j0, Bool.false_eq_true, if_false, if_true]
    unfold codC
    rw [if_pos rfl]
    by_cases c2 : xs.length > 512
    · simp only [if_pos c2, if_pos (show (xs.length : Int) > 512 by omega)]; exact Ev.now _
    · simp only [if_neg c2, if_neg (show ¬ (xs.length : Int) > 512 by omega)]
      by_cases c3 : zs.length > 512
      · simp only [if_pos c3, if_pos (show (zs.length : Int) > 512 by omega)]; exact Ev.now _
      · simp only [if_neg c3, if_neg (show ¬ (zs.length : Int) > 512 by omega)]
        exact Ev.bind (f := fun _ t => some t) (twice_f xs hu (by omega)) (Ev.now _)
  refine Ev.bind (f := fun k t => _) (In_f f xs h1) ?_
  cases hx : inF f xs
  · simp only [Bool.false_eq_true, if_false, Bool.false_and]
    simpa [codC] using bad
  · simp only [if_true, Bool.true_and]
    refine Ev.bind (f := fun k t => _) (In_f f xs h1) ?_
    simp only [hx, if_true]
    refine Ev.bind (f := fun k t => _) (In_f f zs h3) ?_
    cases hz : inF f zs
    · simpa [codC] using bad
    · simpa using good
theorem rd_L1_at {l : List (List Int)} {i : Nat} (h : i < l.length) : rd_L1 l (i : Int) = l[i] := by simp [rd_L1, h]
end Go.Proofs.Ytdafolenaibccaa.Plain
end
section
namespace Go.Proofs.Ytdafolenaibccaa.Plain
open Go.RowKit Go.Proofs Go.Proofs.Ytdafolenaibccaa.P Go.Proofs.Ytdafolenaibccaa.Mth Go.Proofs.YtdafolenaibccaaW.PrintWords Go.Proofs.YtdafolenaibccaaW.PrintLast Go.Proofs.YtdafolenaibccaaW.PrintMore
set_option linter.unusedVariables false
set_option linter.unusedSimpArgs false
set_option linter.unusedSectionVars false
variable {f : Int} {p : Nat} [NeZero p]
theorem bas_chain (hF : Fld f p) {n : Nat} (hn : n ≤ 512) {x z : Nat → Fin p} (hx : Dist (arr n x)) (hz : Dist (arr n z)) (q : Fin p) {j : Nat} (hj : j < n) : (sumR n fun k => bas n z q k * bas n x (z k) j) = bas n x q j := by
  obtain ⟨m, g, h1, _, h3, _⟩ := ThroughG hF n hn x (fun t => if t = j then 1 else 0) hx
  have e : ∀ y, evR m g y = bas n x y j := fun y => by
    rw [h3, sumR_single hj _ fun t _ ht => by rw [if_neg ht]; grind, if_pos rfl]; grind
  rw [← e q, ← interp_all hF hn hz h1 g q]
  exact sumR_congr fun t _ => by rw [e]
def cS (n : Nat) (x z : Nat → Fin p) (q : Fin p) (k t : Nat) : Fin p := sumR k fun k' => bas n z q k' * bas n x (z k') t
structure CH (n m : Nat) (x z w : Nat → Fin p) (A B C : List (List Int)) : Prop where
  a : A.length = n
  ar : ∀ k : Nat, k < n → rd_L1 A (k : Int) = arr n (bas n x (z k))
  b : B.length = m
  br : ∀ i : Nat, i < m → rd_L1 B (i : Int) = arr n (bas n z (w i))
  c : C.length = m
  cr : ∀ i : Nat, i < m → rd_L1 C (i : Int) = arr n (bas n x (w i))
theorem Chain_l3 (hF : Fld f p) (n m : Nat) (hn : n ≤ 512) (hm : m ≤ 512) (x z w : Nat → Fin p) (A B C : List (List Int)) (hc : CH n m x z w A B C) (i k : Nat) (hi : i < m) (hk : k < n) (r : Bool)
    (hr : Ev (fun kk => conclavelaw07_InterpChain.l2 kk (arr m w) (arr n x) (arr n z) A B C (p : Int) (i : Int) (arr n (cS n x z (w i) (k + 1))) ((k + 1 : Nat) : Int)) r) :
    ∀ (d j : Nat), j + d = n → ∀ g : Nat → Fin p, (∀ t, t < j → g t = cS n x z (w i) (k + 1) t) → (∀ t, j ≤ t → t < n → g t = cS n x z (w i) k t) →
      Ev (fun kk => conclavelaw07_InterpChain.l3 kk (arr m w) (arr n x) (arr n z) A B C (p : Int) (i : Int) (arr n g) (k : Int) (j : Int)) r := by
  intro d
  induction d with
  | zero =>
    intro j hj g h1 h2
    obtain rfl : j = n := by omega
    rw [← arr_congr (g := g) (fun t ht => h1 t ht)] at hr
    refine Ev.step (f := fun kk => conclavelaw07_InterpChain.l2 kk (arr m w) (arr j x) (arr j z) A B C (p : Int) (i : Int) (arr j g) ((k + 1 : Nat) : Int)) (fun kk => ?_) hr
    simp only [conclavelaw07_InterpChain.l3]
    rw [arr_len, if_neg (by omega), w64 (by omega) (by omega)]
    rfl
  | succ d ih =>
    intro j hj g h1 h2
    refine Ev.step (f := fun kk => (conclaveref01_Times.f kk (p : Int) (tI (bas n z (w i) k)) (tI (bas n x (z k) j))).bind fun t => (conclaveref01_Sum.f (p : Int) (tI (g j)) t).bind fun t => conclavelaw07_InterpChain.l3 kk (arr m w) (arr n x) (arr n z) A B C (p : Int) (i : Int) ((arr n g).set j t) (k : Int) ((j + 1 : Nat) : Int)) (fun kk => ?_) ?_
    · simp only [conclavelaw07_InterpChain.l3]
      simp only [arr_len, hc.a, hc.b, hc.br i hi, hc.ar k hk, rd_arr hk, rd_arr (show j < n by omega), Int.toNat_natCast, if_pos (show (j : Int) < (n : Int) by omega), if_pos (show (0 : Int) ≤ (j : Int) by omega), if_pos (show (0 : Int) ≤ (i : Int) by omega), if_pos (show (i : Int) < (m : Int) by omega), if_pos (show (0 : Int) ≤ (k : Int) by omega), if_pos (show (k : Int) < (n : Int) by omega), w64 (x := (j : Int) + 1) (by omega) (by omega)]
      rfl
    · refine Ev.bind (f := fun kk t => (conclaveref01_Sum.f (p : Int) (tI (g j)) t).bind fun t => conclavelaw07_InterpChain.l3 kk (arr m w) (arr n x) (arr n z) A B C (p : Int) (i : Int) ((arr n g).set j t) (k : Int) ((j + 1 : Nat) : Int)) (rTimes_m hF _ _) ?_
      simp only [rSum_m hF, Option.bind_some, set_arr (show j < n by omega)]
      refine ih (j + 1) (by omega) _ (fun t ht => ?_) fun t h3 h4 => ?_
      · by_cases c : t = j
        · subst c
          rw [upd_self, h2 t (by omega) (by omega)]; rfl
        · rw [upd_ne _ _ c, h1 t (by omega)]
      · rw [upd_ne _ _ (by omega), h2 t (by omega) h4]
theorem Chain_l2 (hF : Fld f p) (n m : Nat) (hn : n ≤ 512) (hm : m ≤ 512) (x z w : Nat → Fin p) (hx : Dist (arr n x)) (hz : Dist (arr n z)) (A B C : List (List Int)) (hc : CH n m x z w A B C) (i : Nat) (hi : i < m)
    (hr : Ev (fun kk => conclavelaw07_InterpChain.l1 kk (arr m w) (arr n x) (arr n z) A B C (p : Int) ((i + 1 : Nat) : Int)) true) :
    ∀ (d k : Nat), k + d = n → Ev (fun kk => conclavelaw07_InterpChain.l2 kk (arr m w) (arr n x) (arr n z) A B C (p : Int) (i : Int) (arr n (cS n x z (w i) k)) (k : Int)) true := by
  intro d
  induction d with
  | zero =>
    intro k hk
    obtain rfl : k = n := by omega
    have e : arr k (cS k x z (w i) k) = arr k (bas k x (w i)) := arr_congr fun j hj => bas_chain hF hn hx hz (w i) hj
    rw [e]
    refine Ev.step (f := fun kk => (conclaveref01_Same.f kk (arr k (bas k x (w i))) (arr k (bas k x (w i)))).bind fun (t : Bool) => if t = true then conclavelaw07_InterpChain.l1 kk (arr m w) (arr k x) (arr k z) A B C (p : Int) ((i + 1 : Nat) : Int) else some false) (fun kk => ?_) ?_
    · simp only [conclavelaw07_InterpChain.l2]
      simp only [arr_len, hc.c, hc.cr i hi, if_neg (show ¬ (k : Int) < (k : Int) by omega), if_pos (show (0 : Int) ≤ (i : Int) by omega), if_pos (show (i : Int) < (m : Int) by omega), w64 (x := (i : Int) + 1) (by omega) (by omega)]
      rfl
    · refine Ev.bind (f := fun kk (t : Bool) => if t = true then conclavelaw07_InterpChain.l1 kk (arr m w) (arr k x) (arr k z) A B C (p : Int) ((i + 1 : Nat) : Int) else some false) (fSame_f _ _ (by rw [arr_len]; omega)) ?_
      simp only [decide_true, if_true]
      exact hr
  | succ d ih =>
    intro k hk
    have h := Chain_l3 hF n m hn hm x z w A B C hc i k hi (by omega) true (ih (k + 1) (by omega)) n 0 (by omega) (cS n x z (w i) k) (fun t ht => absurd ht (by omega)) fun t _ _ => rfl
    refine Ev.step (f := fun kk => conclavelaw07_InterpChain.l3 kk (arr m w) (arr n x) (arr n z) A B C (p : Int) (i : Int) (arr n (cS n x z (w i) k)) (k : Int) ((0 : Nat) : Int)) (fun kk => ?_) h
    simp only [conclavelaw07_InterpChain.l2]
    rw [arr_len, if_pos (by omega)]
    rfl
theorem Chain_l1 (hF : Fld f p) (n m : Nat) (hn : n ≤ 512) (hm : m ≤ 512) (x z w : Nat → Fin p) (hx : Dist (arr n x)) (hz : Dist (arr n z)) (A B C : List (List Int)) (hc : CH n m x z w A B C) :
    ∀ (d i : Nat), i + d = m → Ev (fun kk => conclavelaw07_InterpChain.l1 kk (arr m w) (arr n x) (arr n z) A B C (p : Int) (i : Int)) true := by
  intro d
  induction d with
  | zero =>
    intro i hi
    obtain rfl : i = m := by omega
    refine Ev.step (f := fun k => (conclavelaw07_anchored.f k).bind fun t => some t) (fun kk => ?_) (Ev.bind (f := fun k t => some t) anchored_f (Ev.now _))
    simp only [conclavelaw07_InterpChain.l1]
    rw [arr_len, if_neg (by omega)]
  | succ d ih =>
    intro i hi
    have h := Chain_l2 hF n m hn hm x z w hx hz A B C hc i (by omega) (ih (i + 1) (by omega)) n 0 (by omega)
    rw [show arr n (cS n x z (w i) 0) = List.replicate n (0 : Int) from (rep_arr (p := p) n).symm] at h
    refine Ev.step (f := fun kk => conclavelaw07_InterpChain.l2 kk (arr m w) (arr n x) (arr n z) A B C (p : Int) (i : Int) (List.replicate n (0 : Int)) ((0 : Nat) : Int)) (fun kk => ?_) h
    simp only [conclavelaw07_InterpChain.l1]
    simp only [arr_len, hc.b, hc.br i (by omega), Int.toNat_natCast, if_pos (show (0 : Int) ≤ (i : Int) by omega), if_pos (show (i : Int) < (m : Int) by omega), if_true, if_pos (show (0 : Int) ≤ (n : Int) by omega), if_pos (show n ≤ 35184372088832 by omega)]
    rfl
theorem Chain_l0 (hF : Fld f p) (n m : Nat) (hn : n ≤ 512) (hm : m ≤ 512) (x z w : Nat → Fin p) (hx : Dist (arr n x)) (hz : Dist (arr n z)) (A B C : List (List Int)) (hc : CH n m x z w A B C) :
    ∀ (d i : Nat), i + d = n → Ev (fun kk => conclavelaw07_InterpChain.l0 kk (arr m w) (arr n x) (arr n z) A B C (p : Int) (i : Int)) true := by
  intro d
  induction d with
  | zero =>
    intro i hi
    obtain rfl : i = n := by omega
    refine Ev.step (f := fun kk => conclavelaw07_InterpChain.l1 kk (arr m w) (arr i x) (arr i z) A B C (p : Int) ((0 : Nat) : Int)) (fun kk => ?_) (Chain_l1 hF i m hn hm x z w hx hz A B C hc m 0 (by omega))
    simp only [conclavelaw07_InterpChain.l0]
    rw [hc.a, if_neg (by omega)]
    rfl
  | succ d ih =>
    intro i hi
    refine Ev.step (f := fun kk => conclavelaw07_InterpChain.l0 kk (arr m w) (arr n x) (arr n z) A B C (p : Int) ((i + 1 : Nat) : Int)) (fun kk => ?_) (ih (i + 1) (by omega))
    simp only [conclavelaw07_InterpChain.l0]
    simp only [arr_len, hc.a, hc.ar i (by omega), if_pos (show (0 : Int) ≤ (i : Int) by omega), if_pos (show (i : Int) < (n : Int) by omega), if_true, w64 (x := (i : Int) + 1) (by omega) (by omega)]
    rfl
theorem rd_rows {m n i : Nat} (hi : i < m) (x z : Nat → Fin p) : rd_L1 ((List.range m).map fun t => arr n (bas n x (z t))) (i : Int) = arr n (bas n x (z i)) := by
  rw [rd_L1_at (by simpa using hi)]; simp
theorem Chain_rows (n m : Nat) (x z w : Nat → Fin p) : CH n m x z w ((List.range n).map fun t => arr n (bas n x (z t))) ((List.range m).map fun t => arr n (bas n z (w t))) ((List.range m).map fun t => arr n (bas n x (w t))) :=
  ⟨by simp, fun k hk => rd_rows hk x z, by simp, fun i hi => rd_rows hi z w, by simp, fun i hi => rd_rows hi x w⟩
theorem Change_none : Ev (fun k => interp_Change.f k 0 [] []) ([], 2) := by
  unfold interp_Change.f
  have h := mayC_f 0 [] [] (by intro x hx; simp at hx) (by simp) (by simp)
  rw [show codC (inF 0 [] && inF 0 []) [] [] = 2 by simp [codC, inF, isF]] at h
  refine Ev.bind (f := fun k t => _) h ?_
  simp only [if_neg (show ¬ (2 : Int) = 0 by omega)]
  exact Ev.now _
theorem Chain_no (f : Int) (xs zs ws : List Int) : Ev (fun k => conclavelaw07_InterpChain.j0 k ws f xs zs true) true := by
  refine Ev.step (f := fun k => (interp_Change.f k 0 ([] : List Int) ([] : List Int)).bind fun (b : List (List Int) × Int) => (conclavelaw07_anchored.f k).bind fun (t : Bool) => if t = true then some (b.2 == 2) else some false) (fun k => by simp only [conclavelaw07_InterpChain.j0, if_true]) ?_
  refine Ev.bind (f := fun k (b : List (List Int) × Int) => (conclavelaw07_anchored.f k).bind fun (t : Bool) => if t = true then some (b.2 == 2) else some false) Change_none ?_
  refine Ev.bind (f := fun k (t : Bool) => if t = true then some ((2 : Int) == 2) else some false) anchored_f ?_
  exact Ev.now _
theorem Chain_yes (hF : Fld f p) (n m : Nat) (hn : n ≤ 512) (hm : m ≤ 512) (x z w : Nat → Fin p) (hx : Dist (arr n x)) (hz : Dist (arr n z)) : Ev (fun k => conclavelaw07_InterpChain.j0 k (arr m w) f (arr n x) (arr n z) false) true := by
  refine Ev.step (f := fun k => _) (fun k => rfl) ?_
  simp only [conclavelaw07_InterpChain.j0, Bool.false_eq_true, if_false]
  refine Ev.bind (f := fun k t => _) (ChangeG hF n n hn hn x z hx) ?_
  refine Ev.bind (f := fun k t => _) (ChangeG hF n m hn hm z w hz) ?_
  refine Ev.bind (f := fun k t => _) (ChangeG hF n m hn hm x w hx) ?_
  simp only [if_true, List.length_map, List.length_range, arr_len, bne_self_eq_false]
  refine Ev.step (f := fun k => _) (fun k => rfl) ?_
  simp only [conclavelaw07_InterpChain.j1, Bool.false_eq_true, if_false, Pp_f hF, Option.bind_some]
  exact Chain_l0 hF n m hn hm x z w hx hz _ _ _ (Chain_rows n m x z w) n 0 (by omega)
end Go.Proofs.Ytdafolenaibccaa.Plain
namespace Go.Proofs.Ytdafolenaibccaa.Pure
open Go.RowKit Go.Proofs.Ytdafolenaibccaa.P Go.Proofs.Ytdafolenaibccaa.Plain Go.Proofs.Ytdafolenaibccaa.Mth Go.Proofs.YtdafolenaibccaaW.PrintWords Go.Proofs.YtdafolenaibccaaW.PrintLast
set_option linter.unusedVariables false
set_option linter.unusedSimpArgs false
theorem InterpChain : Form.InterpChain.Pure := by
  intro f xs zs ws hf hx hz hw
  have hX := u64_of_wf hx.2.2
  have hZ := u64_of_wf hz.2.2
  have hW := u64_of_wf hw.2.2
  have l1 : xs.length ≤ 9223372036854775807 := by have := hx.2.1; omega
  have l2 : zs.length ≤ 9223372036854775807 := by have := hz.2.1; omega
  have l3 : ws.length ≤ 9223372036854775807 := by have := hw.2.1; omega
  refine Ev.rounds ?_
  unfold conclavelaw07_InterpChain.f
  refine Ev.bind (f := fun k t => _) (rBad_f xs [] xs.length hX (by intro x hx; simp at hx) l1 (by simp)) ?_
  by_cases c : cod (inF f xs && inF f []) xs xs.length = 0
  · simp only [c, if_true]
    refine Ev.bind (f := fun k t => _) (rBad_f zs ws xs.length hZ hW l2 l3) ?_
    by_cases c2 : cod (inF f zs && inF f ws) zs xs.length = 0
    · simp only [c2, if_true]
      by_cases c3 : ws.length > 512
      · rw [show decide ((ws.length : Int) > 512) = true from decide_eq_true (by omega)]
        exact Chain_no f xs zs ws
      · rw [show decide ((ws.length : Int) > 512) = false from decide_eq_false (by omega)]
        obtain ⟨hi, _, hn, hd⟩ := cod_zero c
        obtain ⟨hi2, hl2, _, hd2⟩ := cod_zero c2
        simp only [Bool.and_eq_true] at hi hi2
        obtain ⟨p, hp, hF⟩ := fld_of (inF_isF hi.1)
        obtain ⟨x, hx'⟩ := arr_lift hF hX hi.1
        obtain ⟨z, hz'⟩ := arr_lift hF hZ hi2.1
        obtain ⟨w, hw'⟩ := arr_lift hF hW hi2.2
        rw [hl2] at hz'
        rw [hx'] at hd
        rw [hz'] at hd2
        have h := Chain_yes hF xs.length ws.length hn (by omega) x z w hd hd2
        rw [← hx', ← hz', ← hw'] at h
        exact h
    · simp only [if_neg c2]
      exact Chain_no f xs zs ws
  · simp only [if_neg c]
    exact Chain_no f xs zs ws
end Go.Proofs.Ytdafolenaibccaa.Pure
end
section
namespace Go.Proofs.Ytdafolenaibccaa.interpChain
open Go.ChangeShapes Go.WideShapes Go.ChangeAt Go.RowKit Go.Proofs.YtdafolenaibccaaW.PrintWords Go.Proofs.Ytdafolenaibccaa.P Go.Proofs.Ytdafolenaibccaa.Form.InterpChain
set_option linter.unusedVariables false
theorem own : ownKnob Try.prog.godebug = none := by kernel_rfl
theorem laidOut : laidOutB Try.prog = true := by kernel_rfl
set_option maxRecDepth 100000 in
theorem lifted (os : Os) (started : os.Started) (H : Type) (enc : TypeId × Value → H) :
    ReturnsInHanded {} Try.checked os 7 .any (Rows.interpChainSpec.pre6 enc Try.prog Try.f7 Rows.interpChainRow.domain false) (Rows.interpChainSpec.post enc Try.prog Try.f7 false true false false) := by
  refine returnsInHanded_of_change_sized (C := Try.checked) own started (by kernel_rfl) Try.func7
    (ChangeSpec.witness6 (enc := enc) (C := Try.checked) false ⟨#[], #[.int .u8 0, .agg #[.slice none 0 0, .slice none 0 0], .slice none 0 0], []⟩ 8 (by kernel_rfl) (by kernel_rfl) (by kernel_rfl) (by kernel_rfl)) ?_
  intro W base args ds gs before hval0 hW hcnd hsz0 _
  have hsz : (DataW.weightsEach Try.prog (Try.f7.params.toList ++ Rows.interpChainSpec.plain.varTypes Try.prog) (ds ++ gs)).all (· ≤ reachBytes) = true := hsz0
  have hval : ∀ (j : Nat) t v, Try.f7.params[j]? = some t → args[j]? = some v → Value.okWide Try.prog W .any base t v := hval0
  have hW' := hW
  obtain ⟨p, q, hA0, hV, rfl, hfz, hnd⟩ := hW
  have hA : DataW.TrodAll enc Try.prog W 0 (fun _ => true) true Try.f7.params.toList args.toList ds p := hA0
  rw [Try.params7] at hA hval hsz
  obtain ⟨v0, vs0, d0, ds0, p0, q0, hargs, rfl, rfl, h0, r0⟩ := trodAll_cons hA
  obtain ⟨v1, vs1, d1, ds1, p1, q1, rfl, rfl, rfl, h1, r1⟩ := trodAll_cons r0
  obtain ⟨v2, vs2, d2, ds2, p2, q2, rfl, rfl, rfl, h2, r2⟩ := trodAll_cons r1
  obtain ⟨rfl, rfl, rfl⟩ := trodAll_nil r2
  obtain rfl : args = #[v0, v1, v2] := by cases args; simp_all
  obtain ⟨rfl, rfl⟩ := trodVars_none hV
  obtain ⟨a0, rfl, rfl, rfl, w0⟩ := open_int Try.underlying5 (hval 0 5 v0 rfl rfl) h0
  have k1_ := h1
  have lt1 : ∀ x ∈ p1, x.block < W.heap.size := by obtain ⟨m, hm⟩ := k1_; exact DataW.trod_lt m _ _ _ hm
  obtain ⟨z1, rfl, _⟩ := Open.okWide_array Try.underlying23 (hval 1 23 v1 rfl rfl)
  obtain ⟨⟨l1_0, l1_1⟩, K1, ⟨F1_0, F1_1⟩⟩ := Open.opens_at (Open.opens_array (n := 2) Try.underlying23 (by kernel_rfl) (Open.opensL_rep rfl (Open.opensL_cons (Open.opens_slice (d := (Kd.int .u64)) Try.underlying22 (by kernel_rfl) (show 0 < 1 from by decide) (B := 8) (by kernel_rfl) (Open.opens_int Try.underlying24 (by kernel_rfl))) (Open.opensL_one (Open.opens_slice (d := (Kd.int .u64)) Try.underlying22 (by kernel_rfl) (show 0 < 1 from by decide) (B := 8) (by kernel_rfl) (Open.opens_int Try.underlying24 (by kernel_rfl)))))) id id (fun _ => rfl)) h1 hsz (j := 1) rfl rfl
  have hz1 : ∀ cs : List Value, (z1.toList = cs) → z1 = cs.toArray := fun cs h => by rw [← h]
  obtain ⟨cs1, hcs1, K1'⟩ : ∃ cs, z1.toList = cs ∧ _ := ⟨_, rfl, K1⟩
  obtain ⟨_, _, rfl, ⟨A1_0, c1_0, rfl, hc1_0, hr1_0⟩, ⟨A1_1, c1_1, rfl, hc1_1, hr1_1⟩⟩ := K1'
  obtain rfl := hz1 _ hcs1
  have k2_ := h2
  have lt2 : ∀ x ∈ p2, x.block < W.heap.size := by obtain ⟨m, hm⟩ := k2_; exact DataW.trod_lt m _ _ _ hm
  obtain ⟨b2, len2, cap2, rfl⟩ := okWide_slice Try.underlying22 (hval 2 22 v2 rfl rfl)
  obtain ⟨l2, ⟨A2, c2, hcs2, hc2, hr2⟩, F2⟩ := Open.opens_at (Open.opens_slice (d := (Kd.int .u64)) Try.underlying22 (by kernel_rfl) (show 0 < 1 from by decide) (B := 8) (by kernel_rfl) (Open.opens_int Try.underlying24 (by kernel_rfl))) h2 hsz (j := 2) rfl rfl
  simp [Value.cells] at hcs2
  obtain ⟨rfl, rfl, rfl⟩ := hcs2
  clear hA0 hval0 hsz0 hsz
  obtain ⟨k, h⟩ := Pure.InterpChain _ _ _ _ w0 F1_0 F1_1 F2
  refine (conclavelaw07_InterpChain.calls k _ _ _ _ _ _ _ _ _ _ true W hr1_0 hc1_0 hr1_1 hc1_1 hr2 hc2 h rfl).mono fun e W' hee => ?_
  obtain ⟨he, bel⟩ := hee
  have bel : Below W.heap.size W W' := by first | exact bel | exact bel.below
  subst he
  exact ⟨_, rfl, _, _, _, [], _, [], hW', trodAll_mk1 (shut_bool Try.underlying4 _), (trodAll_cons_mk (shut_int Try.underlying5 w0) (trodAll_cons_mk (Below.trod laidOut (by kernel_rfl) (of_decide_eq_true (by kernel_rfl)) k1_ bel lt1) (trodAll_cons_mk (Below.trod laidOut (by kernel_rfl) (of_decide_eq_true (by kernel_rfl)) k2_ bel lt2) trodAll_mk0))), rfl, bel.frame _, fun h => by cases h⟩
theorem over : Rows.interpChainRow.holds Try.pinned (OpenSpec.ofChange Rows.interpChainSpec) :=
  OpenClaim.holds_of_wide 7 Try.f7 rfl rfl rfl rfl rfl rfl rfl ⟨rfl, rfl, rfl, rfl, rfl⟩ rfl rfl rfl rfl rfl (by kernel_rfl) Try.func7 (by kernel_rfl)
    (of_decide_eq_true (by kernel_rfl)) (by unfold Func.isWrapper; first | (rw [if_pos (by decide +kernel)]; kernel_rfl) | (rw [if_neg (by decide +kernel)]; exact ⟨rfl, rfl⟩))
    (fun os started H enc _ => lifted os started H enc)
theorem proved : Rows.InterpChainSaid := over
end Go.Proofs.Ytdafolenaibccaa.interpChain
namespace Go.Proofs.Ytdafolenaibccaa
theorem interpChain_holds : Rows.InterpChainSaid := interpChain.proved
end Go.Proofs.Ytdafolenaibccaa
end
