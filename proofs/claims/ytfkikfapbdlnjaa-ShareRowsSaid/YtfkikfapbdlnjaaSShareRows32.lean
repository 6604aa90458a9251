import Derived.Test.YtfkikfapbdlnjaaSShareRows18
import Derived.Test.YtfkikfapbdlnjaaSShareRows22
import Derived.Test.YtfkikfapbdlnjaaSShareRows23
import Derived.Test.YtfkikfapbdlnjaaSShareRows24
import Derived.Test.YtfkikfapbdlnjaaSShareRows25
import Derived.Test.YtfkikfapbdlnjaaSShareRows26
import Derived.Test.YtfkikfapbdlnjaaSShareRows27
import Derived.Test.YtfkikfapbdlnjaaSShareRows28
import Derived.Test.YtfkikfapbdlnjaaSShareRows29
import Derived.Test.YtfkikfapbdlnjaaSShareRows30
import Derived.Test.YtfkikfapbdlnjaaSShareRows31
import Derived.Test.YtfkikfapbdlnjaaRows
import Derived.WalkKit
import Derived.ProofKit
import Derived.OpenShut
import Derived.ShutString
import Derived.ChangeOld
import Derived.Below
import Derived.SizedLaws
section
namespace Go.Proofs.Ytfkikfapbdlnjaa.Plain
open Go.RowKit Go.Proofs Go.Proofs.Ytfkikfapbdlnjaa.P Go.Proofs.Ytfkikfapbdlnjaa.Mth Go.Proofs.YtfkikfapbdlnjaaW.PrintWords Go.Proofs.YtfkikfapbdlnjaaW.PrintLast Go.Proofs.YtfkikfapbdlnjaaW.PrintMore
set_option linter.unusedVariables false
set_option linter.unusedSimpArgs false
set_option linter.unusedSectionVars false
theorem rwAt {l : List (List Int)} {i : Nat} (h : i < l.length) : rd_L1 l (i : Int) = l[i] := by simp [rd_L1, h]
theorem rwDrop {l : List (List Int)} {i : Nat} (h : i < l.length) : l.drop i = rd_L1 l (i : Int) :: l.drop (i + 1) := by rw [rwAt h, List.drop_eq_getElem_cons h]
section
variable {f : Int} {p : Nat} [NeZero p]
def rowsL (m : Nat) (ln : Nat → Nat) (B : Nat → Nat → Fin p) : List (List Int) := (List.range m).map fun t => arr (ln t) (B t)
abbrev rowsA (m w : Nat) (B : Nat → Nat → Fin p) : List (List Int) := rowsL m (fun _ => w) B
theorem rowsL_len (m : Nat) (ln : Nat → Nat) (B : Nat → Nat → Fin p) : (rowsL m ln B).length = m := by simp [rowsL]
theorem rowsL_at {m t : Nat} (ht : t < m) (ln : Nat → Nat) (B : Nat → Nat → Fin p) : rd_L1 (rowsL m ln B) (t : Int) = arr (ln t) (B t) := by
  rw [rwAt (by rw [rowsL_len]; exact ht)]; simp [rowsL]
theorem rowsL_set {m i : Nat} (n : Nat) (ln : Nat → Nat) (B : Nat → Nat → Fin p) : (rowsL m ln B).set i (arr n (B i)) = rowsL m (upd ln i n) B := by
  apply List.ext_getElem
  · simp [rowsL]
  · intro j h1 h2
    simp only [rowsL, List.getElem_set, List.getElem_map, List.getElem_range]
    by_cases c : i = j
    · subst c; rw [if_pos rfl, upd_self]
    · rw [if_neg c, upd_ne _ _ (Ne.symm c)]
theorem rowsL_congr {m : Nat} {ln ln' : Nat → Nat} {B B' : Nat → Nat → Fin p} (h1 : ∀ t, t < m → ln t = ln' t) (h2 : ∀ t, t < m → ∀ j, j < ln t → B t j = B' t j) : rowsL m ln B = rowsL m ln' B' := by
  unfold rowsL
  refine List.map_congr_left fun t ht => ?_
  have ht := List.mem_range.1 ht
  rw [← h1 t ht]
  exact arr_congr (h2 t ht)
theorem rowsL_snoc (m : Nat) (ln : Nat → Nat) (B : Nat → Nat → Fin p) : rowsL m ln B ++ [arr (ln m) (B m)] = rowsL (m + 1) ln B := by simp [rowsL, List.range_succ]
theorem rowsA_append (m n w : Nat) (B C : Nat → Nat → Fin p) : rowsA m w B ++ rowsA n w C = rowsA (m + n) w (fun i => if i < m then B i else C (i - m)) := by
  apply List.ext_getElem
  · simp [rowsL]
  · intro j h1 h2
    rw [List.getElem_append]
    simp only [rowsL_len]
    by_cases c : j < m
    · rw [dif_pos c]; simp [rowsL, c]
    · rw [dif_neg c]; simp [rowsL, c]
theorem rowsA_lift (hF : Fld f p) {w : Nat} {l : List (List Int)} (hl : ∀ x ∈ l, U64 x ∧ inF f x = true ∧ x.length = w) : ∃ B : Nat → Nat → Fin p, l = rowsA l.length w B := by
  have h : ∀ i : Nat, ∃ g : Nat → Fin p, ∀ hi : i < l.length, l[i] = arr w g := fun i => by
    by_cases hi : i < l.length
    · obtain ⟨h1, h2, h3⟩ := hl l[i] (List.getElem_mem hi)
      obtain ⟨x, hx⟩ := arr_lift hF h1 h2
      exact ⟨x, fun _ => by rw [← h3]; exact hx⟩
    · exact ⟨fun _ => 0, fun h => absurd h hi⟩
  refine ⟨fun i => Classical.choose (h i), ?_⟩
  apply List.ext_getElem
  · rw [rowsL_len]
  · intro i h1 h2
    rw [Classical.choose_spec (h i) h1]; simp [rowsL]
theorem rowsA_mem {m w : Nat} {B : Nat → Nat → Fin p} {x : List Int} (hx : x ∈ rowsA m w B) : ∃ t, t < m ∧ x = arr w (B t) := by
  unfold rowsA rowsL at hx
  obtain ⟨t, ht, rfl⟩ := List.mem_map.1 hx
  exact ⟨t, List.mem_range.1 ht, rfl⟩
theorem turned_l1 {M W : Nat} (hM : M ≤ 64) (hW : W ≤ 64) (B : Nat → Nat → Fin p) {R : List (List Int)} (ln : Nat → Nat) {a : Nat} (ha : a < W) : ∀ (d j : Nat), j + d = M →
    Ev (fun k => share_turned.l0 k (rowsA M W B) (rowsL W (upd ln a M) fun t i => B i t) (W : Int) ((a + 1 : Nat) : Int)) R →
    Ev (fun k => share_turned.l1 k (rowsA M W B) (rowsL W (upd ln a j) fun t i => B i t) (a : Int) (W : Int) (a : Int) (rowsA M W B) (M : Int) (j : Int)) R := by
  have e1 : wrap64 ((a : Int) + 1) = ((a + 1 : Nat) : Int) := by rw [w64 (by omega) (by omega)]; rfl
  intro d
  induction d with
  | zero =>
    intro j hj h
    obtain rfl : j = M := by omega
    refine Ev.step (f := fun k => share_turned.l0 k (rowsA j W B) (rowsL W (upd ln a j) fun t i => B i t) (W : Int) ((a + 1 : Nat) : Int)) (fun k => ?_) h
    simp only [share_turned.l1]; rw [if_neg (by omega), e1]
  | succ d ih =>
    intro j hj h
    have e2 : wrap64 ((j : Int) + 1) = ((j + 1 : Nat) : Int) := by rw [w64 (by omega) (by omega)]; rfl
    refine Ev.step (f := fun k => share_turned.l1 k (rowsA M W B) (rowsL W (upd ln a (j + 1)) fun t i => B i t) (a : Int) (W : Int) (a : Int) (rowsA M W B) (M : Int) ((j + 1 : Nat) : Int)) (fun k => ?_) (ih (j + 1) (by omega) h)
    have hx := rowsL_at (t := j) (m := M) (by omega) (fun _ => W) B
    have hy := rowsL_at (t := a) (m := W) ha (upd ln a j) (fun t i => B i t)
    simp only [upd_self] at hy
    have hs : ((rowsL W (upd ln a j) fun t i => B i t).set a (arr (j + 1) fun i => B i a)) = rowsL W (upd ln a (j + 1)) fun t i => B i t := by
      have h_ := rowsL_set (m := W) (i := a) (j + 1) (upd ln a j) (fun t i => B i t)
      rw [h_]
      exact rowsL_congr (fun t _ => by by_cases c : t = a
                                       · subst c; rw [upd_self, upd_self]
                                       · rw [upd_ne _ _ c, upd_ne _ _ c, upd_ne _ _ c]) (fun _ _ _ _ => rfl)
    simp only [share_turned.l1]
    rw [rowsL_len, rowsL_len, if_pos (by omega), if_pos (by omega), if_pos (by omega), if_pos (by omega), if_pos (by omega), hx, arr_len, if_pos (by omega), hy, arr_len, if_pos (by omega), rd_arr ha, Int.toNat_natCast, show arr j (fun i => B i a) ++ [tI (B j a)] = arr (j + 1) (fun i => B i a) from arr_snoc j (fun i => B i a), hs, e2]
theorem turned_l0 {M W : Nat} (hM : M ≤ 64) (hW : W ≤ 64) (B : Nat → Nat → Fin p) : ∀ (d a : Nat), a + d = W →
    Ev (fun k => share_turned.l0 k (rowsA M W B) (rowsL W (fun t => if t < a then M else 0) fun t i => B i t) (W : Int) (a : Int)) (rowsA W M fun t i => B i t) := by
  intro d
  induction d with
  | zero =>
    intro a ha
    obtain rfl : a = W := by omega
    refine Ev.step (f := fun _ => some (rowsA a M fun t i => B i t)) (fun k => ?_) (Ev.now _)
    simp only [share_turned.l0]; rw [if_neg (by omega)]
    rw [rowsL_congr (ln' := fun _ => M) (fun t ht => if_pos ht) (fun _ _ _ _ => rfl)]
  | succ d ih =>
    intro a ha
    have hn := ih (a + 1) (by omega)
    rw [rowsL_congr (ln' := upd (fun t => if t < a then M else 0) a M) (B' := fun t i => B i t) (fun t _ => by
      by_cases c : t = a
      · subst c; rw [upd_self, if_pos (by omega)]
      · rw [upd_ne _ _ c]; by_cases c2 : t < a
        · rw [if_pos c2, if_pos (by omega)]
        · rw [if_neg c2, if_neg (by omega)]) (fun _ _ _ _ => rfl)] at hn
    have h1 := turned_l1 hM hW B (fun t => if t < a then M else 0) (a := a) (by omega) M 0 (by omega) hn
    rw [rowsL_congr (ln := upd (fun t => if t < a then M else 0) a 0) (ln' := fun t => if t < a then M else 0) (B' := fun t i => B i t) (fun t _ => by
      by_cases c : t = a
      · subst c; rw [upd_self, if_neg (by omega)]
      · rw [upd_ne _ _ c]) (fun _ _ _ _ => rfl)] at h1
    refine Ev.step (f := fun k => share_turned.l1 k (rowsA M W B) (rowsL W (fun t => if t < a then M else 0) fun t i => B i t) (a : Int) (W : Int) (a : Int) (rowsA M W B) (M : Int) 0) (fun k => ?_) h1
    simp only [share_turned.l0]; rw [if_pos (by omega), rowsL_len]
theorem turned_f (f N K T S E D w : Int) {M : Nat} (hM : M ≤ 64) (h0 : 0 ≤ w) (hw : w ≤ 64) (B : Nat → Nat → Fin p) : Ev (fun k => share_turned.f k f N K T S E D w (rowsA M w.toNat B)) (rowsA w.toNat M fun t i => B i t) := by
  unfold share_turned.f
  have h := turned_l0 hM (W := w.toNat) (by omega) B w.toNat 0 (by omega)
  rw [show ((w.toNat : Nat) : Int) = w by omega] at h
  have e : (List.replicate w.toNat ([] : List Int)) = rowsL w.toNat (fun t => if t < 0 then M else 0) fun t i => B i t := by
    apply List.ext_getElem
    · simp [rowsL]
    · intro j h1 h2; simp [rowsL, arr]
  refine Ev.congr (fun k => ?_) h
  rw [if_pos h0, if_pos (by omega), e]
  rfl
def mixS (M : Nat) (R B : Nat → Nat → Fin p) (t a : Nat) : Fin p := sumR M fun i => R t i * B i a
theorem mixed_l1 (hF : Fld f p) (N K T S E D : Int) {M W n t : Nat} (hM : M ≤ 64) (hW : W ≤ 64) (hn : n ≤ 64) (ht : t < n) (R B : Nat → Nat → Fin p) {X : List (List Int)} {Q : List (List Int) × Int} (out : List (List Int)) (ho : out.length ≤ 64) : ∀ (d a : Nat) (g : Nat → Fin p), a + d = W → (∀ b, b < a → g b = mixS M R B t b) →
    Ev (fun k => share_mixed.l0 k (rowsA W M fun t i => B i t) (out ++ [arr W (mixS M R B t)]) X (n : Int) ((t + 1 : Nat) : Int) f N K T S E D (W : Int)) Q →
    Ev (fun k => share_mixed.l1 k (rowsA W M fun t i => B i t) out (arr M (R t)) (arr W g) X (n : Int) (t : Int) (W : Int) (a : Int) f N K T S E D (W : Int)) Q := by
  have e1 : wrap64 ((t : Int) + 1) = ((t + 1 : Nat) : Int) := by rw [w64 (by omega) (by omega)]; rfl
  intro d
  induction d with
  | zero =>
    intro a g ha hg h
    obtain rfl : a = W := by omega
    rw [← arr_congr hg] at h
    refine Ev.step (f := fun k => share_mixed.l0 k (rowsA a M fun t i => B i t) (out ++ [arr a g]) X (n : Int) ((t + 1 : Nat) : Int) f N K T S E D (a : Int)) (fun k => ?_) h
    simp only [share_mixed.l1]; rw [if_neg (by omega), if_pos (by omega), e1]
  | succ d ih =>
    intro a g ha hg h
    have e2 : wrap64 ((a : Int) + 1) = ((a + 1 : Nat) : Int) := by rw [w64 (by omega) (by omega)]; rfl
    have hx := rowsL_at (t := a) (m := W) (by omega) (fun _ => M) (fun t i => B i t)
    have hd := DotG hF M (by omega) (R t) (fun i => B i a)
    have hn2 := ih (a + 1) (upd g a (mixS M R B t a)) (by omega) (fun b hb => by
      by_cases c : b = a
      · subst c; rw [upd_self]
      · rw [upd_ne _ _ c]; exact hg b (by omega)) h
    refine Ev.step (f := fun k => (field_Dot.f k f (arr M (R t)) (arr M fun i => B i a)).bind fun bt => if (a : Int) < ((arr W g).length : Int) then (if bt.2 = 0 then share_mixed.l1 k (rowsA W M fun t i => B i t) out (arr M (R t)) ((arr W g).set a bt.1) X (n : Int) (t : Int) (W : Int) ((a + 1 : Nat) : Int) f N K T S E D (W : Int) else some ([], bt.2)) else none) (fun k => ?_) (Ev.bind (f := fun k (bt : Int × Int) => if (a : Int) < ((arr W g).length : Int) then (if bt.2 = 0 then share_mixed.l1 k (rowsA W M fun t i => B i t) out (arr M (R t)) ((arr W g).set a bt.1) X (n : Int) (t : Int) (W : Int) ((a + 1 : Nat) : Int) f N K T S E D (W : Int) else some ([], bt.2)) else none) hd ?_)
    · simp only [share_mixed.l1]
      rw [rowsL_len, if_pos (by omega), if_pos (by omega), if_pos (by omega), hx, e2, Int.toNat_natCast]
    · refine Ev.congr (fun k => ?_) hn2
      dsimp only
      rw [arr_len, if_pos (by omega), if_pos rfl, set_arr (show a < W by omega)]
      rfl
theorem mixed_l0 (hF : Fld f p) (N K T S E D : Int) {M W n : Nat} (hM : M ≤ 64) (hW : W ≤ 64) (hn : n ≤ 64) (R B : Nat → Nat → Fin p) : ∀ (d t : Nat), t + d = n →
    Ev (fun k => share_mixed.l0 k (rowsA W M fun t i => B i t) (rowsA t W (mixS M R B)) (rowsA n M R) (n : Int) (t : Int) f N K T S E D (W : Int)) (rowsA n W (mixS M R B), 0) := by
  intro d
  induction d with
  | zero =>
    intro t ht
    obtain rfl : t = n := by omega
    refine Ev.step (f := fun _ => some (rowsA t W (mixS M R B), 0)) (fun k => ?_) (Ev.now _)
    simp only [share_mixed.l0]; rw [if_neg (by omega)]
  | succ d ih =>
    intro t ht
    have hx := rowsL_at (t := t) (m := n) (by omega) (fun _ => M) R
    have hrec := ih (t + 1) (by omega)
    rw [show rowsA (t + 1) W (mixS M R B) = rowsA t W (mixS M R B) ++ [arr W (mixS M R B t)] from (rowsL_snoc t (fun _ => W) (mixS M R B)).symm] at hrec
    have h1 := mixed_l1 hF N K T S E D hM hW hn (t := t) (by omega) R B (rowsA t W (mixS M R B)) (by rw [rowsL_len]; omega) W 0 (fun _ => 0) (by omega) (fun b hb => absurd hb (by omega)) hrec
    refine Ev.step (f := fun k => share_mixed.l1 k (rowsA W M fun t i => B i t) (rowsA t W (mixS M R B)) (arr M (R t)) (arr W fun _ => (0 : Fin p)) (rowsA n M R) (n : Int) (t : Int) (W : Int) 0 f N K T S E D (W : Int)) (fun k => ?_) h1
    simp only [share_mixed.l0]
    rw [rowsL_len, if_pos (by omega), if_pos (by omega), if_pos (by omega), if_pos (by omega), if_pos (by omega), hx, Int.toNat_natCast, rep_arr (p := p)]
theorem mixed_f (hF : Fld f p) (N K T S E D w : Int) {M n : Nat} (hM : M ≤ 64) (h0 : 0 ≤ w) (hw : w ≤ 64) (hn : n ≤ 64) (R B : Nat → Nat → Fin p) : Ev (fun k => share_mixed.f k f N K T S E D w (rowsA n M R) (rowsA M w.toNat B)) (rowsA n w.toNat (mixS M R B), 0) := by
  unfold share_mixed.f
  refine Ev.bind (f := fun k t => _) (turned_f f N K T S E D w hM h0 hw B) ?_
  have h := mixed_l0 hF N K T S E D hM (W := w.toNat) (by omega) hn R B n 0 (by omega)
  rw [show ((w.toNat : Nat) : Int) = w by omega] at h
  rw [rowsL_len]
  exact h
def ptF (p : Nat) [NeZero p] (t : Nat) : Fin p := cF p t
def rowR (M : Nat) (t i : Nat) : Fin p := bas M (ptF p) (ptF p (M + t)) i
theorem iota_arr (hF : Fld f p) (a m : Nat) (h : a + m ≤ 1000) : iota (a : Int) m = arr m fun j => ptF p (a + j) := by
  unfold iota arr
  refine List.map_congr_left fun j hj => ?_
  have hj := List.mem_range.1 hj
  have := hF.gt
  unfold ptF
  rw [← tI_c (show a + j < p by omega)]; rfl
theorem dist_iota (m : Nat) (hF : Fld f p) (h : m ≤ 1000) : Dist (arr m (ptF p)) := by
  have e := iota_arr hF 0 m (by omega)
  simp only [Nat.zero_add] at e
  rw [show ((0 : Nat) : Int) = 0 from rfl] at e
  rw [← e]
  intro i j h1 h2 h3
  rw [iota_len] at h2
  rw [iota_rd 0 h2, iota_rd 0 (by omega)] at h3
  omega
variable {N K T S E D W : Int}
theorem Rows_f (hF : Fld f p) (h : mayP f N K T S E D W = true) : Ev (fun k => points_Rows.f k f N K T S E D W) (rowsA N.toNat (K + T).toNat (rowR (p := p) (K + T).toNat), 0) := by
  obtain ⟨hfi, h1, h2, h3, h4, h5, h6, h7, h8, _⟩ := mayP_at h
  have ex := iota_arr hF 0 (K + T).toNat (by omega)
  simp only [Nat.zero_add] at ex
  have ez := iota_arr hF (K + T).toNat N.toNat (by omega)
  rw [show (((K + T).toNat : Nat) : Int) = K + T by omega] at ez
  have hc := ChangeG hF (K + T).toNat N.toNat (by omega) (by omega) (ptF p) (fun j => ptF p ((K + T).toNat + j)) (dist_iota _ hF (by omega))
  rw [← ez, ← ex] at hc
  have e : iota 0 K.toNat ++ iota K T.toNat = iota 0 (K + T).toNat := by
    have := iota_append 0 K.toNat T.toNat
    rw [show (0 : Int) + ((K.toNat : Nat) : Int) = K by omega, show K.toNat + T.toNat = (K + T).toNat by omega] at this
    exact this
  unfold points_Rows.f
  refine Ev.bind (f := fun k t => _) (Data_f h) ?_
  simp only [if_true]
  refine Ev.bind (f := fun k t => _) (Pads_f h) ?_
  simp only [if_true]
  refine Ev.bind (f := fun k t => _) (Workers_f h) ?_
  simp only [if_true, iota_len, if_pos (show K.toNat + T.toNat < 17592186044416 by omega), e]
  exact Ev.bind (f := fun _ t => some (t.1, t.2)) hc (Ev.now _)
end
def allFs (f : Int) (l : List (List Int)) : Bool := l.all (inF f)
def allWs (w : Int) (l : List (List Int)) : Bool := l.all fun x => decide ((x.length : Int) = w)
theorem allFs_cons (f : Int) (x : List Int) (l : List (List Int)) : allFs f (x :: l) = (inF f x && allFs f l) := rfl
theorem allWs_cons (w : Int) (x : List Int) (l : List (List Int)) : allWs w (x :: l) = (decide ((x.length : Int) = w) && allWs w l) := rfl
theorem OutsF_f (f : Int) (l : List (List Int)) (hl : l.length ≤ 9223372036854775806) (hr : ∀ x ∈ l, x.length ≤ 9223372036854775807) : Ev (fun k => zz_OutsF.f k f l) (!allFs f l) := by
  have hi : ∀ (d i : Nat), i + d = l.length → Ev (fun k => zz_OutsF.l0 k f l (i : Int)) (!allFs f (l.drop i)) := by
    intro d
    induction d with
    | zero =>
      intro i hi
      rw [List.drop_eq_nil_of_le (by omega)]
      refine Ev.step (f := fun _ => some false) (fun k => ?_) (Ev.now _)
      simp only [zz_OutsF.l0]; rw [if_neg (by omega)]
    | succ d ih =>
      intro i hi
      have e1 : wrap64 ((i : Int) + 1) = ((i + 1 : Nat) : Int) := by rw [w64 (by omega) (by omega)]; rfl
      rw [rwDrop (by omega), allFs_cons]
      refine Ev.step (f := fun k => (field_In.f k f (rd_L1 l (i : Int))).bind fun t => if t = true then zz_OutsF.l0 k f l ((i + 1 : Nat) : Int) else some true) (fun k => ?_) (Ev.bind (f := fun k (t : Bool) => if t = true then zz_OutsF.l0 k f l ((i + 1 : Nat) : Int) else some true) (In_f f _ (by rw [rwAt (by omega)]; exact hr _ (List.getElem_mem _))) ?_)
      · simp only [zz_OutsF.l0]; rw [if_pos (by omega), if_pos (by omega), e1]
      · cases inF f (rd_L1 l (i : Int))
        · exact Ev.now _
        · simp only [if_true, Bool.true_and]; exact ih (i + 1) (by omega)
  unfold zz_OutsF.f
  exact hi l.length 0 (by omega)
theorem OutsW_f (w : Int) (l : List (List Int)) (hl : l.length ≤ 9223372036854775806) : Ev (fun k => zz_OutsW.f k w l) (!allWs w l) := by
  have hi : ∀ (d i : Nat), i + d = l.length → Ev (fun k => zz_OutsW.l0 k w l (i : Int)) (!allWs w (l.drop i)) := by
    intro d
    induction d with
    | zero =>
      intro i hi
      rw [List.drop_eq_nil_of_le (by omega)]
      refine Ev.step (f := fun _ => some false) (fun k => ?_) (Ev.now _)
      simp only [zz_OutsW.l0]; rw [if_neg (by omega)]
    | succ d ih =>
      intro i hi
      have e1 : wrap64 ((i : Int) + 1) = ((i + 1 : Nat) : Int) := by rw [w64 (by omega) (by omega)]; rfl
      rw [rwDrop (by omega), allWs_cons]
      by_cases c : ((rd_L1 l (i : Int)).length : Int) = w
      · refine Ev.step (f := fun k => zz_OutsW.l0 k w l ((i + 1 : Nat) : Int)) (fun k => ?_) ?_
        · simp only [zz_OutsW.l0]; rw [if_pos (by omega), if_pos (by omega), if_pos c, e1]
        · rw [decide_eq_true c, Bool.true_and]; exact ih (i + 1) (by omega)
      · refine Ev.step (f := fun _ => some true) (fun k => ?_) ?_
        · simp only [zz_OutsW.l0]; rw [if_pos (by omega), if_pos (by omega), if_neg c]
        · rw [decide_eq_false c]; exact Ev.now _
  unfold zz_OutsW.f
  exact hi l.length 0 (by omega)
section
variable {f N K T S E D W : Int} {data pads : List (List Int)}
def Held (l : List (List Int)) : Prop := l.length < 5864062014805 ∧ ∀ x ∈ l, U64 x ∧ x.length < 17592186044416
theorem elements_f (l : List (List Int)) (hl : Held l) : Ev (fun k => share_elements.f k f N K T S E D W l) (mayP f N K T S E D W && allFs f l) := by
  unfold share_elements.f
  rw [planMay_f]
  simp only [Option.bind_some]
  cases mayP f N K T S E D W
  · simp only [Bool.false_eq_true, if_false, Bool.false_and]; exact Ev.now _
  · simp only [if_true, Bool.true_and]
    refine Ev.bind (f := fun k (t : Bool) => some (!t)) (OutsF_f f l (by have := hl.1; omega) (fun x hx => by have := (hl.2 x hx).2; omega)) ?_
    rw [Bool.not_not]; exact Ev.now _
theorem fits_f (l : List (List Int)) (n : Int) (hl : Held l) : Ev (fun k => share_fits.f k f N K T S E D W l n) (decide ((l.length : Int) = n) && allWs W l) := by
  unfold share_fits.f
  by_cases c : (l.length : Int) = n
  · simp only [if_pos c, decide_eq_true c, Bool.true_and]
    refine Ev.bind (f := fun k (t : Bool) => some (!t)) (OutsW_f W l (by have := hl.1; omega)) ?_
    rw [Bool.not_not]; exact Ev.now _
  · simp only [if_neg c, decide_eq_false c, Bool.false_and]; exact Ev.now _
def shareC (f N K T S E D W : Int) (data pads : List (List Int)) : Int :=
  if (mayP f N K T S E D W && (allFs f data && allFs f pads)) = true then (if ((decide ((data.length : Int) = K) && allWs W data) && (decide ((pads.length : Int) = T) && allWs W pads)) = true then 0 else 3) else 2
theorem share_may_f (hd : Held data) (hp : Held pads) : Ev (fun k => share_may.f k f N K T S E D W data pads) (shareC f N K T S E D W data pads) := by
  have bad : Ev (fun k => share_may.j0 k data pads true f N K T S E D W) 2 := Ev.step (f := fun _ => some 2) (fun k => by simp only [share_may.j0, if_true]) (Ev.now _)
  unfold share_may.f shareC
  refine Ev.bind (f := fun k t => _) (elements_f data hd) ?_
  cases c1 : (mayP f N K T S E D W && allFs f data)
  · simp only [Bool.false_eq_true, if_false]
    rw [show (mayP f N K T S E D W && (allFs f data && allFs f pads)) = false by rw [← Bool.and_assoc, c1]; rfl, if_neg (by decide)]
    exact bad
  · simp only [if_true]
    obtain ⟨c2, c3⟩ := Bool.and_eq_true_iff.1 c1
    have he := elements_f (f := f) (N := N) (K := K) (T := T) (S := S) (E := E) (D := D) (W := W) pads hp
    rw [c2] at he
    refine Ev.bind (f := fun k t => _) he ?_
    rw [c2, c3]
    cases c4 : allFs f pads
    · simp only [Bool.and_false, Bool.not_false, Bool.false_eq_true, if_false]; exact bad
    · simp only [Bool.and_self, Bool.not_true, if_true]
      refine Ev.step (f := fun k => (share_fits.f k f N K T S E D W data K).bind fun t140 => (if t140 = true then ((share_fits.f k f N K T S E D W pads T).bind fun t141 => (if t141 = true then (some 0) else (some 3))) else (some 3))) (fun k => by simp only [share_may.j0, Bool.false_eq_true, if_false]) ?_
      refine Ev.bind (f := fun k t => _) (fits_f data K hd) ?_
      cases (decide ((data.length : Int) = K) && allWs W data)
      · simp only [Bool.false_eq_true, if_false, Bool.false_and]; exact Ev.now _
      · simp only [if_true, Bool.true_and]
        refine Ev.bind (f := fun k t => _) (fits_f pads T hp) ?_
        cases (decide ((pads.length : Int) = T) && allWs W pads)
        · simp only [Bool.false_eq_true, if_false]; exact Ev.now _
        · simp only [if_true]; exact Ev.now _
def badC (f W : Int) (l : List (List Int)) (n : Int) : Int := if allFs f l = true then (if (decide ((l.length : Int) = n) && allWs W l) = true then 0 else 3) else 2
theorem bad_f (l : List (List Int)) (n : Int) (hl : Held l) : Ev (fun k => conclaveref14_bad.f k f N K T S E D W l n) (badC f W l n) := by
  have hl0 := hl.1
  have h1 : ∀ (d i : Nat), i + d = l.length → Ev (fun k => conclaveref14_bad.l1 k l (i : Int) f N K T S E D W) (if allWs W (l.drop i) = true then 0 else 3) := by
    intro d
    induction d with
    | zero =>
      intro i hi
      rw [List.drop_eq_nil_of_le (by omega)]
      refine Ev.step (f := fun _ => some 0) (fun k => ?_) (Ev.now _)
      simp only [conclaveref14_bad.l1]; rw [if_neg (by omega)]
    | succ d ih =>
      intro i hi
      have e1 : wrap64 ((i : Int) + 1) = ((i + 1 : Nat) : Int) := by rw [w64 (by omega) (by omega)]; rfl
      rw [rwDrop (by omega), allWs_cons]
      by_cases c : ((rd_L1 l (i : Int)).length : Int) = W
      · refine Ev.step (f := fun k => conclaveref14_bad.l1 k l ((i + 1 : Nat) : Int) f N K T S E D W) (fun k => ?_) ?_
        · simp only [conclaveref14_bad.l1]; rw [if_pos (by omega), if_pos (by omega), if_pos c, e1]
        · rw [decide_eq_true c, Bool.true_and]; exact ih (i + 1) (by omega)
      · refine Ev.step (f := fun _ => some 3) (fun k => ?_) ?_
        · simp only [conclaveref14_bad.l1]; rw [if_pos (by omega), if_pos (by omega), if_neg c]
        · rw [decide_eq_false c]; exact Ev.now _
  have h0 : ∀ (d i : Nat), i + d = l.length → Ev (fun k => conclaveref14_bad.l0 k l n (i : Int) f N K T S E D W) (if allFs f (l.drop i) = true then (if (decide ((l.length : Int) = n) && allWs W l) = true then 0 else 3) else 2) := by
    intro d
    induction d with
    | zero =>
      intro i hi
      rw [List.drop_eq_nil_of_le (by omega)]
      have hz := h1 l.length 0 (by omega)
      rw [List.drop_zero] at hz
      by_cases c : (l.length : Int) = n
      · rw [decide_eq_true c, Bool.true_and]
        refine Ev.step (f := fun k => conclaveref14_bad.l1 k l 0 f N K T S E D W) (fun k => ?_) hz
        simp only [conclaveref14_bad.l0]; rw [if_neg (by omega), if_pos c]
      · rw [decide_eq_false c]
        refine Ev.step (f := fun _ => some 3) (fun k => ?_) (Ev.now _)
        simp only [conclaveref14_bad.l0]; rw [if_neg (by omega), if_neg c]
    | succ d ih =>
      intro i hi
      have e1 : wrap64 ((i : Int) + 1) = ((i + 1 : Nat) : Int) := by rw [w64 (by omega) (by omega)]; rfl
      obtain ⟨hu, hx⟩ := hl.2 (rd_L1 l (i : Int)) (by rw [rwAt (by omega)]; exact List.getElem_mem _)
      rw [rwDrop (by omega), allFs_cons]
      refine Ev.step (f := fun k => (conclaveref01_In.f k f (rd_L1 l (i : Int))).bind fun t => if t = true then conclaveref14_bad.l0 k l n ((i + 1 : Nat) : Int) f N K T S E D W else some 2) (fun k => ?_) (Ev.bind (f := fun k (t : Bool) => if t = true then conclaveref14_bad.l0 k l n ((i + 1 : Nat) : Int) f N K T S E D W else some 2) (rIn_f f _ hu (by omega)) ?_)
      · simp only [conclaveref14_bad.l0]; rw [if_pos (by omega), if_pos (by omega), e1]
      · cases inF f (rd_L1 l (i : Int))
        · exact Ev.now _
        · simp only [if_true, Bool.true_and]; exact ih (i + 1) (by omega)
  unfold conclaveref14_bad.f badC
  exact h0 l.length 0 (by omega)
theorem Bad_f (hff : -9223372036854775808 ≤ f ∧ f ≤ 9223372036854775807) (hd : Held data) (hp : Held pads) : Ev (fun k => conclaveref14_Bad.f k f N K T S E D W data pads) (shareC f N K T S E D W data pads) := by
  unfold conclaveref14_Bad.f shareC
  rw [refMay_f _ _ _ _ _ _ _ _ hff]
  simp only [Option.bind_some]
  cases c1 : mayP f N K T S E D W
  · simp only [Bool.false_eq_true, if_false, Bool.false_and]; exact Ev.now _
  · simp only [if_true, Bool.true_and]
    refine Ev.bind (f := fun k t => _) (bad_f data K hd) ?_
    refine Ev.bind (f := fun k t => _) (bad_f pads T hp) ?_
    unfold badC
    cases allFs f data
    · simp only [Bool.false_eq_true, if_false, Bool.false_and, if_true]; exact Ev.now _
    · cases allFs f pads
      · simp only [Bool.false_eq_true, if_false, if_true, Bool.and_false]
        cases (decide ((data.length : Int) = K) && allWs W data) <;> exact Ev.now _
      · simp only [if_true, Bool.and_self]
        cases (decide ((data.length : Int) = K) && allWs W data) <;> cases (decide ((pads.length : Int) = T) && allWs W pads) <;> exact Ev.now _
theorem shareC_zero (h : shareC f N K T S E D W data pads = 0) : mayP f N K T S E D W = true ∧ ((data.length : Int) = K ∧ ∀ x ∈ data, inF f x = true ∧ (x.length : Int) = W) ∧ ((pads.length : Int) = T ∧ ∀ x ∈ pads, inF f x = true ∧ (x.length : Int) = W) := by
  unfold shareC at h
  by_cases c : (mayP f N K T S E D W && (allFs f data && allFs f pads)) = true
  · rw [if_pos c] at h
    by_cases c2 : ((decide ((data.length : Int) = K) && allWs W data) && (decide ((pads.length : Int) = T) && allWs W pads)) = true
    · simp only [Bool.and_eq_true, decide_eq_true_eq, allFs, allWs, List.all_eq_true] at c c2
      exact ⟨c.1, ⟨c2.1.1, fun x hx => ⟨c.2.1 x hx, c2.1.2 x hx⟩⟩, c2.2.1, fun x hx => ⟨c.2.2 x hx, c2.2.2 x hx⟩⟩
    · rw [if_neg c2] at h; omega
  · rw [if_neg c] at h; omega
theorem All_bad (hd : Held data) (hp : Held pads) (h : shareC f N K T S E D W data pads ≠ 0) : Ev (fun k => share_All.f k f N K T S E D W data pads) ([], shareC f N K T S E D W data pads) := by
  unfold share_All.f
  refine Ev.bind (f := fun k t => _) (share_may_f hd hp) ?_
  simp only [if_neg h]
  exact Ev.now _
theorem Concat2 (l : List (List (List Int))) (h0 : l.length ≤ 1000) (h : l.flatten.length < 5864062014805) : Ev (fun k => slices_Concat_uint64_uint64_29.f k l) l.flatten := by
  have key : ∀ (d i : Nat) (x : List (List Int)), i + d = l.length → x ++ (l.drop i).flatten = l.flatten → Ev (fun k => slices_Concat_uint64_uint64_29.l0 k x l (l.length : Int) (i : Int)) l.flatten := by
    intro d
    induction d with
    | zero =>
      intro i x hi hx
      rw [List.drop_eq_nil_of_le (by omega), List.flatten_nil, List.append_nil] at hx
      subst hx
      refine Ev.step (f := fun _ => some l.flatten) (fun k => ?_) (Ev.now _)
      simp only [slices_Concat_uint64_uint64_29.l0]; rw [if_neg (by omega)]
    | succ d ih =>
      intro i x hi hx
      have e1 : wrap64 ((i : Int) + 1) = ((i + 1 : Nat) : Int) := by rw [w64 (by omega) (by omega)]; rfl
      have hd : l.drop i = rd_L2 l (i : Int) :: l.drop (i + 1) := by
        rw [List.drop_eq_getElem_cons (show i < l.length by omega)]
        simp [rd_L2, show i < l.length by omega]
      rw [hd, List.flatten_cons] at hx
      have hlen := congrArg List.length hx
      simp only [List.length_append] at hlen
      refine Ev.step (f := fun k => slices_Concat_uint64_uint64_29.l0 k (x ++ rd_L2 l (i : Int)) l (l.length : Int) ((i + 1 : Nat) : Int)) (fun k => ?_) (ih (i + 1) _ (by omega) (by rw [List.append_assoc]; exact hx))
      simp only [slices_Concat_uint64_uint64_29.l0]
      rw [if_pos (by omega), if_pos (by omega), if_pos (by omega), if_pos (by omega), e1]
  unfold slices_Concat_uint64_uint64_29.f
  have := key l.length 0 [] (by omega) (by simp)
  first | exact this | (simp only [Option.bind_some]; exact this)
section
variable {p : Nat} [NeZero p]
def both (K : Int) (A B : Nat → Nat → Fin p) : Nat → Nat → Fin p := fun i => if i < K.toNat then A i else B (i - K.toNat)
theorem All_good (hF : Fld f p) (h : mayP f N K T S E D W = true) (A B : Nat → Nat → Fin p) : Ev (fun k => share_All.f k f N K T S E D W (rowsA K.toNat W.toNat A) (rowsA T.toNat W.toNat B)) (rowsA N.toNat W.toNat (mixS (K + T).toNat (rowR (K + T).toNat) (both K A B)), 0) := by
  obtain ⟨hfi, h1, h2, h3, h4, h5, h6, h7, h8, _⟩ := mayP_at h
  have held : ∀ (n : Nat) (C : Nat → Nat → Fin p), n ≤ 64 → Held (rowsA n W.toNat C) := fun n C hn => ⟨by rw [rowsL_len]; omega, fun x hx => by
    obtain ⟨t, _, rfl⟩ := rowsA_mem hx
    exact ⟨u64_arr hF _ _, by rw [arr_len]; omega⟩⟩
  have hc : shareC f N K T S E D W (rowsA K.toNat W.toNat A) (rowsA T.toNat W.toNat B) = 0 := by
    have hall : ∀ (n : Nat) (C : Nat → Nat → Fin p), allFs f (rowsA n W.toNat C) = true ∧ allWs W (rowsA n W.toNat C) = true := fun n C => by
      unfold allFs allWs
      simp only [List.all_eq_true, decide_eq_true_eq]
      refine ⟨fun x hx => ?_, fun x hx => ?_⟩
      · obtain ⟨t, _, rfl⟩ := rowsA_mem hx; exact inF_arr hF _ _
      · obtain ⟨t, _, rfl⟩ := rowsA_mem hx; rw [arr_len]; omega
    unfold shareC
    rw [h, (hall _ A).1, (hall _ B).1, (hall _ A).2, (hall _ B).2, rowsL_len, rowsL_len, decide_eq_true (show ((K.toNat : Nat) : Int) = K by omega), decide_eq_true (show ((T.toNat : Nat) : Int) = T by omega)]
    rfl
  have hm := share_may_f (f := f) (N := N) (K := K) (T := T) (S := S) (E := E) (D := D) (W := W) (held K.toNat A (by omega)) (held T.toNat B (by omega))
  rw [hc] at hm
  unfold share_All.f
  refine Ev.bind (f := fun k t => _) hm ?_
  simp only [if_true]
  refine Ev.bind (f := fun k t => _) (Rows_f hF h) ?_
  simp only [if_true]
  have hcat := Concat2 [rowsA K.toNat W.toNat A, rowsA T.toNat W.toNat B] (by simp) (by simp [rowsL_len]; omega)
  rw [List.flatten_cons, List.flatten_cons, List.flatten_nil, List.append_nil, rowsA_append, show K.toNat + T.toNat = (K + T).toNat by omega] at hcat
  refine Ev.bind (f := fun k t => _) hcat ?_
  exact Ev.bind (f := fun _ t => some (t.1, t.2)) (mixed_f hF N K T S E D W (M := (K + T).toNat) (n := N.toNat) (by omega) (by omega) (by omega) (by omega) _ _) (Ev.now _)
theorem blocks_lift (hF : Fld f p) {l : List (List Int)} {n : Int} (hl : Held l) (hn : (l.length : Int) = n) (h0 : 0 ≤ W) (hx : ∀ x ∈ l, inF f x = true ∧ (x.length : Int) = W) : ∃ A : Nat → Nat → Fin p, l = rowsA n.toNat W.toNat A := by
  obtain ⟨A, h⟩ := rowsA_lift (w := W.toNat) hF (l := l) (fun x h => ⟨(hl.2 x h).1, (hx x h).1, by have := (hx x h).2; omega⟩)
  exact ⟨A, by rw [show n.toNat = l.length by omega]; exact h⟩
end
theorem sRows_self (a : List (List Int)) (hl : a.length ≤ 9223372036854775806) (hr : ∀ l ∈ a, l.length ≤ 9223372036854775807) : Ev (fun k => conclaveref01_Rows.f k a a) true := by
  have hi : ∀ (d i : Nat), i + d = a.length → Ev (fun k => conclaveref01_Rows.l0 k a a (i : Int)) true := by
    intro d
    induction d with
    | zero =>
      intro i hi
      refine Ev.step (f := fun _ => some true) (fun k => ?_) (Ev.now _)
      simp only [conclaveref01_Rows.l0]; rw [if_neg (by omega)]
    | succ d ih =>
      intro i hi
      have e1 : wrap64 ((i : Int) + 1) = ((i + 1 : Nat) : Int) := by rw [w64 (by omega) (by omega)]; rfl
      have s := fSame_f (rd_L1 a (i : Int)) (rd_L1 a (i : Int)) (by rw [rwAt (by omega)]; exact hr _ (List.getElem_mem _))
      rw [decide_eq_true rfl] at s
      refine Ev.step (f := fun k => (conclaveref01_Same.f k (rd_L1 a (i : Int)) (rd_L1 a (i : Int))).bind fun t => if t = true then conclaveref01_Rows.l0 k a a ((i + 1 : Nat) : Int) else some false) (fun k => ?_) (Ev.bind (f := fun k (t : Bool) => if t = true then conclaveref01_Rows.l0 k a a ((i + 1 : Nat) : Int) else some false) s ?_)
      · simp only [conclaveref01_Rows.l0]; rw [if_pos (by omega), if_pos (by omega), if_pos (by omega), e1]
      · simp only [if_true]; exact ih (i + 1) (by omega)
  unfold conclaveref01_Rows.f
  simp only [if_true]
  exact hi a.length 0 (by omega)
end
end Go.Proofs.Ytfkikfapbdlnjaa.Plain
end
section
namespace Go.Proofs.Ytfkikfapbdlnjaa.Plain
open Go.RowKit Go.Proofs Go.Proofs.Ytfkikfapbdlnjaa.P Go.Proofs.Ytfkikfapbdlnjaa.Mth Go.Proofs.YtfkikfapbdlnjaaW.PrintWords Go.Proofs.YtfkikfapbdlnjaaW.PrintLast Go.Proofs.YtfkikfapbdlnjaaW.PrintMore
set_option linter.unusedVariables false
set_option linter.unusedSimpArgs false
instance nz14 : NeZero 2013265921 := ⟨by decide⟩
theorem bas_is {p : Nat} [NeZero p] (hp : Pr p) {n : Nat} {x : Nat → Fin p} {z : Fin p} {i : Nat} (c v : Fin p) (h1 : dif n x i * c = 1) (h0 : dif n x i ≠ 0) (h2 : (c * prodR n fun j => if j = i then 1 else z - x j) = v) : bas n x z i = v := by
  unfold bas wt
  have := cancel hp h0 ((mul_iv hp h0).trans h1.symm)
  rw [this]; exact h2
theorem row14 : ∀ t : Nat, t < 4 → rowR (p := 2013265921) 3 t 0 * 5 + rowR (p := 2013265921) 3 t 1 * 7 + rowR (p := 2013265921) 3 t 2 * 9 = cF 2013265921 (11 + 2 * t) := by
  have hp : Pr 2013265921 := small_pr
  intro t ht
  obtain rfl | rfl | rfl | rfl : t = 0 ∨ t = 1 ∨ t = 2 ∨ t = 3 := by omega
  · have b0 : rowR (p := 2013265921) 3 0 0 = 1 := bas_is hp 1006632961 1 (by decide +kernel) (by decide +kernel) (by decide +kernel)
    have b1 : rowR (p := 2013265921) 3 0 1 = 2013265918 := bas_is hp 2013265920 2013265918 (by decide +kernel) (by decide +kernel) (by decide +kernel)
    have b2 : rowR (p := 2013265921) 3 0 2 = 3 := bas_is hp 1006632961 3 (by decide +kernel) (by decide +kernel) (by decide +kernel)
    rw [b0, b1, b2]; decide +kernel
  · have b0 : rowR (p := 2013265921) 3 1 0 = 3 := bas_is hp 1006632961 3 (by decide +kernel) (by decide +kernel) (by decide +kernel)
    have b1 : rowR (p := 2013265921) 3 1 1 = 2013265913 := bas_is hp 2013265920 2013265913 (by decide +kernel) (by decide +kernel) (by decide +kernel)
    have b2 : rowR (p := 2013265921) 3 1 2 = 6 := bas_is hp 1006632961 6 (by decide +kernel) (by decide +kernel) (by decide +kernel)
    rw [b0, b1, b2]; decide +kernel
  · have b0 : rowR (p := 2013265921) 3 2 0 = 6 := bas_is hp 1006632961 6 (by decide +kernel) (by decide +kernel) (by decide +kernel)
    have b1 : rowR (p := 2013265921) 3 2 1 = 2013265906 := bas_is hp 2013265920 2013265906 (by decide +kernel) (by decide +kernel) (by decide +kernel)
    have b2 : rowR (p := 2013265921) 3 2 2 = 10 := bas_is hp 1006632961 10 (by decide +kernel) (by decide +kernel) (by decide +kernel)
    rw [b0, b1, b2]; decide +kernel
  · have b0 : rowR (p := 2013265921) 3 3 0 = 10 := bas_is hp 1006632961 10 (by decide +kernel) (by decide +kernel) (by decide +kernel)
    have b1 : rowR (p := 2013265921) 3 3 1 = 2013265897 := bas_is hp 2013265920 2013265897 (by decide +kernel) (by decide +kernel) (by decide +kernel)
    have b2 : rowR (p := 2013265921) 3 3 2 = 15 := bas_is hp 1006632961 15 (by decide +kernel) (by decide +kernel) (by decide +kernel)
    rw [b0, b1, b2]; decide +kernel
def A14 : Nat → Nat → Fin 2013265921 := fun i _ => if i = 0 then 5 else 7
def B14 : Nat → Nat → Fin 2013265921 := fun _ _ => 9
theorem a14 : rowsA 2 1 A14 = [[5], [7]] := by decide +kernel
theorem b14 : rowsA 1 1 B14 = [[9]] := by decide +kernel
theorem s14 : rowsA 4 1 (fun t _ => cF 2013265921 (11 + 2 * t)) = [[11], [13], [15], [17]] := by decide +kernel
theorem All14 : Ev (fun k => share_All.f k 1 4 2 1 0 0 1 1 [[5], [7]] [[9]]) ([[11], [13], [15], [17]], 0) := by
  have hF : Fld 1 2013265921 := .inl ⟨rfl, rfl⟩
  have h : mayP 1 4 2 1 0 0 1 1 = true := by decide
  have g := All_good hF h A14 B14
  have e : rowsA (4 : Int).toNat (1 : Int).toNat (mixS (2 + 1 : Int).toNat (rowR (p := 2013265921) (2 + 1 : Int).toNat) (both 2 A14 B14)) = [[11], [13], [15], [17]] := by
    rw [← s14]
    refine rowsL_congr (fun _ _ => rfl) (fun t ht j hj => ?_)
    have := row14 t ht
    rw [← this]
    simp only [mixS, show (2 + 1 : Int).toNat = 3 from rfl, sumR]
    simp only [both, A14, B14, show (2 : Int).toNat = 2 from rfl]
    simp only [show (0 : Nat) < 2 by decide, show (1 : Nat) < 2 by decide, show ¬ (2 : Nat) < 2 by decide, if_true, if_false, show ¬ (1 : Nat) = 0 by decide]
    rw [show A14 0 j = 5 from rfl, show A14 1 j = 7 from rfl, show B14 (2 - 2) j = 9 from rfl]
    generalize rowR (p := 2013265921) 3 t 0 = X
    generalize rowR (p := 2013265921) 3 t 1 = Y
    generalize rowR (p := 2013265921) 3 t 2 = Z
    grind
  rw [e] at g
  have e1 : rowsA (2 : Int).toNat (1 : Int).toNat A14 = [[5], [7]] := a14
  have e2 : rowsA (1 : Int).toNat (1 : Int).toNat B14 = [[9]] := b14
  rw [e1, e2] at g
  exact g
theorem anchored14_f : Ev (fun k => conclavelaw14_anchored.f k) true := by
  unfold conclavelaw14_anchored.f
  refine Ev.bind (f := fun k t => _) All14 ?_
  simp only [if_true]
  exact Ev.bind (f := fun _ t => some t) (sRows_self _ (by simp) (by intro l hl; simp at hl; rcases hl with rfl | rfl | rfl | rfl <;> simp)) (Ev.now _)
end Go.Proofs.Ytfkikfapbdlnjaa.Plain
end
section
namespace Go.Proofs.Ytfkikfapbdlnjaa.Plain
open Go.RowKit Go.Proofs Go.Proofs.Ytfkikfapbdlnjaa.P Go.Proofs.Ytfkikfapbdlnjaa.Mth Go.Proofs.YtfkikfapbdlnjaaW.PrintWords Go.Proofs.YtfkikfapbdlnjaaW.PrintLast Go.Proofs.YtfkikfapbdlnjaaW.PrintMore
set_option linter.unusedVariables false
set_option linter.unusedSimpArgs false
set_option linter.unusedSectionVars false
theorem sCopy_f (l : List Int) (hl : l.length < 17592186044416) : conclaveref01_Copy.f l = some l := by
  unfold conclaveref01_Copy.f
  rw [Option.bind_some, if_pos (by simpa using hl), List.nil_append]
theorem sCopyRows_f (y : List (List Int)) (h0 : y.length < 5864062014805) (h : ∀ x ∈ y, x.length < 17592186044416) : Ev (fun k => conclaveref01_CopyRows.f k y) y := by
  have key : ∀ (d i : Nat), i + d = y.length → Ev (fun k => conclaveref01_CopyRows.l0 k y (y.take i) (i : Int)) y := by
    intro d
    induction d with
    | zero =>
      intro i hi
      rw [List.take_of_length_le (by omega)]
      refine Ev.step (f := fun _ => some y) (fun k => ?_) (Ev.now _)
      simp only [conclaveref01_CopyRows.l0]; rw [if_neg (by omega)]
    | succ d ih =>
      intro i hi
      have e1 : wrap64 ((i : Int) + 1) = ((i + 1 : Nat) : Int) := by rw [w64 (by omega) (by omega)]; rfl
      have hc := sCopy_f (rd_L1 y (i : Int)) (by rw [rwAt (by omega)]; exact h _ (List.getElem_mem _))
      refine Ev.step (f := fun k => conclaveref01_CopyRows.l0 k y (y.take (i + 1)) ((i + 1 : Nat) : Int)) (fun k => ?_) (ih (i + 1) (by omega))
      simp only [conclaveref01_CopyRows.l0]
      rw [if_pos (by omega), if_pos (by omega), hc, Option.bind_some, if_pos (by rw [List.length_take]; omega), e1, List.take_succ_eq_append_getElem (by omega : i < y.length), ← rwAt (by omega : i < y.length)]
  unfold conclaveref01_CopyRows.f
  have e := key y.length 0 (by omega)
  rw [List.take_zero, show ((0 : Nat) : Int) = 0 from rfl] at e
  exact e
end Go.Proofs.Ytfkikfapbdlnjaa.Plain
namespace Go.Proofs.Ytfkikfapbdlnjaa.Pure
open Go.RowKit Go.Proofs Go.Proofs.Ytfkikfapbdlnjaa.P Go.Proofs.Ytfkikfapbdlnjaa.Plain Go.Proofs.Ytfkikfapbdlnjaa.Mth Go.Proofs.YtfkikfapbdlnjaaW.PrintWords Go.Proofs.YtfkikfapbdlnjaaW.PrintLast Go.Proofs.YtfkikfapbdlnjaaW.PrintMore
set_option linter.unusedVariables false
set_option linter.unusedSimpArgs false
theorem held_of {l : List (List Int)} (h : l.length ≤ maxLen ∧ l.length * 24 ≤ 140737488351232 ∧ ∀ y ∈ l, y.length ≤ maxLen ∧ y.length * 8 ≤ 140737488351232 ∧ ∀ z ∈ y, (Lit.int .u64 z).wf = true) : Held l :=
  ⟨by have := h.2.1; omega, fun x hx => ⟨u64_of_wf (h.2.2 x hx).2.2, by have := (h.2.2 x hx).2.1; omega⟩⟩
end Go.Proofs.Ytfkikfapbdlnjaa.Pure
end
section
namespace Go.Proofs.Ytfkikfapbdlnjaa.Plain
open Go.RowKit Go.Proofs Go.Proofs.Ytfkikfapbdlnjaa.P Go.Proofs.Ytfkikfapbdlnjaa.Mth Go.Proofs.YtfkikfapbdlnjaaW.PrintWords Go.Proofs.YtfkikfapbdlnjaaW.PrintLast Go.Proofs.YtfkikfapbdlnjaaW.PrintMore
set_option linter.unusedVariables false
set_option linter.unusedSimpArgs false
set_option linter.unusedSectionVars false
variable {f : Int} {p : Nat} [NeZero p]
theorem rWeights1 (hF : Fld f p) (n : Nat) (hn : n ≤ 512) (x : Nat → Fin p) (w : List Int) (hw : w.length ≤ 512) (i : Nat) (hi : i < n) (r : List Int × Int)
    (hr : Ev (fun k => conclaveref07_Weights.l0 k (arr n x) (p : Int) (w ++ [tI (wt n x i)]) ((i + 1 : Nat) : Int)) r) :
    ∀ (d j : Nat), j + d = n → Ev (fun k => conclaveref07_Weights.l1 k (arr n x) (p : Int) w (i : Int) (tI (prodR j fun j => if j = i then 1 else x i - x j)) (j : Int)) r := by
  intro d
  induction d with
  | zero =>
    intro j hj
    obtain rfl : j = n := by omega
    refine Ev.step (f := fun k => (conclaveref01_Turned.f k (p : Int) (tI (dif j x i))).bind fun t => conclaveref07_Weights.l0 k (arr j x) (p : Int) (w ++ [t]) ((i + 1 : Nat) : Int)) (fun k => ?_) (Ev.bind (f := fun k t => conclaveref07_Weights.l0 k (arr j x) (p : Int) (w ++ [t]) ((i + 1 : Nat) : Int)) (rTurned_m hF _) hr)
    simp only [conclaveref07_Weights.l1]
    rw [arr_len, if_neg (by omega)]
    simp only [if_pos (show w.length < 17592186044416 by omega)]
    rw [w64 (by omega) (by omega)]
    rfl
  | succ d ih =>
    intro j hj
    have h := ih (j + 1) (by omega)
    by_cases c : j = i
    · subst c
      rw [show (prodR (j + 1) fun t => if t = j then (1 : Fin p) else x j - x t) = prodR j fun t => if t = j then 1 else x j - x t by simp only [prodR, if_true]; grind] at h
      refine Ev.step (f := fun k => conclaveref07_Weights.l1 k (arr n x) (p : Int) w (j : Int) (tI (prodR j fun t => if t = j then 1 else x j - x t)) ((j + 1 : Nat) : Int)) (fun k => ?_) h
      simp only [conclaveref07_Weights.l1]
      rw [arr_len, if_pos (by omega), if_pos trivial, w64 (by omega) (by omega)]
      rfl
    · rw [show (prodR (j + 1) fun t => if t = i then (1 : Fin p) else x i - x t) = (prodR j fun t => if t = i then 1 else x i - x t) * (x i - x j) by simp only [prodR, if_neg c]] at h
      refine Ev.step (f := fun k => (conclaveref01_Times.f k (p : Int) (tI (prodR j fun t => if t = i then 1 else x i - x t)) (tI (x i - x j))).bind fun t => conclaveref07_Weights.l1 k (arr n x) (p : Int) w (i : Int) t ((j + 1 : Nat) : Int)) (fun k => ?_) (Ev.bind (f := fun k t => conclaveref07_Weights.l1 k (arr n x) (p : Int) w (i : Int) t ((j + 1 : Nat) : Int)) (rTimes_m hF _ _) h)
      simp only [conclaveref07_Weights.l1]
      rw [arr_len, if_pos (by omega), if_neg (by omega), if_pos (by omega), if_pos (by omega), if_pos (by omega), rd_arr (by omega), rd_arr (by omega), rLess_m hF, Option.bind_some, w64 (by omega) (by omega)]
      rfl
theorem rWeights0 (hF : Fld f p) (n : Nat) (hn : n ≤ 512) (x : Nat → Fin p) : ∀ (d i : Nat), i + d = n → Ev (fun k => conclaveref07_Weights.l0 k (arr n x) (p : Int) (arr i (wt n x)) (i : Int)) (arr n (wt n x), 0) := by
  intro d
  induction d with
  | zero =>
    intro i hi
    obtain rfl : i = n := by omega
    refine Ev.step (f := fun _ => some (arr i (wt i x), 0)) (fun k => ?_) (Ev.now _)
    simp only [conclaveref07_Weights.l0]
    rw [arr_len, if_neg (by omega)]
  | succ d ih =>
    intro i hi
    have h := ih (i + 1) (by omega)
    rw [← arr_snoc] at h
    have h1 := rWeights1 hF n hn x (arr i (wt n x)) (by rw [arr_len]; omega) i (by omega) _ h n 0 (by omega)
    rw [show tI (prodR 0 fun j => if j = i then (1 : Fin p) else x i - x j) = 1 from tI_one hF] at h1
    refine Ev.step (f := fun k => conclaveref07_Weights.l1 k (arr n x) (p : Int) (arr i (wt n x)) (i : Int) 1 0) (fun k => ?_) h1
    simp only [conclaveref07_Weights.l0]
    rw [arr_len, if_pos (by omega)]
theorem rWeightsG (hF : Fld f p) (n : Nat) (hn : n ≤ 512) (x : Nat → Fin p) (hu : Dist (arr n x)) : Ev (fun k => conclaveref07_Weights.f k f (arr n x)) (arr n (wt n x), 0) := by
  unfold conclaveref07_Weights.f
  simp only [arr_len]
  refine Ev.bind (f := fun k t => _) (rBadG hF (m := 0) x x hn (by omega) hu) ?_
  simp only [if_true, Pp_f hF, Option.bind_some]
  exact rWeights0 hF n hn x n 0 (by omega)
theorem rBasis1 (hF : Fld f p) (n : Nat) (hn : n ≤ 512) (x wts : Nat → Fin p) (z : Fin p) (w : List Int) (hw : w.length ≤ 512) (i : Nat) (hi : i < n) (r : List Int × Int)
    (hr : Ev (fun k => conclaveref07_Basis.l0 k (arr n x) (tI z) (p : Int) (arr n wts) (w ++ [tI (wts i * prodR n fun j => if j = i then 1 else z - x j)]) ((i + 1 : Nat) : Int)) r) :
    ∀ (d j : Nat), j + d = n → Ev (fun k => conclaveref07_Basis.l1 k (arr n x) (tI z) (p : Int) (arr n wts) w (i : Int) (tI (wts i * prodR j fun j => if j = i then 1 else z - x j)) (j : Int)) r := by
  intro d
  induction d with
  | zero =>
    intro j hj
    obtain rfl : j = n := by omega
    refine Ev.step (f := fun k => conclaveref07_Basis.l0 k (arr j x) (tI z) (p : Int) (arr j wts) (w ++ [tI (wts i * prodR j fun j => if j = i then 1 else z - x j)]) ((i + 1 : Nat) : Int)) (fun k => ?_) hr
    simp only [conclaveref07_Basis.l1]
    rw [arr_len, if_neg (by omega), if_pos (by omega), w64 (by omega) (by omega)]
    rfl
  | succ d ih =>
    intro j hj
    have h := ih (j + 1) (by omega)
    by_cases c : j = i
    · subst c
      rw [show (prodR (j + 1) fun t => if t = j then (1 : Fin p) else z - x t) = prodR j fun t => if t = j then 1 else z - x t by simp only [prodR, if_true]; grind] at h
      refine Ev.step (f := fun k => conclaveref07_Basis.l1 k (arr n x) (tI z) (p : Int) (arr n wts) w (j : Int) (tI (wts j * prodR j fun t => if t = j then 1 else z - x t)) ((j + 1 : Nat) : Int)) (fun k => ?_) h
      simp only [conclaveref07_Basis.l1]
      rw [arr_len, if_pos (by omega), if_pos trivial, w64 (by omega) (by omega)]
      rfl
    · rw [show wts i * (prodR (j + 1) fun t => if t = i then (1 : Fin p) else z - x t) = (wts i * prodR j fun t => if t = i then 1 else z - x t) * (z - x j) by simp only [prodR, if_neg c]; grind] at h
      refine Ev.step (f := fun k => (conclaveref01_Times.f k (p : Int) (tI (wts i * prodR j fun t => if t = i then 1 else z - x t)) (tI (z - x j))).bind fun t => conclaveref07_Basis.l1 k (arr n x) (tI z) (p : Int) (arr n wts) w (i : Int) t ((j + 1 : Nat) : Int)) (fun k => ?_) (Ev.bind (f := fun k t => conclaveref07_Basis.l1 k (arr n x) (tI z) (p : Int) (arr n wts) w (i : Int) t ((j + 1 : Nat) : Int)) (rTimes_m hF _ _) h)
      simp only [conclaveref07_Basis.l1]
      rw [arr_len, if_pos (by omega), if_neg (by omega), if_pos (by omega), rd_arr (by omega), rLess_m hF, Option.bind_some, w64 (by omega) (by omega)]
      rfl
theorem rBasis0 (hF : Fld f p) (n : Nat) (hn : n ≤ 512) (x : Nat → Fin p) (z : Fin p) : ∀ (d i : Nat), i + d = n → Ev (fun k => conclaveref07_Basis.l0 k (arr n x) (tI z) (p : Int) (arr n (wt n x)) (arr i (bas n x z)) (i : Int)) (arr n (bas n x z), 0) := by
  intro d
  induction d with
  | zero =>
    intro i hi
    obtain rfl : i = n := by omega
    refine Ev.step (f := fun _ => some (arr i (bas i x z), 0)) (fun k => ?_) (Ev.now _)
    simp only [conclaveref07_Basis.l0]
    rw [arr_len, if_neg (by omega)]
  | succ d ih =>
    intro i hi
    have h := ih (i + 1) (by omega)
    rw [← arr_snoc] at h
    have h1 := rBasis1 hF n hn x (wt n x) z (arr i (bas n x z)) (by rw [arr_len]; omega) i (by omega) _ h n 0 (by omega)
    rw [show (wt n x i * prodR 0 fun j => if j = i then (1 : Fin p) else z - x j) = wt n x i by simp only [prodR]; grind] at h1
    refine Ev.step (f := fun k => conclaveref07_Basis.l1 k (arr n x) (tI z) (p : Int) (arr n (wt n x)) (arr i (bas n x z)) (i : Int) (tI (wt n x i)) 0) (fun k => ?_) h1
    simp only [conclaveref07_Basis.l0]
    rw [arr_len, if_pos (by omega), if_pos (by omega), arr_len, if_pos (by omega), rd_arr (by omega)]
theorem rBasisG (hF : Fld f p) (n : Nat) (hn : n ≤ 512) (x : Nat → Fin p) (z : Fin p) (hu : Dist (arr n x)) : Ev (fun k => conclaveref07_Basis.f k f (arr n x) (tI z)) (arr n (bas n x z), 0) := by
  unfold conclaveref07_Basis.f
  simp only [arr_len]
  rw [arr_one z]
  refine Ev.bind (f := fun k t => _) (rBadG hF x (fun _ => z) hn (by omega) hu) ?_
  simp only [if_true, Pp_f hF, Option.bind_some]
  refine Ev.bind (f := fun k t => _) (rWeightsG hF n hn x hu) ?_
  exact rBasis0 hF n hn x z n 0 (by omega)
end Go.Proofs.Ytfkikfapbdlnjaa.Plain
end
section
namespace Go.Proofs.Ytfkikfapbdlnjaa.Plain
open Go.RowKit Go.Proofs Go.Proofs.Ytfkikfapbdlnjaa.P Go.Proofs.Ytfkikfapbdlnjaa.Mth Go.Proofs.YtfkikfapbdlnjaaW.PrintWords Go.Proofs.YtfkikfapbdlnjaaW.PrintLast Go.Proofs.YtfkikfapbdlnjaaW.PrintMore
set_option linter.unusedVariables false
set_option linter.unusedSimpArgs false
theorem rChange0 {f : Int} {p : Nat} [NeZero p] (hF : Fld f p) (n m : Nat) (hn : n ≤ 512) (hm : m ≤ 512) (x z : Nat → Fin p) (hu : Dist (arr n x)) : ∀ (d i : Nat), i + d = m → Ev (fun k => conclaveref07_Change.l0 k f (arr n x) (arr m z) ((List.range i).map fun t => arr n (bas n x (z t))) (i : Int)) ((List.range m).map fun t => arr n (bas n x (z t)), 0) := by
  intro d
  induction d with
  | zero =>
    intro i hi
    obtain rfl : i = m := by omega
    refine Ev.step (f := fun _ => some ((List.range i).map fun t => arr n (bas n x (z t)), 0)) (fun k => ?_) (Ev.now _)
    simp only [conclaveref07_Change.l0]
    rw [arr_len, if_neg (by omega)]
  | succ d ih =>
    intro i hi
    refine Ev.step (f := fun k => (conclaveref07_Basis.f k f (arr n x) (tI (z i))).bind fun (t : List Int × Int) => conclaveref07_Change.l0 k f (arr n x) (arr m z) (((List.range i).map fun t => arr n (bas n x (z t))) ++ [t.1]) ((i + 1 : Nat) : Int)) (fun k => ?_) ?_
    · simp only [conclaveref07_Change.l0]
      rw [arr_len, if_pos (by omega), if_pos (by omega), rd_arr (by omega), w64 (by omega) (by omega)]
      simp only [List.length_map, List.length_range, if_pos (show i < 5864062014805 by omega)]
      rfl
    · refine Ev.bind (f := fun k (t : List Int × Int) => conclaveref07_Change.l0 k f (arr n x) (arr m z) (((List.range i).map fun t => arr n (bas n x (z t))) ++ [t.1]) ((i + 1 : Nat) : Int)) (rBasisG hF n hn x (z i) hu) ?_
      have := ih (i + 1) (by omega)
      rw [List.range_succ, List.map_append] at this
      exact this
theorem rChangeG {f : Int} {p : Nat} [NeZero p] (hF : Fld f p) (n m : Nat) (hn : n ≤ 512) (hm : m ≤ 512) (x z : Nat → Fin p) (hu : Dist (arr n x)) : Ev (fun k => conclaveref07_Change.f k f (arr n x) (arr m z)) ((List.range m).map fun t => arr n (bas n x (z t)), 0) := by
  unfold conclaveref07_Change.f
  simp only [arr_len]
  refine Ev.bind (f := fun k t => _) (rBadG hF x z hn (by omega) hu) ?_
  simp only [if_neg (show ¬ (0 : Int) = 2 by omega), if_neg (show ¬ (0 : Int) = 3 by omega), show decide ((m : Int) > 512) = false by simp; omega]
  refine Ev.step (f := fun k => conclaveref07_Change.j1 k f (arr n x) (arr m z) 0) (fun k => by simp only [conclaveref07_Change.j0, Bool.false_eq_true, if_false]) ?_
  refine Ev.step (f := fun k => conclaveref07_Change.l0 k f (arr n x) (arr m z) ([] : List (List Int)) 0) (fun k => by simp only [conclaveref07_Change.j1, if_true]) ?_
  exact rChange0 hF n m hn hm x z hu m 0 (by omega)
end Go.Proofs.Ytfkikfapbdlnjaa.Plain
end
section
namespace Go.Proofs.Ytfkikfapbdlnjaa.Plain
open Go.RowKit Go.Proofs Go.Proofs.Ytfkikfapbdlnjaa.P Go.Proofs.Ytfkikfapbdlnjaa.Mth Go.Proofs.YtfkikfapbdlnjaaW.PrintWords Go.Proofs.YtfkikfapbdlnjaaW.PrintLast Go.Proofs.YtfkikfapbdlnjaaW.PrintMore
set_option linter.unusedVariables false
set_option linter.unusedSimpArgs false
set_option linter.unusedSectionVars false
section
variable {f N K T S E D W : Int} {p : Nat} [NeZero p]
theorem rRows13 (hF : Fld f p) (h : mayP f N K T S E D W = true) : Ev (fun k => conclaveref13_Rows.f k f N K T S E D W) (rowsA N.toNat (K + T).toNat (rowR (p := p) (K + T).toNat), 0) := by
  obtain ⟨hfi, h1, h2, h3, h4, h5, h6, h7, h8, _⟩ := mayP_at h
  have hff : -9223372036854775808 ≤ f ∧ f ≤ 9223372036854775807 := by
    unfold isF at hfi
    simp only [Bool.or_eq_true, decide_eq_true_eq] at hfi
    omega
  have ex := iota_arr hF 0 (K + T).toNat (by omega)
  simp only [Nat.zero_add] at ex
  have ez := iota_arr hF (K + T).toNat N.toNat (by omega)
  rw [show (((K + T).toNat : Nat) : Int) = K + T by omega] at ez
  have hc := rChangeG hF (K + T).toNat N.toNat (by omega) (by omega) (ptF p) (fun j => ptF p ((K + T).toNat + j)) (dist_iota _ hF (by omega))
  rw [← ez, ← ex] at hc
  unfold conclaveref13_Rows.f
  simp only [refMay_f _ _ _ _ _ _ _ _ hff, h, Option.bind_some, if_true]
  refine Ev.bind (f := fun k t => _) (Inner_f h) ?_
  refine Ev.bind (f := fun k t => _) (Outer_f h) ?_
  exact Ev.bind (f := fun _ t => some (t.1, t.2)) hc (Ev.now _)
def pS (R B : Nat → Nat → Fin p) (t k a : Nat) : Fin p := sumR k fun i => R t i * B i a
theorem sr_l2 (hF : Fld f p) {n M w : Nat} (hn : n ≤ 64) (hM : M ≤ 64) (hw : w ≤ 64) (R B : Nat → Nat → Fin p) (X : List (List Int)) {t k : Nat} (ht : t < n) (hk : k < M) (r : Bool)
    (hr : Ev (fun q => conclavelaw14_ShareRows.l1 q X (rowsA n M R) (rowsA M w B) (p : Int) (t : Int) (arr w (pS R B t (k + 1))) ((k + 1 : Nat) : Int) f N K T S E D (w : Int)) r) :
    ∀ (d j : Nat), j + d = w → ∀ g : Nat → Fin p, (∀ a, a < j → g a = pS R B t (k + 1) a) → (∀ a, j ≤ a → a < w → g a = pS R B t k a) →
      Ev (fun q => conclavelaw14_ShareRows.l2 q X (rowsA n M R) (rowsA M w B) (p : Int) (t : Int) (arr w g) (k : Int) (j : Int) f N K T S E D (w : Int)) r := by
  have hx := rowsL_at (t := t) ht (fun _ => M) R
  have hy := rowsL_at (t := k) hk (fun _ => w) B
  intro d
  induction d with
  | zero =>
    intro j hj g h1 h2
    obtain rfl : j = w := by omega
    rw [← arr_congr (g := g) (fun a ha => h1 a ha)] at hr
    refine Ev.step (f := fun q => conclavelaw14_ShareRows.l1 q X (rowsA n M R) (rowsA M j B) (p : Int) (t : Int) (arr j g) ((k + 1 : Nat) : Int) f N K T S E D (j : Int)) (fun q => ?_) hr
    simp only [conclavelaw14_ShareRows.l2]
    rw [if_neg (by omega), w64 (by omega) (by omega)]
    rfl
  | succ d ih =>
    intro j hj g h1 h2
    refine Ev.step (f := fun q => (conclaveref01_Times.f q (p : Int) (tI (R t k)) (tI (B k j))).bind fun z => (conclaveref01_Sum.f (p : Int) (tI (g j)) z).bind fun z => conclavelaw14_ShareRows.l2 q X (rowsA n M R) (rowsA M w B) (p : Int) (t : Int) ((arr w g).set j z) (k : Int) ((j + 1 : Nat) : Int) f N K T S E D (w : Int)) (fun q => ?_) ?_
    · simp only [conclavelaw14_ShareRows.l2]
      simp only [arr_len, rowsL_len, hx, hy, rd_arr hk, rd_arr (show j < w by omega), Int.toNat_natCast, if_pos (show (j : Int) < (w : Int) by omega), if_pos (show (0 : Int) ≤ (j : Int) by omega), if_pos (show (0 : Int) ≤ (t : Int) by omega), if_pos (show (t : Int) < (n : Int) by omega), if_pos (show (0 : Int) ≤ (k : Int) by omega), if_pos (show (k : Int) < (M : Int) by omega), w64 (x := (j : Int) + 1) (by omega) (by omega)]
      rfl
    · refine Ev.bind (f := fun q z => (conclaveref01_Sum.f (p : Int) (tI (g j)) z).bind fun z => conclavelaw14_ShareRows.l2 q X (rowsA n M R) (rowsA M w B) (p : Int) (t : Int) ((arr w g).set j z) (k : Int) ((j + 1 : Nat) : Int) f N K T S E D (w : Int)) (rTimes_m hF _ _) ?_
      simp only [rSum_m hF, Option.bind_some, set_arr (show j < w by omega)]
      refine ih (j + 1) (by omega) _ (fun a ha => ?_) fun a h3 h4 => ?_
      · by_cases c : a = j
        · subst c
          rw [upd_self, h2 a (by omega) (by omega)]; rfl
        · rw [upd_ne _ _ c, h1 a (by omega)]
      · rw [upd_ne _ _ (by omega), h2 a (by omega) h4]
theorem sr_l1 (hF : Fld f p) {n M w : Nat} (hn : n ≤ 64) (hM : M ≤ 64) (hw : w ≤ 64) (R B : Nat → Nat → Fin p) {t : Nat} (ht : t < n)
    (hr : Ev (fun q => conclavelaw14_ShareRows.l0 q (rowsA n w (mixS M R B)) (rowsA n M R) (rowsA M w B) (p : Int) ((t + 1 : Nat) : Int) f N K T S E D (w : Int)) true) :
    ∀ (d k : Nat), k + d = M → Ev (fun q => conclavelaw14_ShareRows.l1 q (rowsA n w (mixS M R B)) (rowsA n M R) (rowsA M w B) (p : Int) (t : Int) (arr w (pS R B t k)) (k : Int) f N K T S E D (w : Int)) true := by
  have hx := rowsL_at (t := t) ht (fun _ => w) (mixS M R B)
  intro d
  induction d with
  | zero =>
    intro k hk
    obtain rfl : k = M := by omega
    refine Ev.step (f := fun q => (conclaveref01_Same.f q (arr w (mixS k R B t)) (arr w (mixS k R B t))).bind fun (z : Bool) => if z = true then conclavelaw14_ShareRows.l0 q (rowsA n w (mixS k R B)) (rowsA n k R) (rowsA k w B) (p : Int) ((t + 1 : Nat) : Int) f N K T S E D (w : Int) else some false) (fun q => ?_) ?_
    · simp only [conclavelaw14_ShareRows.l1]
      simp only [rowsL_len, hx, if_neg (show ¬ (k : Int) < (k : Int) by omega), if_pos (show (0 : Int) ≤ (t : Int) by omega), if_pos (show (t : Int) < (n : Int) by omega), w64 (x := (t : Int) + 1) (by omega) (by omega)]
      rfl
    · refine Ev.bind (f := fun q (z : Bool) => if z = true then conclavelaw14_ShareRows.l0 q (rowsA n w (mixS k R B)) (rowsA n k R) (rowsA k w B) (p : Int) ((t + 1 : Nat) : Int) f N K T S E D (w : Int) else some false) (fSame_f _ _ (by rw [arr_len]; omega)) ?_
      simp only [decide_true, if_true]
      exact hr
  | succ d ih =>
    intro k hk
    have h := sr_l2 hF hn hM hw R B (rowsA n w (mixS M R B)) ht (k := k) (by omega) true (ih (k + 1) (by omega)) w 0 (by omega) (pS R B t k) (fun a ha => absurd ha (by omega)) fun a _ _ => rfl
    refine Ev.step (f := fun q => conclavelaw14_ShareRows.l2 q (rowsA n w (mixS M R B)) (rowsA n M R) (rowsA M w B) (p : Int) (t : Int) (arr w (pS R B t k)) (k : Int) ((0 : Nat) : Int) f N K T S E D (w : Int)) (fun q => ?_) h
    simp only [conclavelaw14_ShareRows.l1]
    rw [rowsL_len, if_pos (by omega)]
    rfl
theorem sr_l0 (hF : Fld f p) {n M w : Nat} (hn : n ≤ 64) (hM : M ≤ 64) (hw : w ≤ 64) (R B : Nat → Nat → Fin p) :
    ∀ (d t : Nat), t + d = n → Ev (fun q => conclavelaw14_ShareRows.l0 q (rowsA n w (mixS M R B)) (rowsA n M R) (rowsA M w B) (p : Int) (t : Int) f (n : Int) K T S E D (w : Int)) true := by
  intro d
  induction d with
  | zero =>
    intro t ht
    obtain rfl : t = n := by omega
    refine Ev.step (f := fun q => (conclavelaw14_anchored.f q).bind fun z => some z) (fun q => ?_) (Ev.bind (f := fun q z => some z) anchored14_f (Ev.now _))
    simp only [conclavelaw14_ShareRows.l0]
    rw [if_neg (by omega)]
  | succ d ih =>
    intro t ht
    have h := sr_l1 hF hn hM hw R B (t := t) (by omega) (ih (t + 1) (by omega)) M 0 (by omega)
    rw [show arr w (pS R B t 0) = List.replicate w (0 : Int) from (rep_arr (p := p) w).symm] at h
    refine Ev.step (f := fun q => conclavelaw14_ShareRows.l1 q (rowsA n w (mixS M R B)) (rowsA n M R) (rowsA M w B) (p : Int) (t : Int) (List.replicate w (0 : Int)) ((0 : Nat) : Int) f (n : Int) K T S E D (w : Int)) (fun q => ?_) h
    simp only [conclavelaw14_ShareRows.l0]
    simp only [Int.toNat_natCast, if_pos (show (t : Int) < (n : Int) by omega), if_pos (show (0 : Int) ≤ (w : Int) by omega), if_pos (show w ≤ 35184372088832 by omega)]
    rfl
end
end Go.Proofs.Ytfkikfapbdlnjaa.Plain
namespace Go.Proofs.Ytfkikfapbdlnjaa.Pure
open Go.RowKit Go.Proofs Go.Proofs.Ytfkikfapbdlnjaa.P Go.Proofs.Ytfkikfapbdlnjaa.Plain Go.Proofs.Ytfkikfapbdlnjaa.Mth Go.Proofs.YtfkikfapbdlnjaaW.PrintWords Go.Proofs.YtfkikfapbdlnjaaW.PrintLast Go.Proofs.YtfkikfapbdlnjaaW.PrintMore
set_option linter.unusedVariables false
set_option linter.unusedSimpArgs false
theorem V_of_C {s e base c : Nat} {it : IntKind} {A : Option Addr} {W : World} {xs : List (List Int)} (h : Kd.C (Kd.slice s (Kd.int it)) W A xs.length xs) (hc : xs.length ≤ c) : Kd.V (Kd.slice s (Kd.int it)) e W base (fun _ => True) (.slice A xs.length c) xs := by
  refine Kd.V_mk hc (fun W' hW => ?_)
  have hs : W.heap.size ≤ W'.heap.size := by
    by_cases c0 : W.heap.size = 0
    · omega
    · have := heap_lt (hW (W.heap.size - 1) trivial (by omega)) (by omega)
      omega
  have hb : Below W.heap.size W { W with heap := W'.heap } := ⟨rfl, rfl, rfl, hs, fun k hk => hW k trivial hk⟩
  have h2 := Kd.C_below h hb
  cases W'
  cases W
  exact h2
theorem ShareRows : Form.ShareRows.Pure := by
  intro f N K T S E D W a b hf hN hK hT hS hE hD hW ha hb
  have hff : -9223372036854775808 ≤ f ∧ f ≤ 9223372036854775807 := by have := wf_u8 hf; omega
  have ga := held_of ha
  have gb := held_of hb
  refine Ev.rounds ?_
  unfold conclavelaw14_ShareRows.f
  by_cases c : shareC f N K T S E D W a b = 0
  · have hbad := Bad_f hff ga gb (f := f) (N := N) (K := K) (T := T) (S := S) (E := E) (D := D) (W := W)
    rw [c] at hbad
    obtain ⟨hm, ⟨a1, a2⟩, b1, b2⟩ := shareC_zero c
    obtain ⟨hfi, h1, h2, h3, h4, h5, h6, h7, h8, _⟩ := mayP_at hm
    obtain ⟨p, hz, hF⟩ := fld_of hfi
    obtain ⟨A, rfl⟩ := blocks_lift hF ga a1 (by omega) a2
    obtain ⟨B, rfl⟩ := blocks_lift hF gb b1 (by omega) b2
    refine Ev.bind (f := fun k t => _) (All_good hF hm A B) ?_
    refine Ev.bind (f := fun k t => _) hbad ?_
    simp only [if_true]
    refine Ev.bind (f := fun k t => _) (rRows13 hF hm) ?_
    refine Ev.bind (f := fun k t => _) (sCopyRows_f (rowsA K.toNat W.toNat A) (by rw [rowsL_len]; omega) (fun x hx => by obtain ⟨t, _, rfl⟩ := rowsA_mem hx; rw [arr_len]; omega)) ?_
    simp only [rowsL_len, if_pos (show K.toNat + T.toNat < 5864062014805 by omega), Option.bind_some, rowsA_append]
    rw [show (((N.toNat : Nat) : Int) != N) = false from by rw [show ((N.toNat : Nat) : Int) = N by omega]; simp]
    refine Ev.step (f := fun k => _) (fun k => rfl) ?_
    simp only [conclavelaw14_ShareRows.j0, Bool.false_eq_true, if_false, Pp_f hF, Option.bind_some]
    have h := sr_l0 hF (K := K) (T := T) (S := S) (E := E) (D := D) (n := N.toNat) (M := (K + T).toNat) (w := W.toNat) (by omega) (by omega) (by omega) (rowR (p := p) (K + T).toNat) (both K A B) N.toNat 0 (by omega)
    rw [show ((N.toNat : Nat) : Int) = N by omega, show ((W.toNat : Nat) : Int) = W by omega] at h
    rw [show K.toNat + T.toNat = (K + T).toNat by omega]
    exact h
  · refine Ev.bind (f := fun k t => _) (All_bad ga gb c) ?_
    refine Ev.bind (f := fun k t => _) (Bad_f hff ga gb) ?_
    simp only [if_neg c]
    refine Ev.bind (f := fun k t => _) anchored14_f ?_
    simp only [if_true]
    rw [show (shareC f N K T S E D W a b != 0) = true by simpa using c]
    exact Ev.now _
end Go.Proofs.Ytfkikfapbdlnjaa.Pure
end
section
namespace Go.Proofs.Ytfkikfapbdlnjaa.shareRows
open Go.ChangeShapes Go.WideShapes Go.ChangeAt Go.RowKit Go.Proofs.YtfkikfapbdlnjaaW.PrintWords Go.Proofs.Ytfkikfapbdlnjaa.P Go.Proofs.Ytfkikfapbdlnjaa.Form.ShareRows
set_option linter.unusedVariables false
theorem own : ownKnob Try.prog.godebug = none := by kernel_rfl
theorem laidOut : laidOutB Try.prog = true := by kernel_rfl
set_option maxRecDepth 100000 in
theorem lifted (os : Os) (started : os.Started) (H : Type) (enc : TypeId × Value → H) :
    ReturnsInHanded {} Try.checked os 3 .any (Rows.shareRowsSpec.pre6 enc Try.prog Try.f3 Rows.shareRowsRow.domain false) (Rows.shareRowsSpec.post enc Try.prog Try.f3 false true false false) := by
  refine returnsInHanded_of_change_sized (C := Try.checked) own started (by kernel_rfl) Try.func3
    (ChangeSpec.witness6 (enc := enc) (C := Try.checked) false ⟨#[], #[.agg #[.int .u8 0, .int .i64 0, .int .i64 0, .int .i64 0, .int .i64 0, .int .i64 0, .int .i64 0, .int .i64 0], .agg #[.slice none 0 0, .slice none 0 0]], []⟩ 8 (by kernel_rfl) (by kernel_rfl) (by kernel_rfl) (by kernel_rfl)) ?_
  intro W base args ds gs before hval0 hW hcnd hsz0 _
  have hsz : (DataW.weightsEach Try.prog (Try.f3.params.toList ++ Rows.shareRowsSpec.plain.varTypes Try.prog) (ds ++ gs)).all (· ≤ reachBytes) = true := hsz0
  have hval : ∀ (j : Nat) t v, Try.f3.params[j]? = some t → args[j]? = some v → Value.okWide Try.prog W .any base t v := hval0
  have hW' := hW
  obtain ⟨p, q, hA0, hV, rfl, hfz, hnd⟩ := hW
  have hA : DataW.TrodAll enc Try.prog W 0 (fun _ => true) true Try.f3.params.toList args.toList ds p := hA0
  rw [Try.params3] at hA hval hsz
  obtain ⟨v0, vs0, d0, ds0, p0, q0, hargs, rfl, rfl, h0, r0⟩ := trodAll_cons hA
  obtain ⟨v1, vs1, d1, ds1, p1, q1, rfl, rfl, rfl, h1, r1⟩ := trodAll_cons r0
  obtain ⟨rfl, rfl, rfl⟩ := trodAll_nil r1
  obtain rfl : args = #[v0, v1] := by cases args; simp_all
  obtain ⟨rfl, rfl⟩ := trodVars_none hV
  have k0_ := h0
  have lt0 : ∀ x ∈ p0, x.block < W.heap.size := by obtain ⟨m, hm⟩ := k0_; exact DataW.trod_lt m _ _ _ hm
  obtain ⟨z0, rfl, _⟩ := okWide_struct Try.underlying24 (hval 0 24 v0 rfl rfl)
  obtain ⟨⟨a0_0, a0_1, a0_2, a0_3, a0_4, a0_5, a0_6, a0_7⟩, K0, ⟨F0_0, F0_1, F0_2, F0_3, F0_4, F0_5, F0_6, F0_7⟩⟩ := Open.opens_at (Open.opens_struct Try.underlying24 (by kernel_rfl) (by kernel_rfl) (by kernel_rfl) (Open.opensL_cons (Open.opens_int Try.underlying22 (by kernel_rfl)) (Open.opensL_cons (Open.opens_int Try.underlying3 (by kernel_rfl)) (Open.opensL_cons (Open.opens_int Try.underlying3 (by kernel_rfl)) (Open.opensL_cons (Open.opens_int Try.underlying3 (by kernel_rfl)) (Open.opensL_cons (Open.opens_int Try.underlying3 (by kernel_rfl)) (Open.opensL_cons (Open.opens_int Try.underlying3 (by kernel_rfl)) (Open.opensL_cons (Open.opens_int Try.underlying3 (by kernel_rfl)) (Open.opensL_one (Open.opens_int Try.underlying3 (by kernel_rfl)))))))))) id id (fun _ => rfl)) h0 hsz (j := 0) rfl rfl
  have hz0 : ∀ cs : List Value, (z0.toList = cs) → z0 = cs.toArray := fun cs h => by rw [← h]
  obtain ⟨cs0, hcs0, K0'⟩ : ∃ cs, z0.toList = cs ∧ _ := ⟨_, rfl, K0⟩
  obtain ⟨_, _, rfl, rfl, ⟨_, _, rfl, rfl, ⟨_, _, rfl, rfl, ⟨_, _, rfl, rfl, ⟨_, _, rfl, rfl, ⟨_, _, rfl, rfl, ⟨_, _, rfl, rfl, rfl⟩⟩⟩⟩⟩⟩⟩ := K0'
  obtain rfl := hz0 _ hcs0
  have k1_ := h1
  have lt1 : ∀ x ∈ p1, x.block < W.heap.size := by obtain ⟨m, hm⟩ := k1_; exact DataW.trod_lt m _ _ _ hm
  obtain ⟨z1, rfl, _⟩ := okWide_struct Try.underlying27 (hval 1 27 v1 rfl rfl)
  obtain ⟨⟨l1_0, l1_1⟩, K1, ⟨F1_0, F1_1⟩⟩ := Open.opens_at (Open.opens_struct Try.underlying27 (by kernel_rfl) (by kernel_rfl) (by kernel_rfl) (Open.opensL_cons (Open.opens_slice (d := (Kd.slice 36 (Kd.int .u64))) Try.underlying25 (by kernel_rfl) (show 0 < 1 from by decide) (B := 24) (by kernel_rfl) (Open.opens_slice (d := (Kd.int .u64)) Try.underlying38 (by kernel_rfl) (show 0 < 1 from by decide) (B := 8) (by kernel_rfl) (Open.opens_int Try.underlying36 (by kernel_rfl)))) (Open.opensL_one (Open.opens_slice (d := (Kd.slice 36 (Kd.int .u64))) Try.underlying25 (by kernel_rfl) (show 0 < 1 from by decide) (B := 24) (by kernel_rfl) (Open.opens_slice (d := (Kd.int .u64)) Try.underlying38 (by kernel_rfl) (show 0 < 1 from by decide) (B := 8) (by kernel_rfl) (Open.opens_int Try.underlying36 (by kernel_rfl)))))) id id (fun _ => rfl)) h1 hsz (j := 1) rfl rfl
  have hz1 : ∀ cs : List Value, (z1.toList = cs) → z1 = cs.toArray := fun cs h => by rw [← h]
  obtain ⟨cs1, hcs1, K1'⟩ : ∃ cs, z1.toList = cs ∧ _ := ⟨_, rfl, K1⟩
  obtain ⟨_, _, rfl, ⟨A1_0, c1_0, rfl, hc1_0, hr1_0⟩, ⟨A1_1, c1_1, rfl, hc1_1, hr1_1⟩⟩ := K1'
  obtain rfl := hz1 _ hcs1
  clear hA0 hval0 hsz0 hsz
  obtain ⟨k, h⟩ := Pure.ShareRows _ _ _ _ _ _ _ _ _ _ F0_0 F0_1 F0_2 F0_3 F0_4 F0_5 F0_6 F0_7 F1_0 F1_1
  refine (conclavelaw14_ShareRows.calls k _ _ _ _ _ _ _ _ _ _ _ _ _ _ _ _ true W (Pure.V_of_C hr1_0 hc1_0) (Pure.V_of_C hr1_1 hc1_1) h rfl).mono fun e W' hee => ?_
  obtain ⟨he, bel⟩ := hee
  have bel : Below W.heap.size W W' := by first | exact bel | exact bel.below
  subst he
  exact ⟨_, rfl, _, _, _, [], _, [], hW', trodAll_mk1 (shut_bool Try.underlying4 _), (trodAll_cons_mk (Below.trod laidOut (by kernel_rfl) (of_decide_eq_true (by kernel_rfl)) k0_ bel lt0) (trodAll_cons_mk (Below.trod laidOut (by kernel_rfl) (of_decide_eq_true (by kernel_rfl)) k1_ bel lt1) trodAll_mk0)), rfl, bel.frame _, fun h => by cases h⟩
theorem over : Rows.shareRowsRow.holds Try.pinned (OpenSpec.ofChange Rows.shareRowsSpec) :=
  OpenClaim.holds_of_wide 3 Try.f3 rfl rfl rfl rfl rfl rfl rfl ⟨rfl, rfl, rfl, rfl, rfl⟩ rfl rfl rfl rfl rfl (by kernel_rfl) Try.func3 (by kernel_rfl)
    (of_decide_eq_true (by kernel_rfl)) (by unfold Func.isWrapper; first | (rw [if_pos (by decide +kernel)]; kernel_rfl) | (rw [if_neg (by decide +kernel)]; exact ⟨rfl, rfl⟩))
    (fun os started H enc _ => lifted os started H enc)
theorem proved : Rows.ShareRowsSaid := over
end Go.Proofs.Ytfkikfapbdlnjaa.shareRows
namespace Go.Proofs.Ytfkikfapbdlnjaa
theorem shareRows_holds : Rows.ShareRowsSaid := shareRows.proved
end Go.Proofs.Ytfkikfapbdlnjaa
end
