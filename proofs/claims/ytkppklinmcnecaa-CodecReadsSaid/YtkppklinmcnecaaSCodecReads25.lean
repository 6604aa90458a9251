import Derived.Test.YtkppklinmcnecaaSCodecReads14
import Derived.Test.YtkppklinmcnecaaSCodecReads16
import Derived.Test.YtkppklinmcnecaaSCodecReads17
import Derived.Test.YtkppklinmcnecaaSCodecReads18
import Derived.Test.YtkppklinmcnecaaSCodecReads19
import Derived.Test.YtkppklinmcnecaaSCodecReads20
import Derived.Test.YtkppklinmcnecaaSCodecReads22
import Derived.Test.YtkppklinmcnecaaSCodecReads23
import Derived.Test.YtkppklinmcnecaaSCodecReads24
import Derived.Test.YtkppklinmcnecaaRows
import Derived.WalkKit
import Derived.ProofKit
import Derived.OpenShut
import Derived.ShutString
import Derived.ChangeOld
import Derived.Below
import Derived.SizedLaws
section
namespace Go.Proofs.Ytkppklinmcnecaa.Plain
open Go.RowKit Go.Proofs.Ytkppklinmcnecaa.P Go.Proofs.YtkppklinmcnecaaW.PrintWords Go.Proofs.YtkppklinmcnecaaW.PrintLast Go.Proofs.YtkppklinmcnecaaW.PrintMore
set_option linter.unusedVariables false
set_option linter.unusedSimpArgs false
def mayOf (ki ro wo f : Int) (l : List Int) : Bool :=
  (decide (ki = 1) || decide (ki = 2)) && (decide (0 ≤ ro) && decide (ro < 65536) && decide (0 ≤ wo) && decide (wo < 64) && decide (l.length ≤ 64) && inF f l)
theorem mayOf_iff {ki ro wo f : Int} {l : List Int} : mayOf ki ro wo f l = true ↔ (ki = 1 ∨ ki = 2) ∧ 0 ≤ ro ∧ ro < 65536 ∧ 0 ≤ wo ∧ wo < 64 ∧ l.length ≤ 64 ∧ inF f l = true := by
  simp [mayOf, and_assoc]
theorem may_key (ro wo : Int) (l : List Int) (v : Bool) (g : Nat → Option Bool) (hg : Ev g v) : Ev (fun k => if ro ≥ 0 then (if ro < 65536 then (if wo ≥ 0 then (if wo < 64 then (if (l.length : Int) ≤ 64 then g k else (some false)) else (some false)) else (some false)) else (some false)) else (some false))
    (decide (0 ≤ ro) && decide (ro < 65536) && decide (0 ≤ wo) && decide (wo < 64) && decide (l.length ≤ 64) && v) := by
  by_cases h : 0 ≤ ro ∧ ro < 65536 ∧ 0 ≤ wo ∧ wo < 64 ∧ l.length ≤ 64
  · obtain ⟨h1, h2, h3, h4, h5⟩ := h
    simp only [if_pos (show ro ≥ 0 from h1), if_pos h2, if_pos (show wo ≥ 0 from h3), if_pos h4, if_pos (show (l.length : Int) ≤ 64 by omega)]
    simpa [h1, h2, h3, h4, h5] using hg
  · refine Ev.congr (f := fun _ => some false) (fun k => ?_) ?_
    · repeat' split
      all_goals first
        | rfl
        | exact absurd (by omega) h
    · rw [show (decide (0 ≤ ro) && decide (ro < 65536) && decide (0 ≤ wo) && decide (wo < 64) && decide (l.length ≤ 64) && v) = false by
        cases hv : (decide (0 ≤ ro) && decide (ro < 65536) && decide (0 ≤ wo) && decide (wo < 64) && decide (l.length ≤ 64) && v) with
        | false => rfl
        | true => simp at hv; exact absurd (by omega) h]
      exact Ev.now _
theorem may_kind (ki : Int) (v : Bool) (g : Nat → Option Bool) (hg : Ev g v) : Ev (fun k => if ki = 1 then g k else if ki = 2 then g k else some false) ((decide (ki = 1) || decide (ki = 2)) && v) := by
  by_cases h1 : ki = 1
  · simp only [if_pos h1]; simpa [h1] using hg
  · by_cases h2 : ki = 2
    · simp only [if_neg h1, if_pos h2]; simpa [h2] using hg
    · simp only [if_neg h1, if_neg h2]; simpa [h1, h2] using Ev.now false
theorem May_f (ki ro wo f : Int) (l : List Int) (hl : l.length ≤ 9223372036854775807) : Ev (fun k => codec_May.f k ki ro wo f l) (mayOf ki ro wo f l) := by
  unfold codec_May.f
  exact may_kind ki _ _ (may_key ro wo l _ _ (Ev.bind (f := fun _ t => some t) (In_f f l hl) (Ev.now _)))
theorem rMay_key (ro wo : Int) (l : List Int) (v : Bool) (g : Nat → Option Bool) (hg : Ev g v) : Ev (fun k => if ro ≥ 0 then (if ro < 65536 then (if wo ≥ 0 then (if wo < 64 then ((g k).bind fun t => if t = true then (some (decide ((l.length : Int) ≤ 64))) else (some false)) else (some false)) else (some false)) else (some false)) else (some false))
    (decide (0 ≤ ro) && decide (ro < 65536) && decide (0 ≤ wo) && decide (wo < 64) && decide (l.length ≤ 64) && v) := by
  by_cases h : 0 ≤ ro ∧ ro < 65536 ∧ 0 ≤ wo ∧ wo < 64
  · obtain ⟨h1, h2, h3, h4⟩ := h
    simp only [if_pos (show ro ≥ 0 from h1), if_pos h2, if_pos (show wo ≥ 0 from h3), if_pos h4]
    refine Ev.bind (f := fun _ t => if t = true then (some (decide ((l.length : Int) ≤ 64))) else (some false)) hg ?_
    simp only [h1, h2, h3, h4, decide_true, Bool.true_and]
    cases v with
    | true => simp only [if_true, Bool.and_true]; rw [show decide ((l.length : Int) ≤ 64) = decide (l.length ≤ 64) from decide_eq_decide.2 (by omega)]; exact Ev.now _
    | false => simp only [Bool.false_eq_true, if_false, Bool.and_false]; exact Ev.now _
  · refine Ev.congr (f := fun _ => some false) (fun k => ?_) ?_
    · repeat' split
      all_goals first
        | rfl
        | exact absurd (by omega) h
    · rw [show (decide (0 ≤ ro) && decide (ro < 65536) && decide (0 ≤ wo) && decide (wo < 64) && decide (l.length ≤ 64) && v) = false by
        cases hv : (decide (0 ≤ ro) && decide (ro < 65536) && decide (0 ≤ wo) && decide (wo < 64) && decide (l.length ≤ 64) && v) with
        | false => rfl
        | true => simp at hv; exact absurd (by omega) h]
      exact Ev.now _
theorem rMay_f (ki ro wo f : Int) (l : List Int) (hu : U64 l) (hl : l.length ≤ 9223372036854775807) : Ev (fun k => conclaveref20_May.f k ki ro wo f l) (mayOf ki ro wo f l) := by
  unfold conclaveref20_May.f
  exact may_kind ki _ _ (rMay_key ro wo l _ _ (rIn_f f l hu hl))
def payload (ki ro wo f : Int) (l : List Int) : List Int := ki :: (be 4 ro ++ (be 4 wo ++ (listOf f l).1))
theorem payload_len (ki ro wo f : Int) (l : List Int) : (payload ki ro wo f l).length = 9 + (listOf f l).1.length := by
  simp only [payload, List.length_cons, List.length_append, be_len]; omega
theorem listOf_may {f : Int} {l : List Int} (hi : inF f l = true) (hl : l.length ≤ 64) : (listOf f l).2 = 0 ∧ (listOf f l).1.length ≤ 5 + 512 ∧ Bytes (listOf f l).1 := by
  have hw := wd_le f
  have h1 : l.length * wd f ≤ 64 * 8 := Nat.mul_le_mul hl hw
  have hf := isF_or (inF_isF hi)
  unfold listOf
  rw [if_pos hi, if_neg (by omega)]
  refine ⟨rfl, by simp only [List.length_cons, List.length_append, be_len, els_len]; omega, ?_⟩
  intro x hx
  rcases List.mem_cons.1 hx with rfl | hx
  · omega
  · rcases List.mem_append.1 hx with hx | hx
    · exact be_bytes _ _ x hx
    · exact els_bytes _ _ x hx
theorem payload_ok {ki ro wo f : Int} {l : List Int} (h : mayOf ki ro wo f l = true) : Bytes (payload ki ro wo f l) ∧ (payload ki ro wo f l).length ≤ 526 := by
  obtain ⟨h1, h2, h3, h4, h5, h6, h7⟩ := mayOf_iff.1 h
  obtain ⟨g1, g2, g3⟩ := listOf_may h7 h6
  refine ⟨?_, by rw [payload_len]; omega⟩
  intro x hx
  rcases List.mem_cons.1 hx with rfl | hx
  · omega
  · rcases List.mem_append.1 hx with hx | hx
    · exact be_bytes _ _ x hx
    · rcases List.mem_append.1 hx with hx | hx
      · exact be_bytes _ _ x hx
      · exact g3 x hx
def writeOf (ki ro wo f : Int) (l : List Int) : List Int × Int := if mayOf ki ro wo f l then sealOf (payload ki ro wo f l) else ([], 2)
theorem concat4 (a b c d : List Int) (h : a.length + b.length + c.length + d.length < 140737488355328) : Ev (fun k => slices_Concat_byte_byte.f k [a, b, c, d]) (a ++ (b ++ (c ++ d))) := by
  unfold slices_Concat_byte_byte.f
  have e0 : rd_L1 [a, b, c, d] 0 = a := rfl
  have e1 : rd_L1 [a, b, c, d] 1 = b := rfl
  have e2 : rd_L1 [a, b, c, d] 2 = c := rfl
  have e3 : rd_L1 [a, b, c, d] 3 = d := rfl
  refine Ev.step (f := fun k => slices_Concat_byte_byte.l0 k ([] ++ a) [a, b, c, d] 4 1) (fun k => ?_) ?_
  · simp only [slices_Concat_byte_byte.l0, List.length_cons, List.length_nil]
    rw [if_pos (by decide), if_pos (by decide), if_pos (by decide), e0, if_pos (by simp; omega), show wrap64 (0 + 1) = 1 from by unfold wrap64; omega]; rfl
  refine Ev.step (f := fun k => slices_Concat_byte_byte.l0 k ([] ++ a ++ b) [a, b, c, d] 4 2) (fun k => ?_) ?_
  · simp only [slices_Concat_byte_byte.l0, List.length_cons, List.length_nil]
    rw [if_pos (by decide), if_pos (by decide), if_pos (by decide), e1, if_pos (by simp; omega), show wrap64 (1 + 1) = 2 from by unfold wrap64; omega]
  refine Ev.step (f := fun k => slices_Concat_byte_byte.l0 k ([] ++ a ++ b ++ c) [a, b, c, d] 4 3) (fun k => ?_) ?_
  · simp only [slices_Concat_byte_byte.l0, List.length_cons, List.length_nil]
    rw [if_pos (by decide), if_pos (by decide), if_pos (by decide), e2, if_pos (by simp; omega), show wrap64 (2 + 1) = 3 from by unfold wrap64; omega]
  refine Ev.step (f := fun k => slices_Concat_byte_byte.l0 k ([] ++ a ++ b ++ c ++ d) [a, b, c, d] 4 4) (fun k => ?_) ?_
  · simp only [slices_Concat_byte_byte.l0, List.length_cons, List.length_nil]
    rw [if_pos (by decide), if_pos (by decide), if_pos (by decide), e3, if_pos (by simp; omega), show wrap64 (3 + 1) = 4 from by unfold wrap64; omega]
  refine Ev.step (f := fun k => some ([] ++ a ++ b ++ c ++ d)) (fun k => ?_) (by simpa using Ev.now (a ++ (b ++ (c ++ d))))
  simp only [slices_Concat_byte_byte.l0]
  rw [if_neg (by decide)]
theorem count_in {n : Int} (h0 : 0 ≤ n) (h1 : n < 65536) : count n = (be 4 n, 0) := by
  unfold count; rw [if_neg (by omega), if_neg (by omega)]
theorem Write_f (ki ro wo f : Int) (l : List Int) (hl : l.length ≤ 9223372036854775807) : Ev (fun k => codec_Write.f k ki ro wo f l) (writeOf ki ro wo f l) := by
  unfold codec_Write.f writeOf
  refine Ev.bind (f := fun k t => _) (May_f ki ro wo f l hl) ?_
  by_cases h : mayOf ki ro wo f l = true
  · obtain ⟨h1, h2, h3, h4, h5, h6, h7⟩ := mayOf_iff.1 h
    obtain ⟨g1, g2, g3⟩ := listOf_may h7 h6
    simp only [h, if_true]
    refine Ev.bind (f := fun k t => _) (Count_f ro) ?_
    simp only [count_in h2 h3, if_true]
    refine Ev.bind (f := fun k t => _) (Count_f wo) ?_
    simp only [count_in h4 (show wo < 65536 by omega), if_true]
    refine Ev.bind (f := fun k t => _) (List_f f l hl) ?_
    simp only [g1, if_true]
    refine Ev.bind (f := fun k t => _) (concat4 [ki] (be 4 ro) (be 4 wo) (listOf f l).1 (by simp [be_len]; omega)) ?_
    refine Ev.bind (f := fun k t => some (t.1, t.2)) (Seal_f _) ?_
    exact Ev.now _
  · simp only [Bool.eq_false_iff.2 h, Bool.false_eq_true, if_false]; exact Ev.now _
theorem rWrite_f (ki ro wo f : Int) (l : List Int) (hu : U64 l) (hl : l.length ≤ 9223372036854775807) : Ev (fun k => conclaveref20_Write.f k ki ro wo f l) (writeOf ki ro wo f l) := by
  unfold conclaveref20_Write.f writeOf
  refine Ev.bind (f := fun k t => _) (rMay_f ki ro wo f l hu hl) ?_
  by_cases h : mayOf ki ro wo f l = true
  · obtain ⟨h1, h2, h3, h4, h5, h6, h7⟩ := mayOf_iff.1 h
    obtain ⟨g1, g2, g3⟩ := listOf_may h7 h6
    simp only [h, if_true, Option.bind_some]
    rw [wu64_in h2 (by omega), wu64_in h4 (by omega)]
    refine Ev.bind (f := fun k t => _) (Wide_f ro 4 (by omega)) ?_
    simp only [List.length_cons, List.length_nil, be_len, List.length_append, if_pos (show 0 + 1 + 4 < 140737488355328 by omega)]
    refine Ev.bind (f := fun k t => _) (Wide_f wo 4 (by omega)) ?_
    simp only [List.length_cons, List.length_nil, be_len, List.length_append, if_pos (show 0 + 1 + 4 + 4 < 140737488355328 by omega)]
    refine Ev.bind (f := fun k t => _) (rList_f f l hu hl) ?_
    simp only [if_pos (show 0 + 1 + 4 + 4 + (listOf f l).1.length < 140737488355328 by omega)]
    refine Ev.bind (f := fun k t => some (t.1, t.2)) (rSeal_f _) ?_
    have e : [ki] ++ be 4 ro ++ be 4 wo ++ (listOf f l).1 = payload ki ro wo f l := by simp [payload]
    rw [e]
    exact Ev.now _
  · simp only [Bool.eq_false_iff.2 h, Bool.false_eq_true, if_false]; exact Ev.now _
def partsOf (b : List Int) : Int × Int × Int × Int × List Int × Bool :=
  if b.length = 0 then (0, 0, 0, 0, [], false)
  else if (readCount (b.drop 1)).2.2 ≠ 0 then (0, 0, 0, 0, [], false)
  else if (readCount ((b.drop 1).drop 4)).2.2 ≠ 0 then (0, 0, 0, 0, [], false)
  else if (readListOf (((b.drop 1).drop 4).drop 4)).2.2.2 ≠ 0 then (0, 0, 0, 0, [], false)
  else if ((((b.drop 1).drop 4).drop 4).drop (readListOf (((b.drop 1).drop 4).drop 4)).2.2.1.toNat).length ≠ 0 then (0, 0, 0, 0, [], false)
  else if mayOf (rd b 0) (readCount (b.drop 1)).1 (readCount ((b.drop 1).drop 4)).1 (readListOf (((b.drop 1).drop 4).drop 4)).1 (readListOf (((b.drop 1).drop 4).drop 4)).2.1 = true then
    (rd b 0, (readCount (b.drop 1)).1, (readCount ((b.drop 1).drop 4)).1, (readListOf (((b.drop 1).drop 4).drop 4)).1, (readListOf (((b.drop 1).drop 4).drop 4)).2.1, true)
  else (0, 0, 0, 0, [], false)
set_option maxRecDepth 100000 in
theorem parts_f (b : List Int) (hb : Bytes b) (hl : b.length ≤ 140737492549632) : Ev (fun k => codec_parts.f k b) (partsOf b) := by
  unfold codec_parts.f partsOf
  by_cases h0 : b.length = 0
  · simp only [if_pos h0, if_pos (show (b.length : Int) ≤ 0 by omega)]; exact Ev.now _
  · simp only [if_neg h0, if_neg (show ¬ (b.length : Int) ≤ 0 by omega), if_pos (show 0 < (b.length : Int) by omega), if_pos (show 1 ≤ (b.length : Int) by omega)]
    refine Ev.bind (f := fun k t => _) (ReadCount_f _ (hb.drop 1)) ?_
    by_cases c1 : (readCount (b.drop 1)).2.2 = 0
    · obtain ⟨q1, q2, q3, q4⟩ := readCount_ok (hb.drop 1) c1
      simp only [c1, q2, if_true, if_pos (show (0 : Int) ≤ 4 by omega), if_pos (show (4 : Int) ≤ ((b.drop 1).length : Int) by omega), show ((4 : Int)).toNat = 4 from rfl, ne_eq, not_true_eq_false, if_false]
      refine Ev.bind (f := fun k t => _) (ReadCount_f _ ((hb.drop 1).drop 4)) ?_
      by_cases c2 : (readCount ((b.drop 1).drop 4)).2.2 = 0
      · obtain ⟨p1, p2, p3, p4⟩ := readCount_ok ((hb.drop 1).drop 4) c2
        simp only [c2, p2, if_true, if_pos (show (0 : Int) ≤ 4 by omega), if_pos (show (4 : Int) ≤ (((b.drop 1).drop 4).length : Int) by omega), show ((4 : Int)).toNat = 4 from rfl, not_true_eq_false, if_false]
        have hb3 := ((hb.drop 1).drop 4).drop 4
        have hl3 : (((b.drop 1).drop 4).drop 4).length ≤ 140737492549632 := by simp; omega
        refine Ev.bind (f := fun k t => _) (ReadList_f _ hb3 hl3) ?_
        generalize ((b.drop 1).drop 4).drop 4 = b3 at hb3 hl3 ⊢
        by_cases c3 : (readListOf b3).2.2.2 = 0
        · obtain ⟨z1, z2, z3, z4⟩ := list_forms hb3 c3
          simp only [c3, if_true, if_pos (show 0 ≤ (readListOf b3).2.2.1 by omega), if_pos z2, not_true_eq_false, if_false]
          by_cases c4 : (b3.drop (readListOf b3).2.2.1.toNat).length = 0
          · simp only [c4, if_true, not_true_eq_false, if_false, show (((0 : Nat) : Int) = 0) = True from by simp]
            refine Ev.bind (f := fun k t => _) (May_f _ _ _ _ _ (by omega)) ?_
            split <;> exact Ev.now _
          · simp only [c4, not_false_eq_true, if_true, if_neg (show ¬ ((b3.drop (readListOf b3).2.2.1.toNat).length : Int) = 0 by omega)]
            exact Ev.now _
        · simp only [if_neg c3, c3, not_false_eq_true, if_true]; exact Ev.now _
      · simp only [if_neg c2, c2, not_false_eq_true, if_true]; exact Ev.now _
    · simp only [if_neg c1, ne_eq, c1, not_false_eq_true, if_true]; exact Ev.now _
theorem readList_u64 (b : List Int) : U64 (readListOf b).2.1 := by
  unfold readListOf
  repeat' split
  all_goals first
    | exact rdEls_u64 _ _ _
    | (intro x hx; cases hx)
theorem parts_ok {b : List Int} (hb : Bytes b) (h : (partsOf b).2.2.2.2.2 = true) :
    mayOf (partsOf b).1 (partsOf b).2.1 (partsOf b).2.2.1 (partsOf b).2.2.2.1 (partsOf b).2.2.2.2.1 = true ∧ U64 (partsOf b).2.2.2.2.1 ∧
      payload (partsOf b).1 (partsOf b).2.1 (partsOf b).2.2.1 (partsOf b).2.2.2.1 (partsOf b).2.2.2.2.1 = b := by
  unfold partsOf at h ⊢
  by_cases h0 : b.length = 0
  · rw [if_pos h0] at h; cases h
  rw [if_neg h0] at h ⊢
  by_cases c1 : (readCount (b.drop 1)).2.2 = 0
  case neg => rw [if_pos c1] at h; cases h
  rw [if_neg (not_not_intro c1)] at h ⊢
  by_cases c2 : (readCount ((b.drop 1).drop 4)).2.2 = 0
  case neg => rw [if_pos c2] at h; cases h
  rw [if_neg (not_not_intro c2)] at h ⊢
  by_cases c3 : (readListOf (((b.drop 1).drop 4).drop 4)).2.2.2 = 0
  case neg => rw [if_pos c3] at h; cases h
  rw [if_neg (not_not_intro c3)] at h ⊢
  by_cases c4 : ((((b.drop 1).drop 4).drop 4).drop (readListOf (((b.drop 1).drop 4).drop 4)).2.2.1.toNat).length = 0
  case neg => rw [if_pos c4] at h; cases h
  rw [if_neg (not_not_intro c4)] at h ⊢
  by_cases c5 : mayOf (rd b 0) (readCount (b.drop 1)).1 (readCount ((b.drop 1).drop 4)).1 (readListOf (((b.drop 1).drop 4).drop 4)).1 (readListOf (((b.drop 1).drop 4).drop 4)).2.1 = true
  case neg => rw [if_neg c5] at h; cases h
  rw [if_pos c5]
  refine ⟨c5, readList_u64 _, ?_⟩
  have e1 := readCount_be (hb.drop 1) c1
  have e2 := readCount_be ((hb.drop 1).drop 4) c2
  obtain ⟨z1, z2, z3, z4⟩ := list_forms (((hb.drop 1).drop 4).drop 4) c3
  simp only [payload]
  rw [e1, e2, z3]
  rw [List.take_of_length_le (l := ((b.drop 1).drop 4).drop 4) (by rw [List.length_drop] at c4; omega), List.take_append_drop, List.take_append_drop]
  have := drop_at (l := b) (i := 0) (by omega)
  rw [List.drop_zero] at this
  exact this.symm
theorem parts_back {ki ro wo f : Int} {l : List Int} (h : mayOf ki ro wo f l = true) (hu : U64 l) : partsOf (payload ki ro wo f l) = (ki, ro, wo, f, l, true) := by
  obtain ⟨h1, h2, h3, h4, h5, h6, h7⟩ := mayOf_iff.1 h
  have hb := list_back f l [] hu h7 (by omega)
  rw [List.append_nil] at hb
  have d1 : (payload ki ro wo f l).drop 1 = be 4 ro ++ (be 4 wo ++ (listOf f l).1) := rfl
  have d2 : (be 4 ro ++ (be 4 wo ++ (listOf f l).1)).drop 4 = be 4 wo ++ (listOf f l).1 := by
    rw [List.drop_append_of_le_length (by rw [be_len]; exact Nat.le_refl _), List.drop_eq_nil_of_le (by rw [be_len]; exact Nat.le_refl _), List.nil_append]
  have d3 : (be 4 wo ++ (listOf f l).1).drop 4 = (listOf f l).1 := by
    rw [List.drop_append_of_le_length (by rw [be_len]; exact Nat.le_refl _), List.drop_eq_nil_of_le (by rw [be_len]; exact Nat.le_refl _), List.nil_append]
  have e1 : readCount (be 4 ro ++ (be 4 wo ++ (listOf f l).1)) = (ro, 4, 0) := by
    obtain ⟨n, rfl⟩ := Int.eq_ofNat_of_zero_le h2
    exact readCount_back n (by omega) _
  have e2 : readCount (be 4 wo ++ (listOf f l).1) = (wo, 4, 0) := by
    obtain ⟨n, rfl⟩ := Int.eq_ofNat_of_zero_le h4
    exact readCount_back n (by omega) _
  unfold partsOf
  rw [d1, d2, d3, e1, e2, hb.1]
  simp only [ne_eq, not_true_eq_false, if_false, Int.toNat_natCast, List.drop_length, List.length_nil]
  rw [if_neg (by simp [payload]), show rd (payload ki ro wo f l) 0 = ki from rfl, if_pos h]
def readOf (b : List Int) : Int × Int × Int × Int × List Int × Int :=
  if (unsealOf b).2.2 = 0 then
    (if (partsOf (unsealOf b).1).2.2.2.2.2 = true then
      (if (unsealOf b).2.1 < (b.length : Int) then (0, 0, 0, 0, [], 8)
       else ((partsOf (unsealOf b).1).1, (partsOf (unsealOf b).1).2.1, (partsOf (unsealOf b).1).2.2.1, (partsOf (unsealOf b).1).2.2.2.1, (partsOf (unsealOf b).1).2.2.2.2.1, 0))
     else (0, 0, 0, 0, [], 8))
  else (0, 0, 0, 0, [], (unsealOf b).2.2)
theorem unseal_bytes {b : List Int} (hb : Bytes b) : Bytes (unsealOf b).1 ∧ (unsealOf b).1.length ≤ b.length := by
  unfold unsealOf
  repeat' split
  all_goals first
    | exact ⟨(hb.take _).drop _, by simp; omega⟩
    | exact ⟨fun x hx => absurd hx (by simp), Nat.zero_le _⟩
theorem Read_f (b : List Int) (hb : Bytes b) (hl : b.length ≤ 140737492549632) : Ev (fun k => codec_Read.f k b) (readOf b) := by
  unfold codec_Read.f readOf
  obtain ⟨u1, u2⟩ := unseal_bytes hb
  refine Ev.bind (f := fun k t => _) (Unseal_f b hb hl) ?_
  by_cases h : (unsealOf b).2.2 = 0
  · simp only [h, if_true]
    refine Ev.bind (f := fun k t => _) (parts_f _ u1 (by omega)) ?_
    repeat' split
    all_goals exact Ev.now _
  · simp only [if_neg h]; exact Ev.now _
theorem read_ok {b : List Int} (hb : Bytes b) (h : (readOf b).2.2.2.2.2 = 0) :
    mayOf (readOf b).1 (readOf b).2.1 (readOf b).2.2.1 (readOf b).2.2.2.1 (readOf b).2.2.2.2.1 = true ∧ U64 (readOf b).2.2.2.2.1 ∧
      writeOf (readOf b).1 (readOf b).2.1 (readOf b).2.2.1 (readOf b).2.2.2.1 (readOf b).2.2.2.2.1 = (b, 0) := by
  unfold readOf at h ⊢
  obtain ⟨u1, u2⟩ := unseal_bytes hb
  by_cases c1 : (unsealOf b).2.2 = 0
  case neg => rw [if_neg c1] at h; exact absurd h c1
  rw [if_pos c1] at h ⊢
  by_cases c2 : (partsOf (unsealOf b).1).2.2.2.2.2 = true
  case neg => rw [if_neg c2] at h; cases h
  rw [if_pos c2] at h ⊢
  by_cases c3 : (unsealOf b).2.1 < (b.length : Int)
  · rw [if_pos c3] at h; cases h
  rw [if_neg c3]
  obtain ⟨p1, p2, p3⟩ := parts_ok u1 c2
  obtain ⟨s1, s2, s3⟩ := seal_forms hb c1
  refine ⟨p1, p2, ?_⟩
  unfold writeOf
  simp only [p1, if_true]
  rw [p3, s3, List.take_of_length_le (by omega)]
theorem read_err {b : List Int} (h : (readOf b).2.2.2.2.2 ≠ 0) : readOf b = (0, 0, 0, 0, [], (readOf b).2.2.2.2.2) := by
  unfold readOf at h ⊢
  repeat' split
  all_goals first
    | rfl
    | (simp_all; done)
theorem write_may {ki ro wo f : Int} {l : List Int} (h : mayOf ki ro wo f l = true) : (writeOf ki ro wo f l).2 = 0 ∧ writeOf ki ro wo f l = sealOf (payload ki ro wo f l) ∧ Bytes (writeOf ki ro wo f l).1 ∧ (writeOf ki ro wo f l).1.length = 21 + (listOf f l).1.length ∧ (listOf f l).1.length ≤ 517 := by
  obtain ⟨q1, q2⟩ := payload_ok h
  have e : writeOf ki ro wo f l = sealOf (payload ki ro wo f l) := by unfold writeOf; rw [if_pos h]
  rw [payload_len] at q2
  rw [e]
  unfold sealOf
  rw [if_neg (by rw [payload_len]; omega)]
  refine ⟨rfl, rfl, ?_, ?_, by omega⟩
  · intro x hx
    rcases List.mem_append.1 hx with hx | hx
    · rcases List.mem_append.1 hx with hx | hx
      · exact be_bytes _ _ x hx
      · exact q1 x hx
    · exact be_bytes _ _ x hx
  · simp only [List.length_append, be_len, payload_len]; omega
theorem read_back {ki ro wo f : Int} {l : List Int} (h : mayOf ki ro wo f l = true) (hu : U64 l) : readOf (writeOf ki ro wo f l).1 = (ki, ro, wo, f, l, 0) := by
  obtain ⟨q1, q2⟩ := payload_ok h
  obtain ⟨w1, w2, w3, w4⟩ := write_may h
  have hs := (seal_back (payload ki ro wo f l) [] q1 (by omega)).1
  rw [List.append_nil, ← w2] at hs
  unfold readOf
  rw [hs]
  simp only [if_true, parts_back h hu, if_neg (Int.lt_irrefl _)]
def sameOf (a b c d : Int) (l : List Int) (a' b' c' d' : Int) (l' : List Int) : Bool := decide (a = a') && decide (b = b') && decide (c = c') && decide (d = d') && decide (l = l')
theorem same_key (a b c d a' b' c' d' : Int) (v : Bool) (g : Nat → Option Bool) (hg : Ev g v) :
    Ev (fun k => if a = a' then (if b = b' then (if c = c' then (if d = d' then g k else some false) else some false) else some false) else some false) (decide (a = a') && decide (b = b') && decide (c = c') && decide (d = d') && v) := by
  by_cases h1 : a = a'
  case neg => simp only [if_neg h1]; simpa [h1] using Ev.now false
  by_cases h2 : b = b'
  case neg => simp only [if_neg h2, if_pos h1]; simpa [h2] using Ev.now false
  by_cases h3 : c = c'
  case neg => simp only [if_neg h3, if_pos h1, if_pos h2]; simpa [h3] using Ev.now false
  by_cases h4 : d = d'
  case neg => simp only [if_neg h4, if_pos h1, if_pos h2, if_pos h3]; simpa [h4] using Ev.now false
  simp only [if_pos h1, if_pos h2, if_pos h3, if_pos h4]
  simpa [h1, h2, h3, h4] using hg
theorem rmSame_f (a b c d : Int) (l : List Int) (a' b' c' d' : Int) (l' : List Int) (hl : l.length ≤ 9223372036854775807) : Ev (fun k => conclaveref20_Same.f k a b c d l a' b' c' d' l') (sameOf a b c d l a' b' c' d' l') := by
  unfold conclaveref20_Same.f sameOf
  exact same_key a b c d a' b' c' d' _ _ (Ev.bind (f := fun _ t => some t) (fSame_f l l' hl) (Ev.now _))
theorem sameOf_self (a b c d : Int) (l : List Int) : sameOf a b c d l a b c d l = true := by simp [sameOf]
theorem read_len {b : List Int} (hb : Bytes b) (hl : b.length ≤ 140737488351232) : (readOf b).2.2.2.2.1.length ≤ 9223372036854775807 := by
  by_cases h : (readOf b).2.2.2.2.2 = 0
  · have := (mayOf_iff.1 (read_ok hb h).1).2.2.2.2.2.1; omega
  · rw [read_err h]; simp
theorem cAnchored_f : Ev (fun k => conclavelaw20_anchored.f k) true := by
  have hm : mayOf 2 1 2 1 [5] = true := by decide
  have hu : U64 [5] := by intro x hx; simp at hx; omega
  obtain ⟨w1, w2, w3, w4, w5⟩ := write_may hm
  have hb := read_back hm hu
  have hll : (listOf 1 [5]).1.length = 9 := by decide
  have hr0 : (readOf []).2.2.2.2.2 = 7 := by decide
  unfold conclavelaw20_anchored.f
  simp only [Option.bind_some]
  refine Ev.bind (f := fun k t => _) (Write_f 2 1 2 1 [5] (by simp)) ?_
  refine Ev.bind (f := fun k t => _) (Read_f _ w3 (by omega)) ?_
  refine Ev.bind (f := fun k t => _) (Read_f [] (fun x hx => by cases hx) (by simp)) ?_
  simp only [w1, hb, hr0, if_true, if_pos (show ((writeOf 2 1 2 1 [5]).1.length : Int) = 30 by omega)]
  refine Ev.bind (f := fun k t => if t = true then some true else some false) (rmSame_f 2 1 2 1 [5] 2 1 2 1 [5] (by simp)) ?_
  rw [sameOf_self]
  exact Ev.now _
end Go.Proofs.Ytkppklinmcnecaa.Plain
end
section
namespace Go.Proofs.Ytkppklinmcnecaa.Plain
open Go.RowKit Go.Proofs.Ytkppklinmcnecaa.P Go.Proofs.YtkppklinmcnecaaW.PrintWords Go.Proofs.YtkppklinmcnecaaW.PrintLast Go.Proofs.YtkppklinmcnecaaW.PrintMore
set_option linter.unusedVariables false
set_option linter.unusedSimpArgs false
theorem rRead_f (b : List Int) (hb : Bytes b) (hl : b.length ≤ 140737488351232) : Ev (fun k => conclaveref20_Read.f k b) (readOf b) := by
  unfold conclaveref20_Read.f
  obtain ⟨u1, u2⟩ := unseal_bytes hb
  refine Ev.bind (f := fun k t => _) (rUnseal_f b hb (by omega)) ?_
  by_cases h : (unsealOf b).2.2 = 0
  case neg =>
    simp only [if_neg h]
    rw [show readOf b = (0, 0, 0, 0, [], (unsealOf b).2.2) by unfold readOf; rw [if_neg h]]
    exact Ev.now _
  simp only [h, if_true]
  obtain ⟨s1, s2, s3⟩ := seal_forms hb h
  by_cases h2 : (unsealOf b).2.1 = (b.length : Int)
  case neg =>
    simp only [if_neg h2]
    rw [show readOf b = (0, 0, 0, 0, [], 8) by unfold readOf; rw [if_pos h]; split; rw [if_pos (by omega)]; rfl]
    exact Ev.step (f := fun _ => some (0, 0, 0, 0, [], 8)) (fun k => by simp only [conclaveref20_Read.j0, if_true]) (Ev.now _)
  simp only [if_pos h2]
  have hB : b.take (unsealOf b).2.1.toNat = b := List.take_of_length_le (by omega)
  rw [hB] at s3
  obtain ⟨c, hc⟩ : ∃ c, c = (unsealOf b).1 := ⟨_, rfl⟩
  have hR : readOf b = if (partsOf c).2.2.2.2.2 = true then ((partsOf c).1, (partsOf c).2.1, (partsOf c).2.2.1, (partsOf c).2.2.2.1, (partsOf c).2.2.2.2.1, 0) else (0, 0, 0, 0, [], 8) := by
    unfold readOf
    rw [if_pos h, if_neg (show ¬ (unsealOf b).2.1 < (b.length : Int) by omega), hc]
  rw [hR]
  rw [← hc] at u1 u2 s3 ⊢
  by_cases h3 : (c.length : Int) < 9
  · rw [decide_eq_true h3]
    have hno : ¬ (partsOf c).2.2.2.2.2 = true := by
      intro hp
      obtain ⟨_, _, p3⟩ := parts_ok u1 hp
      have := congrArg List.length p3
      rw [payload_len] at this
      omega
    rw [if_neg hno]
    exact Ev.step (f := fun _ => some (0, 0, 0, 0, [], 8)) (fun k => by simp only [conclaveref20_Read.j0, if_true]) (Ev.now _)
  rw [decide_eq_false h3]
  have t1 := tk_range (l := (c.take 5).drop 1) (s := 0) (by omega) (by omega)
  have v1 : tk 0 ((c.take 5).drop 1) < 4294967296 := by
    have hb1 : Bytes ((c.take 5).drop 1) := (u1.take _).drop _
    have hl1 : ((c.take 5).drop 1).length = 4 := by simp; omega
    rw [tk0_val hb1 (by omega)]
    have := (val_range hb1).2
    rw [hl1] at this
    exact this
  have v2 : tk 0 ((c.take 9).drop 5) < 4294967296 := by
    have hb1 : Bytes ((c.take 9).drop 5) := (u1.take _).drop _
    have hl1 : ((c.take 9).drop 5).length = 4 := by simp; omega
    rw [tk0_val hb1 (by omega)]
    have := (val_range hb1).2
    rw [hl1] at this
    exact this
  have t2 := tk_range (l := (c.take 9).drop 5) (s := 0) (by omega) (by omega)
  refine Ev.step (f := fun k => (conclaveref08_ReadList.f k (c.drop 9)).bind fun bt410 => ((conclaveref08_Taken.f k ((c.take 5).drop 1)).bind fun t421 => ((conclaveref08_Taken.f k ((c.take 9).drop 5)).bind fun t426 => ((conclaveref20_Write.f k (rd c 0) (wrap64 (t421)) (wrap64 (t426)) bt410.1 bt410.2.1).bind fun bt428 => (if bt410.2.2.2 = 0 then (if bt428.2 = 0 then ((conclaveref08_Same.f bt428.1 b).bind fun t432 => (if t432 = true then (some (rd c 0, wrap64 (t421), wrap64 (t426), bt410.1, bt410.2.1, 0)) else (some (0, 0, 0, 0, ([] : List Int), 8)))) else (some (0, 0, 0, 0, ([] : List Int), 8))) else (some (0, 0, 0, 0, ([] : List Int), 8))))))) (fun k => ?_) ?_
  · simp only [conclaveref20_Read.j0, Bool.false_eq_true, if_false]
    simp only [if_pos (show (9 : Int) ≤ (c.length : Int) by omega), if_pos (show (0 : Int) < (c.length : Int) by omega), if_pos (show (1 : Int) ≤ 5 by omega), if_pos (show (5 : Int) ≤ (c.length : Int) by omega), if_pos (show (5 : Int) ≤ 9 by omega), if_pos (show (1 : Nat) ≤ 5 by omega), if_pos (show (5 : Nat) ≤ 9 by omega)]
  refine Ev.bind (f := fun k t => _) (rReadList_f _ (u1.drop 9) (by simp; omega)) ?_
  refine Ev.bind (f := fun k t => _) (Taken_f _ ((u1.take 5).drop 1) (by simp; omega)) ?_
  refine Ev.bind (f := fun k t => _) (Taken_f _ ((u1.take 9).drop 5) (by simp; omega)) ?_
  rw [w64 (x := tk 0 ((c.take 5).drop 1)) (by omega) (by omega), w64 (x := tk 0 ((c.take 9).drop 5)) (by omega) (by omega)]
  have hrl : (readListOf (c.drop 9)).2.1.length ≤ 9223372036854775807 := by
    by_cases g : (readListOf (c.drop 9)).2.2.2 = 0
    · have := (list_forms (u1.drop 9) g).2.2.2; omega
    · have e : (readListOf (c.drop 9)).2.1 = [] := by
        have hx : ∀ r, r = readListOf (c.drop 9) → r.2.2.2 = 0 ∨ r.2.1 = [] := by
          intro r hr
          unfold readListOf at hr
          repeat' split at hr
          all_goals (subst hr; first | exact Or.inr rfl | exact Or.inl rfl)
        exact (hx _ rfl).resolve_left g
      rw [e]; simp
  refine Ev.bind (f := fun k t => _) (rWrite_f _ _ _ _ _ (readList_u64 _) hrl) ?_
  by_cases hp : (partsOf c).2.2.2.2.2 = true
  · rw [if_pos hp]
    obtain ⟨p1, p2, p3⟩ := parts_ok u1 hp
    obtain ⟨m1, m2, m3, m4, m5, m6, m7⟩ := mayOf_iff.1 p1
    obtain ⟨g, hg⟩ : ∃ g, g = partsOf c := ⟨_, rfl⟩
    rw [← hg] at p1 p2 p3 m1 m2 m3 m4 m5 m6 m7 ⊢
    obtain ⟨ki, ro, wo, f, l, ok⟩ := g
    simp only at p1 p2 p3 m1 m2 m3 m4 m5 m6 m7 ⊢
    have hbk := list_back f l [] p2 m7 (by omega)
    rw [List.append_nil] at hbk
    have d9 : c.drop 9 = (listOf f l).1 := by
      rw [← p3, show (9 : Nat) = 1 + 4 + 4 from rfl, ← List.drop_drop, ← List.drop_drop, show (payload ki ro wo f l).drop 1 = be 4 ro ++ (be 4 wo ++ (listOf f l).1) from rfl,
        List.drop_left' (by rw [be_len]), List.drop_left' (by rw [be_len])]
    have d5 : (c.take 5).drop 1 = be 4 ro := by
      rw [← p3, List.drop_take, show (payload ki ro wo f l).drop 1 = be 4 ro ++ (be 4 wo ++ (listOf f l).1) from rfl, List.take_append_of_le_length (by rw [be_len]; exact Nat.le_refl _), List.take_of_length_le (by rw [be_len]; exact Nat.le_refl _)]
    have d95 : (c.take 9).drop 5 = be 4 wo := by
      rw [← p3, List.drop_take, show (5 : Nat) = 1 + 4 from rfl, ← List.drop_drop, show (payload ki ro wo f l).drop 1 = be 4 ro ++ (be 4 wo ++ (listOf f l).1) from rfl,
        List.drop_append_of_le_length (by rw [be_len]; exact Nat.le_refl _), List.drop_eq_nil_of_le (by rw [be_len]; exact Nat.le_refl _), List.nil_append,
        List.take_append_of_le_length (by rw [be_len]; exact Nat.le_refl _), List.take_of_length_le (by rw [be_len]; exact Nat.le_refl _)]
    have r0 : rd c 0 = ki := by rw [← p3]; rfl
    have t5 : tk 0 (be 4 ro) = ro := tk_be 4 (by omega) ro m2 (by simp; omega)
    have t9 : tk 0 (be 4 wo) = wo := tk_be 4 (by omega) wo m4 (by simp; omega)
    rw [d9, d5, d95, hbk.1, r0, t5, t9]
    have hw : writeOf ki ro wo f l = (b, 0) := by rw [(write_may p1).2.1, p3, s3]
    simp only [hw, if_true, Same_f, Option.bind_some]
    exact Ev.now _
  · rw [if_neg hp]
    by_cases e1 : (readListOf (c.drop 9)).2.2.2 = 0
    case neg => simp only [if_neg e1]; exact Ev.now _
    simp only [if_pos e1]
    by_cases e2 : (writeOf (rd c 0) (tk 0 ((c.take 5).drop 1)) (tk 0 ((c.take 9).drop 5)) (readListOf (c.drop 9)).1 (readListOf (c.drop 9)).2.1).2 = 0
    case neg => simp only [if_neg e2]; exact Ev.now _
    simp only [if_pos e2]
    have hm : mayOf (rd c 0) (tk 0 ((c.take 5).drop 1)) (tk 0 ((c.take 9).drop 5)) (readListOf (c.drop 9)).1 (readListOf (c.drop 9)).2.1 = true := by
      by_cases g : mayOf (rd c 0) (tk 0 ((c.take 5).drop 1)) (tk 0 ((c.take 9).drop 5)) (readListOf (c.drop 9)).1 (readListOf (c.drop 9)).2.1 = true
      · exact g
      · unfold writeOf at e2; rw [if_neg g] at e2; cases e2
    obtain ⟨w1, w2, w3, w4⟩ := write_may hm
    rw [Same_any _ _ w3 hb]
    have hne : ¬ (writeOf (rd c 0) (tk 0 ((c.take 5).drop 1)) (tk 0 ((c.take 9).drop 5)) (readListOf (c.drop 9)).1 (readListOf (c.drop 9)).2.1).1 = b := by
      intro hbe
      have hk := read_back hm (readList_u64 _)
      rw [hbe, hR, if_neg hp] at hk
      have h8 : (8 : Int) = 0 := congrArg (fun (x : Int × Int × Int × Int × List Int × Int) => x.2.2.2.2.2) hk
      omega
    rw [decide_eq_false hne]
    simp only [Option.bind_some, Bool.false_eq_true, if_false]
    exact Ev.now _
end Go.Proofs.Ytkppklinmcnecaa.Plain
end
section
namespace Go.Proofs.Ytkppklinmcnecaa.Pure
open Go.RowKit Go.Proofs.Ytkppklinmcnecaa.P Go.Proofs.Ytkppklinmcnecaa.Plain Go.Proofs.YtkppklinmcnecaaW.PrintWords Go.Proofs.YtkppklinmcnecaaW.PrintLast
set_option linter.unusedVariables false
set_option linter.unusedSimpArgs false
theorem CodecReads : conclavelaw20_CodecReads.Pure := by
  intro b _ hm hb
  have hB := bytes_of_wf hb
  refine Ev.rounds ?_
  unfold conclavelaw20_CodecReads.f
  refine Ev.bind (f := fun k r => _) (Read_f b hB (by omega)) ?_
  refine Ev.bind (f := fun k r => _) (rRead_f b hB (by omega)) ?_
  refine Ev.bind (f := fun k r => _) (rmSame_f _ _ _ _ _ _ _ _ _ _ (read_len hB (by omega))) ?_
  simp only [sameOf_self, if_true]
  exact Ev.bind (f := fun k t => some t) cAnchored_f (Ev.now _)
end Go.Proofs.Ytkppklinmcnecaa.Pure
end
section
namespace Go.Proofs.Ytkppklinmcnecaa.codecReads
open Go.ChangeShapes Go.WideShapes Go.ChangeAt Go.RowKit
open Go.ChangeMaps (open_string shut_string)
set_option linter.unusedVariables false
theorem own : ownKnob Try.prog.godebug = none := by kernel_rfl
theorem laidOut : laidOutB Try.prog = true := by kernel_rfl
def IsRow (k : IntKind) (w : World) (a : Option Addr) (len cap : Nat) (zs : List Int) : Prop :=
  (a = none ∧ len = 0 ∧ cap = 0 ∧ zs = []) ∨
  ∃ x, a = some x ∧ len ≤ cap ∧ cap ≤ maxLen ∧ zs.length = cap ∧ (∀ i, i < zs.length → w.cell? (x.add i) = some (.int k (zs.getD i 0))) ∧ ∀ n ∈ zs, (Lit.int k n).wf = true
set_option maxRecDepth 100000 in
theorem lifted (os : Os) (started : os.Started) (H : Type) (enc : TypeId × Value → H) :
    ReturnsInHanded {} Try.checked os 9 .any (Rows.codecReadsSpec.pre6 enc Try.prog Try.f9 Rows.codecReadsRow.domain false) (Rows.codecReadsSpec.post enc Try.prog Try.f9 false true false false) := by
  refine returnsInHanded_of_change_sized (C := Try.checked) own started (by kernel_rfl) Try.func9
    (ChangeSpec.witness6 (enc := enc) (C := Try.checked) false ⟨#[], #[.slice none 0 0], []⟩ 8 (by kernel_rfl) (by kernel_rfl) (by kernel_rfl) (by kernel_rfl)) ?_
  intro W base args ds gs before hval0 hW hcnd hsz0 _
  have hsz : (DataW.weightsEach Try.prog (Try.f9.params.toList ++ Rows.codecReadsSpec.plain.varTypes Try.prog) (ds ++ gs)).all (· ≤ reachBytes) = true := hsz0
  have hval : ∀ (j : Nat) t v, Try.f9.params[j]? = some t → args[j]? = some v → Value.okWide Try.prog W .any base t v := hval0
  have hW' := hW
  obtain ⟨p, q, hA0, hV, rfl, hfz, hnd⟩ := hW
  have hA : DataW.TrodAll enc Try.prog W 0 (fun _ => true) true Try.f9.params.toList args.toList ds p := hA0
  rw [Try.params9] at hA hval hsz
  obtain ⟨v0, vs0, d0, ds0, p0, q0, hargs, rfl, rfl, h0, r0⟩ := trodAll_cons hA
  obtain ⟨rfl, rfl, rfl⟩ := trodAll_nil r0
  obtain rfl : args = #[v0] := by cases args; simp_all
  obtain ⟨rfl, rfl⟩ := trodVars_none hV
  obtain ⟨a0, len0, cap0, rfl⟩ := okWide_slice Try.underlying22 (hval 0 22 v0 rfl rfl)
  have k0 := h0
  have lt0 : ∀ x ∈ p0, x.block < W.heap.size := by obtain ⟨m, hm⟩ := k0; exact DataW.trod_lt m _ _ _ hm
  obtain ⟨z0, w0⟩ : ∃ zs, IsRow .u8 W a0 len0 cap0 zs := by
    obtain ⟨fuel, hf⟩ := h0
    rcases open_ints Try.underlying22 Try.underlying5 (by kernel_rfl) hf with ⟨hcs, _⟩ | ⟨x, l, c, zs, hcs, _, hl, hm, hz, _, hcell, hwz⟩
    · simp [Value.cells] at hcs
      obtain ⟨rfl, rfl, rfl⟩ := hcs
      exact ⟨[], .inl ⟨rfl, rfl, rfl, rfl⟩⟩
    · simp [Value.cells] at hcs
      obtain ⟨rfl, rfl, rfl⟩ := hcs
      exact ⟨zs, .inr ⟨_, rfl, hl, hm, by simpa using hz, hcell, hwz⟩⟩
  have y0 : len0 * 1 ≤ 140737488351232 := Go.Proofs.YtkppklinmcnecaaW.PrintWords.sized_ints hsz (j := 0) (t := 22) rfl rfl Try.underlying22 Try.underlying5 (by kernel_rfl) (by kernel_rfl) h0
  clear hA0 hval0 hsz0 hsz
  refine (P.conclavelaw20_CodecReads.walk Pure.CodecReads a0 len0 cap0 z0 W w0 y0).mono fun e W' ⟨he, bel⟩ => ?_
  subst he
  exact ⟨_, rfl, _, _, _, [], _, [], hW', trodAll_mk1 (shut_bool Try.underlying4 _), (trodAll_cons_mk (Below.trod laidOut (by kernel_rfl) (of_decide_eq_true (by kernel_rfl)) k0 bel lt0) trodAll_mk0), rfl, bel.frame _, fun h => by cases h⟩
theorem over : Rows.codecReadsRow.holds Try.pinned (OpenSpec.ofChange Rows.codecReadsSpec) :=
  OpenClaim.holds_of_wide 9 Try.f9 rfl rfl rfl rfl rfl rfl rfl ⟨rfl, rfl, rfl, rfl, rfl⟩ rfl rfl rfl rfl rfl (by kernel_rfl) Try.func9 (by kernel_rfl)
    (of_decide_eq_true (by kernel_rfl)) (by unfold Func.isWrapper; first | (rw [if_pos (by decide +kernel)]; kernel_rfl) | (rw [if_neg (by decide +kernel)]; exact ⟨rfl, rfl⟩))
    (fun os started H enc _ => lifted os started H enc)
theorem proved : Rows.CodecReadsSaid := over
end Go.Proofs.Ytkppklinmcnecaa.codecReads
namespace Go.Proofs.Ytkppklinmcnecaa
theorem codecReads_holds : Rows.CodecReadsSaid := codecReads.proved
end Go.Proofs.Ytkppklinmcnecaa
end
