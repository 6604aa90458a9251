import Derived.Test.YtdafolenaibccaaSInterpChainZ
import Derived.Test.YtdafolenaibccaaSInterpChain18
section
namespace Go.Proofs.Ytdafolenaibccaa.P
open Go.RowKit Go.Proofs.YtdafolenaibccaaW.PrintWords Go.Proofs.YtdafolenaibccaaW.PrintLast Go.Proofs.YtdafolenaibccaaW.PrintMore
attribute [local go_sem] max2_int min2_int max_two min_two max_three min_three max_four min_four
set_option linter.unusedVariables false
set_option linter.unusedSimpArgs false
def field_Mul.f (k : Nat) (a0 : Int) (a1 : Int) (a2 : Int) : Option (Int × Int) := (field_asked.f k a0 (([a1, a2] : List Int))).bind fun bt132 => (if bt132.2.2 = 0 then ((field_reckoner_mul.f bt132.1 bt132.2.1 a1 a2).bind fun t136 => (some (t136, 0))) else (some (0, bt132.2.2)))
theorem field_Mul.mono : ∀ a0 a1 a2 k, LeO (field_Mul.f k a0 a1 a2) (field_Mul.f (k + 1) a0 a1 a2) := by
 intro a0 a1 a2 k; unfold field_Mul.f; repeat' first
   | (with_reducible exact field_asked.mono _ _ _)
   | (with_reducible exact LeO.refl _)
   | (with_reducible exact LeO.none _)
   | (with_reducible refine LeO.ite ?_ ?_)
   | (with_reducible refine LeO.bind ?_ (fun _ => ?_))
   | exact field_asked.mono _ _ _
   | exact LeO.none _
   | refine LeO.ite ?_ ?_
   | refine LeO.bind ?_ (fun _ => ?_)
set_option maxHeartbeats 8000000 in
set_option maxRecDepth 100000 in
theorem field_Mul.calls (k : Nat) (a0 : Int) (a1 : Int) (a2 : Int) (r1 : Int) (r2 : Int) (w : World) (h : field_Mul.f k a0 a1 a2 = some (r1, r2)) :
  Calls Try.prog 60 #[.int .u8 a0, .int .u64 a1, .int .u64 a2] w fun e w' => e = .returned (.tuple #[.int .u64 r1, .int .i64 r2]) ∧ Below w.heap.size w w' := by
 have hu78 := Try.underlying78; have HB := am (Below.refl w.heap.size w); have H : ((field_asked.f k a0 (([a1, a2] : List Int))).bind fun bt132 => (if bt132.2.2 = 0 then ((field_reckoner_mul.f bt132.1 bt132.2.1 a1 a2).bind fun t136 => (some (t136, 0))) else (some (0, bt132.2.2)))) = some (r1, r2) := h; clear h; obtain ⟨y129, hy129⟩ : ∃ y_ : List Int, y_ = (([a1, a2] : List Int)) := ⟨_, rfl⟩; replace H : ((field_asked.f k a0 y129).bind fun bt132 => (if bt132.2.2 = 0 then ((field_reckoner_mul.f bt132.1 bt132.2.1 a1 a2).bind fun t136 => (some (t136, 0))) else (some (0, bt132.2.2)))) = some (r1, r2) := by first | (rw [hy129]; with_reducible exact H) | (have H2_ := (Option.bind_some _ _).symm.trans H; rw [hy129]; with_reducible exact H2_) | (have H2_ := (Option.bind_some _ _).symm.trans H; with_reducible exact H2_) | with_reducible exact H | (rw [hy129]; exact H) | exact H
 have Ny129 := am hy129; clear hy129; replace H := Option.bind_eq_some_iff.mp H; obtain ⟨⟨t132, t133, t134⟩, A40, H⟩ := H; replace H : (if t134 = 0 then ((field_reckoner_mul.f t132 t133 a1 a2).bind fun t136 => (some (t136, 0))) else (some (0, t134))) = some (r1, r2) := H; have A4 := am A40; clear A40; by_cases c5 : t134 = 0
 ·rw [if_pos c5] at H; have c5b0 : (t134 == 0) = true := beq_iff_eq.mpr c5; have c5b1 : (t134 != 0) = false := bne_eq_false_iff_eq.mpr c5; clear c5; replace H := Option.bind_eq_some_iff.mp H; obtain ⟨t136, A60, H⟩ := H; replace H : (some (t136, 0)) = some (r1, r2) := H; have A6 := am A60; clear A60; simp only [Option.some.injEq, Prod.mk.injEq] at H; obtain ⟨rfl, rfl⟩ := H; go_enter Try.func60, Try.ntmps60
  go_wp2_with (first | ((with_reducible refine gate_dst (N := 14) rfl ?_); refine Kd.R_lit (Kd.int .u64) _ 24 ?hg (N := 14) ?hd (xs := ([a1, a2] : List Int)) (inner := [.int .u64 a1, .int .u64 a2]) (ok := fun _ => True) (okp := fun _ => True) ?hr ?hp (fun _ hk => hk) trivial (Below.refl _ _) (Nat.le_refl _) (by simp) ?_; (case hd => rfl); (case hg => rfl); (case hr => first | (go_simp; done) | (go_simp; rfl)); (case hp => exact (Reps.one (show Kd.M (Kd.int .u64) _ _ _ a1 [.int .u64 a1] from rfl) (Reps.one (show Kd.M (Kd.int .u64) _ _ _ a2 [.int .u64 a2] from rfl) (Reps.none _ _)))); intro v130 w7 ho8 hb hg_ hnew_; clear hg_ hnew_; (first | rw [← Ny129.out] at ho8 | (simp only [Int.reduceToNat] at ho8; rw [← Ny129.out] at ho8)); have HO131 := am (Kd.R_lower ho8 (below_size Z1)); replace HB := am (below_step Z1 hb); clear hb ho8; obtain ⟨Ao9, co9, eo9⟩ := Kd.R_slice HO131.out; subst eo9) | ((with_reducible refine gate_callee (f := 52) rfl ?_); refine goesL_ (some 15) rfl rfl Try.func52 Z12 rfl #[.int .u8 a0, .slice Ao9 y129.length co9] rfl Z2 ?_; (with_reducible refine (field_asked.calls k a0 _ _ y129 t132 t133 t134 _ ?side1 ?side2 A4.out).mono ?_); (case side1 => repeat (first | exact (Kd.R_reads' HO131.out).2.2 | (with_reducible refine Kd.C_alloc ?_ _) | (with_reducible refine Kd.C_drewN ?_ _) | (with_reducible refine Kd.C_drew ?_))); (case side2 => exact (Kd.R_reads' HO131.out).2.1); rintro e w10 ⟨rfl, hb⟩; refine ⟨_, rfl, ?_⟩; replace HO131 := am (Kd.R_below Z72 hb); replace HB := am (below_step Z1 hb); (try clear hb)) | ((with_reducible refine gate_dst (N := 8) rfl ?_); refine box_event ?hg (N := 8) ?hd (cs := #[.int .u64 0, .bool false]) (t := 78) ?hr ?_; (case hd => rfl); (case hg => rfl); (case hr => first | (go_simp; done) | (go_simp; rfl)); intro gb135 hg w11 hbox hb; replace HO131 := am (Kd.R_below Z72 hb); have BK135 := am (hbox); have GW135 := am ((Z57 : w.heap.size ≤ gb135)); have GE135 := am ((Z57 : w.heap.size ≤ gb135)); replace HB := am (below_step Z1 hb); clear hb hbox hg; have hcz12_0 : w11.cell? ⟨gb135, 0, none⟩ = some (.int .u64 0) := (blk_cell BK135.out 0).trans rfl; have hcz12_1 : w11.cell? ⟨gb135, 1, none⟩ = some (.bool false) := (blk_cell BK135.out 1).trans rfl; have hfz12_0 := blk_frozen BK135.out 0; have hfz12_1 := blk_frozen BK135.out 1) | ((with_reducible refine gate_callee (f := 55) rfl ?_); refine goesL_ (some 24) rfl rfl Try.func55 Z12 rfl #[.agg #[.int .u64 t132, .bool t133], .int .u64 a1, .int .u64 a2] rfl Z2 ?_; (with_reducible refine (field_reckoner_mul.calls t132 t133 a1 a2 t136 _ A6.out).mono ?_); rintro e w13 ⟨rfl, hb⟩; refine ⟨_, rfl, ?_⟩; replace HO131 := am (Kd.R_below (by (with_reducible repeat (first | apply Kd.R_alloc | apply Kd.R_drewN | apply Kd.R_drew)); exact (Kd.R_mono (Kd.R_far (p := ⟨gb135, 1, none⟩) (Kd.R_far (p := ⟨gb135, 0, none⟩) (Kd.R_types HO131.out BK135.out Z101) (fun _ hk => hk.2) (.int .u64 t132)) (fun _ hk => hk.2) (.bool t133)) (fun _ h_ => h_.1))) hb); replace BK135 := am (blk_below (g := gb135) (o := .cells #[.int .u64 t132, .bool t133] 78 (0, 0)) (by (with_reducible repeat (first | refine blk_drewN ?_ _ | refine blk_drew ?_ | refine blk_alloc ?_ _)); refine blk_put (cs := #[.int .u64 t132, .bool false]) ?_ 1 _ rfl; (with_reducible repeat (first | refine blk_drewN ?_ _ | refine blk_drew ?_ | refine blk_alloc ?_ _)); refine blk_put (cs := #[.int .u64 0, .bool false]) ?_ 0 _ rfl; (with_reducible repeat (first | refine blk_drewN ?_ _ | refine blk_drew ?_ | refine blk_alloc ?_ _)); exact BK135.out) hb); replace HB := am (below_step Z67 hb); (try clear hb); (try clear hk)))
  go_ret2; exact ⟨Z5, Z67⟩
 ·rw [if_neg c5] at H; have c5b0 : (t134 == 0) = false := beq_eq_false_iff_ne.mpr c5; have c5b1 : (t134 != 0) = true := bne_iff_ne.mpr c5; simp only [Option.some.injEq, Prod.mk.injEq] at H; obtain ⟨rfl, rfl⟩ := H; go_enter Try.func60, Try.ntmps60
  go_wp2_with (first | ((with_reducible refine gate_dst (N := 14) rfl ?_); refine Kd.R_lit (Kd.int .u64) _ 24 ?hg (N := 14) ?hd (xs := ([a1, a2] : List Int)) (inner := [.int .u64 a1, .int .u64 a2]) (ok := fun _ => True) (okp := fun _ => True) ?hr ?hp (fun _ hk => hk) trivial (Below.refl _ _) (Nat.le_refl _) (by simp) ?_; (case hd => rfl); (case hg => rfl); (case hr => first | (go_simp; done) | (go_simp; rfl)); (case hp => exact (Reps.one (show Kd.M (Kd.int .u64) _ _ _ a1 [.int .u64 a1] from rfl) (Reps.one (show Kd.M (Kd.int .u64) _ _ _ a2 [.int .u64 a2] from rfl) (Reps.none _ _)))); intro v130 w14 ho15 hb hg_ hnew_; clear hg_ hnew_; (first | rw [← Ny129.out] at ho15 | (simp only [Int.reduceToNat] at ho15; rw [← Ny129.out] at ho15)); have HO131 := am (Kd.R_lower ho15 (below_size Z1)); replace HB := am (below_step Z1 hb); clear hb ho15; obtain ⟨Ao16, co16, eo16⟩ := Kd.R_slice HO131.out; subst eo16) | ((with_reducible refine gate_callee (f := 52) rfl ?_); refine goesL_ (some 15) rfl rfl Try.func52 Z12 rfl #[.int .u8 a0, .slice Ao16 y129.length co16] rfl Z2 ?_; (with_reducible refine (field_asked.calls k a0 _ _ y129 t132 t133 t134 _ ?side1 ?side2 A4.out).mono ?_); (case side1 => repeat (first | exact (Kd.R_reads' HO131.out).2.2 | (with_reducible refine Kd.C_alloc ?_ _) | (with_reducible refine Kd.C_drewN ?_ _) | (with_reducible refine Kd.C_drew ?_))); (case side2 => exact (Kd.R_reads' HO131.out).2.1); rintro e w17 ⟨rfl, hb⟩; refine ⟨_, rfl, ?_⟩; replace HO131 := am (Kd.R_below Z72 hb); replace HB := am (below_step Z1 hb); (try clear hb)) | ((with_reducible refine gate_dst (N := 8) rfl ?_); refine box_event ?hg (N := 8) ?hd (cs := #[.int .u64 0, .bool false]) (t := 78) ?hr ?_; (case hd => rfl); (case hg => rfl); (case hr => first | (go_simp; done) | (go_simp; rfl)); intro gb135 hg w18 hbox hb; replace HO131 := am (Kd.R_below Z72 hb); have BK135 := am (hbox); have GW135 := am ((Z57 : w.heap.size ≤ gb135)); have GE135 := am ((Z57 : w.heap.size ≤ gb135)); replace HB := am (below_step Z1 hb); clear hb hbox hg; have hcz19_0 : w18.cell? ⟨gb135, 0, none⟩ = some (.int .u64 0) := (blk_cell BK135.out 0).trans rfl; have hcz19_1 : w18.cell? ⟨gb135, 1, none⟩ = some (.bool false) := (blk_cell BK135.out 1).trans rfl; have hfz19_0 := blk_frozen BK135.out 0; have hfz19_1 := blk_frozen BK135.out 1))
  go_ret2; exact ⟨Z5, Z67⟩
def interp_reckoner_mul.f (k : Nat) (a0_0 : Int) (a1 : Int) (a2 : Int) : Option (Int) := (field_Mul.f k a0_0 a1 a2).bind fun bt138 => (some bt138.1)
theorem interp_reckoner_mul.mono : ∀ a0 a1 a2 k, LeO (interp_reckoner_mul.f k a0 a1 a2) (interp_reckoner_mul.f (k + 1) a0 a1 a2) := by
 intro a0 a1 a2 k; unfold interp_reckoner_mul.f; repeat' first
   | (with_reducible exact field_Mul.mono _ _ _ _)
   | (with_reducible exact LeO.refl _)
   | (with_reducible exact LeO.none _)
   | (with_reducible refine LeO.ite ?_ ?_)
   | (with_reducible refine LeO.bind ?_ (fun _ => ?_))
   | exact field_Mul.mono _ _ _ _
   | exact LeO.none _
   | refine LeO.ite ?_ ?_
   | refine LeO.bind ?_ (fun _ => ?_)
set_option maxHeartbeats 8000000 in
set_option maxRecDepth 100000 in
theorem interp_reckoner_mul.calls (k : Nat) (a0_0 : Int) (a1 : Int) (a2 : Int) (r : Int) (w : World) (h : interp_reckoner_mul.f k a0_0 a1 a2 = some r) :
  Calls Try.prog 42 #[.agg #[.int .u8 a0_0], .int .u64 a1, .int .u64 a2] w fun e w' => e = .returned (.int .u64 r) ∧ Below w.heap.size w w' := by
 have hu68 := Try.underlying68; have HB := am (Below.refl w.heap.size w); have H : ((field_Mul.f k a0_0 a1 a2).bind fun bt138 => (some bt138.1)) = some r := h; clear h; replace H := Option.bind_eq_some_iff.mp H; obtain ⟨⟨t138, t139⟩, A40, H⟩ := H; replace H : (some t138) = some r := H; have A4 := am A40; clear A40; obtain rfl := Option.some.inj H; go_enter Try.func42, Try.ntmps42
 go_wp2_with (first | ((with_reducible refine gate_dst (N := 3) rfl ?_); refine box_event ?hg (N := 3) ?hd (cs := #[.int .u8 a0_0]) (t := 68) ?hr ?_; (case hd => rfl); (case hg => rfl); (case hr => first | (go_simp; done) | (go_simp; rfl)); intro gb137 hg w5 hbox hb; have BK137 := am (hbox); have GW137 := am ((Z57 : w.heap.size ≤ gb137)); have GE137 := am ((Z57 : w.heap.size ≤ gb137)); replace HB := am (below_step Z1 hb); clear hb hbox hg; have hcz6_0 : w5.cell? ⟨gb137, 0, none⟩ = some (.int .u8 a0_0) := (blk_cell BK137.out 0).trans rfl; have hfz6_0 := blk_frozen BK137.out 0) | ((with_reducible refine gate_callee (f := 60) rfl ?_); refine goesL_ (some 14) rfl rfl Try.func60 Z12 rfl #[.int .u8 a0_0, .int .u64 a1, .int .u64 a2] rfl Z2 ?_; (with_reducible refine (field_Mul.calls k a0_0 a1 a2 t138 t139 _ A4.out).mono ?_); rintro e w7 ⟨rfl, hb⟩; refine ⟨_, rfl, ?_⟩; replace BK137 := am (blk_below (g := gb137) (o := .cells #[.int .u8 a0_0] 68 (0, 0)) (by (with_reducible repeat (first | refine blk_drewN ?_ _ | refine blk_drew ?_ | refine blk_alloc ?_ _)); exact BK137.out) hb); replace HB := am (below_step Z94 hb); (try clear hb)))
 go_ret; exact ⟨Z5, Z94⟩
def field_Sub.f (k : Nat) (a0 : Int) (a1 : Int) (a2 : Int) : Option (Int × Int) := (field_asked.f k a0 (([a1, a2] : List Int))).bind fun bt143 => (if bt143.2.2 = 0 then ((field_reckoner_sub.f bt143.1 bt143.2.1 a1 a2).bind fun t147 => (some (t147, 0))) else (some (0, bt143.2.2)))
theorem field_Sub.mono : ∀ a0 a1 a2 k, LeO (field_Sub.f k a0 a1 a2) (field_Sub.f (k + 1) a0 a1 a2) := by
 intro a0 a1 a2 k; unfold field_Sub.f; repeat' first
   | (with_reducible exact field_asked.mono _ _ _)
   | (with_reducible exact LeO.refl _)
   | (with_reducible exact LeO.none _)
   | (with_reducible refine LeO.ite ?_ ?_)
   | (with_reducible refine LeO.bind ?_ (fun _ => ?_))
   | exact field_asked.mono _ _ _
   | exact LeO.none _
   | refine LeO.ite ?_ ?_
   | refine LeO.bind ?_ (fun _ => ?_)
set_option maxHeartbeats 8000000 in
set_option maxRecDepth 100000 in
theorem field_Sub.calls (k : Nat) (a0 : Int) (a1 : Int) (a2 : Int) (r1 : Int) (r2 : Int) (w : World) (h : field_Sub.f k a0 a1 a2 = some (r1, r2)) :
  Calls Try.prog 74 #[.int .u8 a0, .int .u64 a1, .int .u64 a2] w fun e w' => e = .returned (.tuple #[.int .u64 r1, .int .i64 r2]) ∧ Below w.heap.size w w' := by
 have hu78 := Try.underlying78; have HB := am (Below.refl w.heap.size w); have H : ((field_asked.f k a0 (([a1, a2] : List Int))).bind fun bt143 => (if bt143.2.2 = 0 then ((field_reckoner_sub.f bt143.1 bt143.2.1 a1 a2).bind fun t147 => (some (t147, 0))) else (some (0, bt143.2.2)))) = some (r1, r2) := h; clear h; obtain ⟨y140, hy140⟩ : ∃ y_ : List Int, y_ = (([a1, a2] : List Int)) := ⟨_, rfl⟩; replace H : ((field_asked.f k a0 y140).bind fun bt143 => (if bt143.2.2 = 0 then ((field_reckoner_sub.f bt143.1 bt143.2.1 a1 a2).bind fun t147 => (some (t147, 0))) else (some (0, bt143.2.2)))) = some (r1, r2) := by first | (rw [hy140]; with_reducible exact H) | (have H2_ := (Option.bind_some _ _).symm.trans H; rw [hy140]; with_reducible exact H2_) | (have H2_ := (Option.bind_some _ _).symm.trans H; with_reducible exact H2_) | with_reducible exact H | (rw [hy140]; exact H) | exact H
 have Ny140 := am hy140; clear hy140; replace H := Option.bind_eq_some_iff.mp H; obtain ⟨⟨t143, t144, t145⟩, A40, H⟩ := H; replace H : (if t145 = 0 then ((field_reckoner_sub.f t143 t144 a1 a2).bind fun t147 => (some (t147, 0))) else (some (0, t145))) = some (r1, r2) := H; have A4 := am A40; clear A40; by_cases c5 : t145 = 0
 ·rw [if_pos c5] at H; have c5b0 : (t145 == 0) = true := beq_iff_eq.mpr c5; have c5b1 : (t145 != 0) = false := bne_eq_false_iff_eq.mpr c5; clear c5; replace H := Option.bind_eq_some_iff.mp H; obtain ⟨t147, A60, H⟩ := H; replace H : (some (t147, 0)) = some (r1, r2) := H; have A6 := am A60; clear A60; simp only [Option.some.injEq, Prod.mk.injEq] at H; obtain ⟨rfl, rfl⟩ := H; go_enter Try.func74, Try.ntmps74
  go_wp2_with (first | ((with_reducible refine gate_dst (N := 14) rfl ?_); refine Kd.R_lit (Kd.int .u64) _ 24 ?hg (N := 14) ?hd (xs := ([a1, a2] : List Int)) (inner := [.int .u64 a1, .int .u64 a2]) (ok := fun _ => True) (okp := fun _ => True) ?hr ?hp (fun _ hk => hk) trivial (Below.refl _ _) (Nat.le_refl _) (by simp) ?_; (case hd => rfl); (case hg => rfl); (case hr => first | (go_simp; done) | (go_simp; rfl)); (case hp => exact (Reps.one (show Kd.M (Kd.int .u64) _ _ _ a1 [.int .u64 a1] from rfl) (Reps.one (show Kd.M (Kd.int .u64) _ _ _ a2 [.int .u64 a2] from rfl) (Reps.none _ _)))); intro v141 w7 ho8 hb hg_ hnew_; clear hg_ hnew_; (first | rw [← Ny140.out] at ho8 | (simp only [Int.reduceToNat] at ho8; rw [← Ny140.out] at ho8)); have HO142 := am (Kd.R_lower ho8 (below_size Z1)); replace HB := am (below_step Z1 hb); clear hb ho8; obtain ⟨Ao9, co9, eo9⟩ := Kd.R_slice HO142.out; subst eo9) | ((with_reducible refine gate_callee (f := 52) rfl ?_); refine goesL_ (some 15) rfl rfl Try.func52 Z12 rfl #[.int .u8 a0, .slice Ao9 y140.length co9] rfl Z2 ?_; (with_reducible refine (field_asked.calls k a0 _ _ y140 t143 t144 t145 _ ?side1 ?side2 A4.out).mono ?_); (case side1 => repeat (first | exact (Kd.R_reads' HO142.out).2.2 | (with_reducible refine Kd.C_alloc ?_ _) | (with_reducible refine Kd.C_drewN ?_ _) | (with_reducible refine Kd.C_drew ?_))); (case side2 => exact (Kd.R_reads' HO142.out).2.1); rintro e w10 ⟨rfl, hb⟩; refine ⟨_, rfl, ?_⟩; replace HO142 := am (Kd.R_below Z71 hb); replace HB := am (below_step Z1 hb); (try clear hb)) | ((with_reducible refine gate_dst (N := 8) rfl ?_); refine box_event ?hg (N := 8) ?hd (cs := #[.int .u64 0, .bool false]) (t := 78) ?hr ?_; (case hd => rfl); (case hg => rfl); (case hr => first | (go_simp; done) | (go_simp; rfl)); intro gb146 hg w11 hbox hb; replace HO142 := am (Kd.R_below Z71 hb); have BK146 := am (hbox); have GW146 := am ((Z57 : w.heap.size ≤ gb146)); have GE146 := am ((Z57 : w.heap.size ≤ gb146)); replace HB := am (below_step Z1 hb); clear hb hbox hg; have hcz12_0 : w11.cell? ⟨gb146, 0, none⟩ = some (.int .u64 0) := (blk_cell BK146.out 0).trans rfl; have hcz12_1 : w11.cell? ⟨gb146, 1, none⟩ = some (.bool false) := (blk_cell BK146.out 1).trans rfl; have hfz12_0 := blk_frozen BK146.out 0; have hfz12_1 := blk_frozen BK146.out 1) | ((with_reducible refine gate_callee (f := 73) rfl ?_); refine goesL_ (some 24) rfl rfl Try.func73 Z12 rfl #[.agg #[.int .u64 t143, .bool t144], .int .u64 a1, .int .u64 a2] rfl Z2 ?_; (with_reducible refine (field_reckoner_sub.calls t143 t144 a1 a2 t147 _ A6.out).mono ?_); rintro e w13 ⟨rfl, hb⟩; refine ⟨_, rfl, ?_⟩; replace HO142 := am (Kd.R_below (by (with_reducible repeat (first | apply Kd.R_alloc | apply Kd.R_drewN | apply Kd.R_drew)); exact (Kd.R_mono (Kd.R_far (p := ⟨gb146, 1, none⟩) (Kd.R_far (p := ⟨gb146, 0, none⟩) (Kd.R_types HO142.out BK146.out Z101) (fun _ hk => hk.2) (.int .u64 t143)) (fun _ hk => hk.2) (.bool t144)) (fun _ h_ => h_.1))) hb); replace BK146 := am (blk_below (g := gb146) (o := .cells #[.int .u64 t143, .bool t144] 78 (0, 0)) (by (with_reducible repeat (first | refine blk_drewN ?_ _ | refine blk_drew ?_ | refine blk_alloc ?_ _)); refine blk_put (cs := #[.int .u64 t143, .bool false]) ?_ 1 _ rfl; (with_reducible repeat (first | refine blk_drewN ?_ _ | refine blk_drew ?_ | refine blk_alloc ?_ _)); refine blk_put (cs := #[.int .u64 0, .bool false]) ?_ 0 _ rfl; (with_reducible repeat (first | refine blk_drewN ?_ _ | refine blk_drew ?_ | refine blk_alloc ?_ _)); exact BK146.out) hb); replace HB := am (below_step Z66 hb); (try clear hb); (try clear hk)))
  go_ret2; exact ⟨Z5, Z66⟩
 ·rw [if_neg c5] at H; have c5b0 : (t145 == 0) = false := beq_eq_false_iff_ne.mpr c5; have c5b1 : (t145 != 0) = true := bne_iff_ne.mpr c5; simp only [Option.some.injEq, Prod.mk.injEq] at H; obtain ⟨rfl, rfl⟩ := H; go_enter Try.func74, Try.ntmps74
  go_wp2_with (first | ((with_reducible refine gate_dst (N := 14) rfl ?_); refine Kd.R_lit (Kd.int .u64) _ 24 ?hg (N := 14) ?hd (xs := ([a1, a2] : List Int)) (inner := [.int .u64 a1, .int .u64 a2]) (ok := fun _ => True) (okp := fun _ => True) ?hr ?hp (fun _ hk => hk) trivial (Below.refl _ _) (Nat.le_refl _) (by simp) ?_; (case hd => rfl); (case hg => rfl); (case hr => first | (go_simp; done) | (go_simp; rfl)); (case hp => exact (Reps.one (show Kd.M (Kd.int .u64) _ _ _ a1 [.int .u64 a1] from rfl) (Reps.one (show Kd.M (Kd.int .u64) _ _ _ a2 [.int .u64 a2] from rfl) (Reps.none _ _)))); intro v141 w14 ho15 hb hg_ hnew_; clear hg_ hnew_; (first | rw [← Ny140.out] at ho15 | (simp only [Int.reduceToNat] at ho15; rw [← Ny140.out] at ho15)); have HO142 := am (Kd.R_lower ho15 (below_size Z1)); replace HB := am (below_step Z1 hb); clear hb ho15; obtain ⟨Ao16, co16, eo16⟩ := Kd.R_slice HO142.out; subst eo16) | ((with_reducible refine gate_callee (f := 52) rfl ?_); refine goesL_ (some 15) rfl rfl Try.func52 Z12 rfl #[.int .u8 a0, .slice Ao16 y140.length co16] rfl Z2 ?_; (with_reducible refine (field_asked.calls k a0 _ _ y140 t143 t144 t145 _ ?side1 ?side2 A4.out).mono ?_); (case side1 => repeat (first | exact (Kd.R_reads' HO142.out).2.2 | (with_reducible refine Kd.C_alloc ?_ _) | (with_reducible refine Kd.C_drewN ?_ _) | (with_reducible refine Kd.C_drew ?_))); (case side2 => exact (Kd.R_reads' HO142.out).2.1); rintro e w17 ⟨rfl, hb⟩; refine ⟨_, rfl, ?_⟩; replace HO142 := am (Kd.R_below Z71 hb); replace HB := am (below_step Z1 hb); (try clear hb)) | ((with_reducible refine gate_dst (N := 8) rfl ?_); refine box_event ?hg (N := 8) ?hd (cs := #[.int .u64 0, .bool false]) (t := 78) ?hr ?_; (case hd => rfl); (case hg => rfl); (case hr => first | (go_simp; done) | (go_simp; rfl)); intro gb146 hg w18 hbox hb; replace HO142 := am (Kd.R_below Z71 hb); have BK146 := am (hbox); have GW146 := am ((Z57 : w.heap.size ≤ gb146)); have GE146 := am ((Z57 : w.heap.size ≤ gb146)); replace HB := am (below_step Z1 hb); clear hb hbox hg; have hcz19_0 : w18.cell? ⟨gb146, 0, none⟩ = some (.int .u64 0) := (blk_cell BK146.out 0).trans rfl; have hcz19_1 : w18.cell? ⟨gb146, 1, none⟩ = some (.bool false) := (blk_cell BK146.out 1).trans rfl; have hfz19_0 := blk_frozen BK146.out 0; have hfz19_1 := blk_frozen BK146.out 1))
  go_ret2; exact ⟨Z5, Z66⟩
def interp_reckoner_sub.f (k : Nat) (a0_0 : Int) (a1 : Int) (a2 : Int) : Option (Int) := (field_Sub.f k a0_0 a1 a2).bind fun bt149 => (some bt149.1)
theorem interp_reckoner_sub.mono : ∀ a0 a1 a2 k, LeO (interp_reckoner_sub.f k a0 a1 a2) (interp_reckoner_sub.f (k + 1) a0 a1 a2) := by
 intro a0 a1 a2 k; unfold interp_reckoner_sub.f; repeat' first
   | (with_reducible exact field_Sub.mono _ _ _ _)
   | (with_reducible exact LeO.refl _)
   | (with_reducible exact LeO.none _)
   | (with_reducible refine LeO.ite ?_ ?_)
   | (with_reducible refine LeO.bind ?_ (fun _ => ?_))
   | exact field_Sub.mono _ _ _ _
   | exact LeO.none _
   | refine LeO.ite ?_ ?_
   | refine LeO.bind ?_ (fun _ => ?_)
set_option maxHeartbeats 8000000 in
set_option maxRecDepth 100000 in
theorem interp_reckoner_sub.calls (k : Nat) (a0_0 : Int) (a1 : Int) (a2 : Int) (r : Int) (w : World) (h : interp_reckoner_sub.f k a0_0 a1 a2 = some r) :
  Calls Try.prog 56 #[.agg #[.int .u8 a0_0], .int .u64 a1, .int .u64 a2] w fun e w' => e = .returned (.int .u64 r) ∧ Below w.heap.size w w' := by
 have hu68 := Try.underlying68; have HB := am (Below.refl w.heap.size w); have H : ((field_Sub.f k a0_0 a1 a2).bind fun bt149 => (some bt149.1)) = some r := h; clear h; replace H := Option.bind_eq_some_iff.mp H; obtain ⟨⟨t149, t150⟩, A40, H⟩ := H; replace H : (some t149) = some r := H; have A4 := am A40; clear A40; obtain rfl := Option.some.inj H; go_enter Try.func56, Try.ntmps56
 go_wp2_with (first | ((with_reducible refine gate_dst (N := 3) rfl ?_); refine box_event ?hg (N := 3) ?hd (cs := #[.int .u8 a0_0]) (t := 68) ?hr ?_; (case hd => rfl); (case hg => rfl); (case hr => first | (go_simp; done) | (go_simp; rfl)); intro gb148 hg w5 hbox hb; have BK148 := am (hbox); have GW148 := am ((Z57 : w.heap.size ≤ gb148)); have GE148 := am ((Z57 : w.heap.size ≤ gb148)); replace HB := am (below_step Z1 hb); clear hb hbox hg; have hcz6_0 : w5.cell? ⟨gb148, 0, none⟩ = some (.int .u8 a0_0) := (blk_cell BK148.out 0).trans rfl; have hfz6_0 := blk_frozen BK148.out 0) | ((with_reducible refine gate_callee (f := 74) rfl ?_); refine goesL_ (some 14) rfl rfl Try.func74 Z12 rfl #[.int .u8 a0_0, .int .u64 a1, .int .u64 a2] rfl Z2 ?_; (with_reducible refine (field_Sub.calls k a0_0 a1 a2 t149 t150 _ A4.out).mono ?_); rintro e w7 ⟨rfl, hb⟩; refine ⟨_, rfl, ?_⟩; replace BK148 := am (blk_below (g := gb148) (o := .cells #[.int .u8 a0_0] 68 (0, 0)) (by (with_reducible repeat (first | refine blk_drewN ?_ _ | refine blk_drew ?_ | refine blk_alloc ?_ _)); exact BK148.out) hb); replace HB := am (below_step Z93 hb); (try clear hb)))
 go_ret; exact ⟨Z5, Z93⟩
def field_reckoner_pow.l0 : Nat → Int → Int → Int → Int → Bool → Option (Int)
 | 0, _, _, _, _, _ => none
 | k + 1, x1, x2, x7, x152000, x152001 => if x2 > 0 then (if (Go.bits .and .u64 x2 1) = 1 then ((field_reckoner_mul.f x152000 x152001 x7 x1).bind fun t152 => ((field_reckoner_mul.f x152000 x152001 x1 x1).bind fun t153 => (field_reckoner_pow.l0 k t153 (x2 / 2) t152 x152000 x152001))) else ((field_reckoner_mul.f x152000 x152001 x1 x1).bind fun t154 => (field_reckoner_pow.l0 k t154 (x2 / 2) x7 x152000 x152001))) else (some x7)
def field_reckoner_pow.f (k : Nat) (a0_0 : Int) (a0_1 : Bool) (a1 : Int) (a2 : Int) : Option (Int) := field_reckoner_pow.l0 k a1 a2 1 a0_0 a0_1
theorem field_reckoner_pow.mono_l : ∀ k, (∀ y0 y1 y2 y3 y4, LeO (field_reckoner_pow.l0 k y0 y1 y2 y3 y4) (field_reckoner_pow.l0 (k + 1) y0 y1 y2 y3 y4))
 | 0 => fun _ _ _ _ _ r h => by simp [field_reckoner_pow.l0] at h
 | k + 1 => by
  have ih0 := field_reckoner_pow.mono_l k
  ·intro y0 y1 y2 y3 y4; unfold field_reckoner_pow.l0; repeat' first
   | (with_reducible exact ih0 _ _ _ _ _)
   | (with_reducible exact LeO.refl _)
   | (with_reducible exact LeO.none _)
   | (with_reducible refine LeO.ite ?_ ?_)
   | (with_reducible refine LeO.bind ?_ (fun _ => ?_))
   | exact ih0 _ _ _ _ _
   | exact LeO.none _
   | refine LeO.ite ?_ ?_
   | refine LeO.bind ?_ (fun _ => ?_)
theorem field_reckoner_pow.mono : ∀ a0 a1 a2 a3 k, LeO (field_reckoner_pow.f k a0 a1 a2 a3) (field_reckoner_pow.f (k + 1) a0 a1 a2 a3) := by
 intro a0 a1 a2 a3 k; have ih0 := field_reckoner_pow.mono_l k; unfold field_reckoner_pow.f; repeat' first
   | (with_reducible exact ih0 _ _ _ _ _)
   | (with_reducible exact LeO.refl _)
   | (with_reducible exact LeO.none _)
   | (with_reducible refine LeO.ite ?_ ?_)
   | (with_reducible refine LeO.bind ?_ (fun _ => ?_))
   | exact ih0 _ _ _ _ _
   | exact LeO.none _
   | refine LeO.ite ?_ ?_
   | refine LeO.bind ?_ (fun _ => ?_)
set_option maxHeartbeats 8000000 in
set_option maxRecDepth 100000 in
theorem field_reckoner_pow.calls (k : Nat) (a0_0 : Int) (a0_1 : Bool) (a1 : Int) (a2 : Int) (r : Int) (w : World) (h : field_reckoner_pow.f k a0_0 a0_1 a1 a2 = some r) :
  Calls Try.prog 80 #[.agg #[.int .u64 a0_0, .bool a0_1], .int .u64 a1, .int .u64 a2] w fun e w' => e = .returned (.int .u64 r) ∧ Below w.heap.size w w' := by
 have hu78 := Try.underlying78; have HB := am (Below.refl w.heap.size w); have H : (field_reckoner_pow.l0 k a1 a2 1 a0_0 a0_1) = some r := h; clear h; have H' := am H; clear H; go_enter Try.func80, Try.ntmps80
 go_wp2_with (first | ((with_reducible refine gate_dst (N := 3) rfl ?_); refine box_event ?hg (N := 3) ?hd (cs := #[.int .u64 a0_0, .bool a0_1]) (t := 78) ?hr ?_; (case hd => rfl); (case hg => rfl); (case hr => first | (go_simp; done) | (go_simp; rfl)); intro gb151 hg w4 hbox hb; have BK151 := am (hbox); have GW151 := am ((Z57 : w.heap.size ≤ gb151)); have GE151 := am ((Z57 : w.heap.size ≤ gb151)); replace HB := am (below_step Z1 hb); clear hb hbox hg))
 go_loopg [1, 2, 7] k (fun kq v1 v2 v7 w' => ∃ (x1_1 : Int) (x2_1 : Int) (x7_1 : Int), v1 = .int .u64 x1_1 ∧ v2 = .int .u64 x2_1 ∧ v7 = .int .u64 x7_1 ∧ Aside0 (field_reckoner_pow.l0 kq x1_1 x2_1 x7_1 a0_0 a0_1 = some r) ∧ Aside0 (kq ≤ k) ∧ Aside0 (w'.heap[gb151]? = some (.cells #[.int .u64 a0_0, .bool a0_1] 78 (0, 0))) ∧ Aside0 (Below w.heap.size w w'))
 case atStart => exact ⟨(a1), (a2), (1), Z7, Z7, Z7, H', ⟨Nat.le_refl _⟩, ⟨Z52⟩, ⟨Z31⟩⟩
 case round =>
  clear H'; (try clear p2); obtain ⟨x1_1, x2_1, x7_1, rfl, rfl, rfl, HA, HK1, BK151, HB⟩ := hrel; cases gk with
  | zero => exact absurd HA.out (by simp [field_reckoner_pow.l0])
  | succ k1 =>
   have H := HA.out; clear HA; simp only [field_reckoner_pow.l0] at H; by_cases c5 : x2_1 > 0
   ·rw [if_pos c5] at H; have c5b0 : decide (0 < x2_1) = true := decide_eq_true c5; clear c5; by_cases c6 : (Go.bits .and .u64 x2_1 1) = 1
    ·rw [if_pos c6] at H; have c6b0 : ((Go.bits .and .u64 x2_1 1) == 1) = true := beq_iff_eq.mpr c6; have c6b1 : ((Go.bits .and .u64 x2_1 1) != 1) = false := bne_eq_false_iff_eq.mpr c6; clear c6; replace H := Option.bind_eq_some_iff.mp H; obtain ⟨t152, A70, H⟩ := H; replace H : ((field_reckoner_mul.f a0_0 a0_1 x1_1 x1_1).bind fun t153 => (field_reckoner_pow.l0 k1 t153 (x2_1 / 2) t152 a0_0 a0_1)) = some r := H; have A7 := am A70; clear A70; replace H := Option.bind_eq_some_iff.mp H; obtain ⟨t153, A80, H⟩ := H; replace H : (field_reckoner_pow.l0 k1 t153 (x2_1 / 2) t152 a0_0 a0_1) = some r := H; have A8 := am A80; clear A80; have H' := am H; clear H; have hcz9_0 : wr.cell? ⟨gb151, 0, none⟩ = some (.int .u64 a0_0) := (blk_cell BK151.out 0).trans rfl; have hcz9_1 : wr.cell? ⟨gb151, 1, none⟩ = some (.bool a0_1) := (blk_cell BK151.out 1).trans rfl; have hfz9_0 := blk_frozen BK151.out 0; have hfz9_1 := blk_frozen BK151.out 1; go_wp2_with (first | ((with_reducible refine gate_callee (f := 55) rfl ?_); refine goesL_ (some 18) rfl rfl Try.func55 Z12 rfl #[.agg #[.int .u64 a0_0, .bool a0_1], .int .u64 x7_1, .int .u64 x1_1] rfl Z2 ?_; (with_reducible refine (field_reckoner_mul.calls a0_0 a0_1 x7_1 x1_1 t152 _ A7.out).mono ?_); rintro e w10 ⟨rfl, hb⟩; refine ⟨_, rfl, ?_⟩; replace BK151 := am (blk_below (g := gb151) (o := .cells #[.int .u64 a0_0, .bool a0_1] 78 (0, 0)) Z52 hb); replace HB := am (below_step Z31 hb); (try clear hb); have hcz11_0 : w10.cell? ⟨gb151, 0, none⟩ = some (.int .u64 a0_0) := (blk_cell BK151.out 0).trans rfl; have hcz11_1 : w10.cell? ⟨gb151, 1, none⟩ = some (.bool a0_1) := (blk_cell BK151.out 1).trans rfl; have hfz11_0 := blk_frozen BK151.out 0; have hfz11_1 := blk_frozen BK151.out 1) | ((with_reducible refine gate_callee (f := 55) rfl ?_); refine goesL_ (some 22) rfl rfl Try.func55 Z12 rfl #[.agg #[.int .u64 a0_0, .bool a0_1], .int .u64 x1_1, .int .u64 x1_1] rfl Z2 ?_; (with_reducible refine (field_reckoner_mul.calls a0_0 a0_1 x1_1 x1_1 t153 _ A8.out).mono ?_); rintro e w12 ⟨rfl, hb⟩; refine ⟨_, rfl, ?_⟩; replace BK151 := am (blk_below (g := gb151) (o := .cells #[.int .u64 a0_0, .bool a0_1] 78 (0, 0)) Z52 hb); replace HB := am (below_step Z31 hb); (try clear hb)))
     go_roundg k1
     case measure => have := HK1.out; omega
     case rel => exact ⟨(t153), (x2_1 / 2), (t152), Z7, Z7, Z7, H', ⟨Z75⟩, ⟨Z52⟩, ⟨Z31⟩⟩
    ·rw [if_neg c6] at H; have c6b0 : ((Go.bits .and .u64 x2_1 1) == 1) = false := beq_eq_false_iff_ne.mpr c6; have c6b1 : ((Go.bits .and .u64 x2_1 1) != 1) = true := bne_iff_ne.mpr c6; replace H := Option.bind_eq_some_iff.mp H; obtain ⟨t154, A130, H⟩ := H; replace H : (field_reckoner_pow.l0 k1 t154 (x2_1 / 2) x7_1 a0_0 a0_1) = some r := H; have A13 := am A130; clear A130; have H' := am H; clear H; have hcz14_0 : wr.cell? ⟨gb151, 0, none⟩ = some (.int .u64 a0_0) := (blk_cell BK151.out 0).trans rfl; have hcz14_1 : wr.cell? ⟨gb151, 1, none⟩ = some (.bool a0_1) := (blk_cell BK151.out 1).trans rfl; have hfz14_0 := blk_frozen BK151.out 0; have hfz14_1 := blk_frozen BK151.out 1; go_wp2_with (first | ((with_reducible refine gate_callee (f := 55) rfl ?_); refine goesL_ (some 22) rfl rfl Try.func55 Z12 rfl #[.agg #[.int .u64 a0_0, .bool a0_1], .int .u64 x1_1, .int .u64 x1_1] rfl Z2 ?_; (with_reducible refine (field_reckoner_mul.calls a0_0 a0_1 x1_1 x1_1 t154 _ A13.out).mono ?_); rintro e w15 ⟨rfl, hb⟩; refine ⟨_, rfl, ?_⟩; replace BK151 := am (blk_below (g := gb151) (o := .cells #[.int .u64 a0_0, .bool a0_1] 78 (0, 0)) Z52 hb); replace HB := am (below_step Z31 hb); (try clear hb)))
     go_roundg k1
     case measure => have := HK1.out; omega
     case rel => exact ⟨(t154), (x2_1 / 2), (x7_1), Z7, Z7, Z7, H', ⟨Z75⟩, ⟨Z52⟩, ⟨Z31⟩⟩
   ·rw [if_neg c5] at H; have c5b0 : decide (0 < x2_1) = false := decide_eq_false c5; clear c5; obtain rfl := Option.some.inj H; go_wp2; go_ret; exact ⟨Z5, Z31⟩
def field_reckoner_inv.f (k : Nat) (a0_0 : Int) (a0_1 : Bool) (a1 : Int) : Option (Int) := (field_reckoner_pow.f k a0_0 a0_1 a1 (IntKind.u64.wrap (a0_0 - 2))).bind fun t156 => (some t156)
theorem field_reckoner_inv.mono : ∀ a0 a1 a2 k, LeO (field_reckoner_inv.f k a0 a1 a2) (field_reckoner_inv.f (k + 1) a0 a1 a2) := by
 intro a0 a1 a2 k; unfold field_reckoner_inv.f; repeat' first
   | (with_reducible exact field_reckoner_pow.mono _ _ _ _ _)
   | (with_reducible exact LeO.refl _)
   | (with_reducible exact LeO.none _)
   | (with_reducible refine LeO.ite ?_ ?_)
   | (with_reducible refine LeO.bind ?_ (fun _ => ?_))
   | exact field_reckoner_pow.mono _ _ _ _ _
   | exact LeO.none _
   | refine LeO.ite ?_ ?_
   | refine LeO.bind ?_ (fun _ => ?_)
set_option maxHeartbeats 8000000 in
set_option maxRecDepth 100000 in
theorem field_reckoner_inv.calls (k : Nat) (a0_0 : Int) (a0_1 : Bool) (a1 : Int) (r : Int) (w : World) (h : field_reckoner_inv.f k a0_0 a0_1 a1 = some r) :
  Calls Try.prog 75 #[.agg #[.int .u64 a0_0, .bool a0_1], .int .u64 a1] w fun e w' => e = .returned (.int .u64 r) ∧ Below w.heap.size w w' := by
 have hu78 := Try.underlying78; have HB := am (Below.refl w.heap.size w); have H : ((field_reckoner_pow.f k a0_0 a0_1 a1 (IntKind.u64.wrap (a0_0 - 2))).bind fun t156 => (some t156)) = some r := h; clear h; replace H := Option.bind_eq_some_iff.mp H; obtain ⟨t156, A30, H⟩ := H; replace H : (some t156) = some r := H; have A3 := am A30; clear A30; obtain rfl := Option.some.inj H; go_enter Try.func75, Try.ntmps75
 go_wp2_with (first | ((with_reducible refine gate_dst (N := 2) rfl ?_); refine box_event ?hg (N := 2) ?hd (cs := #[.int .u64 a0_0, .bool a0_1]) (t := 78) ?hr ?_; (case hd => rfl); (case hg => rfl); (case hr => first | (go_simp; done) | (go_simp; rfl)); intro gb155 hg w4 hbox hb; have BK155 := am (hbox); have GW155 := am ((Z57 : w.heap.size ≤ gb155)); have GE155 := am ((Z57 : w.heap.size ≤ gb155)); replace HB := am (below_step Z1 hb); clear hb hbox hg; have hcz5_0 : w4.cell? ⟨gb155, 0, none⟩ = some (.int .u64 a0_0) := (blk_cell BK155.out 0).trans rfl; have hcz5_1 : w4.cell? ⟨gb155, 1, none⟩ = some (.bool a0_1) := (blk_cell BK155.out 1).trans rfl; have hfz5_0 := blk_frozen BK155.out 0; have hfz5_1 := blk_frozen BK155.out 1) | ((with_reducible refine gate_callee (f := 80) rfl ?_); refine goesL_ (some 10) rfl rfl Try.func80 Z12 rfl #[.agg #[.int .u64 a0_0, .bool a0_1], .int .u64 a1, .int .u64 (IntKind.u64.wrap (a0_0 - 2))] rfl Z2 ?_; (with_reducible refine (field_reckoner_pow.calls k a0_0 a0_1 a1 (IntKind.u64.wrap (a0_0 - 2)) t156 _ A3.out).mono ?_); rintro e w6 ⟨rfl, hb⟩; refine ⟨_, rfl, ?_⟩; replace BK155 := am (blk_below (g := gb155) (o := .cells #[.int .u64 a0_0, .bool a0_1] 78 (0, 0)) (by (with_reducible repeat (first | refine blk_drewN ?_ _ | refine blk_drew ?_ | refine blk_alloc ?_ _)); exact BK155.out) hb); replace HB := am (below_step Z92 hb); (try clear hb)))
 go_ret; exact ⟨Z5, Z92⟩
end Go.Proofs.Ytdafolenaibccaa.P
end
section
namespace Go.Proofs.Ytdafolenaibccaa.P
open Go.RowKit Go.Proofs.YtdafolenaibccaaW.PrintWords Go.Proofs.YtdafolenaibccaaW.PrintLast Go.Proofs.YtdafolenaibccaaW.PrintMore
attribute [local go_sem] max2_int min2_int max_two min_two max_three min_three max_four min_four
set_option linter.unusedVariables false
set_option linter.unusedSimpArgs false
mutual
def field_Batch.l0 : Nat → List Int → List Int → Int → List Int → Int → Int → Int → Bool → Option (List Int × Int)
 | 0, _, _, _, _, _, _, _, _ => none
 | k + 1, x1, x8, x9, x26, x27, x28, x161000, x161001 => if x28 < x27 then (if 0 ≤ x28 then (if x28 < (x26.length : Int) then (if (rd x26 x28) = 0 then (some (([] : List Int), 5)) else (if x28 < (x8.length : Int) then ((field_reckoner_mul.f x161000 x161001 x9 (rd x26 x28)).bind fun t166 => (field_Batch.l0 k x1 (x8.set (x28 : Int).toNat x9) t166 x26 x27 (wrap64 (x28 + 1)) x161000 x161001)) else (none))) else (none)) else (none)) else ((field_reckoner_inv.f k x161000 x161001 x9).bind fun t167 => (field_Batch.l1 k x1 x8 t167 (wrap64 ((x1.length : Int) - 1)) x161000 x161001))
def field_Batch.l1 : Nat → List Int → List Int → Int → Int → Int → Bool → Option (List Int × Int)
 | 0, _, _, _, _, _, _ => none
 | k + 1, x1, x8, x12, x13, x161000, x161001 => if x13 ≥ 0 then (if 0 ≤ x13 then (if x13 < (x8.length : Int) then ((field_reckoner_mul.f x161000 x161001 (rd x8 x13) x12).bind fun t169 => (if x13 < (x1.length : Int) then ((field_reckoner_mul.f x161000 x161001 x12 (rd x1 x13)).bind fun t172 => (field_Batch.l1 k x1 (x8.set (x13 : Int).toNat t169) t172 (wrap64 (x13 - 1)) x161000 x161001)) else (none))) else (none)) else (none)) else (some (x8, 0))
end
def field_Batch.f (k : Nat) (a0 : Int) (l1 : List Int) : Option (List Int × Int) := (field_asked.f k a0 l1).bind fun bt157 => (if bt157.2.2 = 0 then (if 0 ≤ (l1.length : Int) then (if ((l1.length : Int) : Int).toNat ≤ 35184372088832 then (field_Batch.l0 k l1 (List.replicate ((l1.length : Int) : Int).toNat 0) 1 l1 (l1.length : Int) 0 bt157.1 bt157.2.1) else (none)) else (none)) else (some (([] : List Int), bt157.2.2)))
theorem field_Batch.mono_l : ∀ k, (∀ y0 y1 y2 y3 y4 y5 y6 y7, LeO (field_Batch.l0 k y0 y1 y2 y3 y4 y5 y6 y7) (field_Batch.l0 (k + 1) y0 y1 y2 y3 y4 y5 y6 y7)) ∧ (∀ y0 y1 y2 y3 y4 y5, LeO (field_Batch.l1 k y0 y1 y2 y3 y4 y5) (field_Batch.l1 (k + 1) y0 y1 y2 y3 y4 y5))
 | 0 => ⟨fun _ _ _ _ _ _ _ _ r h => by simp [field_Batch.l0] at h, fun _ _ _ _ _ _ r h => by simp [field_Batch.l1] at h⟩
 | k + 1 => by
  obtain ⟨ih0, ih1⟩ := field_Batch.mono_l k; refine ⟨?_, ?_⟩
  ·intro y0 y1 y2 y3 y4 y5 y6 y7; unfold field_Batch.l0; repeat' first
   | (with_reducible exact ih0 _ _ _ _ _ _ _ _)
   | (with_reducible exact ih1 _ _ _ _ _ _)
   | (with_reducible exact field_asked.mono _ _ _)
   | (with_reducible exact field_reckoner_inv.mono _ _ _ _)
   | (with_reducible exact LeO.refl _)
   | (with_reducible exact LeO.none _)
   | (with_reducible refine LeO.ite ?_ ?_)
   | (with_reducible refine LeO.bind ?_ (fun _ => ?_))
   | exact ih0 _ _ _ _ _ _ _ _
   | exact ih1 _ _ _ _ _ _
   | exact field_asked.mono _ _ _
   | exact field_reckoner_inv.mono _ _ _ _
   | exact LeO.none _
   | refine LeO.ite ?_ ?_
   | refine LeO.bind ?_ (fun _ => ?_)
  ·intro y0 y1 y2 y3 y4 y5; unfold field_Batch.l1; repeat' first
   | (with_reducible exact ih0 _ _ _ _ _ _ _ _)
   | (with_reducible exact ih1 _ _ _ _ _ _)
   | (with_reducible exact field_asked.mono _ _ _)
   | (with_reducible exact field_reckoner_inv.mono _ _ _ _)
   | (with_reducible exact LeO.refl _)
   | (with_reducible exact LeO.none _)
   | (with_reducible refine LeO.ite ?_ ?_)
   | (with_reducible refine LeO.bind ?_ (fun _ => ?_))
   | exact ih0 _ _ _ _ _ _ _ _
   | exact ih1 _ _ _ _ _ _
   | exact field_asked.mono _ _ _
   | exact field_reckoner_inv.mono _ _ _ _
   | exact LeO.none _
   | refine LeO.ite ?_ ?_
   | refine LeO.bind ?_ (fun _ => ?_)
theorem field_Batch.mono : ∀ a0 a1 k, LeO (field_Batch.f k a0 a1) (field_Batch.f (k + 1) a0 a1) := by
 intro a0 a1 k; obtain ⟨ih0, ih1⟩ := field_Batch.mono_l k; unfold field_Batch.f; repeat' first
   | (with_reducible exact ih0 _ _ _ _ _ _ _ _)
   | (with_reducible exact ih1 _ _ _ _ _ _)
   | (with_reducible exact field_asked.mono _ _ _)
   | (with_reducible exact field_reckoner_inv.mono _ _ _ _)
   | (with_reducible exact LeO.refl _)
   | (with_reducible exact LeO.none _)
   | (with_reducible refine LeO.ite ?_ ?_)
   | (with_reducible refine LeO.bind ?_ (fun _ => ?_))
   | exact ih0 _ _ _ _ _ _ _ _
   | exact ih1 _ _ _ _ _ _
   | exact field_asked.mono _ _ _
   | exact field_reckoner_inv.mono _ _ _ _
   | exact LeO.none _
   | refine LeO.ite ?_ ?_
   | refine LeO.bind ?_ (fun _ => ?_)
def field_Batch.T18 : Bool × List (List Nat × List Nat) := (true, [([], []), ([], []), ([], []), ([], []), ([], []), ([3, 4], [3, 4]), ([5], [5]), ([], []), ([2, 6, 7], [2, 6, 7]), ([0, 1, 0, 1, 2, 3, 4, 5, 6, 7, 8], [0, 1]), ([9, 8, 8, 0, 1, 2, 3, 4, 5, 6, 7, 8], [8, 9])])
def field_Batch.B18 : List Nat := [0, 0, 0, 0, 0, 24, 56, 0, 252, 511, 1023]
theorem field_Batch.tab18 : rtab .any (opsOf Try.f57 18) = field_Batch.T18 := by kernel_rfl
theorem field_Batch.bits18 : waitsOk field_Batch.T18.2 field_Batch.B18 = true := by kernel_rfl
def field_Batch.T19 : Bool × List (List Nat × List Nat) := (true, [([], []), ([], []), ([], []), ([], []), ([2, 3], [2, 3]), ([4], [4]), ([0, 1, 5], [0, 1, 5]), ([6, 6, 0, 1, 2, 3, 4, 5, 6], [1, 6])])
def field_Batch.B19 : List Nat := [0, 0, 0, 0, 12, 28, 63, 127]
theorem field_Batch.tab19 : rtab .any (opsOf Try.f57 19) = field_Batch.T19 := by kernel_rfl
theorem field_Batch.bits19 : waitsOk field_Batch.T19.2 field_Batch.B19 = true := by kernel_rfl
set_option maxHeartbeats 8000000 in
set_option maxRecDepth 100000 in
theorem field_Batch.calls (k : Nat) (a0 : Int) (A1 : Option Addr) (c1 : Nat) (l1 : List Int) (r1 : List Int) (r2 : Int) (w : World) (hr1 : Kd.C (Kd.int .u64) w A1 l1.length l1) (hc1 : l1.length ≤ c1) (h : field_Batch.f k a0 l1 = some (r1, r2)) :
  Calls Try.prog 57 #[.int .u8 a0, .slice A1 l1.length c1] w fun e w' => ∃ v0_ : Value, e = .returned (.tuple #[v0_, .int .i64 r2]) ∧ Kd.R (Kd.int .u64) 24 w' w.heap.size (fun _ => True) v0_ r1 ∧ Below w.heap.size w w' := by
 have hu78 := Try.underlying78; have HR1 := am hr1; have HC1 := am hc1; clear hr1 hc1; have HB := am (Below.refl w.heap.size w); have H : ((field_asked.f k a0 l1).bind fun bt157 => (if bt157.2.2 = 0 then (if 0 ≤ (l1.length : Int) then (if ((l1.length : Int) : Int).toNat ≤ 35184372088832 then (field_Batch.l0 k l1 (List.replicate ((l1.length : Int) : Int).toNat 0) 1 l1 (l1.length : Int) 0 bt157.1 bt157.2.1) else (none)) else (none)) else (some (([] : List Int), bt157.2.2)))) = some (r1, r2) := h; clear h; replace H := Option.bind_eq_some_iff.mp H; obtain ⟨⟨t157, t158, t159⟩, A30, H⟩ := H; replace H : (if t159 = 0 then (if 0 ≤ (l1.length : Int) then (if ((l1.length : Int) : Int).toNat ≤ 35184372088832 then (field_Batch.l0 k l1 (List.replicate ((l1.length : Int) : Int).toNat 0) 1 l1 (l1.length : Int) 0 t157 t158) else (none)) else (none)) else (some (([] : List Int), t159))) = some (r1, r2) := H; have A3 := am A30; clear A30; by_cases c4 : t159 = 0
 ·rw [if_pos c4] at H; have c4b0 : (t159 == 0) = true := beq_iff_eq.mpr c4; have c4b1 : (t159 != 0) = false := bne_eq_false_iff_eq.mpr c4; clear c4; by_cases c5 : 0 ≤ (l1.length : Int)
  ·rw [if_pos c5] at H; have c5b0 := eq_true c5; have c5b1 : decide (0 ≤ (l1.length : Int)) = true := decide_eq_true c5; clear c5; by_cases c6 : ((l1.length : Int) : Int).toNat ≤ 35184372088832
   ·rw [if_pos c6] at H; have c6b0 := eq_true c6; have c6b1 : decide (((l1.length : Int) : Int).toNat ≤ 35184372088832) = true := decide_eq_true c6; clear c6; obtain ⟨y161, hy161⟩ : ∃ y_ : List Int, y_ = (List.replicate ((l1.length : Int) : Int).toNat 0) := ⟨_, rfl⟩; replace H : (field_Batch.l0 k l1 y161 1 l1 (l1.length : Int) 0 t157 t158) = some (r1, r2) := by first | (rw [hy161]; with_reducible exact H) | (have H2_ := (Option.bind_some _ _).symm.trans H; rw [hy161]; with_reducible exact H2_) | (have H2_ := (Option.bind_some _ _).symm.trans H; with_reducible exact H2_) | with_reducible exact H | (rw [hy161]; exact H) | exact H
    have Ny161 := am hy161; clear hy161; have H' := am H; clear H; go_enter Try.func57, Try.ntmps57
    go_wp2_with (first | ((with_reducible refine gate_callee (f := 52) rfl ?_); refine goesL_ (some 17) rfl rfl Try.func52 Z12 rfl #[.int .u8 a0, .slice A1 l1.length c1] rfl Z2 ?_; (with_reducible refine (field_asked.calls k a0 _ _ l1 t157 t158 t159 _ ?side1 ?side2 A3.out).mono ?_); (case side1 => repeat (first | exact HR1.out | (with_reducible refine Kd.C_alloc ?_ _) | (with_reducible refine Kd.C_drewN ?_ _) | (with_reducible refine Kd.C_drew ?_))); (case side2 => exact HC1.out); rintro e w7 ⟨rfl, hb⟩; refine ⟨_, rfl, ?_⟩; replace HB := am (below_step Z1 hb); (try clear hb)) | ((with_reducible refine gate_dst (N := 6) rfl ?_); refine box_event ?hg (N := 6) ?hd (cs := #[.int .u64 0, .bool false]) (t := 78) ?hr ?_; (case hd => rfl); (case hg => rfl); (case hr => first | (go_simp; done) | (go_simp; rfl)); intro gb160 hg w8 hbox hb; have BK160 := am (hbox); have GW160 := am ((Z57 : w.heap.size ≤ gb160)); have GE160 := am ((Z57 : w.heap.size ≤ gb160)); replace HB := am (below_step Z1 hb); clear hb hbox hg; have hcz9_0 : w8.cell? ⟨gb160, 0, none⟩ = some (.int .u64 0) := (blk_cell BK160.out 0).trans rfl; have hcz9_1 : w8.cell? ⟨gb160, 1, none⟩ = some (.bool false) := (blk_cell BK160.out 1).trans rfl; have hfz9_0 := blk_frozen BK160.out 0; have hfz9_1 := blk_frozen BK160.out 1) | ((with_reducible refine gate_dst (N := 25) rfl ?_); refine Kd.R_make (Kd.int .u64) _ 24 rfl (N := 25) rfl 22 _ _ rfl (l1.length : Int) rfl rfl Try.underlying22 (.int .u64 0) 8 info24 rfl Z101 (by omega) 0 (ok := fun _ => True) (okp := fun _ => True) rfl (fun _ hk => hk) trivial (of_decide_eq_true Z3) (Nat.le_trans (Nat.mul_le_mul_right _ (of_decide_eq_true Z3 : (l1.length : Int).toNat ≤ 35184372088832)) (by omega)) (Below.refl _ _) (Nat.le_refl _) ?_; intro v162 w10 ho11 hb hg_ hnew_; clear hg_ hnew_; (first | rw [← Ny161.out] at ho11 | (simp only [Int.reduceToNat] at ho11; rw [← Ny161.out] at ho11)); have HO163 := am (Kd.R_lower ho11 (below_size Z15)); replace BK160 := am (blk_below (g := gb160) (o := .cells #[.int .u64 t157, .bool t158] 78 (0, 0)) (by (with_reducible repeat (first | refine blk_drewN ?_ _ | refine blk_drew ?_ | refine blk_alloc ?_ _)); refine blk_put (cs := #[.int .u64 t157, .bool false]) ?_ 1 _ rfl; (with_reducible repeat (first | refine blk_drewN ?_ _ | refine blk_drew ?_ | refine blk_alloc ?_ _)); refine blk_put (cs := #[.int .u64 0, .bool false]) ?_ 0 _ rfl; (with_reducible repeat (first | refine blk_drewN ?_ _ | refine blk_drew ?_ | refine blk_alloc ?_ _)); exact BK160.out) hb); replace HB := am (below_step Z15 hb); clear hb ho11))
    go_loopg [9, 28] k (fun kq v9 v28 w' => ∃ (x8_1 : List Int) (x9_1 : Int) (x28_1 : Int), v9 = .int .u64 x9_1 ∧ v28 = .int .i64 x28_1 ∧ Aside0 (field_Batch.l0 kq l1 x8_1 x9_1 l1 (l1.length : Int) x28_1 t157 t158 = some (r1, r2)) ∧ Aside0 (kq ≤ k) ∧ Aside0 (Kd.R (Kd.int .u64) 24 w' w.heap.size (fun _ => True) v162 x8_1) ∧ Aside0 (w'.heap[gb160]? = some (.cells #[.int .u64 t157, .bool t158] 78 (0, 0))) ∧ Aside0 (Below w.heap.size w w'))
    case atStart => exact ⟨(y161), (1), (0), Z7, Z7, H', ⟨Nat.le_refl _⟩, ⟨by (with_reducible repeat (first | apply Kd.R_alloc | apply Kd.R_drewN | apply Kd.R_drew)); exact HO163.out⟩, ⟨Z34⟩, ⟨Z15⟩⟩
    case round =>
     clear H'; (try clear c1); (try clear p2); (try clear c4); (try clear c4b0); (try clear c4b1); (try clear c5); (try clear c5b0); (try clear c5b1); (try clear c6); (try clear c6b0); (try clear c6b1); (try clear hcz9_0); (try clear hcz9_1); (try clear hfz9_0); (try clear hfz9_1); obtain ⟨x8_1, x9_1, x28_1, rfl, rfl, HA, HK1, HO_8, BK160, HB⟩ := hrel; cases gk with
     | zero => exact absurd HA.out (by simp [field_Batch.l0])
     | succ k1 =>
      have H := HA.out; clear HA; simp only [field_Batch.l0] at H; by_cases c12 : x28_1 < (l1.length : Int)
      ·rw [if_pos c12] at H; have c12b0 : decide (x28_1 < (l1.length : Int)) = true := decide_eq_true c12; clear c12; by_cases c13 : 0 ≤ x28_1
       ·rw [if_pos c13] at H; have c13b0 : decide (0 ≤ x28_1) = true := decide_eq_true c13; clear c13; by_cases c14 : x28_1 < (l1.length : Int)
        ·rw [if_pos c14] at H; have c14b0 : decide (x28_1 < (l1.length : Int)) = true := decide_eq_true c14; clear c14; by_cases c15 : (rd l1 x28_1) = 0
         ·rw [if_pos c15] at H; have c15b0 : ((rd l1 x28_1) == 0) = true := beq_iff_eq.mpr c15; have c15b1 : ((rd l1 x28_1) != 0) = false := bne_eq_false_iff_eq.mpr c15; clear c15; simp only [Option.some.injEq, Prod.mk.injEq] at H; obtain ⟨rfl, rfl⟩ := H; have p164 : 0 ≤ (x28_1 : Int) := of_decide_eq_true Z3; have q164 : x28_1 < (l1.length : Int) := of_decide_eq_true Z3; obtain ⟨ad164, e164, hx164_0⟩ := Kd.at_int HR1.out x28_1 p164 q164; cases e164; replace hx164_0 := (HB.out.cell (World.block_lt_of_cell? w _ hx164_0)).trans hx164_0; replace p164 := eq_true p164; replace q164 := eq_true q164; go_wp2; go_ret2; exact ⟨_, Z5, Z20, Z15⟩
         ·rw [if_neg c15] at H; have c15b0 : ((rd l1 x28_1) == 0) = false := beq_eq_false_iff_ne.mpr c15; have c15b1 : ((rd l1 x28_1) != 0) = true := bne_iff_ne.mpr c15; by_cases c16 : x28_1 < (x8_1.length : Int)
          ·rw [if_pos c16] at H; have c16b0 : decide (x28_1 < (x8_1.length : Int)) = true := decide_eq_true c16; clear c16; obtain ⟨y165, hy165⟩ : ∃ y_ : List Int, y_ = (x8_1.set (x28_1 : Int).toNat x9_1) := ⟨_, rfl⟩; replace H : ((field_reckoner_mul.f t157 t158 x9_1 (rd l1 x28_1)).bind fun t166 => (field_Batch.l0 k1 l1 y165 t166 l1 (l1.length : Int) (wrap64 (x28_1 + 1)) t157 t158)) = some (r1, r2) := by first | (rw [hy165]; with_reducible exact H) | (have H2_ := (Option.bind_some _ _).symm.trans H; rw [hy165]; with_reducible exact H2_) | (have H2_ := (Option.bind_some _ _).symm.trans H; with_reducible exact H2_) | with_reducible exact H | (rw [hy165]; exact H) | exact H
           have Ny165 := am hy165; clear hy165; replace H := Option.bind_eq_some_iff.mp H; obtain ⟨t166, A180, H⟩ := H; replace H : (field_Batch.l0 k1 l1 y165 t166 l1 (l1.length : Int) (wrap64 (x28_1 + 1)) t157 t158) = some (r1, r2) := H; have A18 := am A180; clear A180; have H' := am H; clear H; have p164 : 0 ≤ (x28_1 : Int) := of_decide_eq_true Z3; have q164 : x28_1 < (l1.length : Int) := of_decide_eq_true Z3; obtain ⟨ad164, e164, hx164_0⟩ := Kd.at_int HR1.out x28_1 p164 q164; cases e164; replace hx164_0 := (HB.out.cell (World.block_lt_of_cell? w _ hx164_0)).trans hx164_0; replace p164 := eq_true p164; replace q164 := eq_true q164; have p17 : 0 ≤ (x28_1 : Int) := of_decide_eq_true Z3; have q17 : (x28_1 : Int) < ((x8_1.length : Int) : Int) := of_decide_eq_true Z3; obtain ⟨go17, co17, eo17, gb17, gl17, cl17, HG17⟩ := Kd.R_form HO_8.out (by omega); (first | cases eo17 | (injection eo17 with ea_ en_ ec_; (first | subst ea_ | (injection ea_ with ea_; subst ea_)); subst ec_; clear en_))
           have GB17 := am gb17; have GG17 := am HG17; clear gb17 gl17 HG17; obtain ⟨hx17_0, hf17_0⟩ := Kd.R_celln 0 HO_8.out (x28_1 : Int) p17 q17; replace p17 := eq_true p17; replace q17 := eq_true q17; have HP19 := Kd.R_putg HO_8.out (x28_1 : Int) x9_1; go_wp2_with (first | ((with_reducible refine gate_store (t := 24) (p := 38) rfl ?_); refine store_event (t := 24) (p := 38) (v := ?vo_w20) (w1 := (wr.setCell ⟨go17, (x28_1 : Int).toNat, none⟩ (.int .u64 x9_1))) ?hg ?ho ?hn ?hr ?_; (case ho => rfl); (case hg => rfl); (case hn => rfl); (case hr => first | (go_simp; done) | (go_simp; rfl)); intro w20 hw; have hg : wr.grownBy w20 (some go17) := (by rw [hw]; exact HP19.2); have hp_ : Kd.R (Kd.int .u64) 24 w20 w.heap.size (fun _ => True) (.slice (some ⟨go17, 0, none⟩) x8_1.length co17) y165 := (by rw [hw, Ny165.out]; exact HP19.1); clear HP19; replace BK160 := am (blk_grown (g := gb160) (o := .cells #[.int .u64 t157, .bool t158] 78 (0, 0)) Z34 hg (Kd.R_ne HO_8.out BK160.out Z101)); replace HO_8 := am (hp_); replace HB := am ((by rw [hw]; exact below_set (HB.out) GB17.out : Below w.heap.size w w20)); clear hg hw hp_; have hcz21_0 : w20.cell? ⟨gb160, 0, none⟩ = some (.int .u64 t157) := (blk_cell BK160.out 0).trans rfl; have hcz21_1 : w20.cell? ⟨gb160, 1, none⟩ = some (.bool t158) := (blk_cell BK160.out 1).trans rfl; have hfz21_0 := blk_frozen BK160.out 0; have hfz21_1 := blk_frozen BK160.out 1) | ((with_reducible refine gate_callee (f := 55) rfl ?_); refine goesL_ (some 42) rfl rfl Try.func55 Z12 rfl #[.agg #[.int .u64 t157, .bool t158], .int .u64 x9_1, .int .u64 (rd l1 x28_1)] rfl Z2 ?_; (with_reducible refine (field_reckoner_mul.calls t157 t158 x9_1 (rd l1 x28_1) t166 _ A18.out).mono ?_); rintro e w22 ⟨rfl, hb⟩; refine ⟨_, rfl, ?_⟩; replace HO_8 := am (Kd.R_below Z45 hb); replace BK160 := am (blk_below (g := gb160) (o := .cells #[.int .u64 t157, .bool t158] 78 (0, 0)) Z34 hb); replace HB := am (below_step Z15 hb); (try clear hb)))
           go_roundg k1
           case measure => have := HK1.out; omega
           case rel => exact ⟨(y165), (t166), (wrap64 (x28_1 + 1)), Z7, Z7, H', ⟨Z75⟩, ⟨Z45⟩, ⟨Z34⟩, ⟨Z15⟩⟩
          ·rw [if_neg c16] at H; exact absurd H (by simp)
        ·rw [if_neg c14] at H; exact absurd H (by simp)
       ·rw [if_neg c13] at H; exact absurd H (by simp)
      ·rw [if_neg c12] at H; have c12b0 : decide (x28_1 < (l1.length : Int)) = false := decide_eq_false c12; clear c12; replace H := Option.bind_eq_some_iff.mp H; obtain ⟨t167, A230, H⟩ := H; replace H : (field_Batch.l1 k1 l1 x8_1 t167 (wrap64 ((l1.length : Int) - 1)) t157 t158) = some (r1, r2) := H; have A23 := am A230; clear A230; have H' := am H; clear H; have hcz24_0 : wr.cell? ⟨gb160, 0, none⟩ = some (.int .u64 t157) := (blk_cell BK160.out 0).trans rfl; have hcz24_1 : wr.cell? ⟨gb160, 1, none⟩ = some (.bool t158) := (blk_cell BK160.out 1).trans rfl; have hfz24_0 := blk_frozen BK160.out 0; have hfz24_1 := blk_frozen BK160.out 1; go_wp2_with (first | ((with_reducible refine gate_callee (f := 75) rfl ?_); refine goesL_ (some 46) rfl rfl Try.func75 Z12 rfl #[.agg #[.int .u64 t157, .bool t158], .int .u64 x9_1] rfl Z2 ?_; (with_reducible refine (field_reckoner_inv.calls k1 t157 t158 x9_1 t167 _ A23.out).mono ?_); rintro e w25 ⟨rfl, hb⟩; refine ⟨_, rfl, ?_⟩; replace HO_8 := am (Kd.R_below Z45 hb); replace BK160 := am (blk_below (g := gb160) (o := .cells #[.int .u64 t157, .bool t158] 78 (0, 0)) Z34 hb); replace HB := am (below_step Z15 hb); (try clear hb)))
       go_loopg [12, 13] k1 (fun kq v12 v13 w' => ∃ (x8_2 : List Int) (x12_2 : Int) (x13_2 : Int), v12 = .int .u64 x12_2 ∧ v13 = .int .i64 x13_2 ∧ Aside0 (field_Batch.l1 kq l1 x8_2 x12_2 x13_2 t157 t158 = some (r1, r2)) ∧ Aside0 (kq ≤ k1) ∧ Aside0 (Kd.R (Kd.int .u64) 24 w' w.heap.size (fun _ => True) v162 x8_2) ∧ Aside0 (w'.heap[gb160]? = some (.cells #[.int .u64 t157, .bool t158] 78 (0, 0))) ∧ Aside0 (Below w.heap.size w w'))
       case atStart => exact ⟨(x8_1), (t167), (wrap64 ((l1.length : Int) - 1)), Z7, Z7, H', ⟨Nat.le_refl _⟩, ⟨Z45⟩, ⟨Z34⟩, ⟨Z15⟩⟩
       case round =>
        clear H'; (try clear c1); (try clear p1); (try clear q1); (try clear hx1); (try clear p2); (try clear c4); (try clear c4b0); (try clear c4b1); (try clear c5); (try clear c5b0); (try clear c5b1); (try clear c6); (try clear c6b0); (try clear c6b1); (try clear p6); (try clear c7); (try clear c12); (try clear c12b0); (try clear c13); (try clear c13b0); (try clear c14); (try clear c14b0); (try clear c15); (try clear c15b0); (try clear c15b1); (try clear c16); (try clear c16b0); (try clear p16); (try clear q16); (try clear hx16); (try clear p17); (try clear q17); (try clear hx17); (try clear hf17); (try clear hcz21_0); (try clear hcz21_1); (try clear hcz24_0); (try clear hcz24_1); (try clear hcz9_0); (try clear hcz9_1); (try clear hfz21_0); (try clear hfz21_1); (try clear hfz24_0); (try clear hfz24_1); (try clear hfz9_0); (try clear hfz9_1); (try clear hx164_0); (try clear hx17_0); (try clear p164); (try clear p17); (try clear p2); (try clear q164); (try clear q17); obtain ⟨x8_2, x12_2, x13_2, rfl, rfl, HA, HK2, HO_8, BK160, HB⟩ := hrel; cases gk with
        | zero => exact absurd HA.out (by simp [field_Batch.l1])
        | succ k2 =>
         have H := HA.out; clear HA; simp only [field_Batch.l1] at H; by_cases c26 : x13_2 ≥ 0
         ·rw [if_pos c26] at H; have c26b0 : decide (0 ≤ x13_2) = true := decide_eq_true c26; clear c26; by_cases c27 : 0 ≤ x13_2
          ·rw [if_pos c27] at H; have c27b0 : decide (0 ≤ x13_2) = true := decide_eq_true c27; clear c27; by_cases c28 : x13_2 < (x8_2.length : Int)
           ·rw [if_pos c28] at H; have c28b0 : decide (x13_2 < (x8_2.length : Int)) = true := decide_eq_true c28; clear c28; replace H := Option.bind_eq_some_iff.mp H; obtain ⟨t169, A290, H⟩ := H; replace H : (if x13_2 < (l1.length : Int) then ((field_reckoner_mul.f t157 t158 x12_2 (rd l1 x13_2)).bind fun t172 => (field_Batch.l1 k2 l1 (x8_2.set (x13_2 : Int).toNat t169) t172 (wrap64 (x13_2 - 1)) t157 t158)) else (none)) = some (r1, r2) := H; have A29 := am A290; clear A290; obtain ⟨y170, hy170⟩ : ∃ y_ : List Int, y_ = (x8_2.set (x13_2 : Int).toNat t169) := ⟨_, rfl⟩; replace H : (if x13_2 < (l1.length : Int) then ((field_reckoner_mul.f t157 t158 x12_2 (rd l1 x13_2)).bind fun t172 => (field_Batch.l1 k2 l1 y170 t172 (wrap64 (x13_2 - 1)) t157 t158)) else (none)) = some (r1, r2) := by first | (rw [hy170]; with_reducible exact H) | (have H2_ := (Option.bind_some _ _).symm.trans H; rw [hy170]; with_reducible exact H2_) | (have H2_ := (Option.bind_some _ _).symm.trans H; with_reducible exact H2_) | with_reducible exact H | (rw [hy170]; exact H) | exact H
            have Ny170 := am hy170; clear hy170; by_cases c31 : x13_2 < (l1.length : Int)
            ·rw [if_pos c31] at H; have c31b0 : decide (x13_2 < (l1.length : Int)) = true := decide_eq_true c31; clear c31; replace H := Option.bind_eq_some_iff.mp H; obtain ⟨t172, A320, H⟩ := H; replace H : (field_Batch.l1 k2 l1 y170 t172 (wrap64 (x13_2 - 1)) t157 t158) = some (r1, r2) := H; have A32 := am A320; clear A320; have H' := am H; clear H; (try go_wp2); replace HO_8 := am (Kd.R_drew HO_8.out); replace BK160 := am (blk_drew BK160.out); replace HB := am (below_drew1 HB.out); obtain ⟨Ao34, co34, eo34⟩ := Kd.R_slice HO_8.out; (first | subst eo34 | (injection eo34 with f1_ f2_ f3_; have f4_ := f1_.symm; have f5_ := f3_.symm; clear f1_ f2_ f3_; subst f4_; subst f5_))
             have p168 : 0 ≤ (x13_2 : Int) := of_decide_eq_true Z3; have q168 : x13_2 < (x8_2.length : Int) := of_decide_eq_true Z3; obtain ⟨ad168, e168, hx168_0⟩ := Kd.at_int (Kd.R_reads' HO_8.out).2.2 x13_2 p168 q168; cases e168; replace p168 := eq_true p168; replace q168 := eq_true q168; refine start_ (n := 11) (S := fun w' => w'.cell? ⟨gb160, 0, none⟩ = some (.int .u64 t157) ∧ w'.cell? ⟨gb160, 1, none⟩ = some (.bool t158) ∧ w'.cell? (ad168.add (x13_2).toNat) = some (.int .u64 (rd x8_2 x13_2))) (ds := [10]) #[false, false, false, false, false, false, false, false, false, false, false] Z12 rfl rfl ⟨(blk_cell BK160.out 0).trans rfl, (blk_cell BK160.out 1).trans rfl, hx168_0⟩ (fun hHeld => ?_); refine with_tabW field_Batch.tab18 field_Batch.bits18 (fun HT_ HW_ => ?_)
             generalize wr.drew = w33 at HO_8 BK160 HB hx168_0 hHeld ⊢
             refine pure_ (i := 0) (N := some 54) (v := ?_) (a' := ?_) #[true, false, false, false, false, false, false, false, false, false, false] rfl rfl (any_of HT_.out Z12) (fun _ _ _ h => h) (Or.inl ⟨by rfl, ?_⟩) ?_ ?_; rotate_left
             ·intro w'; go_simp; with_reducible rfl
             rotate_left
             ·simp only [Act.put, List.setIfInBounds_toArray, List.set_cons_zero, List.set_cons_succ, i64_w, i32_w]; rfl
             refine pure_ (i := 1) (N := some 55) (v := ?_) (a' := ?_) #[true, true, false, false, false, false, false, false, false, false, false] rfl rfl (any_of HT_.out Z12) (fun _ _ _ h => h) (Or.inl ⟨by rfl, ?_⟩) ?_ ?_; rotate_left
             ·intro w'; go_simp; with_reducible rfl
             rotate_left
             ·simp only [Act.put, List.setIfInBounds_toArray, List.set_cons_zero, List.set_cons_succ, i64_w, i32_w]; rfl
             refine pure_ (i := 3) (N := some 57) (v := ?_) (a' := ?_) #[true, true, false, true, false, false, false, false, false, false, false] rfl rfl (any_of HT_.out Z12) (fun _ _ _ h => h) (Or.inl ⟨by rfl, ?_⟩) ?_ ?_; rotate_left
             ·intro w'; go_simp; with_reducible rfl
             rotate_left
             ·simp only [Act.put, List.setIfInBounds_toArray, List.set_cons_zero, List.set_cons_succ, i64_w, i32_w]; rfl
             refine pure_ (i := 4) (N := some 58) (v := ?_) (a' := ?_) #[true, true, false, true, true, false, false, false, false, false, false] rfl rfl (any_of HT_.out Z12) (fun _ _ _ h => h) (Or.inl ⟨by rfl, ?_⟩) ?_ ?_; rotate_left
             ·intro w'; go_simp; with_reducible rfl
             rotate_left
             ·simp only [Act.put, List.setIfInBounds_toArray, List.set_cons_zero, List.set_cons_succ, i64_w, i32_w]; rfl
             refine pure_ (i := 5) (N := some 59) (v := ?_) (a' := ?_) #[true, true, false, true, true, true, false, false, false, false, false] rfl rfl (any_of HT_.out Z12) (fun _ _ _ h => h) (Or.inl ⟨by rfl, ?_⟩) ?_ ?_; rotate_left
             ·intro w'; go_simp; with_reducible rfl
             rotate_left
             ·simp only [Act.put, List.setIfInBounds_toArray, List.set_cons_zero, List.set_cons_succ, i64_w, i32_w]; rfl
             refine pure_ (i := 7) (N := some 61) (v := ?_) (a' := ?_) #[true, true, false, true, true, true, false, true, false, false, false] rfl rfl (any_of HT_.out Z12) (fun _ _ _ h => h) (Or.inl ⟨by rfl, ?_⟩) ?_ ?_; rotate_left
             ·intro w'; go_simp; with_reducible rfl
             rotate_left
             ·simp only [Act.put, List.setIfInBounds_toArray, List.set_cons_zero, List.set_cons_succ, i64_w, i32_w]; rfl
             refine take_ (i := 2) (N := some 56) (v := ?_) (a' := ?_) #[true, true, true, true, true, true, false, true, false, false, false] rfl rfl (take_ofW HT_.out HW_.out Z12) (fun _ _ _ h => h) (Or.inl ⟨by rfl, ?_⟩) hHeld ?_ ?_; rotate_left
             ·rintro w' ⟨s0, s1, s2⟩; go_simp; with_reducible rfl
             rotate_left
             ·simp only [Act.put, List.setIfInBounds_toArray, List.set_cons_zero, List.set_cons_succ, i64_w, i32_w]; rfl
             refine take_ (i := 6) (N := some 60) (v := ?_) (a' := ?_) #[true, true, true, true, true, true, true, true, false, false, false] rfl rfl (take_ofW HT_.out HW_.out Z12) (fun _ _ _ h => h) (Or.inl ⟨by rfl, ?_⟩) hHeld ?_ ?_; rotate_left
             ·rintro w' ⟨s0, s1, s2⟩; go_simp; with_reducible rfl
             rotate_left
             ·simp only [Act.put, List.setIfInBounds_toArray, List.set_cons_zero, List.set_cons_succ, i64_w, i32_w]; rfl
             refine one_ (i := 8) (N := some 62) #[true, true, true, true, true, true, true, true, true, false, false] rfl rfl (one_of HT_.out Z12) Z101 (fun K hK => ?_); refine goes_ Try.func55 Z12 rfl #[.agg #[.int .u64 t157, .bool t158], .int .u64 (rd x8_2 x13_2), .int .u64 x12_2] (by rfl) rfl rfl Z2 ?_; (with_reducible refine (field_reckoner_mul.calls t157 t158 (rd x8_2 x13_2) x12_2 t169 _ A29.out).mono ?_); rintro e w35 ⟨rfl, hb⟩; have HS2_ := (hb.cell (World.block_lt_of_cell? _ _ (hHeld.2.2))).trans (hHeld.2.2); refine ⟨_, rfl, ?_⟩; replace HO_8 := am (Kd.R_below Z45 hb); replace BK160 := am (blk_below (g := gb160) (o := .cells #[.int .u64 t157, .bool t158] 78 (0, 0)) Z34 hb); replace HB := am (below_step Z15 hb); (try clear hb)
             (try clear hb2)
             (try clear hk)
             (try clear hi)
             have p30 : 0 ≤ (x13_2 : Int) := of_decide_eq_true Z3; have q30 : (x13_2 : Int) < ((x8_2.length : Int) : Int) := of_decide_eq_true Z3; obtain ⟨go30, co30, eo30, gb30, gl30, cl30, HG30⟩ := Kd.R_form HO_8.out (by omega); (first | cases eo30 | (injection eo30 with ea_ en_ ec_; (first | subst ea_ | (injection ea_ with ea_; subst ea_)); subst ec_; clear en_))
             have GB30 := am gb30; have GG30 := am HG30; clear gb30 gl30 HG30; (first | simp only [add_plain] at hx168_0 | skip)
             obtain ⟨hx30_0, hf30_0⟩ := Kd.R_celln 0 HO_8.out (x13_2 : Int) p30 q30; replace p30 := eq_true p30; replace q30 := eq_true q30; have HP36 := Kd.R_putn HO_8.out (x13_2 : Int) t169; rw [← Ny170.out] at HP36; have HQ36 := am HP36; clear HP36; refine hK.out _ _ ⟨(blk_cell BK160.out 0).trans rfl, (blk_cell BK160.out 1).trans rfl, HS2_⟩ (fun hHeld => ?_); clear hK K; refine norm_ (a' := ?_) ?_ ?_; rotate_left
             ·show Act.put _ (some 62) _ = _
              simp only [Act.put, List.setIfInBounds_toArray, List.set_cons_zero, List.set_cons_succ, i64_w, i32_w]; rfl
             refine pure_ (i := 9) (N := some 63) (v := ?_) (a' := ?_) #[true, true, true, true, true, true, true, true, true, true, false] rfl rfl (any_of HT_.out Z12) (fun _ _ _ h => h) (Or.inl ⟨by rfl, ?_⟩) ?_ ?_; rotate_left
             ·intro w'; go_simp; with_reducible rfl
             rotate_left
             ·simp only [Act.put, List.setIfInBounds_toArray, List.set_cons_zero, List.set_cons_succ, i64_w, i32_w]; rfl
             refine last_ (i := 10) (N := none) #[true, true, true, true, true, true, true, true, true, true, true] rfl rfl (one_of HT_.out Z12) Z101 (fun K hK => ?_); refine skip_ (w1 := ?_) (by rfl) rfl ?_ ?_; rotate_left
             ·go_simp; rfl
             refine hK.out _ _ ?_; clear hK K; refine done_ (done_of HT_.out Z12) ?_; (try go_wp2); have n0_ : Aside0 (Kd.R (Kd.int .u64) 24 (w35.setCell ⟨go30, (x13_2 : Int).toNat, none⟩ (.int .u64 t169)) w.heap.size (fun _ => True) (.slice (some ⟨go30, 0, none⟩) x8_2.length co34) y170) := ⟨by (with_reducible repeat (first | apply Kd.R_alloc | apply Kd.R_drewN | apply Kd.R_drew)); exact HQ36.out⟩; have n1_ : Aside0 ((w35.setCell ⟨go30, (x13_2 : Int).toNat, none⟩ (.int .u64 t169)).heap[gb160]? = some (.cells #[.int .u64 t157, .bool t158] 78 (0, 0))) := ⟨by (with_reducible repeat (first | refine blk_drewN ?_ _ | refine blk_drew ?_ | refine blk_alloc ?_ _)); refine blk_far ?_ (by have h_ := Kd.R_ne HO_8.out BK160.out Z101; intro e_; exact h_ (by rw [e_]; rfl)) _; (with_reducible repeat (first | refine blk_drewN ?_ _ | refine blk_drew ?_ | refine blk_alloc ?_ _)); exact BK160.out⟩; have n2_ : Aside0 (Below w.heap.size w (w35.setCell ⟨go30, (x13_2 : Int).toNat, none⟩ (.int .u64 t169))) := ⟨by repeat (first | (with_reducible first | exact HB.out | apply below_alloc | apply pw_below_drewN | apply below_drew1 | refine below_set ?_ GB30.out | refine below_set ?_ GE160.out) | exact HB.out)⟩; (try clear HO_8)
             (try clear BK160)
             (try clear HB)
             generalize (w35.setCell ⟨go30, (x13_2 : Int).toNat, none⟩ (.int .u64 t169)) = w37 at n0_ n1_ n2_ ⊢
             have HO_8 := n0_; have BK160 := n1_; have HB := n2_; clear n0_ n1_ n2_; replace HO_8 := am (Kd.R_drew HO_8.out); replace BK160 := am (blk_drew BK160.out); replace HB := am (below_drew1 HB.out); have p171 : 0 ≤ (x13_2 : Int) := of_decide_eq_true Z3; have q171 : x13_2 < (l1.length : Int) := of_decide_eq_true Z3; obtain ⟨ad171, e171, hx171_0⟩ := Kd.at_int HR1.out x13_2 p171 q171; have hw171_0 := hx171_0; cases e171; replace hx171_0 := (HB.out.cell (World.block_lt_of_cell? w _ hx171_0)).trans hx171_0; replace p171 := eq_true p171; replace q171 := eq_true q171; refine start_ (n := 8) (S := fun w' => w'.cell? ⟨gb160, 0, none⟩ = some (.int .u64 t157) ∧ w'.cell? ⟨gb160, 1, none⟩ = some (.bool t158) ∧ w'.cell? (ad171.add (x13_2).toNat) = some (.int .u64 (rd l1 x13_2))) (ds := []) #[false, false, false, false, false, false, false, false] Z12 rfl rfl ⟨(blk_cell BK160.out 0).trans rfl, (blk_cell BK160.out 1).trans rfl, ((HB.out.cell (World.block_lt_of_cell? w _ hw171_0)).trans hw171_0)⟩ (fun hHeld => ?_); refine with_tabW field_Batch.tab19 field_Batch.bits19 (fun HT_ HW_ => ?_)
             generalize w37.drew = w38 at HO_8 BK160 HB HQ36 hx171_0 hHeld ⊢
             refine pure_ (i := 1) (N := some 65) (v := ?_) (a' := ?_) #[false, true, false, false, false, false, false, false] rfl rfl (any_of HT_.out Z12) (fun _ _ _ h => h) (Or.inl ⟨by rfl, ?_⟩) ?_ ?_; rotate_left
             ·intro w'; go_simp; with_reducible rfl
             rotate_left
             ·simp only [Act.put, List.setIfInBounds_toArray, List.set_cons_zero, List.set_cons_succ, i64_w, i32_w]; rfl
             refine pure_ (i := 2) (N := some 66) (v := ?_) (a' := ?_) #[false, true, true, false, false, false, false, false] rfl rfl (any_of HT_.out Z12) (fun _ _ _ h => h) (Or.inl ⟨by rfl, ?_⟩) ?_ ?_; rotate_left
             ·intro w'; go_simp; with_reducible rfl
             rotate_left
             ·simp only [Act.put, List.setIfInBounds_toArray, List.set_cons_zero, List.set_cons_succ, i64_w, i32_w]; rfl
             refine pure_ (i := 3) (N := some 67) (v := ?_) (a' := ?_) #[false, true, true, true, false, false, false, false] rfl rfl (any_of HT_.out Z12) (fun _ _ _ h => h) (Or.inl ⟨by rfl, ?_⟩) ?_ ?_; rotate_left
             ·intro w'; go_simp; with_reducible rfl
             rotate_left
             ·simp only [Act.put, List.setIfInBounds_toArray, List.set_cons_zero, List.set_cons_succ, i64_w, i32_w]; rfl
             refine pure_ (i := 4) (N := some 68) (v := ?_) (a' := ?_) #[false, true, true, true, true, false, false, false] rfl rfl (any_of HT_.out Z12) (fun _ _ _ h => h) (Or.inl ⟨by rfl, ?_⟩) ?_ ?_; rotate_left
             ·intro w'; go_simp; with_reducible rfl
             rotate_left
             ·simp only [Act.put, List.setIfInBounds_toArray, List.set_cons_zero, List.set_cons_succ, i64_w, i32_w]; rfl
             refine take_ (i := 0) (N := some 64) (v := ?_) (a' := ?_) #[true, true, true, true, true, false, false, false] rfl rfl (take_ofW HT_.out HW_.out Z12) (fun _ _ _ h => h) (Or.inl ⟨by rfl, ?_⟩) hHeld ?_ ?_; rotate_left
             ·rintro w' ⟨s0, s1, s2⟩; go_simp; with_reducible rfl
             rotate_left
             ·simp only [Act.put, List.setIfInBounds_toArray, List.set_cons_zero, List.set_cons_succ, i64_w, i32_w]; rfl
             refine take_ (i := 5) (N := some 69) (v := ?_) (a' := ?_) #[true, true, true, true, true, true, false, false] rfl rfl (take_ofW HT_.out HW_.out Z12) (fun _ _ _ h => h) (Or.inl ⟨by rfl, ?_⟩) hHeld ?_ ?_; rotate_left
             ·rintro w' ⟨s0, s1, s2⟩; go_simp; with_reducible rfl
             rotate_left
             ·simp only [Act.put, List.setIfInBounds_toArray, List.set_cons_zero, List.set_cons_succ, i64_w, i32_w]; rfl
             refine one_ (i := 6) (N := some 70) #[true, true, true, true, true, true, true, false] rfl rfl (one_of HT_.out Z12) Z101 (fun K hK => ?_); refine goes_ Try.func55 Z12 rfl #[.agg #[.int .u64 t157, .bool t158], .int .u64 x12_2, .int .u64 (rd l1 x13_2)] (by rfl) rfl rfl Z2 ?_; (with_reducible refine (field_reckoner_mul.calls t157 t158 x12_2 (rd l1 x13_2) t172 _ A32.out).mono ?_); rintro e w39 ⟨rfl, hb⟩; refine ⟨_, rfl, ?_⟩; replace HO_8 := am (Kd.R_below Z45 hb); replace BK160 := am (blk_below (g := gb160) (o := .cells #[.int .u64 t157, .bool t158] 78 (0, 0)) Z34 hb); replace HB := am (below_step Z15 hb); (try clear hb)
             (try clear hb2)
             (try clear hk)
             (try clear hi)
             refine hK.out _ _ ⟨(blk_cell BK160.out 0).trans rfl, (blk_cell BK160.out 1).trans rfl, ((HB.out.cell (World.block_lt_of_cell? w _ hw171_0)).trans hw171_0)⟩ (fun hHeld => ?_); clear hK K; refine norm_ (a' := ?_) ?_ ?_; rotate_left
             ·show Act.put _ (some 70) _ = _
              simp only [Act.put, List.setIfInBounds_toArray, List.set_cons_zero, List.set_cons_succ, i64_w, i32_w]; rfl
             refine pure_ (i := 7) (N := some 12) (v := ?_) (a' := ?_) #[true, true, true, true, true, true, true, true] rfl rfl (any_of HT_.out Z12) (fun _ _ _ h => h) (Or.inl ⟨by rfl, ?_⟩) ?_ ?_; rotate_left
             ·intro w'; go_simp; with_reducible rfl
             rotate_left
             ·simp only [Act.put, List.setIfInBounds_toArray, List.set_cons_zero, List.set_cons_succ, i64_w, i32_w]; rfl
             refine done_ (done_of HT_.out Z12) ?_; (try go_wp2); go_roundg k2
             case measure => have := HK1.out; have := HK2.out; omega
             case rel => exact ⟨(y170), (t172), (wrap64 (x13_2 - 1)), Z7, Z7, H', ⟨Z78⟩, ⟨Z45⟩, ⟨Z34⟩, ⟨Z15⟩⟩
            ·rw [if_neg c31] at H; exact absurd H (by simp)
           ·rw [if_neg c28] at H; exact absurd H (by simp)
          ·rw [if_neg c27] at H; exact absurd H (by simp)
         ·rw [if_neg c26] at H; have c26b0 : decide (0 ≤ x13_2) = false := decide_eq_false c26; clear c26; simp only [Option.some.injEq, Prod.mk.injEq] at H; obtain ⟨rfl, rfl⟩ := H; go_wp2; go_ret2; exact ⟨_, Z5, Z45, Z15⟩
   ·rw [if_neg c6] at H; exact absurd H (by simp)
  ·rw [if_neg c5] at H; exact absurd H (by simp)
 ·rw [if_neg c4] at H; have c4b0 : (t159 == 0) = false := beq_eq_false_iff_ne.mpr c4; have c4b1 : (t159 != 0) = true := bne_iff_ne.mpr c4; simp only [Option.some.injEq, Prod.mk.injEq] at H; obtain ⟨rfl, rfl⟩ := H; go_enter Try.func57, Try.ntmps57
  go_wp2_with (first | ((with_reducible refine gate_callee (f := 52) rfl ?_); refine goesL_ (some 17) rfl rfl Try.func52 Z12 rfl #[.int .u8 a0, .slice A1 l1.length c1] rfl Z2 ?_; (with_reducible refine (field_asked.calls k a0 _ _ l1 t157 t158 t159 _ ?side1 ?side2 A3.out).mono ?_); (case side1 => repeat (first | exact HR1.out | (with_reducible refine Kd.C_alloc ?_ _) | (with_reducible refine Kd.C_drewN ?_ _) | (with_reducible refine Kd.C_drew ?_))); (case side2 => exact HC1.out); rintro e w40 ⟨rfl, hb⟩; refine ⟨_, rfl, ?_⟩; replace HB := am (below_step Z1 hb); (try clear hb)) | ((with_reducible refine gate_dst (N := 6) rfl ?_); refine box_event ?hg (N := 6) ?hd (cs := #[.int .u64 0, .bool false]) (t := 78) ?hr ?_; (case hd => rfl); (case hg => rfl); (case hr => first | (go_simp; done) | (go_simp; rfl)); intro gb160 hg w41 hbox hb; have BK160 := am (hbox); have GW160 := am ((Z57 : w.heap.size ≤ gb160)); have GE160 := am ((Z57 : w.heap.size ≤ gb160)); replace HB := am (below_step Z1 hb); clear hb hbox hg; have hcz42_0 : w41.cell? ⟨gb160, 0, none⟩ = some (.int .u64 0) := (blk_cell BK160.out 0).trans rfl; have hcz42_1 : w41.cell? ⟨gb160, 1, none⟩ = some (.bool false) := (blk_cell BK160.out 1).trans rfl; have hfz42_0 := blk_frozen BK160.out 0; have hfz42_1 := blk_frozen BK160.out 1))
  go_ret2; exact ⟨_, Z5, Z20, Z15⟩
end Go.Proofs.Ytdafolenaibccaa.P
end
