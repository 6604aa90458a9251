import Derived.Test.YtdafolenaibccaaSInterpChainZ
import Derived.Test.YtdafolenaibccaaSInterpChain18
import Derived.Test.YtdafolenaibccaaSInterpChain20
section
namespace Go.Proofs.Ytdafolenaibccaa.P
open Go.RowKit Go.Proofs.YtdafolenaibccaaW.PrintWords Go.Proofs.YtdafolenaibccaaW.PrintLast Go.Proofs.YtdafolenaibccaaW.PrintMore
attribute [local go_sem] max2_int min2_int max_two min_two max_three min_three max_four min_four
set_option linter.unusedVariables false
set_option linter.unusedSimpArgs false
def interp_Change.l0 : Nat → Int → List Int → List Int → List (List Int) → List Int → Int → Int → Option ((List (List Int)) × Int)
 | 0, _, _, _, _, _, _, _ => none
 | k + 1, x0, x1, x9, x12, x36, x37, x38 => if x38 < x37 then (if 0 ≤ x38 then (if x38 < (x36.length : Int) then ((interp_basis_1.f k (rd x36 x38) x1 x0 x9).bind fun t210 => (if x12.length < 5864062014805 then (interp_Change.l0 k x0 x1 x9 (x12 ++ [t210]) x36 x37 (wrap64 (x38 + 1))) else (none))) else (none)) else (none)) else (some (x12, 0))
def interp_Change.f (k : Nat) (a0 : Int) (l1 : List Int) (l2 : List Int) : Option ((List (List Int)) × Int) := (interp_may.f k a0 l1 l1 l2).bind fun t204 => (if t204 = 0 then ((interp_weights.f k a0 l1).bind fun bt205 => (if bt205.2 = 0 then (interp_Change.l0 k a0 l1 bt205.1 ([] : List (List Int)) l2 (l2.length : Int) 0) else (some (([] : List (List Int)), bt205.2)))) else (some (([] : List (List Int)), t204)))
set_option maxHeartbeats 1000000 in
theorem interp_basis_is (f : Int) (A1 : Option Addr) (n1 c1 : Nat) (A2 : Option Addr) (n2 c2 : Nat) (w : World) :
  Calls Try.prog 50 #[.int .u8 f, .slice A1 n1 c1, .slice A2 n2 c2] w fun e w' => e = .returned (.func (.func 68) #[] #[.pointer (some ⟨w.heap.size, 0, none⟩), .pointer (some ⟨w.heap.size + 1 + 1, 0, none⟩), .pointer (some ⟨w.heap.size + 1, 0, none⟩)]) ∧
   (w'.heap[w.heap.size]? = some (.cells #[.slice A1 n1 c1] 22 (0, 0)) ∧ w'.heap[w.heap.size + 1 + 1]? = some (.cells #[.int .u8 f] 68 (0, 0)) ∧ w'.heap[w.heap.size + 1]? = some (.cells #[.slice A2 n2 c2] 22 (0, 0))) ∧ Below w.heap.size w w' := by
 have hu := Try.underlying68; have hmf : ∀ (fn : Fn) (first cap : Array Value) (w : World), (Instr.makeFunc fn first cap).run Try.prog w = .ok (.func fn first cap) w := fun _ _ _ _ => rfl
 have h1 : ∀ (W : World) (o : Obj), (W.alloc o).heap.size = W.heap.size + 1 := fun W o => by simp
 have a1 := blk_alloc (blk_alloc (blk_new w (.cells #[.slice A1 n1 c1] 22)) (.cells #[.slice A2 n2 c2] 22)) (.cells #[.int .u8 f] 68); have a2 := blk_alloc (blk_new (w.alloc (.cells #[.slice A1 n1 c1] 22)) (.cells #[.slice A2 n2 c2] 22)) (.cells #[.int .u8 f] 68); have a3 := blk_new ((w.alloc (.cells #[.slice A1 n1 c1] 22)).alloc (.cells #[.slice A2 n2 c2] 22)) (.cells #[.int .u8 f] 68); rw [h1] at a2; rw [h1, h1] at a3; have z := And.intro a1 (And.intro a3 a2); have b := below_alloc (below_alloc (below_alloc (Below.refl w.heap.size w) (.cells #[.slice A1 n1 c1] 22)) (.cells #[.slice A2 n2 c2] 22)) (.cells #[.int .u8 f] 68); have Z := am z; have BB := am b; clear a1 a2 a3 z b h1; go_enter Try.func50, Try.ntmps50
 go_wp2; go_ret; exact ⟨rfl, Z.out, BB.out⟩
set_option maxHeartbeats 8000000 in
set_option maxRecDepth 100000 in
theorem interp_Change.calls (k : Nat) (a0 : Int) (A1 : Option Addr) (c1 : Nat) (l1 : List Int) (A2 : Option Addr) (c2 : Nat) (l2 : List Int) (r1 : List (List Int)) (r2 : Int) (w : World) (hr1 : Kd.C (Kd.int .u64) w A1 l1.length l1) (hc1 : l1.length ≤ c1) (hr2 : Kd.C (Kd.int .u64) w A2 l2.length l2) (hc2 : l2.length ≤ c2) (h : interp_Change.f k a0 l1 l2 = some (r1, r2)) :
  Calls Try.prog 26 #[.int .u8 a0, .slice A1 l1.length c1, .slice A2 l2.length c2] w fun e w' => ∃ v0_ : Value, e = .returned (.tuple #[v0_, .int .i64 r2]) ∧ Kd.S (Kd.slice 24 (Kd.int .u64)) 22 w' w.heap.size (fun _ => True) v0_ r1 ∧ Below w.heap.size w w' := by
 have hu68 := Try.underlying68; have HR1 := am hr1; have HC1 := am hc1; clear hr1 hc1; have HR2 := am hr2; have HC2 := am hc2; clear hr2 hc2; have HB := am (Below.refl w.heap.size w); have H : ((interp_may.f k a0 l1 l1 l2).bind fun t204 => (if t204 = 0 then ((interp_weights.f k a0 l1).bind fun bt205 => (if bt205.2 = 0 then (interp_Change.l0 k a0 l1 bt205.1 ([] : List (List Int)) l2 (l2.length : Int) 0) else (some (([] : List (List Int)), bt205.2)))) else (some (([] : List (List Int)), t204)))) = some (r1, r2) := h; clear h; replace H := Option.bind_eq_some_iff.mp H; obtain ⟨t204, A40, H⟩ := H; replace H : (if t204 = 0 then ((interp_weights.f k a0 l1).bind fun bt205 => (if bt205.2 = 0 then (interp_Change.l0 k a0 l1 bt205.1 ([] : List (List Int)) l2 (l2.length : Int) 0) else (some (([] : List (List Int)), bt205.2)))) else (some (([] : List (List Int)), t204))) = some (r1, r2) := H; have A4 := am A40; clear A40; by_cases c5 : t204 = 0
 ·rw [if_pos c5] at H; have c5b0 : (t204 == 0) = true := beq_iff_eq.mpr c5; have c5b1 : (t204 != 0) = false := bne_eq_false_iff_eq.mpr c5; clear c5; replace H := Option.bind_eq_some_iff.mp H; obtain ⟨⟨t205, t206⟩, A60, H⟩ := H; replace H : (if t206 = 0 then (interp_Change.l0 k a0 l1 t205 ([] : List (List Int)) l2 (l2.length : Int) 0) else (some (([] : List (List Int)), t206))) = some (r1, r2) := H; have A6 := am A60; clear A60; by_cases c7 : t206 = 0
  ·rw [if_pos c7] at H; have c7b0 : (t206 == 0) = true := beq_iff_eq.mpr c7; have c7b1 : (t206 != 0) = false := bne_eq_false_iff_eq.mpr c7; clear c7; have H' := am H; clear H; go_enter Try.func26, Try.ntmps26
   go_wp2_with (first | ((with_reducible refine gate_callee (f := 35) rfl ?_); refine goesL_ (some 19) rfl rfl Try.func35 Z12 rfl #[.int .u8 a0, .slice A1 l1.length c1, .slice A1 l1.length c1, .slice A2 l2.length c2] rfl Z2 ?_; (with_reducible refine (interp_may.calls k a0 _ _ l1 _ _ l1 _ _ l2 t204 _ ?side1 ?side2 ?side3 ?side4 ?side5 ?side6 A4.out).mono ?_); (case side1 => repeat (first | exact HR1.out | (with_reducible refine Kd.C_alloc ?_ _) | (with_reducible refine Kd.C_drewN ?_ _) | (with_reducible refine Kd.C_drew ?_))); (case side2 => exact HC1.out); (case side3 => repeat (first | exact HR1.out | (with_reducible refine Kd.C_alloc ?_ _) | (with_reducible refine Kd.C_drewN ?_ _) | (with_reducible refine Kd.C_drew ?_))); (case side4 => exact HC1.out); (case side5 => repeat (first | exact HR2.out | (with_reducible refine Kd.C_alloc ?_ _) | (with_reducible refine Kd.C_drewN ?_ _) | (with_reducible refine Kd.C_drew ?_))); (case side6 => exact HC2.out); rintro e w8 ⟨rfl, hb⟩; refine ⟨_, rfl, ?_⟩; replace HB := am (below_step Z1 hb); (try clear hb)) | ((with_reducible refine gate_callee (f := 38) rfl ?_); refine goesL_ (some 26) rfl rfl Try.func38 Z12 rfl #[.int .u8 a0, .slice A1 l1.length c1] rfl Z2 ?_; (with_reducible refine (interp_weights.calls k a0 _ _ l1 t205 t206 _ ?side1 ?side2 A6.out).mono ?_); (case side1 => repeat (first | exact (Kd.C_below HR1.out HB.out) | (with_reducible refine Kd.C_alloc ?_ _) | (with_reducible refine Kd.C_drewN ?_ _) | (with_reducible refine Kd.C_drew ?_))); (case side2 => exact HC1.out); rintro e w9 ⟨v207, rfl, ho0, hb⟩; refine ⟨_, rfl, ?_⟩; have HO208 := am (Kd.R_lower ho0 (below_size Z1)); replace HB := am (below_step Z1 hb); (try clear hb); (try clear ho0); obtain ⟨Av_, cv_, ev_⟩ := Kd.R_slice HO208.out; subst ev_) | (go_at_call 50; (with_reducible refine (interp_basis_is a0 A1 l1.length c1 Av_ t205.length cv_ _).mono ?_); rintro e wB ⟨rfl, ⟨hk1_, hk2_, hk3_⟩, hbB_⟩; have HX1 := am (Kd.C_below HR1.out (below_step HB.out hbB_)); have HX2 := am (Kd.C_below HR2.out (below_step HB.out hbB_)); have HXW := am (Kd.C_below (Kd.R_reads' HO208.out).2.2 hbB_); have HXC := am (Kd.R_reads' HO208.out).2.1; have HBB := am (below_step HB.out hbB_); have KB1 := am hk1_; have KB2 := am hk2_; have KB3 := am hk3_; have HSB := am hbB_.size; clear hk1_ hk2_ hk3_ hbB_ HB HO208; have HB := am (Below.refl wB.heap.size wB)))
   go_loopg [12, 38] k (fun kq v12 v38 w' => ∃ (x12_1 : List (List Int)) (x38_1 : Int), v38 = .int .i64 x38_1 ∧ Aside0 (interp_Change.l0 kq a0 l1 t205 x12_1 l2 (l2.length : Int) x38_1 = some (r1, r2)) ∧ Aside0 (kq ≤ k) ∧ Aside0 (Kd.S (Kd.slice 24 (Kd.int .u64)) 22 w' wB.heap.size (fun _ => True) v12 x12_1) ∧ Aside0 (Below wB.heap.size wB w'))
   case atStart => exact ⟨(([] : List (List Int))), (0), Z7, H', ⟨Nat.le_refl _⟩, ⟨Z54⟩, ⟨Z1⟩⟩
   case round =>
    clear H'; (try clear c1); (try clear c2); (try clear p2); (try clear c3); (try clear c5); (try clear c5b0); (try clear c5b1); (try clear c7); (try clear c7b0); (try clear c7b1); obtain ⟨x12_1, x38_1, rfl, HA, HK1, HO_12, HB⟩ := hrel; cases gk with
    | zero => exact absurd HA.out (by simp [interp_Change.l0])
    | succ k1 =>
     have H := HA.out; clear HA; simp only [interp_Change.l0] at H; by_cases c10 : x38_1 < (l2.length : Int)
     ·rw [if_pos c10] at H; have c10b0 : decide (x38_1 < (l2.length : Int)) = true := decide_eq_true c10; clear c10; by_cases c11 : 0 ≤ x38_1
      ·rw [if_pos c11] at H; have c11b0 : decide (0 ≤ x38_1) = true := decide_eq_true c11; clear c11; by_cases c12 : x38_1 < (l2.length : Int)
       ·rw [if_pos c12] at H; have c12b0 : decide (x38_1 < (l2.length : Int)) = true := decide_eq_true c12; clear c12; replace H := Option.bind_eq_some_iff.mp H; obtain ⟨t210, A130, H⟩ := H; replace H : (if x12_1.length < 5864062014805 then (interp_Change.l0 k1 a0 l1 t205 (x12_1 ++ [t210]) l2 (l2.length : Int) (wrap64 (x38_1 + 1))) else (none)) = some (r1, r2) := H; have A13 := am A130; clear A130; by_cases c14 : x12_1.length < 5864062014805
        ·rw [if_pos c14] at H; have LMc14 := am c14; clear c14; obtain ⟨y213, hy213⟩ : ∃ y_ : List (List Int), y_ = (x12_1 ++ [t210]) := ⟨_, rfl⟩; replace H : (interp_Change.l0 k1 a0 l1 t205 y213 l2 (l2.length : Int) (wrap64 (x38_1 + 1))) = some (r1, r2) := by first | (rw [hy213]; with_reducible exact H) | (have H2_ := (Option.bind_some _ _).symm.trans H; rw [hy213]; with_reducible exact H2_) | (have H2_ := (Option.bind_some _ _).symm.trans H; with_reducible exact H2_) | with_reducible exact H | (rw [hy213]; exact H) | exact H
         have Ny213 := am hy213; clear hy213; have H' := am H; clear H; have p209 : 0 ≤ (x38_1 : Int) := of_decide_eq_true Z3; have q209 : x38_1 < (l2.length : Int) := of_decide_eq_true Z3; obtain ⟨ad209, e209, hx209_0⟩ := Kd.at_int HX2.out x38_1 p209 q209; cases e209; replace hx209_0 := (HB.out.cell (World.block_lt_of_cell? wB _ hx209_0)).trans hx209_0; replace p209 := eq_true p209; replace q209 := eq_true q209; go_wp2_with (first | (go_at_call 68; (with_reducible refine (interp_basis_1.calls k1 (rd l2 x38_1) _ _ l1 a0 _ _ t205 t210 w9.heap.size (w9.heap.size + 1 + 1) (w9.heap.size + 1) _ (Kd.C_below HX1.out HB.out) HC1.out (Kd.C_below HXW.out HB.out) HXC.out (blk_below KB1.out HB.out) (blk_below KB2.out HB.out) (blk_below KB3.out HB.out) (by omega) (by omega) (by omega) A13.out).mono ?_); rintro e w16 ⟨v209, rfl, ho0, hb⟩; replace HO_12 := am (Kd.S_elder' HO_12.out (Kd.R_base ho0) hb); have HO210 := am (Kd.R_lower ho0 (below_size HB.out)); replace HB := am (below_step HB.out hb); clear hb ho0; obtain ⟨Ao18, co18, eo18⟩ := Kd.R_slice HO210.out; subst eo18) | ((with_reducible refine gate_builtin (b := .append) (xs := #[.tmp 42, .tmp 46]) rfl ?_); at_builtin; refine Kd.S_append (Kd.slice 24 (Kd.int .u64)) (w0 := wB) wB.heap.size rfl (.tmp 42) (.tmp 46) 52 22 (.slice none 0 0) 24 rfl Try.underlying52 info22 rfl Z101 (by omega) u12 x12_1 t210 [.slice Ao18 t210.length co18] (fun _ => True) (fun k_ => some k_ = (.slice Ao18 t210.length co18 : Value).ownBlock) rfl rfl ?aP (fun k_ hk_ => ((Kd.R_mono (ok' := fun k_ => ((fun _ => True)) k_ ∧ some k_ ≠ (u12 : Value).ownBlock) (Kd.R_apart' (HO210.out) (Kd.S_typed HO_12.out) Z101) (fun k_ hk => ⟨trivial, hk.2⟩))).1 k_ hk_.symm) ?aF ?aO ?aB ?aS ?aL ?_; (case aP => exact Kd.M_row (Kd.R_mono (Kd.R_tight rfl (Kd.R_mono (ok' := fun k_ => ((fun _ => True)) k_ ∧ some k_ ≠ (u12 : Value).ownBlock) (Kd.R_apart' (HO210.out) (Kd.S_typed HO_12.out) Z101) (fun k_ hk => ⟨trivial, hk.2⟩))) (fun _ h_ => h_))); (case aB => exact Z1); (case aF => exact (fun _ _ => trivial)); (case aO => exact (by (with_reducible repeat (first | apply Kd.S_alloc | apply Kd.S_drewN | apply Kd.S_drew)); exact Kd.S_mono HO_12.out (fun k_ hk => ⟨trivial, fun e_ => hk.2 e_⟩))); (case aS => exact (below_size Z1)); (case aL => have := LMc14.out; omega); intro v212 w17 ho hb hg hat; rw [← Ny213.out] at ho; have n1_ := am (hb); have n2_ := am (ho); clear HB; clear HO_12; clear HO210; have HB := n1_; have HO213 := n2_; clear n1_ n2_; clear ho hb hg hat))
         go_roundg k1
         case measure => have := HK1.out; omega
         case rel => exact ⟨(y213), (wrap64 (x38_1 + 1)), Z7, H', ⟨Z75⟩, ⟨by (with_reducible repeat (first | apply Kd.S_alloc | apply Kd.S_drewN | apply Kd.S_drew)); exact HO213.out⟩, ⟨Z1⟩⟩
        ·rw [if_neg c14] at H; exact absurd H (by simp)
       ·rw [if_neg c12] at H; exact absurd H (by simp)
      ·rw [if_neg c11] at H; exact absurd H (by simp)
     ·rw [if_neg c10] at H; have c10b0 : decide (x38_1 < (l2.length : Int)) = false := decide_eq_false c10; clear c10; simp only [Option.some.injEq, Prod.mk.injEq] at H; obtain ⟨rfl, rfl⟩ := H; go_wp2; go_ret2; exact ⟨_, Z5, Kd.S_lower HO_12.out HBB.out.size, below_step HBB.out HB.out⟩
  ·rw [if_neg c7] at H; have c7b0 : (t206 == 0) = false := beq_eq_false_iff_ne.mpr c7; have c7b1 : (t206 != 0) = true := bne_iff_ne.mpr c7; simp only [Option.some.injEq, Prod.mk.injEq] at H; obtain ⟨rfl, rfl⟩ := H; go_enter Try.func26, Try.ntmps26
   go_wp2_with (first | ((with_reducible refine gate_callee (f := 35) rfl ?_); refine goesL_ (some 19) rfl rfl Try.func35 Z12 rfl #[.int .u8 a0, .slice A1 l1.length c1, .slice A1 l1.length c1, .slice A2 l2.length c2] rfl Z2 ?_; (with_reducible refine (interp_may.calls k a0 _ _ l1 _ _ l1 _ _ l2 t204 _ ?side1 ?side2 ?side3 ?side4 ?side5 ?side6 A4.out).mono ?_); (case side1 => repeat (first | exact HR1.out | (with_reducible refine Kd.C_alloc ?_ _) | (with_reducible refine Kd.C_drewN ?_ _) | (with_reducible refine Kd.C_drew ?_))); (case side2 => exact HC1.out); (case side3 => repeat (first | exact HR1.out | (with_reducible refine Kd.C_alloc ?_ _) | (with_reducible refine Kd.C_drewN ?_ _) | (with_reducible refine Kd.C_drew ?_))); (case side4 => exact HC1.out); (case side5 => repeat (first | exact HR2.out | (with_reducible refine Kd.C_alloc ?_ _) | (with_reducible refine Kd.C_drewN ?_ _) | (with_reducible refine Kd.C_drew ?_))); (case side6 => exact HC2.out); rintro e w19 ⟨rfl, hb⟩; refine ⟨_, rfl, ?_⟩; replace HB := am (below_step Z1 hb); (try clear hb)) | ((with_reducible refine gate_callee (f := 38) rfl ?_); refine goesL_ (some 26) rfl rfl Try.func38 Z12 rfl #[.int .u8 a0, .slice A1 l1.length c1] rfl Z2 ?_; (with_reducible refine (interp_weights.calls k a0 _ _ l1 t205 t206 _ ?side1 ?side2 A6.out).mono ?_); (case side1 => repeat (first | exact (Kd.C_below HR1.out HB.out) | (with_reducible refine Kd.C_alloc ?_ _) | (with_reducible refine Kd.C_drewN ?_ _) | (with_reducible refine Kd.C_drew ?_))); (case side2 => exact HC1.out); rintro e w20 ⟨v207, rfl, ho0, hb⟩; refine ⟨_, rfl, ?_⟩; have HO208 := am (Kd.R_lower ho0 (below_size Z1)); replace HB := am (below_step Z1 hb); (try clear hb); (try clear ho0)))
   go_ret2; exact ⟨_, Z5, Z54, Z1⟩
 ·rw [if_neg c5] at H; have c5b0 : (t204 == 0) = false := beq_eq_false_iff_ne.mpr c5; have c5b1 : (t204 != 0) = true := bne_iff_ne.mpr c5; simp only [Option.some.injEq, Prod.mk.injEq] at H; obtain ⟨rfl, rfl⟩ := H; go_enter Try.func26, Try.ntmps26
  go_wp2_with (first | ((with_reducible refine gate_callee (f := 35) rfl ?_); refine goesL_ (some 19) rfl rfl Try.func35 Z12 rfl #[.int .u8 a0, .slice A1 l1.length c1, .slice A1 l1.length c1, .slice A2 l2.length c2] rfl Z2 ?_; (with_reducible refine (interp_may.calls k a0 _ _ l1 _ _ l1 _ _ l2 t204 _ ?side1 ?side2 ?side3 ?side4 ?side5 ?side6 A4.out).mono ?_); (case side1 => repeat (first | exact HR1.out | (with_reducible refine Kd.C_alloc ?_ _) | (with_reducible refine Kd.C_drewN ?_ _) | (with_reducible refine Kd.C_drew ?_))); (case side2 => exact HC1.out); (case side3 => repeat (first | exact HR1.out | (with_reducible refine Kd.C_alloc ?_ _) | (with_reducible refine Kd.C_drewN ?_ _) | (with_reducible refine Kd.C_drew ?_))); (case side4 => exact HC1.out); (case side5 => repeat (first | exact HR2.out | (with_reducible refine Kd.C_alloc ?_ _) | (with_reducible refine Kd.C_drewN ?_ _) | (with_reducible refine Kd.C_drew ?_))); (case side6 => exact HC2.out); rintro e w21 ⟨rfl, hb⟩; refine ⟨_, rfl, ?_⟩; replace HB := am (below_step Z1 hb); (try clear hb)))
  go_ret2; exact ⟨_, Z5, Z54, Z1⟩
end Go.Proofs.Ytdafolenaibccaa.P
end
section
namespace Go.Proofs.Ytdafolenaibccaa.P
open Go.RowKit Go.Proofs.YtdafolenaibccaaW.PrintWords Go.Proofs.YtdafolenaibccaaW.PrintLast Go.Proofs.YtdafolenaibccaaW.PrintMore
attribute [local go_sem] max2_int min2_int max_two min_two max_three min_three max_four min_four
set_option linter.unusedVariables false
set_option linter.unusedSimpArgs false
end Go.Proofs.Ytdafolenaibccaa.P
end
section
namespace Go.Proofs.Ytdafolenaibccaa.P
open Go.RowKit Go.Proofs.YtdafolenaibccaaW.PrintWords Go.Proofs.YtdafolenaibccaaW.PrintLast Go.Proofs.YtdafolenaibccaaW.PrintMore
attribute [local go_sem] max2_int min2_int max_two min_two max_three min_three max_four min_four
set_option linter.unusedVariables false
set_option linter.unusedSimpArgs false
def conclaveref01_P.f (a0 : Int) : Option (Int) := if a0 = 1 then (some 2013265921) else (if a0 = 2 then (some 18446744069414584321) else (some 0))
set_option maxHeartbeats 8000000 in
set_option maxRecDepth 100000 in
theorem conclaveref01_P.calls (a0 : Int) (r : Int) (w : World) (h : conclaveref01_P.f a0 = some r) :
  Calls Try.prog 29 #[.int .u8 a0] w fun e w' => e = .returned (.int .u64 r) ∧ Drawn0 w w' := by
 have H : (if a0 = 1 then (some 2013265921) else (if a0 = 2 then (some 18446744069414584321) else (some 0))) = some r := h; clear h; by_cases c2 : a0 = 1
 ·rw [if_pos c2] at H; have c2b0 : (a0 == 1) = true := beq_iff_eq.mpr c2; have c2b1 : (a0 != 1) = false := bne_eq_false_iff_eq.mpr c2; clear c2; obtain rfl := Option.some.inj H; go_enter Try.func29, Try.ntmps29
  go_wp2; go_ret; exact ⟨Z7, Z17⟩
 ·rw [if_neg c2] at H; have c2b0 : (a0 == 1) = false := beq_eq_false_iff_ne.mpr c2; have c2b1 : (a0 != 1) = true := bne_iff_ne.mpr c2; by_cases c3 : a0 = 2
  ·rw [if_pos c3] at H; have c3b0 : (a0 == 2) = true := beq_iff_eq.mpr c3; have c3b1 : (a0 != 2) = false := bne_eq_false_iff_eq.mpr c3; clear c3; obtain rfl := Option.some.inj H; go_enter Try.func29, Try.ntmps29
   go_wp2; go_ret; exact ⟨Z7, Z17⟩
  ·rw [if_neg c3] at H; have c3b0 : (a0 == 2) = false := beq_eq_false_iff_ne.mpr c3; have c3b1 : (a0 != 2) = true := bne_iff_ne.mpr c3; obtain rfl := Option.some.inj H; go_enter Try.func29, Try.ntmps29
   go_wp2; go_ret; exact ⟨Z7, Z17⟩
def conclaveref01_In.l0 : Nat → List Int → Int → Int → Option (Bool)
 | 0, _, _, _ => none
 | k + 1, x1, x5, x6 => if x6 < (x1.length : Int) then (if 0 ≤ x6 then (if (rd x1 x6) ≥ x5 then (some false) else (conclaveref01_In.l0 k x1 x5 (wrap64 (x6 + 1)))) else (none)) else (some (x5 != 0))
def conclaveref01_In.f (k : Nat) (a0 : Int) (l1 : List Int) : Option (Bool) := (conclaveref01_P.f a0).bind fun t243 => (conclaveref01_In.l0 k l1 t243 0)
set_option maxHeartbeats 8000000 in
set_option maxRecDepth 100000 in
theorem conclaveref01_In.calls (k : Nat) (a0 : Int) (A1 : Option Addr) (c1 : Nat) (l1 : List Int) (r : Bool) (w : World) (hr1 : Kd.C (Kd.int .u64) w A1 l1.length l1) (hc1 : l1.length ≤ c1) (h : conclaveref01_In.f k a0 l1 = some r) :
  Calls Try.prog 37 #[.int .u8 a0, .slice A1 l1.length c1] w fun e w' => e = .returned (.bool r) ∧ Drawn0 w w' := by
 have HR1 := am hr1; have HC1 := am hc1; clear hr1 hc1; have H : ((conclaveref01_P.f a0).bind fun t243 => (conclaveref01_In.l0 k l1 t243 0)) = some r := h; clear h; replace H := Option.bind_eq_some_iff.mp H; obtain ⟨t243, A30, H⟩ := H; replace H : (conclaveref01_In.l0 k l1 t243 0) = some r := H; have A3 := am A30; clear A30; have H' := am H; clear H; go_enter Try.func37, Try.ntmps37
 go_wp2_with (first | ((with_reducible refine gate_callee (f := 29) rfl ?_); refine goesL_ (some 8) rfl rfl Try.func29 Z12 rfl #[.int .u8 a0] rfl Z2 ?_; (with_reducible refine (conclaveref01_P.calls a0 t243 _ A3.out).mono ?_); rintro e w' ⟨rfl, ⟨nd, rfl⟩⟩; refine ⟨_, rfl, ?_⟩))
 go_loopg [6] k (fun kq v6 w' => ∃ (x6_1 : Int), v6 = .int .i64 x6_1 ∧ Aside0 (conclaveref01_In.l0 kq l1 t243 x6_1 = some r) ∧ Aside0 (kq ≤ k) ∧ Drawn0 w w')
 case atStart => exact ⟨(0), Z7, H', ⟨Nat.le_refl _⟩, Z17⟩
 case round =>
  clear H'; (try clear c1); (try clear c2); (try clear p2); (try clear c3); obtain ⟨x6_1, rfl, HA, HK1, ⟨m1, rfl⟩⟩ := hrel; cases gk with
  | zero => exact absurd HA.out (by simp [conclaveref01_In.l0])
  | succ k1 =>
   have H := HA.out; clear HA; simp only [conclaveref01_In.l0] at H; by_cases c4 : x6_1 < (l1.length : Int)
   ·rw [if_pos c4] at H; have c4b0 : decide (x6_1 < (l1.length : Int)) = true := decide_eq_true c4; clear c4; by_cases c5 : 0 ≤ x6_1
    ·rw [if_pos c5] at H; have c5b0 : decide (0 ≤ x6_1) = true := decide_eq_true c5; clear c5; by_cases c6 : (rd l1 x6_1) ≥ t243
     ·rw [if_pos c6] at H; have c6b0 : decide (t243 ≤ (rd l1 x6_1)) = true := decide_eq_true c6; clear c6; obtain rfl := Option.some.inj H; have p244 : 0 ≤ (x6_1 : Int) := of_decide_eq_true Z3; have q244 : x6_1 < (l1.length : Int) := of_decide_eq_true Z3; obtain ⟨ad244, e244, hx244_0⟩ := Kd.at_int HR1.out x6_1 p244 q244; cases e244; replace p244 := eq_true p244; replace q244 := eq_true q244; go_wp2; go_ret; exact ⟨Z7, Z17⟩
     ·rw [if_neg c6] at H; have c6b0 : decide (t243 ≤ (rd l1 x6_1)) = false := decide_eq_false c6; clear c6; have H' := am H; clear H; have p244 : 0 ≤ (x6_1 : Int) := of_decide_eq_true Z3; have q244 : x6_1 < (l1.length : Int) := of_decide_eq_true Z3; obtain ⟨ad244, e244, hx244_0⟩ := Kd.at_int HR1.out x6_1 p244 q244; cases e244; replace p244 := eq_true p244; replace q244 := eq_true q244; go_wp2; go_roundg k1
      case measure => have := HK1.out; omega
      case rel => exact ⟨(wrap64 (x6_1 + 1)), Z7, H', ⟨Z75⟩, Z17⟩
    ·rw [if_neg c5] at H; exact absurd H (by simp)
   ·rw [if_neg c4] at H; have c4b0 : decide (x6_1 < (l1.length : Int)) = false := decide_eq_false c4; clear c4; obtain rfl := Option.some.inj H; go_wp2; go_ret; exact ⟨Z7, Z17⟩
end Go.Proofs.Ytdafolenaibccaa.P
end
section
namespace Go.Proofs.Ytdafolenaibccaa.P
open Go.RowKit Go.Proofs.YtdafolenaibccaaW.PrintWords Go.Proofs.YtdafolenaibccaaW.PrintLast Go.Proofs.YtdafolenaibccaaW.PrintMore
attribute [local go_sem] max2_int min2_int max_two min_two max_three min_three max_four min_four
set_option linter.unusedVariables false
set_option linter.unusedSimpArgs false
mutual
def conclaveref07_Bad.j0 : Nat → List Int → Int → Bool → Option (Int)
 | 0, _, _, _ => none
 | k + 1, x1, x3, x20 => if x20 = true then (some 2) else (if (x1.length : Int) = x3 then (if (x1.length : Int) > 512 then (some 4) else (conclaveref07_Bad.l0 k x1 0)) else (some 3))
def conclaveref07_Bad.l0 : Nat → List Int → Int → Option (Int)
 | 0, _, _ => none
 | k + 1, x1, x9 => if x9 < (x1.length : Int) then (conclaveref07_Bad.l1 k x1 x9 0) else (some 0)
def conclaveref07_Bad.l1 : Nat → List Int → Int → Int → Option (Int)
 | 0, _, _, _ => none
 | k + 1, x1, x9, x10 => if x10 < x9 then (if 0 ≤ x9 then (if x9 < (x1.length : Int) then (if 0 ≤ x10 then (if x10 < (x1.length : Int) then (if (rd x1 x9) = (rd x1 x10) then (some 6) else (conclaveref07_Bad.l1 k x1 x9 (wrap64 (x10 + 1)))) else (none)) else (none)) else (none)) else (none)) else (conclaveref07_Bad.l0 k x1 (wrap64 (x9 + 1)))
end
def conclaveref07_Bad.f (k : Nat) (a0 : Int) (l1 : List Int) (l2 : List Int) (a3 : Int) : Option (Int) := (conclaveref01_In.f k a0 l1).bind fun t245 => (if t245 = true then ((conclaveref01_In.f k a0 l2).bind fun t246 => (conclaveref07_Bad.j0 k l1 a3 (!t246))) else (conclaveref07_Bad.j0 k l1 a3 true))
set_option maxHeartbeats 8000000 in
set_option maxRecDepth 100000 in
theorem conclaveref07_Bad.calls (k : Nat) (a0 : Int) (A1 : Option Addr) (c1 : Nat) (l1 : List Int) (A2 : Option Addr) (c2 : Nat) (l2 : List Int) (a3 : Int) (r : Int) (w : World) (hr1 : Kd.C (Kd.int .u64) w A1 l1.length l1) (hc1 : l1.length ≤ c1) (hr2 : Kd.C (Kd.int .u64) w A2 l2.length l2) (hc2 : l2.length ≤ c2) (h : conclaveref07_Bad.f k a0 l1 l2 a3 = some r) :
  Calls Try.prog 18 #[.int .u8 a0, .slice A1 l1.length c1, .slice A2 l2.length c2, .int .i64 a3] w fun e w' => e = .returned (.int .i64 r) ∧ Drawn0 w w' := by
 have HR1 := am hr1; have HC1 := am hc1; clear hr1 hc1; have HR2 := am hr2; have HC2 := am hc2; clear hr2 hc2; have H : ((conclaveref01_In.f k a0 l1).bind fun t245 => (if t245 = true then ((conclaveref01_In.f k a0 l2).bind fun t246 => (conclaveref07_Bad.j0 k l1 a3 (!t246))) else (conclaveref07_Bad.j0 k l1 a3 true))) = some r := h; clear h; have HC5 := am H; clear H; go_enter Try.func18, Try.ntmps18
 go_upto_region 1 with (fail)
 repeat (go_quiet (fail); go_upto_region 1 with (fail))
 go_cut [20] (fun v20 wc => ∃ (kq : Nat) (x20_4 : Bool), v20 = .bool x20_4 ∧ Aside0 (conclaveref07_Bad.j0 kq l1 a3 x20_4 = some r) ∧ Aside0 (kq ≤ k) ∧ Drawn0 w wc)
 case first =>
  have H := HC5.out; clear HC5; replace H := Option.bind_eq_some_iff.mp H; obtain ⟨t245, A60, H⟩ := H; replace H : (if t245 = true then ((conclaveref01_In.f k a0 l2).bind fun t246 => (conclaveref07_Bad.j0 k l1 a3 (!t246))) else (conclaveref07_Bad.j0 k l1 a3 true)) = some r := H; have A6 := am A60; clear A60; by_cases c7 : t245 = true
  ·subst c7; have H1 : ((conclaveref01_In.f k a0 l2).bind fun t246 => (conclaveref07_Bad.j0 k l1 a3 (!t246))) = some r := by rw [if_pos rfl] at H; exact H
   clear H; have H := H1; clear H1; replace H := Option.bind_eq_some_iff.mp H; obtain ⟨t246, A80, H⟩ := H; replace H : (conclaveref07_Bad.j0 k l1 a3 (!t246)) = some r := H; have A8 := am A80; clear A80; have H' := am H; clear H; go_wp2_with (first | (go_at_call 37; (with_reducible refine (conclaveref01_In.calls k a0 _ _ l1 true _ ?side1 ?side2 A6.out).mono ?_); (case side1 => repeat (first | exact HR1.out | (with_reducible refine Kd.C_alloc ?_ _) | (with_reducible refine Kd.C_drewN ?_ _) | (with_reducible refine Kd.C_drew ?_))); (case side2 => exact HC1.out); rintro e w' ⟨rfl, ⟨nd, rfl⟩⟩; (try first | exact ⟨rfl, _, World.drewN_drewN _ _ _⟩ | exact ⟨rfl, _, Eq.trans (World.drewN_drewN _ _ _) (congrArg (World.drewN _) (Nat.add_assoc _ _ _))⟩)) | (go_at_call 37; (with_reducible refine (conclaveref01_In.calls k a0 _ _ l2 t246 _ ?side1 ?side2 A8.out).mono ?_); (case side1 => repeat (first | exact HR2.out | (with_reducible refine Kd.C_alloc ?_ _) | (with_reducible refine Kd.C_drewN ?_ _) | (with_reducible refine Kd.C_drew ?_))); (case side2 => exact HC2.out); rintro e w' ⟨rfl, ⟨nd, rfl⟩⟩; (try first | exact ⟨rfl, _, World.drewN_drewN _ _ _⟩ | exact ⟨rfl, _, Eq.trans (World.drewN_drewN _ _ _) (congrArg (World.drewN _) (Nat.add_assoc _ _ _))⟩)))
   repeat (go_quiet (first | (go_at_call 37; (with_reducible refine (conclaveref01_In.calls k a0 _ _ l1 true _ ?side1 ?side2 A6.out).mono ?_); (case side1 => repeat (first | exact HR1.out | (with_reducible refine Kd.C_alloc ?_ _) | (with_reducible refine Kd.C_drewN ?_ _) | (with_reducible refine Kd.C_drew ?_))); (case side2 => exact HC1.out); rintro e w' ⟨rfl, ⟨nd, rfl⟩⟩; (try first | exact ⟨rfl, _, World.drewN_drewN _ _ _⟩ | exact ⟨rfl, _, Eq.trans (World.drewN_drewN _ _ _) (congrArg (World.drewN _) (Nat.add_assoc _ _ _))⟩)) | (go_at_call 37; (with_reducible refine (conclaveref01_In.calls k a0 _ _ l2 t246 _ ?side1 ?side2 A8.out).mono ?_); (case side1 => repeat (first | exact HR2.out | (with_reducible refine Kd.C_alloc ?_ _) | (with_reducible refine Kd.C_drewN ?_ _) | (with_reducible refine Kd.C_drew ?_))); (case side2 => exact HC2.out); rintro e w' ⟨rfl, ⟨nd, rfl⟩⟩; (try first | exact ⟨rfl, _, World.drewN_drewN _ _ _⟩ | exact ⟨rfl, _, Eq.trans (World.drewN_drewN _ _ _) (congrArg (World.drewN _) (Nat.add_assoc _ _ _))⟩))); try go_wp2_with (first | (go_at_call 37; (with_reducible refine (conclaveref01_In.calls k a0 _ _ l1 true _ ?side1 ?side2 A6.out).mono ?_); (case side1 => repeat (first | exact HR1.out | (with_reducible refine Kd.C_alloc ?_ _) | (with_reducible refine Kd.C_drewN ?_ _) | (with_reducible refine Kd.C_drew ?_))); (case side2 => exact HC1.out); rintro e w' ⟨rfl, ⟨nd, rfl⟩⟩; (try first | exact ⟨rfl, _, World.drewN_drewN _ _ _⟩ | exact ⟨rfl, _, Eq.trans (World.drewN_drewN _ _ _) (congrArg (World.drewN _) (Nat.add_assoc _ _ _))⟩)) | (go_at_call 37; (with_reducible refine (conclaveref01_In.calls k a0 _ _ l2 t246 _ ?side1 ?side2 A8.out).mono ?_); (case side1 => repeat (first | exact HR2.out | (with_reducible refine Kd.C_alloc ?_ _) | (with_reducible refine Kd.C_drewN ?_ _) | (with_reducible refine Kd.C_drew ?_))); (case side2 => exact HC2.out); rintro e w' ⟨rfl, ⟨nd, rfl⟩⟩; (try first | exact ⟨rfl, _, World.drewN_drewN _ _ _⟩ | exact ⟨rfl, _, Eq.trans (World.drewN_drewN _ _ _) (congrArg (World.drewN _) (Nat.add_assoc _ _ _))⟩))))
   go_meet
   case rel => exact ⟨_, (!t246), Z7, H', ⟨Z74⟩, Z17⟩
  ·replace c7 := Bool.eq_false_iff.mpr c7; subst c7; have H1 : (conclaveref07_Bad.j0 k l1 a3 true) = some r := by rw [if_neg (show ¬ (false = true) by decide)] at H; exact H
   clear H; have H := H1; clear H1; have H' := am H; clear H; go_wp2_with (first | (go_at_call 37; (with_reducible refine (conclaveref01_In.calls k a0 _ _ l1 false _ ?side1 ?side2 A6.out).mono ?_); (case side1 => repeat (first | exact HR1.out | (with_reducible refine Kd.C_alloc ?_ _) | (with_reducible refine Kd.C_drewN ?_ _) | (with_reducible refine Kd.C_drew ?_))); (case side2 => exact HC1.out); rintro e w' ⟨rfl, ⟨nd, rfl⟩⟩; (try first | exact ⟨rfl, _, World.drewN_drewN _ _ _⟩ | exact ⟨rfl, _, Eq.trans (World.drewN_drewN _ _ _) (congrArg (World.drewN _) (Nat.add_assoc _ _ _))⟩)))
   repeat (go_quiet (first | (go_at_call 37; (with_reducible refine (conclaveref01_In.calls k a0 _ _ l1 false _ ?side1 ?side2 A6.out).mono ?_); (case side1 => repeat (first | exact HR1.out | (with_reducible refine Kd.C_alloc ?_ _) | (with_reducible refine Kd.C_drewN ?_ _) | (with_reducible refine Kd.C_drew ?_))); (case side2 => exact HC1.out); rintro e w' ⟨rfl, ⟨nd, rfl⟩⟩; (try first | exact ⟨rfl, _, World.drewN_drewN _ _ _⟩ | exact ⟨rfl, _, Eq.trans (World.drewN_drewN _ _ _) (congrArg (World.drewN _) (Nat.add_assoc _ _ _))⟩))); try go_wp2_with (first | (go_at_call 37; (with_reducible refine (conclaveref01_In.calls k a0 _ _ l1 false _ ?side1 ?side2 A6.out).mono ?_); (case side1 => repeat (first | exact HR1.out | (with_reducible refine Kd.C_alloc ?_ _) | (with_reducible refine Kd.C_drewN ?_ _) | (with_reducible refine Kd.C_drew ?_))); (case side2 => exact HC1.out); rintro e w' ⟨rfl, ⟨nd, rfl⟩⟩; (try first | exact ⟨rfl, _, World.drewN_drewN _ _ _⟩ | exact ⟨rfl, _, Eq.trans (World.drewN_drewN _ _ _) (congrArg (World.drewN _) (Nat.add_assoc _ _ _))⟩))))
   go_meet
   case rel => exact ⟨_, (true), Z7, H', ⟨Z74⟩, Z17⟩
 case rest =>
  clear HC5; (try clear c1); (try clear c2); (try clear p2); (try clear c7); obtain ⟨kq, x20_4, rfl, HA, HJ4, ⟨mc4, rfl⟩⟩ := hcut; cases kq with
  | zero => exact absurd HA.out (by simp [conclaveref07_Bad.j0])
  | succ kj4 =>
   have H := HA.out; clear HA; simp only [conclaveref07_Bad.j0] at H; by_cases c9 : x20_4 = true
   ·subst c9; have H1 : (some 2) = some r := by rw [if_pos rfl] at H; exact H
    clear H; have H := H1; clear H1; obtain rfl := Option.some.inj H; go_wp2; repeat (go_quiet (fail); try go_wp2)
    go_ret; exact ⟨Z7, Z17⟩
   ·replace c9 := Bool.eq_false_iff.mpr c9; subst c9; have H1 : (if (l1.length : Int) = a3 then (if (l1.length : Int) > 512 then (some 4) else (conclaveref07_Bad.l0 kj4 l1 0)) else (some 3)) = some r := by rw [if_neg (show ¬ (false = true) by decide)] at H; exact H
    clear H; have H := H1; clear H1; by_cases c10 : (l1.length : Int) = a3
    ·rw [if_pos c10] at H; have c10b0 : ((l1.length : Int) == a3) = true := beq_iff_eq.mpr c10; have c10b1 : ((l1.length : Int) != a3) = false := bne_eq_false_iff_eq.mpr c10; clear c10; by_cases c11 : (l1.length : Int) > 512
     ·rw [if_pos c11] at H; have c11b0 : decide (512 < (l1.length : Int)) = true := decide_eq_true c11; have c11b1 : decide (512 < l1.length) = true := decide_eq_true (by omega); clear c11; obtain rfl := Option.some.inj H; go_wp2; repeat (go_quiet (fail); try go_wp2)
      go_ret; exact ⟨Z7, Z17⟩
     ·rw [if_neg c11] at H; have c11b0 : decide (512 < (l1.length : Int)) = false := decide_eq_false c11; have c11b1 : decide (512 < l1.length) = false := decide_eq_false (by omega); clear c11; have H' := am H; clear H; go_wp2; repeat (go_quiet (fail); try go_wp2)
      go_loopg [9] kj4 (fun kq v9 w' => ∃ (x9_2 : Int), v9 = .int .i64 x9_2 ∧ Aside0 (conclaveref07_Bad.l0 kq l1 x9_2 = some r) ∧ Aside0 (kq ≤ kj4) ∧ Drawn0 w w')
      case atStart => exact ⟨(0), Z7, H', ⟨Nat.le_refl _⟩, Z17⟩
      case round =>
       clear H'; (try clear c1); (try clear c2); (try clear p2); (try clear c4); (try clear c7); (try clear c9); (try clear c10); (try clear c10b0); (try clear c10b1); (try clear c11); (try clear c11b0); (try clear c11b1); (try clear p2); obtain ⟨x9_2, rfl, HA, HK2, ⟨m2, rfl⟩⟩ := hrel; cases gk with
       | zero => exact absurd HA.out (by simp [conclaveref07_Bad.l0])
       | succ k2 =>
        have H := HA.out; clear HA; simp only [conclaveref07_Bad.l0] at H; by_cases c12 : x9_2 < (l1.length : Int)
        ·rw [if_pos c12] at H; have c12b0 : decide (x9_2 < (l1.length : Int)) = true := decide_eq_true c12; clear c12; have H' := am H; clear H; go_wp2; repeat (go_quiet (fail); try go_wp2)
         go_loopg [10] k2 (fun kq v10 w' => ∃ (x10_3 : Int), v10 = .int .i64 x10_3 ∧ Aside0 (conclaveref07_Bad.l1 kq l1 x9_2 x10_3 = some r) ∧ Aside0 (kq ≤ k2) ∧ Drawn0 w w')
         case atStart => exact ⟨(0), Z7, H', ⟨Nat.le_refl _⟩, Z17⟩
         case round =>
          clear H'; (try clear c1); (try clear c2); (try clear p2); (try clear c4); (try clear c7); (try clear c9); (try clear c10); (try clear c10b0); (try clear c10b1); (try clear c11); (try clear c11b0); (try clear c11b1); (try clear c12); (try clear c12b0); (try clear p2); obtain ⟨x10_3, rfl, HA, HK3, ⟨m3, rfl⟩⟩ := hrel; cases gk with
          | zero => exact absurd HA.out (by simp [conclaveref07_Bad.l1])
          | succ k3 =>
           have H := HA.out; clear HA; simp only [conclaveref07_Bad.l1] at H; by_cases c13 : x10_3 < x9_2
           ·rw [if_pos c13] at H; have c13b0 : decide (x10_3 < x9_2) = true := decide_eq_true c13; clear c13; by_cases c14 : 0 ≤ x9_2
            ·rw [if_pos c14] at H; have c14b0 : decide (0 ≤ x9_2) = true := decide_eq_true c14; clear c14; by_cases c15 : x9_2 < (l1.length : Int)
             ·rw [if_pos c15] at H; have c15b0 : decide (x9_2 < (l1.length : Int)) = true := decide_eq_true c15; clear c15; by_cases c16 : 0 ≤ x10_3
              ·rw [if_pos c16] at H; have c16b0 : decide (0 ≤ x10_3) = true := decide_eq_true c16; clear c16; by_cases c17 : x10_3 < (l1.length : Int)
               ·rw [if_pos c17] at H; have c17b0 : decide (x10_3 < (l1.length : Int)) = true := decide_eq_true c17; clear c17; by_cases c18 : (rd l1 x9_2) = (rd l1 x10_3)
                ·rw [if_pos c18] at H; have c18b0 : ((rd l1 x9_2) == (rd l1 x10_3)) = true := beq_iff_eq.mpr c18; have c18b1 : ((rd l1 x9_2) != (rd l1 x10_3)) = false := bne_eq_false_iff_eq.mpr c18; clear c18; obtain rfl := Option.some.inj H; have p247 : 0 ≤ (x9_2 : Int) := of_decide_eq_true Z3; have q247 : x9_2 < (l1.length : Int) := of_decide_eq_true Z3; obtain ⟨ad247, e247, hx247_0⟩ := Kd.at_int HR1.out x9_2 p247 q247; cases e247; replace p247 := eq_true p247; replace q247 := eq_true q247; have p248 : 0 ≤ (x10_3 : Int) := of_decide_eq_true Z3; have q248 : x10_3 < (l1.length : Int) := of_decide_eq_true Z3; obtain ⟨ad248, e248, hx248_0⟩ := Kd.at_int HR1.out x10_3 p248 q248; obtain rfl : ad247 = ad248 := (by injection e248); replace p248 := eq_true p248; replace q248 := eq_true q248; go_wp2; repeat (go_quiet (fail); try go_wp2)
                 go_ret; exact ⟨Z7, Z17⟩
                ·rw [if_neg c18] at H; have c18b0 : ((rd l1 x9_2) == (rd l1 x10_3)) = false := beq_eq_false_iff_ne.mpr c18; have c18b1 : ((rd l1 x9_2) != (rd l1 x10_3)) = true := bne_iff_ne.mpr c18; have H' := am H; clear H; have p247 : 0 ≤ (x9_2 : Int) := of_decide_eq_true Z3; have q247 : x9_2 < (l1.length : Int) := of_decide_eq_true Z3; obtain ⟨ad247, e247, hx247_0⟩ := Kd.at_int HR1.out x9_2 p247 q247; cases e247; replace p247 := eq_true p247; replace q247 := eq_true q247; have p248 : 0 ≤ (x10_3 : Int) := of_decide_eq_true Z3; have q248 : x10_3 < (l1.length : Int) := of_decide_eq_true Z3; obtain ⟨ad248, e248, hx248_0⟩ := Kd.at_int HR1.out x10_3 p248 q248; obtain rfl : ad247 = ad248 := (by injection e248); replace p248 := eq_true p248; replace q248 := eq_true q248; go_wp2; repeat (go_quiet (fail); try go_wp2)
                 go_roundg k3
                 case measure => have := HJ4.out; have := HK2.out; have := HK3.out; omega
                 case rel => exact ⟨(wrap64 (x10_3 + 1)), Z7, H', ⟨by have := HJ4.out; have := HK2.out; have := HK3.out; omega⟩, Z17⟩
               ·rw [if_neg c17] at H; exact absurd H (by simp)
              ·rw [if_neg c16] at H; exact absurd H (by simp)
             ·rw [if_neg c15] at H; exact absurd H (by simp)
            ·rw [if_neg c14] at H; exact absurd H (by simp)
           ·rw [if_neg c13] at H; have c13b0 : decide (x10_3 < x9_2) = false := decide_eq_false c13; clear c13; have H' := am H; clear H; go_wp2; repeat (go_quiet (fail); try go_wp2)
            go_roundg k3
            case measure => have := HJ4.out; have := HK2.out; have := HK3.out; omega
            case rel => exact ⟨(wrap64 (x9_2 + 1)), Z7, H', ⟨by have := HJ4.out; have := HK2.out; have := HK3.out; omega⟩, Z17⟩
        ·rw [if_neg c12] at H; have c12b0 : decide (x9_2 < (l1.length : Int)) = false := decide_eq_false c12; clear c12; obtain rfl := Option.some.inj H; go_wp2; repeat (go_quiet (fail); try go_wp2)
         go_ret; exact ⟨Z7, Z17⟩
    ·rw [if_neg c10] at H; have c10b0 : ((l1.length : Int) == a3) = false := beq_eq_false_iff_ne.mpr c10; have c10b1 : ((l1.length : Int) != a3) = true := bne_iff_ne.mpr c10; obtain rfl := Option.some.inj H; go_wp2; repeat (go_quiet (fail); try go_wp2)
     go_ret; exact ⟨Z7, Z17⟩
end Go.Proofs.Ytdafolenaibccaa.P
end
section
namespace Go.Proofs.Ytdafolenaibccaa.P
open Go.RowKit Go.Proofs.YtdafolenaibccaaW.PrintWords Go.Proofs.YtdafolenaibccaaW.PrintLast Go.Proofs.YtdafolenaibccaaW.PrintMore
attribute [local go_sem] max2_int min2_int max_two min_two max_three min_three max_four min_four
set_option linter.unusedVariables false
set_option linter.unusedSimpArgs false
def conclaveref03_Bad.j0 : Nat → List Int → List Int → Bool → Option (Int)
 | 0, _, _, _ => none
 | k + 1, x1, x2, x16 => if x16 = true then (some 2) else (if (x1.length : Int) > 4096 then (some 4) else (if (x2.length : Int) > 4096 then (some 4) else (some 0)))
def conclaveref03_Bad.f (k : Nat) (a0 : Int) (l1 : List Int) (l2 : List Int) : Option (Int) := (conclaveref01_In.f k a0 l1).bind fun t249 => (if t249 = true then ((conclaveref01_In.f k a0 l2).bind fun t250 => (conclaveref03_Bad.j0 k l1 l2 (!t250))) else (conclaveref03_Bad.j0 k l1 l2 true))
def conclaveref01_Sum.f (a0 : Int) (a1 : Int) (a2 : Int) : Option (Int) := if a1 ≥ (IntKind.u64.wrap (a0 - a2)) then (some (IntKind.u64.wrap (a1 - (IntKind.u64.wrap (a0 - a2))))) else (some (IntKind.u64.wrap (a1 + a2)))
set_option maxHeartbeats 8000000 in
set_option maxRecDepth 100000 in
theorem conclaveref01_Sum.calls (a0 : Int) (a1 : Int) (a2 : Int) (r : Int) (w : World) (h : conclaveref01_Sum.f a0 a1 a2 = some r) :
  Calls Try.prog 30 #[.int .u64 a0, .int .u64 a1, .int .u64 a2] w fun e w' => e = .returned (.int .u64 r) ∧ Drawn0 w w' := by
 have H : (if a1 ≥ (IntKind.u64.wrap (a0 - a2)) then (some (IntKind.u64.wrap (a1 - (IntKind.u64.wrap (a0 - a2))))) else (some (IntKind.u64.wrap (a1 + a2)))) = some r := h; clear h; by_cases c4 : a1 ≥ (IntKind.u64.wrap (a0 - a2))
 ·rw [if_pos c4] at H; have c4b0 : decide ((IntKind.u64.wrap (a0 - a2)) ≤ a1) = true := decide_eq_true c4; clear c4; obtain rfl := Option.some.inj H; go_enter Try.func30, Try.ntmps30
  go_wp2; go_ret; exact ⟨Z7, Z17⟩
 ·rw [if_neg c4] at H; have c4b0 : decide ((IntKind.u64.wrap (a0 - a2)) ≤ a1) = false := decide_eq_false c4; clear c4; obtain rfl := Option.some.inj H; go_enter Try.func30, Try.ntmps30
  go_wp2; go_ret; exact ⟨Z7, Z17⟩
def conclaveref01_Times.l0 : Nat → Int → Int → Int → Int → Int → Option (Int)
 | 0, _, _, _, _, _ => none
 | k + 1, x0, x1, x2, x7, x8 => if x8 ≥ 0 then ((conclaveref01_Sum.f x0 x7 x7).bind fun t251 => (if 0 ≤ (IntKind.u64.wrap (x8)) then (if (Go.bits .and .u64 (shr .u64 x2 (IntKind.u64.wrap (x8))) 1) = 1 then ((conclaveref01_Sum.f x0 t251 x1).bind fun t252 => (conclaveref01_Times.l0 k x0 x1 x2 t252 (wrap64 (x8 - 1)))) else (conclaveref01_Times.l0 k x0 x1 x2 t251 (wrap64 (x8 - 1)))) else (none))) else (some x7)
def conclaveref01_Times.f (k : Nat) (a0 : Int) (a1 : Int) (a2 : Int) : Option (Int) := conclaveref01_Times.l0 k a0 a1 a2 0 63
set_option maxHeartbeats 8000000 in
set_option maxRecDepth 100000 in
theorem conclaveref01_Times.calls (k : Nat) (a0 : Int) (a1 : Int) (a2 : Int) (r : Int) (w : World) (h : conclaveref01_Times.f k a0 a1 a2 = some r) :
  Calls Try.prog 31 #[.int .u64 a0, .int .u64 a1, .int .u64 a2] w fun e w' => e = .returned (.int .u64 r) ∧ Drawn0 w w' := by
 have H : (conclaveref01_Times.l0 k a0 a1 a2 0 63) = some r := h; clear h; have H' := am H; clear H; go_enter Try.func31, Try.ntmps31
 go_wp2; go_loopg [7, 8] k (fun kq v7 v8 w' => ∃ (x7_1 : Int) (x8_1 : Int), v7 = .int .u64 x7_1 ∧ v8 = .int .i64 x8_1 ∧ Aside0 (conclaveref01_Times.l0 kq a0 a1 a2 x7_1 x8_1 = some r) ∧ Aside0 (kq ≤ k) ∧ Drawn0 w w')
 case atStart => exact ⟨(0), (63), Z7, Z7, H', ⟨Nat.le_refl _⟩, Z17⟩
 case round =>
  clear H'; (try clear p2); (try clear c3); obtain ⟨x7_1, x8_1, rfl, rfl, HA, HK1, ⟨m1, rfl⟩⟩ := hrel; cases gk with
  | zero => exact absurd HA.out (by simp [conclaveref01_Times.l0])
  | succ k1 =>
   have H := HA.out; clear HA; simp only [conclaveref01_Times.l0] at H; by_cases c4 : x8_1 ≥ 0
   ·rw [if_pos c4] at H; have c4b0 : decide (0 ≤ x8_1) = true := decide_eq_true c4; clear c4; replace H := Option.bind_eq_some_iff.mp H; obtain ⟨t251, A50, H⟩ := H; replace H : (if 0 ≤ (IntKind.u64.wrap (x8_1)) then (if (Go.bits .and .u64 (shr .u64 a2 (IntKind.u64.wrap (x8_1))) 1) = 1 then ((conclaveref01_Sum.f a0 t251 a1).bind fun t252 => (conclaveref01_Times.l0 k1 a0 a1 a2 t252 (wrap64 (x8_1 - 1)))) else (conclaveref01_Times.l0 k1 a0 a1 a2 t251 (wrap64 (x8_1 - 1)))) else (none)) = some r := H; have A5 := am A50; clear A50; obtain ⟨ji6, hji6⟩ : ∃ j_ : Int, (IntKind.u64.wrap (x8_1)) = j_ := ⟨_, rfl⟩; replace H : (if 0 ≤ (ji6) then (if (Go.bits .and .u64 (shr .u64 a2 (ji6)) 1) = 1 then ((conclaveref01_Sum.f a0 t251 a1).bind fun t252 => (conclaveref01_Times.l0 k1 a0 a1 a2 t252 (wrap64 (x8_1 - 1)))) else (conclaveref01_Times.l0 k1 a0 a1 a2 t251 (wrap64 (x8_1 - 1)))) else (none)) = some r := by first | (rw [hji6] at H; exact H) | (simp only [hji6] at H ⊢; exact H)
    (try rw [hji6] at A5)
    by_cases c7 : 0 ≤ (ji6)
    ·rw [if_pos c7] at H; have c7b0 := eq_true c7; have c7b1 : decide (0 ≤ (ji6)) = true := decide_eq_true c7; clear c7; obtain ⟨ji8, hji8⟩ : ∃ j_ : Int, (shr .u64 a2 (ji6)) = j_ := ⟨_, rfl⟩; replace H : (if (Go.bits .and .u64 (ji8) 1) = 1 then ((conclaveref01_Sum.f a0 t251 a1).bind fun t252 => (conclaveref01_Times.l0 k1 a0 a1 a2 t252 (wrap64 (x8_1 - 1)))) else (conclaveref01_Times.l0 k1 a0 a1 a2 t251 (wrap64 (x8_1 - 1)))) = some r := by first | (rw [hji8] at H; exact H) | (simp only [hji8] at H ⊢; exact H)
     (try rw [hji8] at A5)
     have hji8_ : (a2 / 2 ^ min (ji6).toNat 64) = ji8 := hji8; have hji8z : (ji6) ≤ 64 → (a2 / 2 ^ (ji6).toNat) = ji8 := shr_small hji8; by_cases c9 : (Go.bits .and .u64 (ji8) 1) = 1
     ·rw [if_pos c9] at H; have c9b0 : ((Go.bits .and .u64 (ji8) 1) == 1) = true := beq_iff_eq.mpr c9; have c9b1 : ((Go.bits .and .u64 (ji8) 1) != 1) = false := bne_eq_false_iff_eq.mpr c9; clear c9; replace H := Option.bind_eq_some_iff.mp H; obtain ⟨t252, A100, H⟩ := H; replace H : (conclaveref01_Times.l0 k1 a0 a1 a2 t252 (wrap64 (x8_1 - 1))) = some r := H; have A10 := am A100; clear A100; have H' := am H; clear H; go_wp2_with (first | ((with_reducible refine gate_callee (f := 30) rfl ?_); refine goesL_ (some 16) rfl rfl Try.func30 Z12 rfl #[.int .u64 a0, .int .u64 x7_1, .int .u64 x7_1] rfl Z2 ?_; (with_reducible refine (conclaveref01_Sum.calls a0 x7_1 x7_1 t251 _ A5.out).mono ?_); rintro e w' ⟨rfl, ⟨nd, rfl⟩⟩; refine ⟨_, rfl, ?_⟩) | ((with_reducible refine gate_callee (f := 30) rfl ?_); refine goesL_ (some 26) rfl rfl Try.func30 Z12 rfl #[.int .u64 a0, .int .u64 t251, .int .u64 a1] rfl Z2 ?_; (with_reducible refine (conclaveref01_Sum.calls a0 t251 a1 t252 _ A10.out).mono ?_); rintro e w' ⟨rfl, ⟨nd, rfl⟩⟩; refine ⟨_, rfl, ?_⟩))
      go_roundg k1
      case measure => have := HK1.out; omega
      case rel => exact ⟨(t252), (wrap64 (x8_1 - 1)), Z7, Z7, H', ⟨Z75⟩, Z17⟩
     ·rw [if_neg c9] at H; have c9b0 : ((Go.bits .and .u64 (ji8) 1) == 1) = false := beq_eq_false_iff_ne.mpr c9; have c9b1 : ((Go.bits .and .u64 (ji8) 1) != 1) = true := bne_iff_ne.mpr c9; have H' := am H; clear H; go_wp2_with (first | ((with_reducible refine gate_callee (f := 30) rfl ?_); refine goesL_ (some 16) rfl rfl Try.func30 Z12 rfl #[.int .u64 a0, .int .u64 x7_1, .int .u64 x7_1] rfl Z2 ?_; (with_reducible refine (conclaveref01_Sum.calls a0 x7_1 x7_1 t251 _ A5.out).mono ?_); rintro e w' ⟨rfl, ⟨nd, rfl⟩⟩; refine ⟨_, rfl, ?_⟩))
      go_roundg k1
      case measure => have := HK1.out; omega
      case rel => exact ⟨(t251), (wrap64 (x8_1 - 1)), Z7, Z7, H', ⟨Z75⟩, Z17⟩
    ·rw [if_neg c7] at H; exact absurd H (by simp)
   ·rw [if_neg c4] at H; have c4b0 : decide (0 ≤ x8_1) = false := decide_eq_false c4; clear c4; obtain rfl := Option.some.inj H; go_wp2; go_ret; exact ⟨Z7, Z17⟩
end Go.Proofs.Ytdafolenaibccaa.P
end
section
namespace Go.Proofs.Ytdafolenaibccaa.P
open Go.RowKit Go.Proofs.YtdafolenaibccaaW.PrintWords Go.Proofs.YtdafolenaibccaaW.PrintLast Go.Proofs.YtdafolenaibccaaW.PrintMore
attribute [local go_sem] max2_int min2_int max_two min_two max_three min_three max_four min_four
set_option linter.unusedVariables false
set_option linter.unusedSimpArgs false
def conclaveref01_Same.l0 : Nat → List Int → List Int → Int → Option (Bool)
 | 0, _, _, _ => none
 | k + 1, x0, x1, x5 => if x5 < (x0.length : Int) then (if 0 ≤ x5 then (if x5 < (x1.length : Int) then (if (rd x0 x5) = (rd x1 x5) then (conclaveref01_Same.l0 k x0 x1 (wrap64 (x5 + 1))) else (some false)) else (none)) else (none)) else (some true)
def conclaveref01_Same.f (k : Nat) (l0 : List Int) (l1 : List Int) : Option (Bool) := if (l0.length : Int) = (l1.length : Int) then (conclaveref01_Same.l0 k l0 l1 0) else (some false)
theorem conclaveref01_Same.mono_l : ∀ k, (∀ y0 y1 y2, LeO (conclaveref01_Same.l0 k y0 y1 y2) (conclaveref01_Same.l0 (k + 1) y0 y1 y2))
 | 0 => fun _ _ _ r h => by simp [conclaveref01_Same.l0] at h
 | k + 1 => by
  have ih0 := conclaveref01_Same.mono_l k
  ·intro y0 y1 y2; unfold conclaveref01_Same.l0; repeat' first
   | (with_reducible exact ih0 _ _ _)
   | (with_reducible exact LeO.refl _)
   | (with_reducible exact LeO.none _)
   | (with_reducible refine LeO.ite ?_ ?_)
   | (with_reducible refine LeO.bind ?_ (fun _ => ?_))
   | exact ih0 _ _ _
   | exact LeO.none _
   | refine LeO.ite ?_ ?_
   | refine LeO.bind ?_ (fun _ => ?_)
theorem conclaveref01_Same.mono : ∀ a0 a1 k, LeO (conclaveref01_Same.f k a0 a1) (conclaveref01_Same.f (k + 1) a0 a1) := by
 intro a0 a1 k; have ih0 := conclaveref01_Same.mono_l k; unfold conclaveref01_Same.f; repeat' first
   | (with_reducible exact ih0 _ _ _)
   | (with_reducible exact LeO.refl _)
   | (with_reducible exact LeO.none _)
   | (with_reducible refine LeO.ite ?_ ?_)
   | (with_reducible refine LeO.bind ?_ (fun _ => ?_))
   | exact ih0 _ _ _
   | exact LeO.none _
   | refine LeO.ite ?_ ?_
   | refine LeO.bind ?_ (fun _ => ?_)
set_option maxHeartbeats 8000000 in
set_option maxRecDepth 100000 in
theorem conclaveref01_Same.calls (k : Nat) (A0 : Option Addr) (c0 : Nat) (l0 : List Int) (A1 : Option Addr) (c1 : Nat) (l1 : List Int) (r : Bool) (w : World) (hr0 : Kd.C (Kd.int .u64) w A0 l0.length l0) (hc0 : l0.length ≤ c0) (hr1 : Kd.C (Kd.int .u64) w A1 l1.length l1) (hc1 : l1.length ≤ c1) (h : conclaveref01_Same.f k l0 l1 = some r) :
  Calls Try.prog 16 #[.slice A0 l0.length c0, .slice A1 l1.length c1] w fun e w' => e = .returned (.bool r) ∧ Drawn0 w w' := by
 have HR0 := am hr0; have HC0 := am hc0; clear hr0 hc0; have HR1 := am hr1; have HC1 := am hc1; clear hr1 hc1; have H : (if (l0.length : Int) = (l1.length : Int) then (conclaveref01_Same.l0 k l0 l1 0) else (some false)) = some r := h; clear h; by_cases c3 : (l0.length : Int) = (l1.length : Int)
 ·rw [if_pos c3] at H; have c3b0 : ((l0.length : Int) == (l1.length : Int)) = true := beq_iff_eq.mpr c3; have c3b1 : ((l0.length : Int) != (l1.length : Int)) = false := bne_eq_false_iff_eq.mpr c3; have c3b2 : (l0.length == l1.length) = true := by first | simpa using c3 | (simp at c3 ⊢; omega)
  clear c3; have H' := am H; clear H; go_enter Try.func16, Try.ntmps16
  go_wp2; repeat (go_quiet (fail); try go_wp2)
  go_loopg [5] k (fun kq v5 w' => ∃ (x5_1 : Int), v5 = .int .i64 x5_1 ∧ Aside0 (conclaveref01_Same.l0 kq l0 l1 x5_1 = some r) ∧ Aside0 (kq ≤ k) ∧ Drawn0 w w')
  case atStart => exact ⟨(0), Z7, H', ⟨Nat.le_refl _⟩, Z17⟩
  case round =>
   clear H'; (try clear c1); (try clear p2); (try clear c3); (try clear c3b0); (try clear c3b1); (try clear c3b2); obtain ⟨x5_1, rfl, HA, HK1, ⟨m1, rfl⟩⟩ := hrel; cases gk with
   | zero => exact absurd HA.out (by simp [conclaveref01_Same.l0])
   | succ k1 =>
    have H := HA.out; clear HA; simp only [conclaveref01_Same.l0] at H; by_cases c4 : x5_1 < (l0.length : Int)
    ·rw [if_pos c4] at H; have c4b0 : decide (x5_1 < (l0.length : Int)) = true := decide_eq_true c4; clear c4; by_cases c5 : 0 ≤ x5_1
     ·rw [if_pos c5] at H; have c5b0 : decide (0 ≤ x5_1) = true := decide_eq_true c5; clear c5; by_cases c6 : x5_1 < (l1.length : Int)
      ·rw [if_pos c6] at H; have c6b0 : decide (x5_1 < (l1.length : Int)) = true := decide_eq_true c6; clear c6; by_cases c7 : (rd l0 x5_1) = (rd l1 x5_1)
       ·rw [if_pos c7] at H; have c7b0 : ((rd l0 x5_1) == (rd l1 x5_1)) = true := beq_iff_eq.mpr c7; have c7b1 : ((rd l0 x5_1) != (rd l1 x5_1)) = false := bne_eq_false_iff_eq.mpr c7; clear c7; have H' := am H; clear H; have p418 : 0 ≤ (x5_1 : Int) := of_decide_eq_true Z3; have q418 : x5_1 < (l0.length : Int) := of_decide_eq_true Z3; obtain ⟨ad418, e418, hx418_0⟩ := Kd.at_int HR0.out x5_1 p418 q418; cases e418; replace p418 := eq_true p418; replace q418 := eq_true q418; have p419 : 0 ≤ (x5_1 : Int) := of_decide_eq_true Z3; have q419 : x5_1 < (l1.length : Int) := of_decide_eq_true Z3; obtain ⟨ad419, e419, hx419_0⟩ := Kd.at_int HR1.out x5_1 p419 q419; cases e419; replace p419 := eq_true p419; replace q419 := eq_true q419; go_wp2; repeat (go_quiet (fail); try go_wp2)
        go_roundg k1
        case measure => have := HK1.out; omega
        case rel => exact ⟨(wrap64 (x5_1 + 1)), Z7, H', ⟨Z75⟩, Z17⟩
       ·rw [if_neg c7] at H; have c7b0 : ((rd l0 x5_1) == (rd l1 x5_1)) = false := beq_eq_false_iff_ne.mpr c7; have c7b1 : ((rd l0 x5_1) != (rd l1 x5_1)) = true := bne_iff_ne.mpr c7; obtain rfl := Option.some.inj H; have p418 : 0 ≤ (x5_1 : Int) := of_decide_eq_true Z3; have q418 : x5_1 < (l0.length : Int) := of_decide_eq_true Z3; obtain ⟨ad418, e418, hx418_0⟩ := Kd.at_int HR0.out x5_1 p418 q418; cases e418; replace p418 := eq_true p418; replace q418 := eq_true q418; have p419 : 0 ≤ (x5_1 : Int) := of_decide_eq_true Z3; have q419 : x5_1 < (l1.length : Int) := of_decide_eq_true Z3; obtain ⟨ad419, e419, hx419_0⟩ := Kd.at_int HR1.out x5_1 p419 q419; cases e419; replace p419 := eq_true p419; replace q419 := eq_true q419; go_wp2; repeat (go_quiet (fail); try go_wp2)
        go_ret; exact ⟨Z7, Z17⟩
      ·rw [if_neg c6] at H; exact absurd H (by simp)
     ·rw [if_neg c5] at H; exact absurd H (by simp)
    ·rw [if_neg c4] at H; have c4b0 : decide (x5_1 < (l0.length : Int)) = false := decide_eq_false c4; clear c4; obtain rfl := Option.some.inj H; go_wp2; repeat (go_quiet (fail); try go_wp2)
     go_ret; exact ⟨Z7, Z17⟩
 ·rw [if_neg c3] at H; have c3b0 : ((l0.length : Int) == (l1.length : Int)) = false := beq_eq_false_iff_ne.mpr c3; have c3b1 : ((l0.length : Int) != (l1.length : Int)) = true := bne_iff_ne.mpr c3; have c3b2 : (l0.length == l1.length) = false := by first | simpa using c3 | (simp at c3 ⊢; omega)
  obtain rfl := Option.some.inj H; go_enter Try.func16, Try.ntmps16
  go_wp2; repeat (go_quiet (fail); try go_wp2)
  go_ret; exact ⟨Z7, Z17⟩
end Go.Proofs.Ytdafolenaibccaa.P
end
section
namespace Go.Proofs.Ytdafolenaibccaa.P
open Go.RowKit Go.Proofs.YtdafolenaibccaaW.PrintWords Go.Proofs.YtdafolenaibccaaW.PrintLast Go.Proofs.YtdafolenaibccaaW.PrintMore
attribute [local go_sem] max2_int min2_int max_two min_two max_three min_three max_four min_four
set_option linter.unusedVariables false
set_option linter.unusedSimpArgs false
def conclaveref01_Less.f (a0 : Int) (a1 : Int) (a2 : Int) : Option (Int) := if a1 ≥ a2 then (some (IntKind.u64.wrap (a1 - a2))) else (some (IntKind.u64.wrap (a0 - (IntKind.u64.wrap (a2 - a1)))))
def conclaveref01_Power.l0 : Nat → Int → Int → Int → Int → Int → Option (Int)
 | 0, _, _, _, _, _ => none
 | k + 1, x0, x1, x2, x7, x8 => if x8 ≥ 0 then ((conclaveref01_Times.f k x0 x7 x7).bind fun t264 => (if 0 ≤ (IntKind.u64.wrap (x8)) then (if (Go.bits .and .u64 (shr .u64 x2 (IntKind.u64.wrap (x8))) 1) = 1 then ((conclaveref01_Times.f k x0 t264 x1).bind fun t265 => (conclaveref01_Power.l0 k x0 x1 x2 t265 (wrap64 (x8 - 1)))) else (conclaveref01_Power.l0 k x0 x1 x2 t264 (wrap64 (x8 - 1)))) else (none))) else (some x7)
def conclaveref01_Power.f (k : Nat) (a0 : Int) (a1 : Int) (a2 : Int) : Option (Int) := if a0 = 0 then (none) else (conclaveref01_Power.l0 k a0 a1 a2 ((1 : Int) % a0) 63)
def conclaveref01_Turned.f (k : Nat) (a0 : Int) (a1 : Int) : Option (Int) := (conclaveref01_Power.f k a0 a1 (IntKind.u64.wrap (a0 - 2))).bind fun t266 => (some t266)
end Go.Proofs.Ytdafolenaibccaa.P
end
section
namespace Go.Proofs.Ytdafolenaibccaa.P
open Go.RowKit Go.Proofs.YtdafolenaibccaaW.PrintWords Go.Proofs.YtdafolenaibccaaW.PrintLast Go.Proofs.YtdafolenaibccaaW.PrintMore
attribute [local go_sem] max2_int min2_int max_two min_two max_three min_three max_four min_four
set_option linter.unusedVariables false
set_option linter.unusedSimpArgs false
mutual
def conclaveref07_Weights.l0 : Nat → List Int → Int → List Int → Int → Option (List Int × Int)
 | 0, _, _, _, _ => none
 | k + 1, x1, x7, x8, x9 => if x9 < (x1.length : Int) then (conclaveref07_Weights.l1 k x1 x7 x8 x9 1 0) else (some (x8, 0))
def conclaveref07_Weights.l1 : Nat → List Int → Int → List Int → Int → Int → Int → Option (List Int × Int)
 | 0, _, _, _, _, _, _ => none
 | k + 1, x1, x7, x8, x9, x10, x11 => if x11 < (x1.length : Int) then (if x11 = x9 then (conclaveref07_Weights.l1 k x1 x7 x8 x9 x10 (wrap64 (x11 + 1))) else (if 0 ≤ x9 then (if x9 < (x1.length : Int) then (if 0 ≤ x11 then ((conclaveref01_Less.f x7 (rd x1 x9) (rd x1 x11)).bind fun t275 => ((conclaveref01_Times.f k x7 x10 t275).bind fun t276 => (conclaveref07_Weights.l1 k x1 x7 x8 x9 t276 (wrap64 (x11 + 1))))) else (none)) else (none)) else (none))) else ((conclaveref01_Turned.f k x7 x10).bind fun t269 => (if x8.length < 17592186044416 then (conclaveref07_Weights.l0 k x1 x7 (x8 ++ [t269]) (wrap64 (x9 + 1))) else (none)))
end
def conclaveref07_Weights.f (k : Nat) (a0 : Int) (l1 : List Int) : Option (List Int × Int) := (conclaveref07_Bad.f k a0 l1 ([] : List Int) (l1.length : Int)).bind fun t267 => (if t267 = 0 then ((conclaveref01_P.f a0).bind fun t268 => (conclaveref07_Weights.l0 k l1 t268 ([] : List Int) 0)) else (some (([] : List Int), t267)))
def conclaveref06_bad.f (k : Nat) (a0 : Int) (l1 : List Int) (l2 : List Int) : Option (Int) := (conclaveref03_Bad.f k a0 l1 l2).bind fun t277 => (if t277 = 2 then (some 2) else (if (l1.length : Int) > 2048 then (some 4) else (if (l2.length : Int) > 2048 then (some 4) else (some 0))))
def conclaveref01_Copy.f (l0 : List Int) : Option (List Int) := (some (([] : List Int) : List Int)).bind fun y278 => (if y278.length + l0.length < 17592186044416 then (some (y278 ++ l0)) else (none))
end Go.Proofs.Ytdafolenaibccaa.P
end
section
namespace Go.Proofs.Ytdafolenaibccaa.P
open Go.RowKit Go.Proofs.YtdafolenaibccaaW.PrintWords Go.Proofs.YtdafolenaibccaaW.PrintLast Go.Proofs.YtdafolenaibccaaW.PrintMore
attribute [local go_sem] max2_int min2_int max_two min_two max_three min_three max_four min_four
set_option linter.unusedVariables false
set_option linter.unusedSimpArgs false
def conclaveref03_Trim.l0 : Nat → List Int → Int → Option (List Int)
 | 0, _, _ => none
 | k + 1, x0, x3 => if x3 > 0 then (if 0 ≤ (wrap64 (x3 - 1)) then (if (wrap64 (x3 - 1)) < (x0.length : Int) then (if (rd x0 (wrap64 (x3 - 1))) = 0 then (conclaveref03_Trim.l0 k x0 (wrap64 (x3 - 1))) else (if 0 ≤ x3 then (if x3 ≤ (x0.length : Int) then ((conclaveref01_Copy.f (x0.take (x3 : Int).toNat)).bind fun t286 => (some t286)) else (none)) else (none))) else (none)) else (none)) else (if 0 ≤ x3 then (if x3 ≤ (x0.length : Int) then ((conclaveref01_Copy.f (x0.take (x3 : Int).toNat)).bind fun t290 => (some t290)) else (none)) else (none))
def conclaveref03_Trim.f (k : Nat) (l0 : List Int) : Option (List Int) := conclaveref03_Trim.l0 k l0 (l0.length : Int)
end Go.Proofs.Ytdafolenaibccaa.P
end
section
namespace Go.Proofs.Ytdafolenaibccaa.P
open Go.RowKit Go.Proofs.YtdafolenaibccaaW.PrintWords Go.Proofs.YtdafolenaibccaaW.PrintLast Go.Proofs.YtdafolenaibccaaW.PrintMore
attribute [local go_sem] max2_int min2_int max_two min_two max_three min_three max_four min_four
set_option linter.unusedVariables false
set_option linter.unusedSimpArgs false
mutual
def conclaveref03_Mul.j0 : Nat → Int → List Int → List Int → Bool → Option (List Int × Int)
 | 0, _, _, _, _ => none
 | k + 1, x0, x1, x2, x30 => if x30 = true then (some (([] : List Int), 0)) else (if (wrap64 ((wrap64 ((x1.length : Int) + (x2.length : Int))) - 1)) > 4096 then (some (([] : List Int), 4)) else (if 0 ≤ (wrap64 ((wrap64 ((x1.length : Int) + (x2.length : Int))) - 1)) then (if (wrap64 ((wrap64 ((x1.length : Int) + (x2.length : Int))) - 1) : Int).toNat ≤ 35184372088832 then (conclaveref03_Mul.l0 k x0 x1 x2 (List.replicate (wrap64 ((wrap64 ((x1.length : Int) + (x2.length : Int))) - 1) : Int).toNat 0) 0) else (none)) else (none)))
def conclaveref03_Mul.l0 : Nat → Int → List Int → List Int → List Int → Int → Option (List Int × Int)
 | 0, _, _, _, _, _ => none
 | k + 1, x0, x1, x2, x9, x10 => if x10 < (x1.length : Int) then (conclaveref03_Mul.l1 k x0 x1 x2 x9 x10 0) else ((conclaveref03_Trim.f k x9).bind fun t303 => (some (t303, 0)))
def conclaveref03_Mul.l1 : Nat → Int → List Int → List Int → List Int → Int → Int → Option (List Int × Int)
 | 0, _, _, _, _, _, _ => none
 | k + 1, x0, x1, x2, x9, x10, x11 => if x11 < (x2.length : Int) then ((conclaveref01_P.f x0).bind fun t306 => (if 0 ≤ (wrap64 (x10 + x11)) then (if (wrap64 (x10 + x11)) < (x9.length : Int) then ((conclaveref01_P.f x0).bind fun t308 => (if 0 ≤ x10 then (if x10 < (x1.length : Int) then (if 0 ≤ x11 then ((conclaveref01_Times.f k t308 (rd x1 x10) (rd x2 x11)).bind fun t311 => ((conclaveref01_Sum.f t306 (rd x9 (wrap64 (x10 + x11))) t311).bind fun t312 => (conclaveref03_Mul.l1 k x0 x1 x2 (x9.set ((wrap64 (x10 + x11)) : Int).toNat t312) x10 (wrap64 (x11 + 1))))) else (none)) else (none)) else (none))) else (none)) else (none))) else (conclaveref03_Mul.l0 k x0 x1 x2 x9 (wrap64 (x10 + 1)))
end
def conclaveref03_Mul.f (k : Nat) (a0 : Int) (l1 : List Int) (l2 : List Int) : Option (List Int × Int) := (conclaveref03_Bad.f k a0 l1 l2).bind fun t293 => (if t293 = 0 then ((conclaveref03_Trim.f k l1).bind fun t294 => ((conclaveref03_Trim.f k l2).bind fun t297 => (if (t294.length : Int) = 0 then (conclaveref03_Mul.j0 k a0 t294 t297 true) else (conclaveref03_Mul.j0 k a0 t294 t297 ((t297.length : Int) == 0))))) else (some (([] : List Int), t293)))
end Go.Proofs.Ytdafolenaibccaa.P
end
section
namespace Go.Proofs.Ytdafolenaibccaa.P
open Go.RowKit Go.Proofs.YtdafolenaibccaaW.PrintWords Go.Proofs.YtdafolenaibccaaW.PrintLast Go.Proofs.YtdafolenaibccaaW.PrintMore
attribute [local go_sem] max2_int min2_int max_two min_two max_three min_three max_four min_four
set_option linter.unusedVariables false
set_option linter.unusedSimpArgs false
def conclaveref06_Factor.f (a0 : Int) (a1 : Int) : Option (List Int) := (conclaveref01_P.f a0).bind fun t314 => ((conclaveref01_Less.f t314 0 a1).bind fun t315 => (some (([t315, 1] : List Int))))
def conclaveref06_Zero.l0 : Nat → Int → List Int → List Int → Int → Option (List Int × Int)
 | 0, _, _, _, _ => none
 | k + 1, x0, x1, x7, x8 => if x8 < (x1.length : Int) then (if 0 ≤ x8 then ((conclaveref06_Factor.f x0 (rd x1 x8)).bind fun t324 => ((conclaveref03_Mul.f k x0 x7 t324).bind fun bt327 => (conclaveref06_Zero.l0 k x0 x1 bt327.1 (wrap64 (x8 + 1))))) else (none)) else (some (x7, 0))
def conclaveref06_Zero.f (k : Nat) (a0 : Int) (l1 : List Int) : Option (List Int × Int) := (conclaveref06_bad.f k a0 l1 ([] : List Int)).bind fun t319 => (if t319 = 0 then (conclaveref06_Zero.l0 k a0 l1 (([1] : List Int)) 0) else (some (([] : List Int), t319)))
def conclaveref07_without.f (l0 : List Int) (a1 : Int) : Option (List Int) := if 0 ≤ a1 then (if a1 ≤ (l0.length : Int) then ((conclaveref01_Copy.f (l0.take (a1 : Int).toNat)).bind fun t332 => (if 0 ≤ (wrap64 (a1 + 1)) then (if (wrap64 (a1 + 1)) ≤ (l0.length : Int) then (if t332.length + (l0.drop ((wrap64 (a1 + 1)) : Int).toNat).length < 17592186044416 then (some (t332 ++ (l0.drop ((wrap64 (a1 + 1)) : Int).toNat))) else (none)) else (none)) else (none))) else (none)) else (none)
end Go.Proofs.Ytdafolenaibccaa.P
end
section
namespace Go.Proofs.Ytdafolenaibccaa.P
open Go.RowKit Go.Proofs.YtdafolenaibccaaW.PrintWords Go.Proofs.YtdafolenaibccaaW.PrintLast Go.Proofs.YtdafolenaibccaaW.PrintMore
attribute [local go_sem] max2_int min2_int max_two min_two max_three min_three max_four min_four
set_option linter.unusedVariables false
set_option linter.unusedSimpArgs false
def conclaveref03_Scale.f (k : Nat) (a0 : Int) (a1 : Int) (l2 : List Int) : Option (List Int × Int) := (conclaveref01_In.f k a0 (([a1] : List Int))).bind fun t342 => (if t342 = true then ((conclaveref03_Mul.f k a0 (([a1] : List Int)) l2).bind fun bt346 => (some (bt346.1, bt346.2))) else (some (([] : List Int), 2)))
def conclaveref03_at.f (l0 : List Int) (a1 : Int) : Option (Int) := if a1 < 0 then (some 0) else (if a1 ≥ (l0.length : Int) then (some 0) else (if 0 ≤ a1 then (if a1 < (l0.length : Int) then (some (rd l0 a1)) else (none)) else (none)))
def conclaveref03_Add.l0 : Nat → Int → List Int → List Int → List Int → Int → Option (List Int × Int)
 | 0, _, _, _, _, _ => none
 | k + 1, x0, x1, x2, x9, x10 => if x10 < (mx (x1.length : Int) (x2.length : Int)) then ((conclaveref01_P.f x0).bind fun t355 => ((conclaveref03_at.f x1 x10).bind fun t356 => ((conclaveref03_at.f x2 x10).bind fun t357 => ((conclaveref01_Sum.f t355 t356 t357).bind fun t358 => (if x9.length < 17592186044416 then (conclaveref03_Add.l0 k x0 x1 x2 (x9 ++ [t358]) (wrap64 (x10 + 1))) else (none)))))) else ((conclaveref03_Trim.f k x9).bind fun t352 => (some (t352, 0)))
def conclaveref03_Add.f (k : Nat) (a0 : Int) (l1 : List Int) (l2 : List Int) : Option (List Int × Int) := (conclaveref03_Bad.f k a0 l1 l2).bind fun t351 => (if t351 = 0 then (conclaveref03_Add.l0 k a0 l1 l2 ([] : List Int) 0) else (some (([] : List Int), t351)))
end Go.Proofs.Ytdafolenaibccaa.P
end
section
namespace Go.Proofs.Ytdafolenaibccaa.P
open Go.RowKit Go.Proofs.YtdafolenaibccaaW.PrintWords Go.Proofs.YtdafolenaibccaaW.PrintLast Go.Proofs.YtdafolenaibccaaW.PrintMore
attribute [local go_sem] max2_int min2_int max_two min_two max_three min_three max_four min_four
set_option linter.unusedVariables false
set_option linter.unusedSimpArgs false
def conclaveref07_Through.l0 : Nat → Int → List Int → List Int → List Int → List Int → Int → Option (List Int × Int)
 | 0, _, _, _, _, _, _ => none
 | k + 1, x0, x1, x2, x9, x11, x12 => if x12 < (x1.length : Int) then ((conclaveref07_without.f x1 x12).bind fun t367 => ((conclaveref06_Zero.f k x0 t367).bind fun bt370 => ((conclaveref01_P.f x0).bind fun t374 => (if 0 ≤ x12 then (if x12 < (x9.length : Int) then (if x12 < (x2.length : Int) then ((conclaveref01_Times.f k t374 (rd x9 x12) (rd x2 x12)).bind fun t377 => ((conclaveref03_Scale.f k x0 t377 bt370.1).bind fun bt378 => ((conclaveref03_Add.f k x0 x11 bt378.1).bind fun bt382 => (conclaveref07_Through.l0 k x0 x1 x2 x9 bt382.1 (wrap64 (x12 + 1)))))) else (none)) else (none)) else (none))))) else (some (x11, 0))
def conclaveref07_Through.f (k : Nat) (a0 : Int) (l1 : List Int) (l2 : List Int) : Option (List Int × Int) := (conclaveref07_Bad.f k a0 l1 l2 (l2.length : Int)).bind fun t362 => (if t362 = 0 then ((conclaveref07_Weights.f k a0 l1).bind fun bt363 => (conclaveref07_Through.l0 k a0 l1 l2 bt363.1 ([] : List Int) 0)) else (some (([] : List Int), t362)))
end Go.Proofs.Ytdafolenaibccaa.P
end
section
namespace Go.Proofs.Ytdafolenaibccaa.P
open Go.RowKit Go.Proofs.YtdafolenaibccaaW.PrintWords Go.Proofs.YtdafolenaibccaaW.PrintLast Go.Proofs.YtdafolenaibccaaW.PrintMore
attribute [local go_sem] max2_int min2_int max_two min_two max_three min_three max_four min_four
set_option linter.unusedVariables false
set_option linter.unusedSimpArgs false
def interp_Weights.f (k : Nat) (a0 : Int) (l1 : List Int) : Option (List Int × Int) := (interp_may.f k a0 l1 l1 ([] : List Int)).bind fun t397 => (if t397 = 0 then ((interp_weights.f k a0 l1).bind fun bt398 => (some (bt398.1, bt398.2))) else (some (([] : List Int), t397)))
theorem interp_Weights.mono : ∀ a0 a1 k, LeO (interp_Weights.f k a0 a1) (interp_Weights.f (k + 1) a0 a1) := by
 intro a0 a1 k; unfold interp_Weights.f; repeat' first
   | (with_reducible exact interp_may.mono _ _ _ _ _)
   | (with_reducible exact interp_weights.mono _ _ _)
   | (with_reducible exact LeO.refl _)
   | (with_reducible exact LeO.none _)
   | (with_reducible refine LeO.ite ?_ ?_)
   | (with_reducible refine LeO.bind ?_ (fun _ => ?_))
   | exact interp_may.mono _ _ _ _ _
   | exact interp_weights.mono _ _ _
   | exact LeO.none _
   | refine LeO.ite ?_ ?_
   | refine LeO.bind ?_ (fun _ => ?_)
set_option maxHeartbeats 8000000 in
set_option maxRecDepth 100000 in
theorem interp_Weights.calls (k : Nat) (a0 : Int) (A1 : Option Addr) (c1 : Nat) (l1 : List Int) (r1 : List Int) (r2 : Int) (w : World) (hr1 : Kd.C (Kd.int .u64) w A1 l1.length l1) (hc1 : l1.length ≤ c1) (h : interp_Weights.f k a0 l1 = some (r1, r2)) :
  Calls Try.prog 12 #[.int .u8 a0, .slice A1 l1.length c1] w fun e w' => ∃ v0_ : Value, e = .returned (.tuple #[v0_, .int .i64 r2]) ∧ Kd.R (Kd.int .u64) 24 w' w.heap.size (fun _ => True) v0_ r1 ∧ Below w.heap.size w w' := by
 have HR1 := am hr1; have HC1 := am hc1; clear hr1 hc1; have HB := am (Below.refl w.heap.size w); have H : ((interp_may.f k a0 l1 l1 ([] : List Int)).bind fun t397 => (if t397 = 0 then ((interp_weights.f k a0 l1).bind fun bt398 => (some (bt398.1, bt398.2))) else (some (([] : List Int), t397)))) = some (r1, r2) := h; clear h; replace H := Option.bind_eq_some_iff.mp H; obtain ⟨t397, A30, H⟩ := H; replace H : (if t397 = 0 then ((interp_weights.f k a0 l1).bind fun bt398 => (some (bt398.1, bt398.2))) else (some (([] : List Int), t397))) = some (r1, r2) := H; have A3 := am A30; clear A30; by_cases c4 : t397 = 0
 ·rw [if_pos c4] at H; have c4b0 : (t397 == 0) = true := beq_iff_eq.mpr c4; have c4b1 : (t397 != 0) = false := bne_eq_false_iff_eq.mpr c4; clear c4; replace H := Option.bind_eq_some_iff.mp H; obtain ⟨⟨t398, t399⟩, A50, H⟩ := H; replace H : (some (t398, t399)) = some (r1, r2) := H; have A5 := am A50; clear A50; simp only [Option.some.injEq, Prod.mk.injEq] at H; obtain ⟨rfl, rfl⟩ := H; go_enter Try.func12, Try.ntmps12
  go_wp2_with (first | ((with_reducible refine gate_callee (f := 35) rfl ?_); refine goesL_ (some 10) rfl rfl Try.func35 Z12 rfl #[.int .u8 a0, .slice A1 l1.length c1, .slice A1 l1.length c1, .slice none 0 0] rfl Z2 ?_; (refine (interp_may.calls k a0 _ _ l1 _ _ l1 _ _ ([] : List Int) t397 _ ?side1 ?side2 ?side3 ?side4 ?side5 ?side6 A3.out).mono ?_); (case side1 => repeat (first | exact HR1.out | (with_reducible refine Kd.C_alloc ?_ _) | (with_reducible refine Kd.C_drewN ?_ _) | (with_reducible refine Kd.C_drew ?_))); (case side2 => exact HC1.out); (case side3 => repeat (first | exact HR1.out | (with_reducible refine Kd.C_alloc ?_ _) | (with_reducible refine Kd.C_drewN ?_ _) | (with_reducible refine Kd.C_drew ?_))); (case side4 => exact HC1.out); (case side5 => exact Kd.C_nil _ _); (case side6 => exact Nat.le_refl _); rintro e w6 ⟨rfl, hb⟩; refine ⟨_, rfl, ?_⟩; replace HB := am (below_step Z1 hb); (try clear hb)) | ((with_reducible refine gate_callee (f := 38) rfl ?_); refine goesL_ (some 16) rfl rfl Try.func38 Z12 rfl #[.int .u8 a0, .slice A1 l1.length c1] rfl Z2 ?_; (with_reducible refine (interp_weights.calls k a0 _ _ l1 t398 t399 _ ?side1 ?side2 A5.out).mono ?_); (case side1 => repeat (first | exact (Kd.C_below HR1.out HB.out) | (with_reducible refine Kd.C_alloc ?_ _) | (with_reducible refine Kd.C_drewN ?_ _) | (with_reducible refine Kd.C_drew ?_))); (case side2 => exact HC1.out); rintro e w7 ⟨v400, rfl, ho0, hb⟩; refine ⟨_, rfl, ?_⟩; have HO401 := am (Kd.R_lower ho0 (below_size Z1)); replace HB := am (below_step Z1 hb); (try clear hb); (try clear ho0)))
  go_ret2; exact ⟨_, Z5, by (with_reducible repeat (first | apply Kd.R_alloc | apply Kd.R_drewN | apply Kd.R_drew)); exact HO401.out, Z1⟩
 ·rw [if_neg c4] at H; have c4b0 : (t397 == 0) = false := beq_eq_false_iff_ne.mpr c4; have c4b1 : (t397 != 0) = true := bne_iff_ne.mpr c4; simp only [Option.some.injEq, Prod.mk.injEq] at H; obtain ⟨rfl, rfl⟩ := H; go_enter Try.func12, Try.ntmps12
  go_wp2_with (first | ((with_reducible refine gate_callee (f := 35) rfl ?_); refine goesL_ (some 10) rfl rfl Try.func35 Z12 rfl #[.int .u8 a0, .slice A1 l1.length c1, .slice A1 l1.length c1, .slice none 0 0] rfl Z2 ?_; (refine (interp_may.calls k a0 _ _ l1 _ _ l1 _ _ ([] : List Int) t397 _ ?side1 ?side2 ?side3 ?side4 ?side5 ?side6 A3.out).mono ?_); (case side1 => repeat (first | exact HR1.out | (with_reducible refine Kd.C_alloc ?_ _) | (with_reducible refine Kd.C_drewN ?_ _) | (with_reducible refine Kd.C_drew ?_))); (case side2 => exact HC1.out); (case side3 => repeat (first | exact HR1.out | (with_reducible refine Kd.C_alloc ?_ _) | (with_reducible refine Kd.C_drewN ?_ _) | (with_reducible refine Kd.C_drew ?_))); (case side4 => exact HC1.out); (case side5 => exact Kd.C_nil _ _); (case side6 => exact Nat.le_refl _); rintro e w8 ⟨rfl, hb⟩; refine ⟨_, rfl, ?_⟩; replace HB := am (below_step Z1 hb); (try clear hb)))
  go_ret2; exact ⟨_, Z5, Z20, Z1⟩
end Go.Proofs.Ytdafolenaibccaa.P
end
