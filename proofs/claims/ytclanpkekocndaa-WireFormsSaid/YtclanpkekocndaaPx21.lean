-- Written by the kit's printer, called by a program of ours; the proofs of some functions are our own. Not trusted: Lean checks it.
import Derived.Test.YtclanpkekocndaaPx0
import Derived.Test.YtclanpkekocndaaPx2
import Derived.Test.YtclanpkekocndaaPx3
namespace Go.Proofs.Ytclanpkekocndaa.P
open Go.RowKit Go.Proofs.YtclanpkekocndaaW.PrintWords Go.Proofs.YtclanpkekocndaaW.PrintLast Go.Proofs.YtclanpkekocndaaW.PrintMore
attribute [local go_sem] max2_int min2_int max_two min_two max_three min_three max_four min_four   -- for this text's walks alone
set_option linter.unusedVariables false
set_option linter.unusedSimpArgs false

/-! ### wire_Unseal: function 38 -/
def wire_Unseal.f (k : Nat) (l0 : List Int) : Option (List Int × Int × Int) := (wire_ReadCount.f k l0).bind fun bt397 => (if bt397.2.2 = 0 then (if bt397.1 > 1048576 then (some (([] : List Int), 0, 4)) else (if (wrap64 ((l0.length : Int) - bt397.2.1)) < (wrap64 (bt397.1 + 8)) then (some (([] : List Int), 0, 7)) else (if 0 ≤ (wrap64 (bt397.2.1 + bt397.1)) then (if (wrap64 (bt397.2.1 + bt397.1)) ≤ (wrap64 ((wrap64 (bt397.2.1 + bt397.1)) + 8)) then (if (wrap64 ((wrap64 (bt397.2.1 + bt397.1)) + 8)) ≤ (l0.length : Int) then ((wire_taken.f k ((l0.take ((wrap64 ((wrap64 (bt397.2.1 + bt397.1)) + 8)) : Int).toNat).drop ((wrap64 (bt397.2.1 + bt397.1)) : Int).toNat)).bind fun t401 => (if (wrap64 (bt397.2.1 + bt397.1)) ≤ (l0.length : Int) then ((wire_Sum.f k (l0.take ((wrap64 (bt397.2.1 + bt397.1)) : Int).toNat)).bind fun t403 => (if t401 = t403 then (if 0 ≤ bt397.2.1 then (if bt397.2.1 ≤ (wrap64 (bt397.2.1 + bt397.1)) then (if ([] : List Int).length + ((l0.take ((wrap64 (bt397.2.1 + bt397.1)) : Int).toNat).drop (bt397.2.1 : Int).toNat).length < 140737488355328 then (some ((([] : List Int) ++ ((l0.take ((wrap64 (bt397.2.1 + bt397.1)) : Int).toNat).drop (bt397.2.1 : Int).toNat)), wrap64 ((wrap64 (bt397.2.1 + bt397.1)) + 8), 0)) else (none)) else (none)) else (none)) else (some (([] : List Int), 0, 80)))) else (none))) else (none)) else (none)) else (none)))) else (some (([] : List Int), 0, bt397.2.2)))
theorem wire_Unseal.mono : ∀ a0 k, LeO (wire_Unseal.f k a0) (wire_Unseal.f (k + 1) a0) := by
  intro a0 k
  unfold wire_Unseal.f
  repeat' first
      | (with_reducible exact wire_ReadCount.mono _ _)
      | (with_reducible exact wire_Sum.mono _ _)
      | (with_reducible exact wire_taken.mono _ _)
      | (with_reducible exact LeO.refl _)
      | (with_reducible exact LeO.none _)
      | (with_reducible refine LeO.ite ?_ ?_)
      | (with_reducible refine LeO.bind ?_ (fun _ => ?_))
      | exact wire_ReadCount.mono _ _
      | exact wire_Sum.mono _ _
      | exact wire_taken.mono _ _
      | exact LeO.none _
      | refine LeO.ite ?_ ?_
      | refine LeO.bind ?_ (fun _ => ?_)
set_option maxHeartbeats 8000000 in
set_option maxRecDepth 100000 in
theorem wire_Unseal.calls (k : Nat) (A0 : Option Addr) (c0 : Nat) (l0 : List Int) (r1 : List Int) (r2 : Int) (r3 : Int) (w : World) (hr0 : Kd.C (Kd.int .u8) w A0 l0.length l0) (hc0 : l0.length ≤ c0) (h : wire_Unseal.f k l0 = some (r1, r2, r3)) :
    Calls Try.prog 38 #[.slice A0 l0.length c0] w fun e w' => ∃ v0_ : Value, e = .returned (.tuple #[v0_, .int .i64 r2, .int .i64 r3]) ∧ Kd.R (Kd.int .u8) 5 w' w.heap.size (fun _ => True) v0_ r1 ∧ Below w.heap.size w w' := by
  have HR0 := Aside0.mk hr0
  have HC0 := Aside0.mk hc0
  clear hr0 hc0
  have HB := Aside0.mk (Below.refl w.heap.size w)
  have H : ((wire_ReadCount.f k l0).bind fun bt397 => (if bt397.2.2 = 0 then (if bt397.1 > 1048576 then (some (([] : List Int), 0, 4)) else (if (wrap64 ((l0.length : Int) - bt397.2.1)) < (wrap64 (bt397.1 + 8)) then (some (([] : List Int), 0, 7)) else (if 0 ≤ (wrap64 (bt397.2.1 + bt397.1)) then (if (wrap64 (bt397.2.1 + bt397.1)) ≤ (wrap64 ((wrap64 (bt397.2.1 + bt397.1)) + 8)) then (if (wrap64 ((wrap64 (bt397.2.1 + bt397.1)) + 8)) ≤ (l0.length : Int) then ((wire_taken.f k ((l0.take ((wrap64 ((wrap64 (bt397.2.1 + bt397.1)) + 8)) : Int).toNat).drop ((wrap64 (bt397.2.1 + bt397.1)) : Int).toNat)).bind fun t401 => (if (wrap64 (bt397.2.1 + bt397.1)) ≤ (l0.length : Int) then ((wire_Sum.f k (l0.take ((wrap64 (bt397.2.1 + bt397.1)) : Int).toNat)).bind fun t403 => (if t401 = t403 then (if 0 ≤ bt397.2.1 then (if bt397.2.1 ≤ (wrap64 (bt397.2.1 + bt397.1)) then (if ([] : List Int).length + ((l0.take ((wrap64 (bt397.2.1 + bt397.1)) : Int).toNat).drop (bt397.2.1 : Int).toNat).length < 140737488355328 then (some ((([] : List Int) ++ ((l0.take ((wrap64 (bt397.2.1 + bt397.1)) : Int).toNat).drop (bt397.2.1 : Int).toNat)), wrap64 ((wrap64 (bt397.2.1 + bt397.1)) + 8), 0)) else (none)) else (none)) else (none)) else (some (([] : List Int), 0, 80)))) else (none))) else (none)) else (none)) else (none)))) else (some (([] : List Int), 0, bt397.2.2)))) = some (r1, r2, r3) := h
  clear h
  replace H := Option.bind_eq_some_iff.mp H
  obtain ⟨⟨t397, t398, t399⟩, A20, H⟩ := H
  replace H : (if t399 = 0 then (if t397 > 1048576 then (some (([] : List Int), 0, 4)) else (if (wrap64 ((l0.length : Int) - t398)) < (wrap64 (t397 + 8)) then (some (([] : List Int), 0, 7)) else (if 0 ≤ (wrap64 (t398 + t397)) then (if (wrap64 (t398 + t397)) ≤ (wrap64 ((wrap64 (t398 + t397)) + 8)) then (if (wrap64 ((wrap64 (t398 + t397)) + 8)) ≤ (l0.length : Int) then ((wire_taken.f k ((l0.take ((wrap64 ((wrap64 (t398 + t397)) + 8)) : Int).toNat).drop ((wrap64 (t398 + t397)) : Int).toNat)).bind fun t401 => (if (wrap64 (t398 + t397)) ≤ (l0.length : Int) then ((wire_Sum.f k (l0.take ((wrap64 (t398 + t397)) : Int).toNat)).bind fun t403 => (if t401 = t403 then (if 0 ≤ t398 then (if t398 ≤ (wrap64 (t398 + t397)) then (if ([] : List Int).length + ((l0.take ((wrap64 (t398 + t397)) : Int).toNat).drop (t398 : Int).toNat).length < 140737488355328 then (some ((([] : List Int) ++ ((l0.take ((wrap64 (t398 + t397)) : Int).toNat).drop (t398 : Int).toNat)), wrap64 ((wrap64 (t398 + t397)) + 8), 0)) else (none)) else (none)) else (none)) else (some (([] : List Int), 0, 80)))) else (none))) else (none)) else (none)) else (none)))) else (some (([] : List Int), 0, t399))) = some (r1, r2, r3) := H
  have A2 := Aside0.mk A20
  clear A20
  by_cases c3 : t399 = 0
  · rw [if_pos c3] at H
    have c3b0 : (t399 == 0) = true := beq_iff_eq.mpr c3
    have c3b1 : (t399 != 0) = false := bne_eq_false_iff_eq.mpr c3
    clear c3
    by_cases c4 : t397 > 1048576
    · rw [if_pos c4] at H
      have c4b0 : decide (1048576 < t397) = true := decide_eq_true c4
      clear c4
      simp only [Option.some.injEq, Prod.mk.injEq] at H
      obtain ⟨rfl, rfl, rfl⟩ := H
      go_enter Try.func38, Try.ntmps38
      go_wp2_with (first | (go_at_call 15; (with_reducible refine (wire_ReadCount.calls k _ _ l0 t397 t398 t399 _ ?side1 ?side2 A2.out).mono ?_); (case side1 => repeat (first | exact HR0.out | (with_reducible refine Kd.C_alloc ?_ _) | (with_reducible refine Kd.C_drewN ?_ _) | (with_reducible refine Kd.C_drew ?_))); (case side2 => exact HC0.out); rintro e w5 ⟨rfl, hb⟩; have n0_ := Aside0.mk (below_step (by repeat (first | (with_reducible first | exact HB.out | apply below_alloc | apply pw_below_drewN | apply below_drew1) | exact HB.out)) hb); clear HB; have HB := n0_; clear n0_; (try clear hb); (try clear hb2); (try clear hk); (try clear hi)))
      repeat (go_quiet (first | (go_at_call 15; (with_reducible refine (wire_ReadCount.calls k _ _ l0 t397 t398 t399 _ ?side1 ?side2 A2.out).mono ?_); (case side1 => repeat (first | exact HR0.out | (with_reducible refine Kd.C_alloc ?_ _) | (with_reducible refine Kd.C_drewN ?_ _) | (with_reducible refine Kd.C_drew ?_))); (case side2 => exact HC0.out); rintro e w5 ⟨rfl, hb⟩; have n0_ := Aside0.mk (below_step (by repeat (first | (with_reducible first | exact HB.out | apply below_alloc | apply pw_below_drewN | apply below_drew1) | exact HB.out)) hb); clear HB; have HB := n0_; clear n0_; (try clear hb); (try clear hb2); (try clear hk); (try clear hi))); try go_wp2_with (first | (go_at_call 15; (with_reducible refine (wire_ReadCount.calls k _ _ l0 t397 t398 t399 _ ?side1 ?side2 A2.out).mono ?_); (case side1 => repeat (first | exact HR0.out | (with_reducible refine Kd.C_alloc ?_ _) | (with_reducible refine Kd.C_drewN ?_ _) | (with_reducible refine Kd.C_drew ?_))); (case side2 => exact HC0.out); rintro e w5 ⟨rfl, hb⟩; have n0_ := Aside0.mk (below_step (by repeat (first | (with_reducible first | exact HB.out | apply below_alloc | apply pw_below_drewN | apply below_drew1) | exact HB.out)) hb); clear HB; have HB := n0_; clear n0_; (try clear hb); (try clear hb2); (try clear hk); (try clear hi))))
      go_ret3
      exact ⟨_, by first | rfl | (simp [errW_none, errW_some] <;> rfl) | (simp [*, errW_none, errW_some] <;> rfl), by first | exact Kd.R_nil _ _ _ _ _ | exact Kd.N_nil _ _ _ _ _ | exact Kd.V_nil _ _ _ _ _ | exact Kd.Q_nil _ _ _ _ _ | exact Kd.S_nil _ _ _ _ _, by repeat (first | (with_reducible first | exact HB.out | apply below_alloc | apply pw_below_drewN | apply below_drew1) | exact HB.out)⟩
    · rw [if_neg c4] at H
      have c4b0 : decide (1048576 < t397) = false := decide_eq_false c4
      clear c4
      by_cases c6 : (wrap64 ((l0.length : Int) - t398)) < (wrap64 (t397 + 8))
      · rw [if_pos c6] at H
        have c6b0 : decide ((wrap64 ((l0.length : Int) - t398)) < (wrap64 (t397 + 8))) = true := decide_eq_true c6
        clear c6
        simp only [Option.some.injEq, Prod.mk.injEq] at H
        obtain ⟨rfl, rfl, rfl⟩ := H
        go_enter Try.func38, Try.ntmps38
        go_wp2_with (first | (go_at_call 15; (with_reducible refine (wire_ReadCount.calls k _ _ l0 t397 t398 t399 _ ?side1 ?side2 A2.out).mono ?_); (case side1 => repeat (first | exact HR0.out | (with_reducible refine Kd.C_alloc ?_ _) | (with_reducible refine Kd.C_drewN ?_ _) | (with_reducible refine Kd.C_drew ?_))); (case side2 => exact HC0.out); rintro e w7 ⟨rfl, hb⟩; have n0_ := Aside0.mk (below_step (by repeat (first | (with_reducible first | exact HB.out | apply below_alloc | apply pw_below_drewN | apply below_drew1) | exact HB.out)) hb); clear HB; have HB := n0_; clear n0_; (try clear hb); (try clear hb2); (try clear hk); (try clear hi)))
        repeat (go_quiet (first | (go_at_call 15; (with_reducible refine (wire_ReadCount.calls k _ _ l0 t397 t398 t399 _ ?side1 ?side2 A2.out).mono ?_); (case side1 => repeat (first | exact HR0.out | (with_reducible refine Kd.C_alloc ?_ _) | (with_reducible refine Kd.C_drewN ?_ _) | (with_reducible refine Kd.C_drew ?_))); (case side2 => exact HC0.out); rintro e w7 ⟨rfl, hb⟩; have n0_ := Aside0.mk (below_step (by repeat (first | (with_reducible first | exact HB.out | apply below_alloc | apply pw_below_drewN | apply below_drew1) | exact HB.out)) hb); clear HB; have HB := n0_; clear n0_; (try clear hb); (try clear hb2); (try clear hk); (try clear hi))); try go_wp2_with (first | (go_at_call 15; (with_reducible refine (wire_ReadCount.calls k _ _ l0 t397 t398 t399 _ ?side1 ?side2 A2.out).mono ?_); (case side1 => repeat (first | exact HR0.out | (with_reducible refine Kd.C_alloc ?_ _) | (with_reducible refine Kd.C_drewN ?_ _) | (with_reducible refine Kd.C_drew ?_))); (case side2 => exact HC0.out); rintro e w7 ⟨rfl, hb⟩; have n0_ := Aside0.mk (below_step (by repeat (first | (with_reducible first | exact HB.out | apply below_alloc | apply pw_below_drewN | apply below_drew1) | exact HB.out)) hb); clear HB; have HB := n0_; clear n0_; (try clear hb); (try clear hb2); (try clear hk); (try clear hi))))
        go_ret3
        exact ⟨_, by first | rfl | (simp [errW_none, errW_some] <;> rfl) | (simp [*, errW_none, errW_some] <;> rfl), by first | exact Kd.R_nil _ _ _ _ _ | exact Kd.N_nil _ _ _ _ _ | exact Kd.V_nil _ _ _ _ _ | exact Kd.Q_nil _ _ _ _ _ | exact Kd.S_nil _ _ _ _ _, by repeat (first | (with_reducible first | exact HB.out | apply below_alloc | apply pw_below_drewN | apply below_drew1) | exact HB.out)⟩
      · rw [if_neg c6] at H
        have c6b0 : decide ((wrap64 ((l0.length : Int) - t398)) < (wrap64 (t397 + 8))) = false := decide_eq_false c6
        clear c6
        obtain ⟨ji8, hji8⟩ : ∃ j_ : Int, (wrap64 (t398 + t397)) = j_ := ⟨_, rfl⟩
        replace H : (if 0 ≤ (ji8) then (if (ji8) ≤ (wrap64 ((ji8) + 8)) then (if (wrap64 ((ji8) + 8)) ≤ (l0.length : Int) then ((wire_taken.f k ((l0.take ((wrap64 ((ji8) + 8)) : Int).toNat).drop ((ji8) : Int).toNat)).bind fun t401 => (if (ji8) ≤ (l0.length : Int) then ((wire_Sum.f k (l0.take ((ji8) : Int).toNat)).bind fun t403 => (if t401 = t403 then (if 0 ≤ t398 then (if t398 ≤ (ji8) then (if ([] : List Int).length + ((l0.take ((ji8) : Int).toNat).drop (t398 : Int).toNat).length < 140737488355328 then (some ((([] : List Int) ++ ((l0.take ((ji8) : Int).toNat).drop (t398 : Int).toNat)), wrap64 ((ji8) + 8), 0)) else (none)) else (none)) else (none)) else (some (([] : List Int), 0, 80)))) else (none))) else (none)) else (none)) else (none)) = some (r1, r2, r3) := by first | (rw [hji8] at H; exact H) | (simp only [hji8] at H ⊢; exact H)
        (try rw [hji8] at A2)
        have hji8w : (IntKind.i64.wrap (t398 + t397)) = ji8 := (i64_w _).trans hji8
        by_cases c9 : 0 ≤ (ji8)
        · rw [if_pos c9] at H
          have c9b0 := eq_true c9
          have c9b1 : decide (0 ≤ (ji8)) = true := decide_eq_true c9
          clear c9
          by_cases c10 : (ji8) ≤ (wrap64 ((ji8) + 8))
          · rw [if_pos c10] at H
            have c10b0 := eq_true c10
            have c10b1 : decide ((ji8) ≤ (wrap64 ((ji8) + 8))) = true := decide_eq_true c10
            by_cases c11 : (wrap64 ((ji8) + 8)) ≤ (l0.length : Int)
            · rw [if_pos c11] at H
              have c11b0 := eq_true c11
              have c11b1 : decide ((wrap64 ((ji8) + 8)) ≤ (l0.length : Int)) = true := decide_eq_true c11
              replace H := Option.bind_eq_some_iff.mp H
              obtain ⟨t401, A120, H⟩ := H
              replace H : (if (ji8) ≤ (l0.length : Int) then ((wire_Sum.f k (l0.take ((ji8) : Int).toNat)).bind fun t403 => (if t401 = t403 then (if 0 ≤ t398 then (if t398 ≤ (ji8) then (if ([] : List Int).length + ((l0.take ((ji8) : Int).toNat).drop (t398 : Int).toNat).length < 140737488355328 then (some ((([] : List Int) ++ ((l0.take ((ji8) : Int).toNat).drop (t398 : Int).toNat)), wrap64 ((ji8) + 8), 0)) else (none)) else (none)) else (none)) else (some (([] : List Int), 0, 80)))) else (none)) = some (r1, r2, r3) := H
              have A12 := Aside0.mk A120
              clear A120
              have c13b0 := eq_true (of_decide_eq_true (by first | (with_reducible assumption) | assumption) : 0 ≤ (ji8))
              by_cases c14 : (ji8) ≤ (l0.length : Int)
              · rw [if_pos c14] at H
                have c14b0 := eq_true c14
                have c14b1 : decide ((ji8) ≤ (l0.length : Int)) = true := decide_eq_true c14
                clear c14
                replace H := Option.bind_eq_some_iff.mp H
                obtain ⟨t403, A150, H⟩ := H
                replace H : (if t401 = t403 then (if 0 ≤ t398 then (if t398 ≤ (ji8) then (if ([] : List Int).length + ((l0.take ((ji8) : Int).toNat).drop (t398 : Int).toNat).length < 140737488355328 then (some ((([] : List Int) ++ ((l0.take ((ji8) : Int).toNat).drop (t398 : Int).toNat)), wrap64 ((ji8) + 8), 0)) else (none)) else (none)) else (none)) else (some (([] : List Int), 0, 80))) = some (r1, r2, r3) := H
                have A15 := Aside0.mk A150
                clear A150
                have qA : 0 ≤ ji8 := of_decide_eq_true (by assumption)
                have qB : ji8 ≤ l0.length := of_decide_eq_true (by assumption)
                have qC : ji8 ≤ wrap64 (ji8 + 8) := of_decide_eq_true (by assumption)
                have qD : wrap64 (ji8 + 8) ≤ l0.length := of_decide_eq_true (by assumption)
                have hl0 : l0.length ≤ 9223372036854775807 := HR0.out.2.1
                have ew : wrap64 (ji8 + 8) = ji8 + 8 := by unfold wrap64 at qC ⊢; omega
                have HT := Aside0.mk (show wire_taken.f k ((l0.drop ji8.toNat).take 8) = some t401 from by rw [← A12.out, List.drop_take, ew, show (ji8 + 8).toNat - ji8.toNat = 8 by omega])
                obtain ⟨iX, hiX, _, hszX, _⟩ := info_parts info5
                obtain ⟨AB, hcutB, hAB, hCB⟩ := print_drop_of (P := Try.prog) (Value.int .u8) 0 22 5 .i64 Try.underlying22 hiX hszX A0 c0 l0 ji8 qA qB HC0.out
                obtain ⟨hcutS, hAS, hCS⟩ := print_take_of (P := Try.prog) (Value.int .u8) 0 22 5 .i64 Try.underlying22 hiX hszX A0 c0 l0 ji8 qA qB HC0.out
                have HRB := Aside0.mk (show Kd.C (Kd.int .u8) w AB (l0.drop ji8.toNat).length (l0.drop ji8.toNat) from Kd.C_of_reads (h1 := fun _ => rfl) (hAB _ (Kd.reads_of_C HR0.out)))
                have HRS := Aside0.mk (show Kd.C (Kd.int .u8) w A0 (l0.take ji8.toNat).length (l0.take ji8.toNat) from Kd.C_of_reads (h1 := fun _ => rfl) (hAS _ (Kd.reads_of_C HR0.out)))
                have HCB := Aside0.mk hCB
                have HCS := Aside0.mk hCS
                have HZ := Aside0.mk A15.out
                have HN := Aside0.mk (show (8 : Int) ≤ (l0.drop ji8.toNat).length from by rw [List.length_drop]; omega)
                obtain ⟨lb, hlb⟩ : ∃ x, x = l0.drop ji8.toNat := ⟨_, rfl⟩
                obtain ⟨ls, hls⟩ : ∃ x, x = l0.take ji8.toNat := ⟨_, rfl⟩
                rw [← hlb] at hcutB HRB HCB HT HN
                rw [← hls] at hcutS HRS HCS HZ
                have HEW := Aside0.mk ew
                clear hlb hls hAB hAS hCB hCS hiX hszX qA qB qC qD hl0 ew
                by_cases c16 : t401 = t403
                · rw [if_pos c16] at H
                  have c16b0 : (t401 == t403) = true := beq_iff_eq.mpr c16
                  have c16b1 : (t401 != t403) = false := bne_eq_false_iff_eq.mpr c16
                  clear c16
                  by_cases c17 : 0 ≤ t398
                  · rw [if_pos c17] at H
                    by_cases c18 : t398 ≤ ji8
                    · rw [if_pos c18] at H
                      by_cases c20 : ([] : List Int).length + ((l0.take ji8.toNat).drop t398.toNat).length < 140737488355328
                      · rw [if_pos c20] at H
                        have qB : ji8 ≤ l0.length := of_decide_eq_true (by assumption)
                        obtain ⟨iX, hiX, _, hszX, _⟩ := info_parts info5
                        obtain ⟨AM, hcutM, hAM, hCM⟩ := Go.Proofs.Ytclanpkekocndaa.Max.print_mid3_of (P := Try.prog) (Value.int .u8) 0 22 5 .i64 .i64 Try.underlying22 hiX hszX A0 c0 l0 t398 ji8 c17 c18 qB HC0.out
                        have HRM := Aside0.mk (show Kd.C (Kd.int .u8) w AM ((l0.take ji8.toNat).drop t398.toNat).length ((l0.take ji8.toNat).drop t398.toNat) from Kd.C_of_reads (h1 := fun _ => rfl) (hAM _ (Kd.reads_of_C HR0.out)))
                        have hlm : ((l0.take ji8.toNat).drop t398.toNat).length = ji8.toNat - t398.toNat := by rw [List.length_drop, List.length_take]; omega
                        obtain ⟨lm, hlm2⟩ : ∃ x, x = (l0.take ji8.toNat).drop t398.toNat := ⟨_, rfl⟩
                        rw [← hlm2] at hcutM HRM c20 hlm H
                        rw [← hlm] at hcutM
                        have LM := Aside0.mk c20
                        simp only [Option.some.injEq, Prod.mk.injEq] at H
                        obtain ⟨rfl, rfl, rfl⟩ := H
                        clear hlm hlm2 hAM hCM hiX hszX c17 c18 c20 qB
                        go_enter Try.func38, Try.ntmps38
                        go_wp2_with fail
                        refine (wire_ReadCount.calls k A0 c0 l0 t397 t398 t399 _ HR0.out HC0.out A2.out).mono ?_
                        rintro e w9 ⟨rfl, hb9⟩
                        have HB9 := Aside0.mk hb9
                        clear hb9
                        replace HRB := Aside0.mk (Kd.C_below HRB.out HB9.out)
                        replace HRS := Aside0.mk (Kd.C_below HRS.out HB9.out)
                        go_wp2_with fail
                        replace HRM := Aside0.mk (Kd.C_below HRM.out HB9.out)
                        go_region_with (first | (go_at_call 46; refine (wire_takerC.calls _ _ _ _).mono ?_; rintro e w8 ⟨rfl, rfl⟩) | (go_at_call 56; refine (wire_taker1.calls k AB _ _ 8 lb t401 _ (by repeat (first | exact heap_alloc_new _ _ | refine blk_drewN ?_ _ | refine blk_drew ?_)) (by repeat (first | exact HRB.out | refine Kd.C_alloc ?_ _ | refine Kd.C_drewN ?_ _ | refine Kd.C_drew ?_)) HCB.out (by omega) HN.out HT.out).mono ?_; rintro e w8 ⟨rfl, A8, -, rfl⟩) | (go_at_call 17; refine (wire_Sum.calls k A0 c0 ls t403 _ (by repeat (first | exact HRS.out | refine Kd.C_alloc ?_ _ | refine Kd.C_drewN ?_ _ | refine Kd.C_drew ?_)) HCS.out HZ.out).mono ?_; rintro e w8 ⟨rfl, ⟨m8, rfl⟩⟩))
                        all_goals go_wp2_with ((with_reducible refine gate_builtin (b := .append) (xs := #[.const (.slice none 0 0), .tmp 46]) rfl ?_); at_builtin; refine Kd.R_append_rows (Kd.int .u8) (w0 := w) w.heap.size rfl (.const (.slice none 0 0)) (.tmp 46) 22 5 (.int .u8 0) 1 rfl Try.underlying22 info5 rfl (by decide) (by omega) (.slice none 0 0) ([] : List Int) lm _ _ _ (fun _ => True) (fun _ => False) rfl rfl ?aO ?aR (fun _ _ h => h) (fun _ h => h.elim) ?aF ?aB ?aS ?aL ?_; (case aR => repeat (first | exact HRM.out | refine Kd.C_alloc ?_ _ | refine Kd.C_drewN ?_ _ | refine Kd.C_drew ?_)); (case aB => exact (by repeat (first | exact HB9.out | apply below_alloc | apply pw_below_drewN | apply below_drew1))); (case aF => exact (fun _ _ => trivial)); (case aO => exact Kd.R_nil _ _ _ _ _); (case aS => exact (below_size (by repeat (first | exact HB9.out | apply below_alloc | apply pw_below_drewN | apply below_drew1)))); (case aL => have := LM.out; simp only [List.length_nil] at this ⊢; omega); intro v7 w7 ho hb hg hat; have HB7 := Aside0.mk hb; have HO7 := Aside0.mk ho; clear ho hb hg hat)
                        all_goals go_ret3
                        all_goals exact ⟨_, rfl, HO7.out, HB7.out⟩
                      · rw [if_neg c20] at H
                        exact absurd H (by simp)
                    · rw [if_neg c18] at H
                      exact absurd H (by simp)
                  · rw [if_neg c17] at H
                    exact absurd H (by simp)
                · rw [if_neg c16] at H
                  have c16b0 : (t401 == t403) = false := beq_eq_false_iff_ne.mpr c16
                  have c16b1 : (t401 != t403) = true := bne_iff_ne.mpr c16
                  clear c16
                  simp only [Option.some.injEq, Prod.mk.injEq] at H
                  obtain ⟨rfl, rfl, rfl⟩ := H
                  go_enter Try.func38, Try.ntmps38
                  go_wp2_with fail
                  refine (wire_ReadCount.calls k A0 c0 l0 t397 t398 t399 _ HR0.out HC0.out A2.out).mono ?_
                  rintro e w9 ⟨rfl, hb9⟩
                  have HB9 := Aside0.mk hb9
                  clear hb9
                  replace HRB := Aside0.mk (Kd.C_below HRB.out HB9.out)
                  replace HRS := Aside0.mk (Kd.C_below HRS.out HB9.out)
                  go_wp2_with fail
                  go_region_with (first | (go_at_call 46; refine (wire_takerC.calls _ _ _ _).mono ?_; rintro e w8 ⟨rfl, rfl⟩) | (go_at_call 56; refine (wire_taker1.calls k AB _ _ 8 lb t401 _ (by repeat (first | exact heap_alloc_new _ _ | refine blk_drewN ?_ _ | refine blk_drew ?_)) (by repeat (first | exact HRB.out | refine Kd.C_alloc ?_ _ | refine Kd.C_drewN ?_ _ | refine Kd.C_drew ?_)) HCB.out (by omega) HN.out HT.out).mono ?_; rintro e w8 ⟨rfl, A8, -, rfl⟩) | (go_at_call 17; refine (wire_Sum.calls k A0 c0 ls t403 _ (by repeat (first | exact HRS.out | refine Kd.C_alloc ?_ _ | refine Kd.C_drewN ?_ _ | refine Kd.C_drew ?_)) HCS.out HZ.out).mono ?_; rintro e w8 ⟨rfl, ⟨m8, rfl⟩⟩))
                  all_goals go_wp2_with fail
                  all_goals go_ret3
                  all_goals exact ⟨_, rfl, Kd.R_nil _ _ _ _ _, by repeat (first | exact HB9.out | apply below_alloc | apply pw_below_drewN | apply below_drew1)⟩
              · rw [if_neg c14] at H
                exact absurd H (by simp)
            · rw [if_neg c11] at H
              exact absurd H (by simp)
          · rw [if_neg c10] at H
            exact absurd H (by simp)
        · rw [if_neg c9] at H
          exact absurd H (by simp)
  · rw [if_neg c3] at H
    have c3b0 : (t399 == 0) = false := beq_eq_false_iff_ne.mpr c3
    have c3b1 : (t399 != 0) = true := bne_iff_ne.mpr c3
    simp only [Option.some.injEq, Prod.mk.injEq] at H
    obtain ⟨rfl, rfl, rfl⟩ := H
    go_enter Try.func38, Try.ntmps38
    go_wp2_with (first | (go_at_call 15; (with_reducible refine (wire_ReadCount.calls k _ _ l0 t397 t398 t399 _ ?side1 ?side2 A2.out).mono ?_); (case side1 => repeat (first | exact HR0.out | (with_reducible refine Kd.C_alloc ?_ _) | (with_reducible refine Kd.C_drewN ?_ _) | (with_reducible refine Kd.C_drew ?_))); (case side2 => exact HC0.out); rintro e w29 ⟨rfl, hb⟩; have n0_ := Aside0.mk (below_step (by repeat (first | (with_reducible first | exact HB.out | apply below_alloc | apply pw_below_drewN | apply below_drew1) | exact HB.out)) hb); clear HB; have HB := n0_; clear n0_; (try clear hb); (try clear hb2); (try clear hk); (try clear hi)))
    repeat (go_quiet (first | (go_at_call 15; (with_reducible refine (wire_ReadCount.calls k _ _ l0 t397 t398 t399 _ ?side1 ?side2 A2.out).mono ?_); (case side1 => repeat (first | exact HR0.out | (with_reducible refine Kd.C_alloc ?_ _) | (with_reducible refine Kd.C_drewN ?_ _) | (with_reducible refine Kd.C_drew ?_))); (case side2 => exact HC0.out); rintro e w29 ⟨rfl, hb⟩; have n0_ := Aside0.mk (below_step (by repeat (first | (with_reducible first | exact HB.out | apply below_alloc | apply pw_below_drewN | apply below_drew1) | exact HB.out)) hb); clear HB; have HB := n0_; clear n0_; (try clear hb); (try clear hb2); (try clear hk); (try clear hi))); try go_wp2_with (first | (go_at_call 15; (with_reducible refine (wire_ReadCount.calls k _ _ l0 t397 t398 t399 _ ?side1 ?side2 A2.out).mono ?_); (case side1 => repeat (first | exact HR0.out | (with_reducible refine Kd.C_alloc ?_ _) | (with_reducible refine Kd.C_drewN ?_ _) | (with_reducible refine Kd.C_drew ?_))); (case side2 => exact HC0.out); rintro e w29 ⟨rfl, hb⟩; have n0_ := Aside0.mk (below_step (by repeat (first | (with_reducible first | exact HB.out | apply below_alloc | apply pw_below_drewN | apply below_drew1) | exact HB.out)) hb); clear HB; have HB := n0_; clear n0_; (try clear hb); (try clear hb2); (try clear hk); (try clear hi))))
    go_ret3
    exact ⟨_, by first | rfl | (simp [errW_none, errW_some] <;> rfl) | (simp [*, errW_none, errW_some] <;> rfl), by first | exact Kd.R_nil _ _ _ _ _ | exact Kd.N_nil _ _ _ _ _ | exact Kd.V_nil _ _ _ _ _ | exact Kd.Q_nil _ _ _ _ _ | exact Kd.S_nil _ _ _ _ _, by repeat (first | (with_reducible first | exact HB.out | apply below_alloc | apply pw_below_drewN | apply below_drew1) | exact HB.out)⟩


/-! ### conclaveref08_Bytes: function 41 -/
def conclaveref08_Bytes.f (l0 : List Int) : Option (List Int) := (some (([] : List Int) : List Int)).bind fun y408 => (if y408.length + l0.length < 140737488355328 then (some (y408 ++ l0)) else (none))
set_option maxHeartbeats 8000000 in
set_option maxRecDepth 100000 in
theorem conclaveref08_Bytes.calls (A0 : Option Addr) (c0 : Nat) (l0 : List Int) (r : List Int) (w : World) (hr0 : Kd.C (Kd.int .u8) w A0 l0.length l0) (hc0 : l0.length ≤ c0) (h : conclaveref08_Bytes.f l0 = some r) :
    Calls Try.prog 41 #[.slice A0 l0.length c0] w fun e w' => ∃ v0_ : Value, e = .returned (v0_) ∧ Kd.R (Kd.int .u8) 5 w' w.heap.size (fun _ => True) v0_ r ∧ Below w.heap.size w w' := by
  have HR0 := Aside0.mk hr0
  have HC0 := Aside0.mk hc0
  clear hr0 hc0
  have HB := Aside0.mk (Below.refl w.heap.size w)
  have H : ((some (([] : List Int) : List Int)).bind fun y408 => (if y408.length + l0.length < 140737488355328 then (some (y408 ++ l0)) else (none))) = some r := h
  clear h
  obtain ⟨y408, hy408⟩ : ∃ y_ : List Int, y_ = (([] : List Int)) := ⟨_, rfl⟩
  replace H : (if y408.length + l0.length < 140737488355328 then (some (y408 ++ l0)) else (none)) = some r := by first | (rw [hy408]; with_reducible exact H) | (have H2_ := (Option.bind_some _ _).symm.trans H; rw [hy408]; with_reducible exact H2_) | (have H2_ := (Option.bind_some _ _).symm.trans H; with_reducible exact H2_) | with_reducible exact H | (rw [hy408]; exact H) | exact H
  have Ny408 := Aside0.mk hy408
  clear hy408
  by_cases c2 : y408.length + l0.length < 140737488355328
  · rw [if_pos c2] at H
    have LMc2 := Aside0.mk c2
    clear c2
    obtain ⟨y411, hy411⟩ : ∃ y_ : List Int, y_ = (y408 ++ l0) := ⟨_, rfl⟩
    replace H : (some y411) = some r := by first | (rw [hy411]; with_reducible exact H) | (have H2_ := (Option.bind_some _ _).symm.trans H; rw [hy411]; with_reducible exact H2_) | (have H2_ := (Option.bind_some _ _).symm.trans H; with_reducible exact H2_) | with_reducible exact H | (rw [hy411]; exact H) | exact H
    have Ny411 := Aside0.mk hy411
    clear hy411
    obtain rfl := Option.some.inj H
    go_enter Try.func41, Try.ntmps41
    go_wp2_with (first | ((with_reducible refine gate_dst (N := 3) rfl ?_); refine Kd.R_lit (Kd.int .u8) _ 5 ?hg (N := 3) ?hd (xs := ([] : List Int)) (inner := []) (ok := fun _ => True) (okp := fun _ => True) ?hr ?hp (fun _ hk => hk) trivial (Below.refl _ _) (Nat.le_refl _) (by simp) ?_; (case hd => rfl); (case hg => rfl); (case hr => first | (go_simp; done) | (go_simp; rfl)); (case hp => exact (Reps.none _ _)); intro v409 w3 ho4 hb hg_ hnew_; clear hg_ hnew_; (first | rw [← Ny408.out] at ho4 | (simp only [Int.reduceToNat] at ho4; rw [← Ny408.out] at ho4)); have n0_ := Aside0.mk (Kd.R_lower ho4 (below_size (by repeat (first | (with_reducible first | exact HB.out | apply below_alloc | apply pw_below_drewN | apply below_drew1) | exact HB.out)))); have n1_ := Aside0.mk (below_step (by repeat (first | (with_reducible first | exact HB.out | apply below_alloc | apply pw_below_drewN | apply below_drew1) | exact HB.out)) hb); clear HB; have HO410 := n0_; have HB := n1_; clear n0_ n1_; clear hb ho4) | ((with_reducible refine gate_builtin (b := .append) (xs := #[.tmp 3, .tmp 4]) rfl ?_); at_builtin; refine Kd.R_append_rows (Kd.int .u8) (w0 := w) w.heap.size rfl (.tmp 3) (.tmp 4) 22 5 (.int .u8 0) 1 rfl Try.underlying22 info5 rfl (by decide) (by omega) v409 y408 l0 _ _ _ (fun _ => True) (fun _ => False) rfl rfl ?aO ?aR (fun _ _ h => h) (fun _ h => h.elim) ?aF ?aB ?aS ?aL ?_; (case aR => repeat (first | exact (Kd.C_below HR0.out HB.out) | (with_reducible refine Kd.C_alloc ?_ _) | (with_reducible refine Kd.C_drewN ?_ _) | (with_reducible refine Kd.C_drew ?_))); (case aB => exact (by repeat (first | (with_reducible first | exact HB.out | apply below_alloc | apply pw_below_drewN | apply below_drew1) | exact HB.out))); (case aF => exact (fun _ _ => trivial)); (case aO => exact (by (with_reducible repeat (first | apply Kd.R_alloc | apply Kd.R_drewN | apply Kd.R_drew)); exact HO410.out)); (case aS => exact (below_size (by repeat (first | (with_reducible first | exact HB.out | apply below_alloc | apply pw_below_drewN | apply below_drew1) | exact HB.out)))); (case aL => have := LMc2.out; omega); intro v412 w5 ho hb hg hat; rw [← Ny411.out] at ho; have n0_ := Aside0.mk (hb); have n1_ := Aside0.mk (ho); clear HB; clear HO410; have HB := n0_; have HO413 := n1_; clear n0_ n1_; clear ho hb hg hat))
    go_ret
    exact ⟨_, by first | rfl | (simp [errW_none, errW_some] <;> rfl) | (simp [*, errW_none, errW_some] <;> rfl), by (with_reducible repeat (first | apply Kd.R_alloc | apply Kd.R_drewN | apply Kd.R_drew)); exact HO413.out, by repeat (first | (with_reducible first | exact HB.out | apply below_alloc | apply pw_below_drewN | apply below_drew1) | exact HB.out)⟩
  · rw [if_neg c2] at H
    exact absurd H (by simp)

end Go.Proofs.Ytclanpkekocndaa.P
