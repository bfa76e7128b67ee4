-- Written for this claim by a program of this session.
import Derived.Test.YtflcjdpnpdkdeaaQSchedRotatesx0
import Derived.Test.YtflcjdpnpdkdeaaQSchedRotatesx1
import Derived.Test.YtflcjdpnpdkdeaaQSchedRotatesx2
namespace Go.Proofs.Ytflcjdpnpdkdeaa.QSchedRotates
open Go.RowKit Go.Proofs.YtflcjdpnpdkdeaaW.PrintWords Go.Proofs.YtflcjdpnpdkdeaaW.PrintLast Go.Proofs.YtflcjdpnpdkdeaaW.PrintMore
attribute [local go_sem] max2_int min2_int max_two min_two max_three min_three max_four min_four   -- for this text's walks alone
set_option linter.unusedVariables false
set_option linter.unusedSimpArgs false

/-! ### sakialaw28_SchedRotates: function 5 -/
def sakialaw28_SchedRotates.j0 : Nat → Int → Int → Bool → Option (Bool)
  | 0, _, _, _ => none
  | k + 1, x0, x1, x12 => if x12 = true then ((sched_Rotate.f k x0 (wrap64 (x1))).bind fun t147 => (if (t147.length : Int) = 0 then ((sakialaw28_live.f k).bind fun t150 => (some t150)) else (none))) else ((sched_Rotate.f k x0 (wrap64 (x0 * (wrap64 (x1))))).bind fun t151 => (if (t151.length : Int) = (wrap64 (x0 * (wrap64 (x1)))) then ((sched_Rounds.f k x0 t151).bind fun t154 => (if t154 = (wrap64 (x1)) then ((sched_Fair.f k x0 t151 x0).bind fun t155 => (if t155 = true then (if x0 = 1 then ((sakialaw28_live.f k).bind fun t156 => (some t156)) else (if (wrap64 (x1)) = 0 then ((sakialaw28_live.f k).bind fun t157 => (some t157)) else ((sched_Fair.f k x0 t151 (wrap64 (x0 - 1))).bind fun t158 => (if t158 = true then (none) else ((sakialaw28_live.f k).bind fun t159 => (some t159)))))) else (none))) else (none))) else (none)))
def sakialaw28_SchedRotates.f (k : Nat) (a0 : Int) (a1 : Int) : Option (Bool) := if a0 < 1 then (sakialaw28_SchedRotates.j0 k a0 a1 true) else (sakialaw28_SchedRotates.j0 k a0 a1 (decide (a0 > 10)))
theorem sakialaw28_SchedRotates.mono_l : ∀ k, (∀ y0 y1 y2, LeO (sakialaw28_SchedRotates.j0 k y0 y1 y2) (sakialaw28_SchedRotates.j0 (k + 1) y0 y1 y2))
  | 0 => fun _ _ _ r h => by simp [sakialaw28_SchedRotates.j0] at h
  | k + 1 => by
    have ih0 := sakialaw28_SchedRotates.mono_l k
    · intro y0 y1 y2
      unfold sakialaw28_SchedRotates.j0
      repeat' first
      | (with_reducible exact ih0 _ _ _)
      | (with_reducible exact sakialaw28_live.mono _)
      | (with_reducible exact sched_Fair.mono _ _ _ _)
      | (with_reducible exact sched_Rotate.mono _ _ _)
      | (with_reducible exact sched_Rounds.mono _ _ _)
      | (with_reducible exact LeO.refl _)
      | (with_reducible exact LeO.none _)
      | (with_reducible refine LeO.ite ?_ ?_)
      | (with_reducible refine LeO.bind ?_ (fun _ => ?_))
      | exact ih0 _ _ _
      | exact sakialaw28_live.mono _
      | exact sched_Fair.mono _ _ _ _
      | exact sched_Rotate.mono _ _ _
      | exact sched_Rounds.mono _ _ _
      | exact LeO.none _
      | refine LeO.ite ?_ ?_
      | refine LeO.bind ?_ (fun _ => ?_)
theorem sakialaw28_SchedRotates.mono : ∀ a0 a1 k, LeO (sakialaw28_SchedRotates.f k a0 a1) (sakialaw28_SchedRotates.f (k + 1) a0 a1) := by
  intro a0 a1 k
  have ih0 := sakialaw28_SchedRotates.mono_l k
  unfold sakialaw28_SchedRotates.f
  repeat' first
      | (with_reducible exact ih0 _ _ _)
      | (with_reducible exact sakialaw28_live.mono _)
      | (with_reducible exact sched_Fair.mono _ _ _ _)
      | (with_reducible exact sched_Rotate.mono _ _ _)
      | (with_reducible exact sched_Rounds.mono _ _ _)
      | (with_reducible exact LeO.refl _)
      | (with_reducible exact LeO.none _)
      | (with_reducible refine LeO.ite ?_ ?_)
      | (with_reducible refine LeO.bind ?_ (fun _ => ?_))
      | exact ih0 _ _ _
      | exact sakialaw28_live.mono _
      | exact sched_Fair.mono _ _ _ _
      | exact sched_Rotate.mono _ _ _
      | exact sched_Rounds.mono _ _ _
      | exact LeO.none _
      | refine LeO.ite ?_ ?_
      | refine LeO.bind ?_ (fun _ => ?_)
set_option maxHeartbeats 8000000 in
set_option maxRecDepth 100000 in
theorem sakialaw28_SchedRotates.calls (k : Nat) (a0 : Int) (a1 : Int) (r : Bool) (w : World) (h : sakialaw28_SchedRotates.f k a0 a1 = some r) :
    Calls Try.prog 5 #[.int .i64 a0, .int .u8 a1] w fun e w' => e = .returned (.bool r) ∧ Below w.heap.size w w' := by
  have HB := Aside0.mk (Below.refl w.heap.size w)
  have H : (if a0 < 1 then (sakialaw28_SchedRotates.j0 k a0 a1 true) else (sakialaw28_SchedRotates.j0 k a0 a1 (decide (a0 > 10)))) = some r := h
  clear h
  have HC3 := Aside0.mk H
  clear H
  go_enter Try.func5, Try.ntmps5
  go_upto_region 1 with (fail)
  go_cut [12] (fun v12 wc => ∃ (kq : Nat) (x12_2 : Bool), v12 = .bool x12_2 ∧ Aside0 (sakialaw28_SchedRotates.j0 kq a0 a1 x12_2 = some r) ∧ Aside0 (kq ≤ k) ∧ Aside0 (Below w.heap.size w wc))
  case first =>
    have H := HC3.out
    clear HC3
    by_cases c4 : a0 < 1
    · rw [if_pos c4] at H
      have c4b0 : decide (a0 < 1) = true := decide_eq_true c4
      clear c4
      (first | rw [c4b0] | (simp only [i64_w, i32_w]; rw [c4b0]) | skip)
      have H' := Aside0.mk H
      clear H
      go_wp2
      go_meet
      case rel => exact ⟨_, (true), (by first | rfl | (simp; done) | (simp [*]; done)), H', ⟨by first | omega | exact Nat.le_refl _⟩, ⟨by repeat (first | (with_reducible first | exact HB.out | apply below_alloc | apply pw_below_drewN | apply below_drew1) | exact HB.out)⟩⟩
    · rw [if_neg c4] at H
      have c4b0 : decide (a0 < 1) = false := decide_eq_false c4
      clear c4
      (first | rw [c4b0] | (simp only [i64_w, i32_w]; rw [c4b0]) | skip)
      have H' := Aside0.mk H
      clear H
      go_wp2
      go_meet
      case rel => exact ⟨_, (decide (a0 > 10)), (by first | rfl | (simp; done) | (simp [*]; done)), H', ⟨by first | omega | exact Nat.le_refl _⟩, ⟨by repeat (first | (with_reducible first | exact HB.out | apply below_alloc | apply pw_below_drewN | apply below_drew1) | exact HB.out)⟩⟩
  case rest =>
    clear HC3
    try clear p2
    try clear c4
    try clear c4b0
    obtain ⟨kq, x12_2, rfl, HA, HJ2, HB⟩ := hcut
    cases kq with
    | zero => exact absurd HA.out (by simp [sakialaw28_SchedRotates.j0])
    | succ kj2 =>
      have H := HA.out
      clear HA
      simp only [sakialaw28_SchedRotates.j0] at H
      by_cases c5 : x12_2 = true
      · subst c5
        have H1 : ((sched_Rotate.f kj2 a0 (wrap64 (a1))).bind fun t147 => (if (t147.length : Int) = 0 then ((sakialaw28_live.f kj2).bind fun t150 => (some t150)) else (none))) = some r := by rw [if_pos rfl] at H; exact H
        clear H
        have H := H1
        clear H1
        replace H := Option.bind_eq_some_iff.mp H
        obtain ⟨t147, A60, H⟩ := H
        replace H : (if (t147.length : Int) = 0 then ((sakialaw28_live.f kj2).bind fun t150 => (some t150)) else (none)) = some r := H
        have A6 := Aside0.mk A60
        clear A60
        by_cases c7 : (t147.length : Int) = 0
        rotate_left
        · rw [if_neg c7] at H
          exact absurd H (by simp)
        rw [if_pos c7] at H
        have c7b0 : ((t147.length : Int) == 0) = true := beq_iff_eq.mpr c7
        have c7b1 : ((t147.length : Int) != 0) = false := bne_eq_false_iff_eq.mpr c7
        clear c7
        replace H := Option.bind_eq_some_iff.mp H
        obtain ⟨t150, A80, H⟩ := H
        replace H : (some t150) = some r := H
        have A8 := Aside0.mk A80
        clear A80
        obtain rfl := Option.some.inj H
        go_wp2_with (first | ((with_reducible refine gate_callee (f := 7) rfl ?_); refine goesL_ (some 16) rfl rfl Try.func7 (by kernel_rfl) rfl #[.int .i64 a0, .int .i64 (wrap64 (a1))] rfl (by (try simp only [List.map_toArray, List.map_cons, List.map_nil]); first | done | rfl | (simp only [List.length_drop, List.length_take]; rfl)) ?_; (with_reducible refine (sched_Rotate.calls kj2 a0 (wrap64 (a1)) t147 _ A6.out).mono ?_); rintro e w9 ⟨v148, rfl, ho0, hb⟩; refine ⟨_, rfl, ?_⟩; have n0_ := Aside0.mk (Kd.R_lower ho0 (below_size (by repeat (first | (with_reducible first | exact HB.out | apply below_alloc | apply pw_below_drewN | apply below_drew1) | exact HB.out)))); have n1_ := Aside0.mk (below_step (by repeat (first | (with_reducible first | exact HB.out | apply below_alloc | apply pw_below_drewN | apply below_drew1) | exact HB.out)) hb); clear HB; have HO149 := n0_; have HB := n1_; clear n0_ n1_; (try clear hb); (try clear hb2); (try clear hk); (try clear hi); (try clear ho0); obtain ⟨Ao10, co10, eo10⟩ := Kd.R_slice HO149.out; subst eo10) | (go_at_call 10; (with_reducible refine (sakialaw28_live.calls kj2  t150 _ A8.out).mono ?_); rintro e w11 ⟨rfl, hb⟩; have n0_ := Aside0.mk (Kd.R_below (by (with_reducible repeat (first | apply Kd.R_alloc | apply Kd.R_drewN | apply Kd.R_drew)); exact HO149.out) hb); have n1_ := Aside0.mk (below_step (by repeat (first | (with_reducible first | exact HB.out | apply below_alloc | apply pw_below_drewN | apply below_drew1) | exact HB.out)) hb); clear HO149; clear HB; have HO149 := n0_; have HB := n1_; clear n0_ n1_; (try clear hb); (try clear hb2); (try clear hk); (try clear hi)))
        go_ret
        exact ⟨by first | rfl | (simp [errW_none, errW_some] <;> rfl) | (simp [*, errW_none, errW_some] <;> rfl), by repeat (first | (with_reducible first | exact HB.out | apply below_alloc | apply pw_below_drewN | apply below_drew1) | exact HB.out)⟩
      · replace c5 := Bool.eq_false_iff.mpr c5
        subst c5
        have H1 : ((sched_Rotate.f kj2 a0 (wrap64 (a0 * (wrap64 (a1))))).bind fun t151 => (if (t151.length : Int) = (wrap64 (a0 * (wrap64 (a1)))) then ((sched_Rounds.f kj2 a0 t151).bind fun t154 => (if t154 = (wrap64 (a1)) then ((sched_Fair.f kj2 a0 t151 a0).bind fun t155 => (if t155 = true then (if a0 = 1 then ((sakialaw28_live.f kj2).bind fun t156 => (some t156)) else (if (wrap64 (a1)) = 0 then ((sakialaw28_live.f kj2).bind fun t157 => (some t157)) else ((sched_Fair.f kj2 a0 t151 (wrap64 (a0 - 1))).bind fun t158 => (if t158 = true then (none) else ((sakialaw28_live.f kj2).bind fun t159 => (some t159)))))) else (none))) else (none))) else (none))) = some r := by rw [if_neg (show ¬ (false = true) by decide)] at H; exact H
        clear H
        have H := H1
        clear H1
        replace H := Option.bind_eq_some_iff.mp H
        obtain ⟨t151, A120, H⟩ := H
        replace H : (if (t151.length : Int) = (wrap64 (a0 * (wrap64 (a1)))) then ((sched_Rounds.f kj2 a0 t151).bind fun t154 => (if t154 = (wrap64 (a1)) then ((sched_Fair.f kj2 a0 t151 a0).bind fun t155 => (if t155 = true then (if a0 = 1 then ((sakialaw28_live.f kj2).bind fun t156 => (some t156)) else (if (wrap64 (a1)) = 0 then ((sakialaw28_live.f kj2).bind fun t157 => (some t157)) else ((sched_Fair.f kj2 a0 t151 (wrap64 (a0 - 1))).bind fun t158 => (if t158 = true then (none) else ((sakialaw28_live.f kj2).bind fun t159 => (some t159)))))) else (none))) else (none))) else (none)) = some r := H
        have A12 := Aside0.mk A120
        clear A120
        by_cases c13 : (t151.length : Int) = (wrap64 (a0 * (wrap64 (a1))))
        rotate_left
        · rw [if_neg c13] at H
          exact absurd H (by simp)
        rw [if_pos c13] at H
        have c13b0 : ((t151.length : Int) == (wrap64 (a0 * (wrap64 (a1))))) = true := beq_iff_eq.mpr c13
        have c13b1 : ((t151.length : Int) != (wrap64 (a0 * (wrap64 (a1))))) = false := bne_eq_false_iff_eq.mpr c13
        clear c13
        replace H := Option.bind_eq_some_iff.mp H
        obtain ⟨t154, A140, H⟩ := H
        replace H : (if t154 = (wrap64 (a1)) then ((sched_Fair.f kj2 a0 t151 a0).bind fun t155 => (if t155 = true then (if a0 = 1 then ((sakialaw28_live.f kj2).bind fun t156 => (some t156)) else (if (wrap64 (a1)) = 0 then ((sakialaw28_live.f kj2).bind fun t157 => (some t157)) else ((sched_Fair.f kj2 a0 t151 (wrap64 (a0 - 1))).bind fun t158 => (if t158 = true then (none) else ((sakialaw28_live.f kj2).bind fun t159 => (some t159)))))) else (none))) else (none)) = some r := H
        have A14 := Aside0.mk A140
        clear A140
        by_cases c15 : t154 = (wrap64 (a1))
        rotate_left
        · rw [if_neg c15] at H
          exact absurd H (by simp)
        rw [if_pos c15] at H
        have c15b0 : (t154 == (wrap64 (a1))) = true := beq_iff_eq.mpr c15
        have c15b1 : (t154 != (wrap64 (a1))) = false := bne_eq_false_iff_eq.mpr c15
        clear c15
        replace H := Option.bind_eq_some_iff.mp H
        obtain ⟨t155, A160, H⟩ := H
        replace H : (if t155 = true then (if a0 = 1 then ((sakialaw28_live.f kj2).bind fun t156 => (some t156)) else (if (wrap64 (a1)) = 0 then ((sakialaw28_live.f kj2).bind fun t157 => (some t157)) else ((sched_Fair.f kj2 a0 t151 (wrap64 (a0 - 1))).bind fun t158 => (if t158 = true then (none) else ((sakialaw28_live.f kj2).bind fun t159 => (some t159)))))) else (none)) = some r := H
        have A16 := Aside0.mk A160
        clear A160
        by_cases c17 : t155 = true
        · subst c17
          have H1 : (if a0 = 1 then ((sakialaw28_live.f kj2).bind fun t156 => (some t156)) else (if (wrap64 (a1)) = 0 then ((sakialaw28_live.f kj2).bind fun t157 => (some t157)) else ((sched_Fair.f kj2 a0 t151 (wrap64 (a0 - 1))).bind fun t158 => (if t158 = true then (none) else ((sakialaw28_live.f kj2).bind fun t159 => (some t159)))))) = some r := by rw [if_pos rfl] at H; exact H
          clear H
          have H := H1
          clear H1
          by_cases c18 : a0 = 1
          · rw [if_pos c18] at H
            have c18b0 : (a0 == 1) = true := beq_iff_eq.mpr c18
            have c18b1 : (a0 != 1) = false := bne_eq_false_iff_eq.mpr c18
            clear c18
            replace H := Option.bind_eq_some_iff.mp H
            obtain ⟨t156, A190, H⟩ := H
            replace H : (some t156) = some r := H
            have A19 := Aside0.mk A190
            clear A190
            obtain rfl := Option.some.inj H
            go_wp2_with (first | ((with_reducible refine gate_callee (f := 7) rfl ?_); refine goesL_ (some 28) rfl rfl Try.func7 (by kernel_rfl) rfl #[.int .i64 a0, .int .i64 (wrap64 (a0 * (wrap64 (a1))))] rfl (by (try simp only [List.map_toArray, List.map_cons, List.map_nil]); first | done | rfl | (simp only [List.length_drop, List.length_take]; rfl)) ?_; (with_reducible refine (sched_Rotate.calls kj2 a0 (wrap64 (a0 * (wrap64 (a1)))) t151 _ A12.out).mono ?_); rintro e w20 ⟨v152, rfl, ho0, hb⟩; refine ⟨_, rfl, ?_⟩; have n0_ := Aside0.mk (Kd.R_lower ho0 (below_size (by repeat (first | (with_reducible first | exact HB.out | apply below_alloc | apply pw_below_drewN | apply below_drew1) | exact HB.out)))); have n1_ := Aside0.mk (below_step (by repeat (first | (with_reducible first | exact HB.out | apply below_alloc | apply pw_below_drewN | apply below_drew1) | exact HB.out)) hb); clear HB; have HO153 := n0_; have HB := n1_; clear n0_ n1_; (try clear hb); (try clear hb2); (try clear hk); (try clear hi); (try clear ho0); obtain ⟨Ao21, co21, eo21⟩ := Kd.R_slice HO153.out; subst eo21) | (go_at_call 17; (with_reducible refine (sched_Rounds.calls kj2 a0 _ _ t151 t154 _ ?side1 ?side2 A14.out).mono ?_); (case side1 => repeat (first | exact (Kd.R_reads' HO153.out).2.2 | (with_reducible refine Kd.C_alloc ?_ _) | (with_reducible refine Kd.C_drewN ?_ _) | (with_reducible refine Kd.C_drew ?_))); (case side2 => exact (Kd.R_reads' HO153.out).2.1); rintro e w22 ⟨rfl, hb⟩; have n0_ := Aside0.mk (Kd.R_below (by (with_reducible repeat (first | apply Kd.R_alloc | apply Kd.R_drewN | apply Kd.R_drew)); exact HO153.out) hb); have n1_ := Aside0.mk (below_step (by repeat (first | (with_reducible first | exact HB.out | apply below_alloc | apply pw_below_drewN | apply below_drew1) | exact HB.out)) hb); clear HO153; clear HB; have HO153 := n0_; have HB := n1_; clear n0_ n1_; (try clear hb); (try clear hb2); (try clear hk); (try clear hi)) | (go_at_call 18; (with_reducible refine (sched_Fair.calls kj2 a0 _ _ t151 a0 true _ ?side1 ?side2 A16.out).mono ?_); (case side1 => repeat (first | exact (Kd.R_reads' HO153.out).2.2 | (with_reducible refine Kd.C_alloc ?_ _) | (with_reducible refine Kd.C_drewN ?_ _) | (with_reducible refine Kd.C_drew ?_))); (case side2 => exact (Kd.R_reads' HO153.out).2.1); rintro e w23 ⟨rfl, hb⟩; have n0_ := Aside0.mk (Kd.R_below (by (with_reducible repeat (first | apply Kd.R_alloc | apply Kd.R_drewN | apply Kd.R_drew)); exact HO153.out) hb); have n1_ := Aside0.mk (below_step (by repeat (first | (with_reducible first | exact HB.out | apply below_alloc | apply pw_below_drewN | apply below_drew1) | exact HB.out)) hb); clear HO153; clear HB; have HO153 := n0_; have HB := n1_; clear n0_ n1_; (try clear hb); (try clear hb2); (try clear hk); (try clear hi)) | (go_at_call 10; (with_reducible refine (sakialaw28_live.calls kj2  t156 _ A19.out).mono ?_); rintro e w24 ⟨rfl, hb⟩; have n0_ := Aside0.mk (Kd.R_below (by (with_reducible repeat (first | apply Kd.R_alloc | apply Kd.R_drewN | apply Kd.R_drew)); exact HO153.out) hb); have n1_ := Aside0.mk (below_step (by repeat (first | (with_reducible first | exact HB.out | apply below_alloc | apply pw_below_drewN | apply below_drew1) | exact HB.out)) hb); clear HO153; clear HB; have HO153 := n0_; have HB := n1_; clear n0_ n1_; (try clear hb); (try clear hb2); (try clear hk); (try clear hi)))
            go_ret
            exact ⟨by first | rfl | (simp [errW_none, errW_some] <;> rfl) | (simp [*, errW_none, errW_some] <;> rfl), by repeat (first | (with_reducible first | exact HB.out | apply below_alloc | apply pw_below_drewN | apply below_drew1) | exact HB.out)⟩
          · rw [if_neg c18] at H
            have c18b0 : (a0 == 1) = false := beq_eq_false_iff_ne.mpr c18
            have c18b1 : (a0 != 1) = true := bne_iff_ne.mpr c18
            by_cases c25 : (wrap64 (a1)) = 0
            · rw [if_pos c25] at H
              have c25b0 : ((wrap64 (a1)) == 0) = true := beq_iff_eq.mpr c25
              have c25b1 : ((wrap64 (a1)) != 0) = false := bne_eq_false_iff_eq.mpr c25
              clear c25
              replace H := Option.bind_eq_some_iff.mp H
              obtain ⟨t157, A260, H⟩ := H
              replace H : (some t157) = some r := H
              have A26 := Aside0.mk A260
              clear A260
              obtain rfl := Option.some.inj H
              go_wp2_with (first | ((with_reducible refine gate_callee (f := 7) rfl ?_); refine goesL_ (some 28) rfl rfl Try.func7 (by kernel_rfl) rfl #[.int .i64 a0, .int .i64 (wrap64 (a0 * (wrap64 (a1))))] rfl (by (try simp only [List.map_toArray, List.map_cons, List.map_nil]); first | done | rfl | (simp only [List.length_drop, List.length_take]; rfl)) ?_; (with_reducible refine (sched_Rotate.calls kj2 a0 (wrap64 (a0 * (wrap64 (a1)))) t151 _ A12.out).mono ?_); rintro e w27 ⟨v152, rfl, ho0, hb⟩; refine ⟨_, rfl, ?_⟩; have n0_ := Aside0.mk (Kd.R_lower ho0 (below_size (by repeat (first | (with_reducible first | exact HB.out | apply below_alloc | apply pw_below_drewN | apply below_drew1) | exact HB.out)))); have n1_ := Aside0.mk (below_step (by repeat (first | (with_reducible first | exact HB.out | apply below_alloc | apply pw_below_drewN | apply below_drew1) | exact HB.out)) hb); clear HB; have HO153 := n0_; have HB := n1_; clear n0_ n1_; (try clear hb); (try clear hb2); (try clear hk); (try clear hi); (try clear ho0); obtain ⟨Ao28, co28, eo28⟩ := Kd.R_slice HO153.out; subst eo28) | (go_at_call 17; (with_reducible refine (sched_Rounds.calls kj2 a0 _ _ t151 t154 _ ?side1 ?side2 A14.out).mono ?_); (case side1 => repeat (first | exact (Kd.R_reads' HO153.out).2.2 | (with_reducible refine Kd.C_alloc ?_ _) | (with_reducible refine Kd.C_drewN ?_ _) | (with_reducible refine Kd.C_drew ?_))); (case side2 => exact (Kd.R_reads' HO153.out).2.1); rintro e w29 ⟨rfl, hb⟩; have n0_ := Aside0.mk (Kd.R_below (by (with_reducible repeat (first | apply Kd.R_alloc | apply Kd.R_drewN | apply Kd.R_drew)); exact HO153.out) hb); have n1_ := Aside0.mk (below_step (by repeat (first | (with_reducible first | exact HB.out | apply below_alloc | apply pw_below_drewN | apply below_drew1) | exact HB.out)) hb); clear HO153; clear HB; have HO153 := n0_; have HB := n1_; clear n0_ n1_; (try clear hb); (try clear hb2); (try clear hk); (try clear hi)) | (go_at_call 18; (with_reducible refine (sched_Fair.calls kj2 a0 _ _ t151 a0 true _ ?side1 ?side2 A16.out).mono ?_); (case side1 => repeat (first | exact (Kd.R_reads' HO153.out).2.2 | (with_reducible refine Kd.C_alloc ?_ _) | (with_reducible refine Kd.C_drewN ?_ _) | (with_reducible refine Kd.C_drew ?_))); (case side2 => exact (Kd.R_reads' HO153.out).2.1); rintro e w30 ⟨rfl, hb⟩; have n0_ := Aside0.mk (Kd.R_below (by (with_reducible repeat (first | apply Kd.R_alloc | apply Kd.R_drewN | apply Kd.R_drew)); exact HO153.out) hb); have n1_ := Aside0.mk (below_step (by repeat (first | (with_reducible first | exact HB.out | apply below_alloc | apply pw_below_drewN | apply below_drew1) | exact HB.out)) hb); clear HO153; clear HB; have HO153 := n0_; have HB := n1_; clear n0_ n1_; (try clear hb); (try clear hb2); (try clear hk); (try clear hi)) | (go_at_call 10; (with_reducible refine (sakialaw28_live.calls kj2  t157 _ A26.out).mono ?_); rintro e w31 ⟨rfl, hb⟩; have n0_ := Aside0.mk (Kd.R_below (by (with_reducible repeat (first | apply Kd.R_alloc | apply Kd.R_drewN | apply Kd.R_drew)); exact HO153.out) hb); have n1_ := Aside0.mk (below_step (by repeat (first | (with_reducible first | exact HB.out | apply below_alloc | apply pw_below_drewN | apply below_drew1) | exact HB.out)) hb); clear HO153; clear HB; have HO153 := n0_; have HB := n1_; clear n0_ n1_; (try clear hb); (try clear hb2); (try clear hk); (try clear hi)))
              go_ret
              exact ⟨by first | rfl | (simp [errW_none, errW_some] <;> rfl) | (simp [*, errW_none, errW_some] <;> rfl), by repeat (first | (with_reducible first | exact HB.out | apply below_alloc | apply pw_below_drewN | apply below_drew1) | exact HB.out)⟩
            · rw [if_neg c25] at H
              have c25b0 : ((wrap64 (a1)) == 0) = false := beq_eq_false_iff_ne.mpr c25
              have c25b1 : ((wrap64 (a1)) != 0) = true := bne_iff_ne.mpr c25
              replace H := Option.bind_eq_some_iff.mp H
              obtain ⟨t158, A320, H⟩ := H
              replace H : (if t158 = true then (none) else ((sakialaw28_live.f kj2).bind fun t159 => (some t159))) = some r := H
              have A32 := Aside0.mk A320
              clear A320
              by_cases c33 : t158 = true
              · subst c33
                have H1 : (none) = some r := by rw [if_pos rfl] at H; exact H
                clear H
                have H := H1
                clear H1
                exact absurd H (by simp)
              · replace c33 := Bool.eq_false_iff.mpr c33
                subst c33
                have H1 : ((sakialaw28_live.f kj2).bind fun t159 => (some t159)) = some r := by rw [if_neg (show ¬ (false = true) by decide)] at H; exact H
                clear H
                have H := H1
                clear H1
                replace H := Option.bind_eq_some_iff.mp H
                obtain ⟨t159, A340, H⟩ := H
                replace H : (some t159) = some r := H
                have A34 := Aside0.mk A340
                clear A340
                obtain rfl := Option.some.inj H
                go_wp2_with (first | ((with_reducible refine gate_callee (f := 7) rfl ?_); refine goesL_ (some 28) rfl rfl Try.func7 (by kernel_rfl) rfl #[.int .i64 a0, .int .i64 (wrap64 (a0 * (wrap64 (a1))))] rfl (by (try simp only [List.map_toArray, List.map_cons, List.map_nil]); first | done | rfl | (simp only [List.length_drop, List.length_take]; rfl)) ?_; (with_reducible refine (sched_Rotate.calls kj2 a0 (wrap64 (a0 * (wrap64 (a1)))) t151 _ A12.out).mono ?_); rintro e w35 ⟨v152, rfl, ho0, hb⟩; refine ⟨_, rfl, ?_⟩; have n0_ := Aside0.mk (Kd.R_lower ho0 (below_size (by repeat (first | (with_reducible first | exact HB.out | apply below_alloc | apply pw_below_drewN | apply below_drew1) | exact HB.out)))); have n1_ := Aside0.mk (below_step (by repeat (first | (with_reducible first | exact HB.out | apply below_alloc | apply pw_below_drewN | apply below_drew1) | exact HB.out)) hb); clear HB; have HO153 := n0_; have HB := n1_; clear n0_ n1_; (try clear hb); (try clear hb2); (try clear hk); (try clear hi); (try clear ho0); obtain ⟨Ao36, co36, eo36⟩ := Kd.R_slice HO153.out; subst eo36) | (go_at_call 17; (with_reducible refine (sched_Rounds.calls kj2 a0 _ _ t151 t154 _ ?side1 ?side2 A14.out).mono ?_); (case side1 => repeat (first | exact (Kd.R_reads' HO153.out).2.2 | (with_reducible refine Kd.C_alloc ?_ _) | (with_reducible refine Kd.C_drewN ?_ _) | (with_reducible refine Kd.C_drew ?_))); (case side2 => exact (Kd.R_reads' HO153.out).2.1); rintro e w37 ⟨rfl, hb⟩; have n0_ := Aside0.mk (Kd.R_below (by (with_reducible repeat (first | apply Kd.R_alloc | apply Kd.R_drewN | apply Kd.R_drew)); exact HO153.out) hb); have n1_ := Aside0.mk (below_step (by repeat (first | (with_reducible first | exact HB.out | apply below_alloc | apply pw_below_drewN | apply below_drew1) | exact HB.out)) hb); clear HO153; clear HB; have HO153 := n0_; have HB := n1_; clear n0_ n1_; (try clear hb); (try clear hb2); (try clear hk); (try clear hi)) | (go_at_call 18; (with_reducible refine (sched_Fair.calls kj2 a0 _ _ t151 a0 true _ ?side1 ?side2 A16.out).mono ?_); (case side1 => repeat (first | exact (Kd.R_reads' HO153.out).2.2 | (with_reducible refine Kd.C_alloc ?_ _) | (with_reducible refine Kd.C_drewN ?_ _) | (with_reducible refine Kd.C_drew ?_))); (case side2 => exact (Kd.R_reads' HO153.out).2.1); rintro e w38 ⟨rfl, hb⟩; have n0_ := Aside0.mk (Kd.R_below (by (with_reducible repeat (first | apply Kd.R_alloc | apply Kd.R_drewN | apply Kd.R_drew)); exact HO153.out) hb); have n1_ := Aside0.mk (below_step (by repeat (first | (with_reducible first | exact HB.out | apply below_alloc | apply pw_below_drewN | apply below_drew1) | exact HB.out)) hb); clear HO153; clear HB; have HO153 := n0_; have HB := n1_; clear n0_ n1_; (try clear hb); (try clear hb2); (try clear hk); (try clear hi)) | (go_at_call 18; (with_reducible refine (sched_Fair.calls kj2 a0 _ _ t151 (wrap64 (a0 - 1)) false _ ?side1 ?side2 A32.out).mono ?_); (case side1 => repeat (first | exact (Kd.R_reads' HO153.out).2.2 | (with_reducible refine Kd.C_alloc ?_ _) | (with_reducible refine Kd.C_drewN ?_ _) | (with_reducible refine Kd.C_drew ?_))); (case side2 => exact (Kd.R_reads' HO153.out).2.1); rintro e w39 ⟨rfl, hb⟩; have n0_ := Aside0.mk (Kd.R_below (by (with_reducible repeat (first | apply Kd.R_alloc | apply Kd.R_drewN | apply Kd.R_drew)); exact HO153.out) hb); have n1_ := Aside0.mk (below_step (by repeat (first | (with_reducible first | exact HB.out | apply below_alloc | apply pw_below_drewN | apply below_drew1) | exact HB.out)) hb); clear HO153; clear HB; have HO153 := n0_; have HB := n1_; clear n0_ n1_; (try clear hb); (try clear hb2); (try clear hk); (try clear hi)) | (go_at_call 10; (with_reducible refine (sakialaw28_live.calls kj2  t159 _ A34.out).mono ?_); rintro e w40 ⟨rfl, hb⟩; have n0_ := Aside0.mk (Kd.R_below (by (with_reducible repeat (first | apply Kd.R_alloc | apply Kd.R_drewN | apply Kd.R_drew)); exact HO153.out) hb); have n1_ := Aside0.mk (below_step (by repeat (first | (with_reducible first | exact HB.out | apply below_alloc | apply pw_below_drewN | apply below_drew1) | exact HB.out)) hb); clear HO153; clear HB; have HO153 := n0_; have HB := n1_; clear n0_ n1_; (try clear hb); (try clear hb2); (try clear hk); (try clear hi)))
                go_ret
                exact ⟨by first | rfl | (simp [errW_none, errW_some] <;> rfl) | (simp [*, errW_none, errW_some] <;> rfl), by repeat (first | (with_reducible first | exact HB.out | apply below_alloc | apply pw_below_drewN | apply below_drew1) | exact HB.out)⟩
        · replace c17 := Bool.eq_false_iff.mpr c17
          subst c17
          have H1 : (none) = some r := by rw [if_neg (show ¬ (false = true) by decide)] at H; exact H
          clear H
          have H := H1
          clear H1
          exact absurd H (by simp)

/-- THE ONE PURE STATEMENT of sakialaw28_SchedRotates: yours. -/
def sakialaw28_SchedRotates.Pure : Prop := ∀ (a0 : Int) (a1 : Int), (Lit.int .i64 a0).wf = true → (Lit.int .u8 a1).wf = true → ∃ k, sakialaw28_SchedRotates.f k a0 a1 = some true
theorem sakialaw28_SchedRotates.walk (P : sakialaw28_SchedRotates.Pure) (a0 : Int) (a1 : Int) (w : World) (w0 : (Lit.int .i64 a0).wf = true) (w1 : (Lit.int .u8 a1).wf = true) :
    Calls Try.prog 5 #[.int .i64 a0, .int .u8 a1] w fun e w' => e = .returned (.bool true) ∧ Below w.heap.size w w' := by
  obtain ⟨k, h⟩ := P a0 a1 w0 w1
  refine (sakialaw28_SchedRotates.calls k a0 a1 true w h).mono ?_
  rintro e w' ⟨rfl, hd⟩
  exact ⟨rfl, hd⟩

end Go.Proofs.Ytflcjdpnpdkdeaa.QSchedRotates
