-- Written for this claim by a program of this session.
import Derived.Test.YteahmcfinijmdaaQOrderRacesx0
import Derived.Test.YteahmcfinijmdaaQOrderRacesx5
import Derived.Test.YteahmcfinijmdaaQOrderRacesx6
import Derived.Test.YteahmcfinijmdaaQOrderRacesx10
namespace Go.Proofs.Yteahmcfinijmdaa.QOrderRaces
open Go.RowKit Go.Proofs.YteahmcfinijmdaaW.PrintWords Go.Proofs.YteahmcfinijmdaaW.PrintLast Go.Proofs.YteahmcfinijmdaaW.PrintMore
attribute [local go_sem] max2_int min2_int max_two min_two max_three min_three max_four min_four   -- for this text's walks alone
set_option linter.unusedVariables false
set_option linter.unusedSimpArgs false

/-! ### sakialaw13_OrderRaces: function 3 -/
def sakialaw13_OrderRaces.f (k : Nat) (a0 : Int) (l1 : List (S33)) : Option (Bool) := if (l1.length : Int) > 150 then ((sakialaw13_live.f k).bind fun t202 => (some t202)) else ((order_Race.f k a0 l1).bind fun bt203 => ((sakiaref13_Right.f k a0 l1).bind fun t206 => (if t206 = true then ((sakiaref13_Race.f k l1).bind fun bt207 => (if (bt203.2.2 == (decide (bt207.1 ≥ 0))) = true then (if bt203.1 = (mx bt207.1 0) then (if bt203.2.1 = (mx bt207.2 0) then ((sakialaw13_live.f k).bind fun t209 => (some t209)) else (none)) else (none)) else (none))) else (if bt203.1 = 0 then (if bt203.2.1 = 0 then (if bt203.2.2 = true then (none) else ((sakialaw13_live.f k).bind fun t210 => (some t210))) else (none)) else (none)))))
theorem sakialaw13_OrderRaces.mono : ∀ a0 a1 k, LeO (sakialaw13_OrderRaces.f k a0 a1) (sakialaw13_OrderRaces.f (k + 1) a0 a1) := by
  intro a0 a1 k
  unfold sakialaw13_OrderRaces.f
  repeat' first
      | (with_reducible exact order_Race.mono _ _ _)
      | (with_reducible exact sakialaw13_live.mono _)
      | (with_reducible exact sakiaref13_Race.mono _ _)
      | (with_reducible exact sakiaref13_Right.mono _ _ _)
      | (with_reducible exact LeO.refl _)
      | (with_reducible exact LeO.none _)
      | (with_reducible refine LeO.ite ?_ ?_)
      | (with_reducible refine LeO.bind ?_ (fun _ => ?_))
      | exact order_Race.mono _ _ _
      | exact sakialaw13_live.mono _
      | exact sakiaref13_Race.mono _ _
      | exact sakiaref13_Right.mono _ _ _
      | exact LeO.none _
      | refine LeO.ite ?_ ?_
      | refine LeO.bind ?_ (fun _ => ?_)
set_option maxHeartbeats 8000000 in
set_option maxRecDepth 100000 in
theorem sakialaw13_OrderRaces.calls (k : Nat) (a0 : Int) (A1 : Option Addr) (c1 : Nat) (l1 : List (S33)) (r : Bool) (w : World) (hr1 : Kd.C k33 w A1 l1.length l1) (hc1 : l1.length ≤ c1) (h : sakialaw13_OrderRaces.f k a0 l1 = some r) :
    Calls Try.prog 3 #[.int .i64 a0, .slice A1 l1.length c1] w fun e w' => e = .returned (.bool r) ∧ Below w.heap.size w w' := by
  have HR1 := Aside0.mk hr1
  have HC1 := Aside0.mk hc1
  clear hr1 hc1
  have HB := Aside0.mk (Below.refl w.heap.size w)
  have H : (if (l1.length : Int) > 150 then ((sakialaw13_live.f k).bind fun t202 => (some t202)) else ((order_Race.f k a0 l1).bind fun bt203 => ((sakiaref13_Right.f k a0 l1).bind fun t206 => (if t206 = true then ((sakiaref13_Race.f k l1).bind fun bt207 => (if (bt203.2.2 == (decide (bt207.1 ≥ 0))) = true then (if bt203.1 = (mx bt207.1 0) then (if bt203.2.1 = (mx bt207.2 0) then ((sakialaw13_live.f k).bind fun t209 => (some t209)) else (none)) else (none)) else (none))) else (if bt203.1 = 0 then (if bt203.2.1 = 0 then (if bt203.2.2 = true then (none) else ((sakialaw13_live.f k).bind fun t210 => (some t210))) else (none)) else (none)))))) = some r := h
  clear h
  by_cases c3 : (l1.length : Int) > 150
  · rw [if_pos c3] at H
    have c3b0 : decide (150 < (l1.length : Int)) = true := decide_eq_true c3
    have c3b1 : decide (150 < l1.length) = true := decide_eq_true (by omega)
    clear c3
    replace H := Option.bind_eq_some_iff.mp H
    obtain ⟨t202, A40, H⟩ := H
    replace H : (some t202) = some r := H
    have A4 := Aside0.mk A40
    clear A40
    obtain rfl := Option.some.inj H
    go_enter Try.func3, Try.ntmps3
    go_wp2_with (first | ((with_reducible refine gate_callee (f := 7) rfl ?_); refine goesL_ (some 13) rfl rfl Try.func7 (by kernel_rfl) rfl #[] rfl (by (try simp only [List.map_toArray, List.map_cons, List.map_nil]); first | done | rfl | (simp only [List.length_drop, List.length_take]; rfl)) ?_; (with_reducible refine (sakialaw13_live.calls k  t202 _ A4.out).mono ?_); rintro e w5 ⟨rfl, hb⟩; refine ⟨_, rfl, ?_⟩; have n0_ := Aside0.mk (below_step (by repeat (first | (with_reducible first | exact HB.out | apply below_alloc | apply pw_below_drewN | apply below_drew1) | exact HB.out)) hb); clear HB; have HB := n0_; clear n0_; (try clear hb); (try clear hb2); (try clear hk); (try clear hi)))
    go_ret
    exact ⟨by first | rfl | (simp [errW_none, errW_some] <;> rfl) | (simp [*, errW_none, errW_some] <;> rfl), by repeat (first | (with_reducible first | exact HB.out | apply below_alloc | apply pw_below_drewN | apply below_drew1) | exact HB.out)⟩
  · rw [if_neg c3] at H
    have c3b0 : decide (150 < (l1.length : Int)) = false := decide_eq_false c3
    have c3b1 : decide (150 < l1.length) = false := decide_eq_false (by omega)
    clear c3
    replace H := Option.bind_eq_some_iff.mp H
    obtain ⟨⟨t203, t204, t205⟩, A60, H⟩ := H
    replace H : ((sakiaref13_Right.f k a0 l1).bind fun t206 => (if t206 = true then ((sakiaref13_Race.f k l1).bind fun bt207 => (if (t205 == (decide (bt207.1 ≥ 0))) = true then (if t203 = (mx bt207.1 0) then (if t204 = (mx bt207.2 0) then ((sakialaw13_live.f k).bind fun t209 => (some t209)) else (none)) else (none)) else (none))) else (if t203 = 0 then (if t204 = 0 then (if t205 = true then (none) else ((sakialaw13_live.f k).bind fun t210 => (some t210))) else (none)) else (none)))) = some r := H
    have A6 := Aside0.mk A60
    clear A60
    replace H := Option.bind_eq_some_iff.mp H
    obtain ⟨t206, A70, H⟩ := H
    replace H : (if t206 = true then ((sakiaref13_Race.f k l1).bind fun bt207 => (if (t205 == (decide (bt207.1 ≥ 0))) = true then (if t203 = (mx bt207.1 0) then (if t204 = (mx bt207.2 0) then ((sakialaw13_live.f k).bind fun t209 => (some t209)) else (none)) else (none)) else (none))) else (if t203 = 0 then (if t204 = 0 then (if t205 = true then (none) else ((sakialaw13_live.f k).bind fun t210 => (some t210))) else (none)) else (none))) = some r := H
    have A7 := Aside0.mk A70
    clear A70
    by_cases c8 : t206 = true
    · subst c8
      have H1 : ((sakiaref13_Race.f k l1).bind fun bt207 => (if (t205 == (decide (bt207.1 ≥ 0))) = true then (if t203 = (mx bt207.1 0) then (if t204 = (mx bt207.2 0) then ((sakialaw13_live.f k).bind fun t209 => (some t209)) else (none)) else (none)) else (none))) = some r := by rw [if_pos rfl] at H; exact H
      clear H
      have H := H1
      clear H1
      replace H := Option.bind_eq_some_iff.mp H
      obtain ⟨⟨t207, t208⟩, A90, H⟩ := H
      replace H : (if (t205 == (decide (t207 ≥ 0))) = true then (if t203 = (mx t207 0) then (if t204 = (mx t208 0) then ((sakialaw13_live.f k).bind fun t209 => (some t209)) else (none)) else (none)) else (none)) = some r := H
      have A9 := Aside0.mk A90
      clear A90
      by_cases c10 : (t205 == (decide (t207 ≥ 0))) = true
      rotate_left
      · rw [if_neg c10] at H
        exact absurd H (by simp)
      rw [if_pos c10] at H
      have c10b0 : (t205 == (decide (t207 ≥ 0))) = true := c10
      (try (have c10b1 : decide (t205 = (decide (t207 ≥ 0))) = true := by simpa using c10))
      (try (have c10b2 : (t205 == (decide (t207 ≥ 0))) = true := by simpa using c10))
      clear c10
      obtain ⟨ji11, hji11⟩ : ∃ j_ : Int, (mx t207 0) = j_ := ⟨_, rfl⟩
      replace H : (if t203 = (ji11) then (if t204 = (mx t208 0) then ((sakialaw13_live.f k).bind fun t209 => (some t209)) else (none)) else (none)) = some r := by first | (rw [hji11] at H; exact H) | (simp only [hji11] at H ⊢; exact H)
      (try rw [hji11] at A6)
      (try rw [hji11] at A7)
      (try rw [hji11] at A9)
      (try (have hji11l : 0 ≤ ji11 := by (rw [← hji11]; unfold mx; (repeat' split) <;> omega)))
      (try (have hji11m : 0 ≤ ji11 := by omega))
      have hji11_ : (if t207 < 0 then 0 else t207) = ji11 := hji11
      by_cases c12 : t203 = (ji11)
      rotate_left
      · rw [if_neg c12] at H
        exact absurd H (by simp)
      rw [if_pos c12] at H
      have c12b0 : (t203 == (ji11)) = true := beq_iff_eq.mpr c12
      have c12b1 : (t203 != (ji11)) = false := bne_eq_false_iff_eq.mpr c12
      clear c12
      obtain ⟨ji13, hji13⟩ : ∃ j_ : Int, (mx t208 0) = j_ := ⟨_, rfl⟩
      replace H : (if t204 = (ji13) then ((sakialaw13_live.f k).bind fun t209 => (some t209)) else (none)) = some r := by first | (rw [hji13] at H; exact H) | (simp only [hji13] at H ⊢; exact H)
      (try rw [hji13] at A6)
      (try rw [hji13] at A7)
      (try rw [hji13] at A9)
      (try (have hji13l : 0 ≤ ji13 := by (rw [← hji13]; unfold mx; (repeat' split) <;> omega)))
      (try (have hji13m : 0 ≤ ji13 := by omega))
      have hji13_ : (if t208 < 0 then 0 else t208) = ji13 := hji13
      by_cases c14 : t204 = (ji13)
      rotate_left
      · rw [if_neg c14] at H
        exact absurd H (by simp)
      rw [if_pos c14] at H
      have c14b0 : (t204 == (ji13)) = true := beq_iff_eq.mpr c14
      have c14b1 : (t204 != (ji13)) = false := bne_eq_false_iff_eq.mpr c14
      clear c14
      replace H := Option.bind_eq_some_iff.mp H
      obtain ⟨t209, A150, H⟩ := H
      replace H : (some t209) = some r := H
      have A15 := Aside0.mk A150
      clear A150
      obtain rfl := Option.some.inj H
      go_enter Try.func3, Try.ntmps3
      go_wp2_with (first | ((with_reducible refine gate_callee (f := 8) rfl ?_); refine goesL_ (some 17) rfl rfl Try.func8 (by kernel_rfl) rfl #[.int .i64 a0, .slice A1 l1.length c1] rfl (by (try simp only [List.map_toArray, List.map_cons, List.map_nil]); first | done | rfl | (simp only [List.length_drop, List.length_take]; rfl)) ?_; (with_reducible refine (order_Race.calls k a0 _ _ l1 t203 t204 t205 _ ?side1 ?side2 A6.out).mono ?_); (case side1 => repeat (first | exact HR1.out | (with_reducible refine Kd.C_alloc ?_ _) | (with_reducible refine Kd.C_drewN ?_ _) | (with_reducible refine Kd.C_drew ?_))); (case side2 => exact HC1.out); rintro e w16 ⟨rfl, hb⟩; refine ⟨_, rfl, ?_⟩; have n0_ := Aside0.mk (below_step (by repeat (first | (with_reducible first | exact HB.out | apply below_alloc | apply pw_below_drewN | apply below_drew1) | exact HB.out)) hb); clear HB; have HB := n0_; clear n0_; (try clear hb); (try clear hb2); (try clear hk); (try clear hi)) | ((with_reducible refine gate_callee (f := 9) rfl ?_); refine goesL_ (some 23) rfl rfl Try.func9 (by kernel_rfl) rfl #[.int .i64 a0, .slice A1 l1.length c1] rfl (by (try simp only [List.map_toArray, List.map_cons, List.map_nil]); first | done | rfl | (simp only [List.length_drop, List.length_take]; rfl)) ?_; (with_reducible refine (sakiaref13_Right.calls k a0 _ _ l1 true _ ?side1 ?side2 A7.out).mono ?_); (case side1 => repeat (first | exact (Kd.C_below HR1.out HB.out) | (with_reducible refine Kd.C_alloc ?_ _) | (with_reducible refine Kd.C_drewN ?_ _) | (with_reducible refine Kd.C_drew ?_))); (case side2 => exact HC1.out); rintro e w17 ⟨rfl, hb⟩; refine ⟨_, rfl, ?_⟩; have n0_ := Aside0.mk (below_step (by repeat (first | (with_reducible first | exact HB.out | apply below_alloc | apply pw_below_drewN | apply below_drew1) | exact HB.out)) hb); clear HB; have HB := n0_; clear n0_; (try clear hb); (try clear hb2); (try clear hk); (try clear hi)) | ((with_reducible refine gate_callee (f := 10) rfl ?_); refine goesL_ (some 40) rfl rfl Try.func10 (by kernel_rfl) rfl #[.slice A1 l1.length c1] rfl (by (try simp only [List.map_toArray, List.map_cons, List.map_nil]); first | done | rfl | (simp only [List.length_drop, List.length_take]; rfl)) ?_; (with_reducible refine (sakiaref13_Race.calls k _ _ l1 t207 t208 _ ?side1 ?side2 A9.out).mono ?_); (case side1 => repeat (first | exact (Kd.C_below HR1.out HB.out) | (with_reducible refine Kd.C_alloc ?_ _) | (with_reducible refine Kd.C_drewN ?_ _) | (with_reducible refine Kd.C_drew ?_))); (case side2 => exact HC1.out); rintro e w18 ⟨rfl, hb⟩; refine ⟨_, rfl, ?_⟩; have n0_ := Aside0.mk (below_step (by repeat (first | (with_reducible first | exact HB.out | apply below_alloc | apply pw_below_drewN | apply below_drew1) | exact HB.out)) hb); clear HB; have HB := n0_; clear n0_; (try clear hb); (try clear hb2); (try clear hk); (try clear hi)) | (go_at_call 7; (with_reducible refine (sakialaw13_live.calls k  t209 _ A15.out).mono ?_); rintro e w19 ⟨rfl, hb⟩; have n0_ := Aside0.mk (below_step (by repeat (first | (with_reducible first | exact HB.out | apply below_alloc | apply pw_below_drewN | apply below_drew1) | exact HB.out)) hb); clear HB; have HB := n0_; clear n0_; (try clear hb); (try clear hb2); (try clear hk); (try clear hi)))
      go_ret
      exact ⟨by first | rfl | (simp [errW_none, errW_some] <;> rfl) | (simp only [← hji11, ← hji13]; first | rfl | (simp [errW_none, errW_some] <;> rfl)) | (simp [*, errW_none, errW_some] <;> rfl), by repeat (first | (with_reducible first | exact HB.out | apply below_alloc | apply pw_below_drewN | apply below_drew1) | exact HB.out)⟩
    · replace c8 := Bool.eq_false_iff.mpr c8
      subst c8
      have H1 : (if t203 = 0 then (if t204 = 0 then (if t205 = true then (none) else ((sakialaw13_live.f k).bind fun t210 => (some t210))) else (none)) else (none)) = some r := by rw [if_neg (show ¬ (false = true) by decide)] at H; exact H
      clear H
      have H := H1
      clear H1
      by_cases c20 : t203 = 0
      rotate_left
      · rw [if_neg c20] at H
        exact absurd H (by simp)
      rw [if_pos c20] at H
      have c20b0 : (t203 == 0) = true := beq_iff_eq.mpr c20
      have c20b1 : (t203 != 0) = false := bne_eq_false_iff_eq.mpr c20
      clear c20
      by_cases c21 : t204 = 0
      rotate_left
      · rw [if_neg c21] at H
        exact absurd H (by simp)
      rw [if_pos c21] at H
      have c21b0 : (t204 == 0) = true := beq_iff_eq.mpr c21
      have c21b1 : (t204 != 0) = false := bne_eq_false_iff_eq.mpr c21
      clear c21
      by_cases c22 : t205 = true
      · subst c22
        have H1 : (none) = some r := by rw [if_pos rfl] at H; exact H
        clear H
        have H := H1
        clear H1
        exact absurd H (by simp)
      · replace c22 := Bool.eq_false_iff.mpr c22
        subst c22
        have H1 : ((sakialaw13_live.f k).bind fun t210 => (some t210)) = some r := by rw [if_neg (show ¬ (false = true) by decide)] at H; exact H
        clear H
        have H := H1
        clear H1
        replace H := Option.bind_eq_some_iff.mp H
        obtain ⟨t210, A230, H⟩ := H
        replace H : (some t210) = some r := H
        have A23 := Aside0.mk A230
        clear A230
        obtain rfl := Option.some.inj H
        go_enter Try.func3, Try.ntmps3
        go_wp2_with (first | ((with_reducible refine gate_callee (f := 8) rfl ?_); refine goesL_ (some 17) rfl rfl Try.func8 (by kernel_rfl) rfl #[.int .i64 a0, .slice A1 l1.length c1] rfl (by (try simp only [List.map_toArray, List.map_cons, List.map_nil]); first | done | rfl | (simp only [List.length_drop, List.length_take]; rfl)) ?_; (with_reducible refine (order_Race.calls k a0 _ _ l1 t203 t204 false _ ?side1 ?side2 A6.out).mono ?_); (case side1 => repeat (first | exact HR1.out | (with_reducible refine Kd.C_alloc ?_ _) | (with_reducible refine Kd.C_drewN ?_ _) | (with_reducible refine Kd.C_drew ?_))); (case side2 => exact HC1.out); rintro e w24 ⟨rfl, hb⟩; refine ⟨_, rfl, ?_⟩; have n0_ := Aside0.mk (below_step (by repeat (first | (with_reducible first | exact HB.out | apply below_alloc | apply pw_below_drewN | apply below_drew1) | exact HB.out)) hb); clear HB; have HB := n0_; clear n0_; (try clear hb); (try clear hb2); (try clear hk); (try clear hi)) | ((with_reducible refine gate_callee (f := 9) rfl ?_); refine goesL_ (some 23) rfl rfl Try.func9 (by kernel_rfl) rfl #[.int .i64 a0, .slice A1 l1.length c1] rfl (by (try simp only [List.map_toArray, List.map_cons, List.map_nil]); first | done | rfl | (simp only [List.length_drop, List.length_take]; rfl)) ?_; (with_reducible refine (sakiaref13_Right.calls k a0 _ _ l1 false _ ?side1 ?side2 A7.out).mono ?_); (case side1 => repeat (first | exact (Kd.C_below HR1.out HB.out) | (with_reducible refine Kd.C_alloc ?_ _) | (with_reducible refine Kd.C_drewN ?_ _) | (with_reducible refine Kd.C_drew ?_))); (case side2 => exact HC1.out); rintro e w25 ⟨rfl, hb⟩; refine ⟨_, rfl, ?_⟩; have n0_ := Aside0.mk (below_step (by repeat (first | (with_reducible first | exact HB.out | apply below_alloc | apply pw_below_drewN | apply below_drew1) | exact HB.out)) hb); clear HB; have HB := n0_; clear n0_; (try clear hb); (try clear hb2); (try clear hk); (try clear hi)) | (go_at_call 7; (with_reducible refine (sakialaw13_live.calls k  t210 _ A23.out).mono ?_); rintro e w26 ⟨rfl, hb⟩; have n0_ := Aside0.mk (below_step (by repeat (first | (with_reducible first | exact HB.out | apply below_alloc | apply pw_below_drewN | apply below_drew1) | exact HB.out)) hb); clear HB; have HB := n0_; clear n0_; (try clear hb); (try clear hb2); (try clear hk); (try clear hi)))
        go_ret
        exact ⟨by first | rfl | (simp [errW_none, errW_some] <;> rfl) | (simp [*, errW_none, errW_some] <;> rfl), by repeat (first | (with_reducible first | exact HB.out | apply below_alloc | apply pw_below_drewN | apply below_drew1) | exact HB.out)⟩

/-- THE ONE PURE STATEMENT of sakialaw13_OrderRaces: yours. -/
def sakialaw13_OrderRaces.Pure : Prop := ∀ (a0 : Int) (l1 : List (S33)), (Lit.int .i64 a0).wf = true → l1.length ≤ maxLen → l1.length * 40 ≤ 140737488351232 → (∀ x ∈ l1, (Lit.int .i64 x.f0).wf = true ∧ (Lit.int .i64 x.f1).wf = true ∧ (Lit.int .i64 x.f2).wf = true ∧ (Lit.int .u64 x.f3).wf = true ∧ (Lit.int .u64 x.f4).wf = true) → ∃ k, sakialaw13_OrderRaces.f k a0 l1 = some true
theorem sakialaw13_OrderRaces.walk (P : sakialaw13_OrderRaces.Pure) (a0 : Int) (a1 : Option Addr) (cap1 : Nat) (l1 : List S33) (w : World) (w0 : (Lit.int .i64 a0).wf = true) (hr1 : Kd.C k33 w a1 l1.length l1) (hc1 : l1.length ≤ cap1) (hm1 : l1.length ≤ maxLen) (y1 : l1.length * 40 ≤ 140737488351232) (hw1 : (∀ x ∈ l1, (Lit.int .i64 x.f0).wf = true ∧ (Lit.int .i64 x.f1).wf = true ∧ (Lit.int .i64 x.f2).wf = true ∧ (Lit.int .u64 x.f3).wf = true ∧ (Lit.int .u64 x.f4).wf = true)) :
    Calls Try.prog 3 #[.int .i64 a0, .slice a1 l1.length cap1] w fun e w' => e = .returned (.bool true) ∧ Below w.heap.size w w' := by
  obtain ⟨k, h⟩ := P a0 l1 w0 hm1 y1 hw1
  refine (sakialaw13_OrderRaces.calls k a0 _ _ l1 true w hr1 hc1 h).mono ?_
  rintro e w' ⟨rfl, hd⟩
  exact ⟨rfl, hd⟩

end Go.Proofs.Yteahmcfinijmdaa.QOrderRaces
