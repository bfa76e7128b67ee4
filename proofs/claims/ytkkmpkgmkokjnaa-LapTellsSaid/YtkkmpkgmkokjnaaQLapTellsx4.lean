-- Written for this claim by a program of this session.
import Derived.Test.YtkkmpkgmkokjnaaQLapTellsx0
import Derived.Test.YtkkmpkgmkokjnaaQLapTellsx1
import Derived.Test.YtkkmpkgmkokjnaaQLapTellsx2
import Derived.Test.YtkkmpkgmkokjnaaQLapTellsx3
namespace Go.Proofs.Ytkkmpkgmkokjnaa.QLapTells
open Go.RowKit Go.Proofs.YtkkmpkgmkokjnaaW.PrintWords Go.Proofs.YtkkmpkgmkokjnaaW.PrintLast Go.Proofs.YtkkmpkgmkokjnaaW.PrintMore
attribute [local go_sem] max2_int min2_int max_two min_two max_three min_three max_four min_four   -- for this text's walks alone
set_option linter.unusedVariables false
set_option linter.unusedSimpArgs false

/-! ### sakialaw02_great: function 29 -/
mutual
def sakialaw02_great.j0 : Nat → Int → Int → Int → Int → Bool → Option (Bool)
  | 0, _, _, _, _, _ => none
  | k + 1, x0, x1, x2, x3, x36 => if x36 = true then (some false) else ((lap_At_uint64.f k x0 x1 x3).bind fun t185 => ((lap_First_uint64.f x0 x1 x2).bind fun t186 => ((lap_Ahead_uint64.f k x0 x1 x2).bind fun t187 => (if x1 < 0 then (sakialaw02_great.j1 k x0 x1 x2 x3 t185 t186 t187 true) else (sakialaw02_great.j1 k x0 x1 x2 x3 t185 t186 t187 (decide (x1 ≥ x0)))))))
def sakialaw02_great.j1 : Nat → Int → Int → Int → Int → Int → Int → Int → Bool → Option (Bool)
  | 0, _, _, _, _, _, _, _, _ => none
  | k + 1, x0, x1, x2, x3, x9, x10, x11, x55 => if x55 = true then (if x9 = 0 then (if x10 = 0 then (some (x11 == 0)) else (some false)) else (some false)) else ((sakiaref02_At.f 64 x0 x1 x3).bind fun t188 => (if x9 = t188 then ((sakiaref02_First.f k 64 x0 x1 x2).bind fun t189 => (if x10 = t189 then ((sakiaref02_Ahead.f k 64 x0 x1 x2).bind fun t190 => (some (x11 == t190))) else (some false))) else (some false)))
end
def sakialaw02_great.f (k : Nat) (a0 : Int) (a1 : Int) (a2 : Int) (a3 : Int) : Option (Bool) := (lap_Slot_uint64.f a0 a2).bind fun t179 => ((sakiaref02_Slot.f a0 a2).bind fun t180 => (if t179 = t180 then ((lap_Round_uint64.f k a0 a2).bind fun t181 => ((sakiaref02_Round.f a0 a2).bind fun t182 => (if t181 = t182 then ((lap_Next_uint64.f a0 a2).bind fun t183 => ((sakiaref01_Plus.f 64 a2 a0).bind fun t184 => (sakialaw02_great.j0 k a0 a1 a2 a3 (t183 != t184)))) else (sakialaw02_great.j0 k a0 a1 a2 a3 true)))) else (sakialaw02_great.j0 k a0 a1 a2 a3 true)))
theorem sakialaw02_great.mono_l : ∀ k, (∀ y0 y1 y2 y3 y4, LeO (sakialaw02_great.j0 k y0 y1 y2 y3 y4) (sakialaw02_great.j0 (k + 1) y0 y1 y2 y3 y4)) ∧ (∀ y0 y1 y2 y3 y4 y5 y6 y7, LeO (sakialaw02_great.j1 k y0 y1 y2 y3 y4 y5 y6 y7) (sakialaw02_great.j1 (k + 1) y0 y1 y2 y3 y4 y5 y6 y7))
  | 0 => ⟨fun _ _ _ _ _ r h => by simp [sakialaw02_great.j0] at h, fun _ _ _ _ _ _ _ _ r h => by simp [sakialaw02_great.j1] at h⟩
  | k + 1 => by
    obtain ⟨ih0, ih1⟩ := sakialaw02_great.mono_l k
    refine ⟨?_, ?_⟩
    · intro y0 y1 y2 y3 y4
      unfold sakialaw02_great.j0
      repeat' first
      | (with_reducible exact ih0 _ _ _ _ _)
      | (with_reducible exact ih1 _ _ _ _ _ _ _ _)
      | (with_reducible exact lap_Ahead_uint64.mono _ _ _ _)
      | (with_reducible exact lap_At_uint64.mono _ _ _ _)
      | (with_reducible exact lap_Round_uint64.mono _ _ _)
      | (with_reducible exact sakiaref02_Ahead.mono _ _ _ _ _)
      | (with_reducible exact sakiaref02_First.mono _ _ _ _ _)
      | (with_reducible exact LeO.refl _)
      | (with_reducible exact LeO.none _)
      | (with_reducible refine LeO.ite ?_ ?_)
      | (with_reducible refine LeO.bind ?_ (fun _ => ?_))
      | exact ih0 _ _ _ _ _
      | exact ih1 _ _ _ _ _ _ _ _
      | exact lap_Ahead_uint64.mono _ _ _ _
      | exact lap_At_uint64.mono _ _ _ _
      | exact lap_Round_uint64.mono _ _ _
      | exact sakiaref02_Ahead.mono _ _ _ _ _
      | exact sakiaref02_First.mono _ _ _ _ _
      | exact LeO.none _
      | refine LeO.ite ?_ ?_
      | refine LeO.bind ?_ (fun _ => ?_)
    · intro y0 y1 y2 y3 y4 y5 y6 y7
      unfold sakialaw02_great.j1
      repeat' first
      | (with_reducible exact ih0 _ _ _ _ _)
      | (with_reducible exact ih1 _ _ _ _ _ _ _ _)
      | (with_reducible exact lap_Ahead_uint64.mono _ _ _ _)
      | (with_reducible exact lap_At_uint64.mono _ _ _ _)
      | (with_reducible exact lap_Round_uint64.mono _ _ _)
      | (with_reducible exact sakiaref02_Ahead.mono _ _ _ _ _)
      | (with_reducible exact sakiaref02_First.mono _ _ _ _ _)
      | (with_reducible exact LeO.refl _)
      | (with_reducible exact LeO.none _)
      | (with_reducible refine LeO.ite ?_ ?_)
      | (with_reducible refine LeO.bind ?_ (fun _ => ?_))
      | exact ih0 _ _ _ _ _
      | exact ih1 _ _ _ _ _ _ _ _
      | exact lap_Ahead_uint64.mono _ _ _ _
      | exact lap_At_uint64.mono _ _ _ _
      | exact lap_Round_uint64.mono _ _ _
      | exact sakiaref02_Ahead.mono _ _ _ _ _
      | exact sakiaref02_First.mono _ _ _ _ _
      | exact LeO.none _
      | refine LeO.ite ?_ ?_
      | refine LeO.bind ?_ (fun _ => ?_)
theorem sakialaw02_great.mono : ∀ a0 a1 a2 a3 k, LeO (sakialaw02_great.f k a0 a1 a2 a3) (sakialaw02_great.f (k + 1) a0 a1 a2 a3) := by
  intro a0 a1 a2 a3 k
  obtain ⟨ih0, ih1⟩ := sakialaw02_great.mono_l k
  unfold sakialaw02_great.f
  repeat' first
      | (with_reducible exact ih0 _ _ _ _ _)
      | (with_reducible exact ih1 _ _ _ _ _ _ _ _)
      | (with_reducible exact lap_Ahead_uint64.mono _ _ _ _)
      | (with_reducible exact lap_At_uint64.mono _ _ _ _)
      | (with_reducible exact lap_Round_uint64.mono _ _ _)
      | (with_reducible exact sakiaref02_Ahead.mono _ _ _ _ _)
      | (with_reducible exact sakiaref02_First.mono _ _ _ _ _)
      | (with_reducible exact LeO.refl _)
      | (with_reducible exact LeO.none _)
      | (with_reducible refine LeO.ite ?_ ?_)
      | (with_reducible refine LeO.bind ?_ (fun _ => ?_))
      | exact ih0 _ _ _ _ _
      | exact ih1 _ _ _ _ _ _ _ _
      | exact lap_Ahead_uint64.mono _ _ _ _
      | exact lap_At_uint64.mono _ _ _ _
      | exact lap_Round_uint64.mono _ _ _
      | exact sakiaref02_Ahead.mono _ _ _ _ _
      | exact sakiaref02_First.mono _ _ _ _ _
      | exact LeO.none _
      | refine LeO.ite ?_ ?_
      | refine LeO.bind ?_ (fun _ => ?_)
set_option maxHeartbeats 8000000 in
set_option maxRecDepth 100000 in
theorem sakialaw02_great.calls (k : Nat) (a0 : Int) (a1 : Int) (a2 : Int) (a3 : Int) (r : Bool) (w : World) (h : sakialaw02_great.f k a0 a1 a2 a3 = some r) :
    Calls Try.prog 29 #[.int .i64 a0, .int .i64 a1, .int .u64 a2, .int .u64 a3] w fun e w' => e = .returned (.bool r) ∧ Drawn0 w w' := by
  have H : ((lap_Slot_uint64.f a0 a2).bind fun t179 => ((sakiaref02_Slot.f a0 a2).bind fun t180 => (if t179 = t180 then ((lap_Round_uint64.f k a0 a2).bind fun t181 => ((sakiaref02_Round.f a0 a2).bind fun t182 => (if t181 = t182 then ((lap_Next_uint64.f a0 a2).bind fun t183 => ((sakiaref01_Plus.f 64 a2 a0).bind fun t184 => (sakialaw02_great.j0 k a0 a1 a2 a3 (t183 != t184)))) else (sakialaw02_great.j0 k a0 a1 a2 a3 true)))) else (sakialaw02_great.j0 k a0 a1 a2 a3 true)))) = some r := h
  clear h
  have HC5 := Aside0.mk H
  clear H
  go_enter Try.func29, Try.ntmps29
  go_upto_region 1 with (fail)
  go_cut [36] (fun v36 wc => ∃ (kq : Nat) (x36_4 : Bool), v36 = .bool x36_4 ∧ Aside0 (sakialaw02_great.j0 kq a0 a1 a2 a3 x36_4 = some r) ∧ Aside0 (kq ≤ k) ∧ Drawn0 w wc)
  case first =>
    have H := HC5.out
    clear HC5
    replace H := Option.bind_eq_some_iff.mp H
    obtain ⟨t179, A60, H⟩ := H
    replace H : ((sakiaref02_Slot.f a0 a2).bind fun t180 => (if t179 = t180 then ((lap_Round_uint64.f k a0 a2).bind fun t181 => ((sakiaref02_Round.f a0 a2).bind fun t182 => (if t181 = t182 then ((lap_Next_uint64.f a0 a2).bind fun t183 => ((sakiaref01_Plus.f 64 a2 a0).bind fun t184 => (sakialaw02_great.j0 k a0 a1 a2 a3 (t183 != t184)))) else (sakialaw02_great.j0 k a0 a1 a2 a3 true)))) else (sakialaw02_great.j0 k a0 a1 a2 a3 true))) = some r := H
    have A6 := Aside0.mk A60
    clear A60
    replace H := Option.bind_eq_some_iff.mp H
    obtain ⟨t180, A70, H⟩ := H
    replace H : (if t179 = t180 then ((lap_Round_uint64.f k a0 a2).bind fun t181 => ((sakiaref02_Round.f a0 a2).bind fun t182 => (if t181 = t182 then ((lap_Next_uint64.f a0 a2).bind fun t183 => ((sakiaref01_Plus.f 64 a2 a0).bind fun t184 => (sakialaw02_great.j0 k a0 a1 a2 a3 (t183 != t184)))) else (sakialaw02_great.j0 k a0 a1 a2 a3 true)))) else (sakialaw02_great.j0 k a0 a1 a2 a3 true)) = some r := H
    have A7 := Aside0.mk A70
    clear A70
    by_cases c8 : t179 = t180
    · rw [if_pos c8] at H
      have c8b0 : (t179 == t180) = true := beq_iff_eq.mpr c8
      have c8b1 : (t179 != t180) = false := bne_eq_false_iff_eq.mpr c8
      clear c8
      (first | rw [c8b0] | (simp only [i64_w, i32_w]; rw [c8b0]) | skip)
      replace H := Option.bind_eq_some_iff.mp H
      obtain ⟨t181, A90, H⟩ := H
      replace H : ((sakiaref02_Round.f a0 a2).bind fun t182 => (if t181 = t182 then ((lap_Next_uint64.f a0 a2).bind fun t183 => ((sakiaref01_Plus.f 64 a2 a0).bind fun t184 => (sakialaw02_great.j0 k a0 a1 a2 a3 (t183 != t184)))) else (sakialaw02_great.j0 k a0 a1 a2 a3 true))) = some r := H
      have A9 := Aside0.mk A90
      clear A90
      replace H := Option.bind_eq_some_iff.mp H
      obtain ⟨t182, A100, H⟩ := H
      replace H : (if t181 = t182 then ((lap_Next_uint64.f a0 a2).bind fun t183 => ((sakiaref01_Plus.f 64 a2 a0).bind fun t184 => (sakialaw02_great.j0 k a0 a1 a2 a3 (t183 != t184)))) else (sakialaw02_great.j0 k a0 a1 a2 a3 true)) = some r := H
      have A10 := Aside0.mk A100
      clear A100
      by_cases c11 : t181 = t182
      · rw [if_pos c11] at H
        have c11b0 : (t181 == t182) = true := beq_iff_eq.mpr c11
        have c11b1 : (t181 != t182) = false := bne_eq_false_iff_eq.mpr c11
        clear c11
        replace H := Option.bind_eq_some_iff.mp H
        obtain ⟨t183, A120, H⟩ := H
        replace H : ((sakiaref01_Plus.f 64 a2 a0).bind fun t184 => (sakialaw02_great.j0 k a0 a1 a2 a3 (t183 != t184))) = some r := H
        have A12 := Aside0.mk A120
        clear A120
        replace H := Option.bind_eq_some_iff.mp H
        obtain ⟨t184, A130, H⟩ := H
        replace H : (sakialaw02_great.j0 k a0 a1 a2 a3 (t183 != t184)) = some r := H
        have A13 := Aside0.mk A130
        clear A130
        have H' := Aside0.mk H
        clear H
        go_wp2_with (first | ((with_reducible refine gate_callee (f := 13) rfl ?_); refine goesL_ (some 14) rfl rfl Try.func13 (by kernel_rfl) rfl #[.int .i64 a0, .int .u64 a2] rfl (by (try simp only [List.map_toArray, List.map_cons, List.map_nil]); first | done | rfl | (simp only [List.length_drop, List.length_take]; rfl)) ?_; (with_reducible refine (lap_Slot_uint64.calls a0 a2 t179 _ A6.out).mono ?_); rintro e w' ⟨rfl, ⟨nd, rfl⟩⟩; refine ⟨_, rfl, ?_⟩) | ((with_reducible refine gate_callee (f := 20) rfl ?_); refine goesL_ (some 17) rfl rfl Try.func20 (by kernel_rfl) rfl #[.int .i64 a0, .int .u64 a2] rfl (by (try simp only [List.map_toArray, List.map_cons, List.map_nil]); first | done | rfl | (simp only [List.length_drop, List.length_take]; rfl)) ?_; (with_reducible refine (sakiaref02_Slot.calls a0 a2 t180 _ A7.out).mono ?_); rintro e w' ⟨rfl, ⟨nd, rfl⟩⟩; refine ⟨_, rfl, ?_⟩) | (go_at_call 17; (with_reducible refine (lap_Round_uint64.calls k a0 a2 t181 _ A9.out).mono ?_); rintro e w' ⟨rfl, ⟨nd, rfl⟩⟩) | (go_at_call 35; (with_reducible refine (sakiaref02_Round.calls a0 a2 t182 _ A10.out).mono ?_); rintro e w' ⟨rfl, ⟨nd, rfl⟩⟩) | (go_at_call 15; (with_reducible refine (lap_Next_uint64.calls a0 a2 t183 _ A12.out).mono ?_); rintro e w' ⟨rfl, ⟨nd, rfl⟩⟩) | (go_at_call 21; (with_reducible refine (sakiaref01_Plus.calls 64 a2 a0 t184 _ A13.out).mono ?_); rintro e w' ⟨rfl, ⟨nd, rfl⟩⟩))
        go_meet
        case rel => exact ⟨_, ((t183 != t184)), (by first | rfl | (simp; done) | (simp [*]; done)), H', ⟨by first | omega | exact Nat.le_refl _⟩, by repeat (first | exact Drawn0.refl _ | apply Drawn0.step)⟩
      · rw [if_neg c11] at H
        have c11b0 : (t181 == t182) = false := beq_eq_false_iff_ne.mpr c11
        have c11b1 : (t181 != t182) = true := bne_iff_ne.mpr c11
        have H' := Aside0.mk H
        clear H
        go_wp2_with (first | ((with_reducible refine gate_callee (f := 13) rfl ?_); refine goesL_ (some 14) rfl rfl Try.func13 (by kernel_rfl) rfl #[.int .i64 a0, .int .u64 a2] rfl (by (try simp only [List.map_toArray, List.map_cons, List.map_nil]); first | done | rfl | (simp only [List.length_drop, List.length_take]; rfl)) ?_; (with_reducible refine (lap_Slot_uint64.calls a0 a2 t179 _ A6.out).mono ?_); rintro e w' ⟨rfl, ⟨nd, rfl⟩⟩; refine ⟨_, rfl, ?_⟩) | ((with_reducible refine gate_callee (f := 20) rfl ?_); refine goesL_ (some 17) rfl rfl Try.func20 (by kernel_rfl) rfl #[.int .i64 a0, .int .u64 a2] rfl (by (try simp only [List.map_toArray, List.map_cons, List.map_nil]); first | done | rfl | (simp only [List.length_drop, List.length_take]; rfl)) ?_; (with_reducible refine (sakiaref02_Slot.calls a0 a2 t180 _ A7.out).mono ?_); rintro e w' ⟨rfl, ⟨nd, rfl⟩⟩; refine ⟨_, rfl, ?_⟩) | (go_at_call 17; (with_reducible refine (lap_Round_uint64.calls k a0 a2 t181 _ A9.out).mono ?_); rintro e w' ⟨rfl, ⟨nd, rfl⟩⟩) | (go_at_call 35; (with_reducible refine (sakiaref02_Round.calls a0 a2 t182 _ A10.out).mono ?_); rintro e w' ⟨rfl, ⟨nd, rfl⟩⟩))
        go_meet
        case rel => exact ⟨_, (true), (by first | rfl | (simp; done) | (simp [*]; done)), H', ⟨by first | omega | exact Nat.le_refl _⟩, by repeat (first | exact Drawn0.refl _ | apply Drawn0.step)⟩
    · rw [if_neg c8] at H
      have c8b0 : (t179 == t180) = false := beq_eq_false_iff_ne.mpr c8
      have c8b1 : (t179 != t180) = true := bne_iff_ne.mpr c8
      (first | rw [c8b0] | (simp only [i64_w, i32_w]; rw [c8b0]) | skip)
      have H' := Aside0.mk H
      clear H
      go_wp2_with (first | ((with_reducible refine gate_callee (f := 13) rfl ?_); refine goesL_ (some 14) rfl rfl Try.func13 (by kernel_rfl) rfl #[.int .i64 a0, .int .u64 a2] rfl (by (try simp only [List.map_toArray, List.map_cons, List.map_nil]); first | done | rfl | (simp only [List.length_drop, List.length_take]; rfl)) ?_; (with_reducible refine (lap_Slot_uint64.calls a0 a2 t179 _ A6.out).mono ?_); rintro e w' ⟨rfl, ⟨nd, rfl⟩⟩; refine ⟨_, rfl, ?_⟩) | ((with_reducible refine gate_callee (f := 20) rfl ?_); refine goesL_ (some 17) rfl rfl Try.func20 (by kernel_rfl) rfl #[.int .i64 a0, .int .u64 a2] rfl (by (try simp only [List.map_toArray, List.map_cons, List.map_nil]); first | done | rfl | (simp only [List.length_drop, List.length_take]; rfl)) ?_; (with_reducible refine (sakiaref02_Slot.calls a0 a2 t180 _ A7.out).mono ?_); rintro e w' ⟨rfl, ⟨nd, rfl⟩⟩; refine ⟨_, rfl, ?_⟩))
      go_meet
      case rel => exact ⟨_, (true), (by first | rfl | (simp; done) | (simp [*]; done)), H', ⟨by first | omega | exact Nat.le_refl _⟩, by repeat (first | exact Drawn0.refl _ | apply Drawn0.step)⟩
  case rest =>
    clear HC5
    try clear c1
    try clear c2
    try clear p2
    try clear c8
    try clear c8b0
    try clear c8b1
    try clear c11
    try clear c11b0
    try clear c11b1
    try clear c13
    obtain ⟨kq, x36_4, rfl, HA, HJ4, ⟨mc4, rfl⟩⟩ := hcut
    cases kq with
    | zero => exact absurd HA.out (by simp [sakialaw02_great.j0])
    | succ kj4 =>
      have H := HA.out
      clear HA
      simp only [sakialaw02_great.j0] at H
      by_cases c14 : x36_4 = true
      · subst c14
        have H1 : (some false) = some r := by rw [if_pos rfl] at H; exact H
        clear H
        have H := H1
        clear H1
        obtain rfl := Option.some.inj H
        go_wp2
        go_ret
        exact ⟨by first | rfl | (simp; done) | (simp [*]; done), by repeat (first | exact Drawn0.refl _ | apply Drawn0.step)⟩
      · replace c14 := Bool.eq_false_iff.mpr c14
        subst c14
        have H1 : ((lap_At_uint64.f kj4 a0 a1 a3).bind fun t185 => ((lap_First_uint64.f a0 a1 a2).bind fun t186 => ((lap_Ahead_uint64.f kj4 a0 a1 a2).bind fun t187 => (if a1 < 0 then (sakialaw02_great.j1 kj4 a0 a1 a2 a3 t185 t186 t187 true) else (sakialaw02_great.j1 kj4 a0 a1 a2 a3 t185 t186 t187 (decide (a1 ≥ a0))))))) = some r := by rw [if_neg (show ¬ (false = true) by decide)] at H; exact H
        clear H
        have H := H1
        clear H1
        replace H := Option.bind_eq_some_iff.mp H
        obtain ⟨t185, A150, H⟩ := H
        replace H : ((lap_First_uint64.f a0 a1 a2).bind fun t186 => ((lap_Ahead_uint64.f kj4 a0 a1 a2).bind fun t187 => (if a1 < 0 then (sakialaw02_great.j1 kj4 a0 a1 a2 a3 t185 t186 t187 true) else (sakialaw02_great.j1 kj4 a0 a1 a2 a3 t185 t186 t187 (decide (a1 ≥ a0)))))) = some r := H
        have A15 := Aside0.mk A150
        clear A150
        replace H := Option.bind_eq_some_iff.mp H
        obtain ⟨t186, A160, H⟩ := H
        replace H : ((lap_Ahead_uint64.f kj4 a0 a1 a2).bind fun t187 => (if a1 < 0 then (sakialaw02_great.j1 kj4 a0 a1 a2 a3 t185 t186 t187 true) else (sakialaw02_great.j1 kj4 a0 a1 a2 a3 t185 t186 t187 (decide (a1 ≥ a0))))) = some r := H
        have A16 := Aside0.mk A160
        clear A160
        replace H := Option.bind_eq_some_iff.mp H
        obtain ⟨t187, A170, H⟩ := H
        replace H : (if a1 < 0 then (sakialaw02_great.j1 kj4 a0 a1 a2 a3 t185 t186 t187 true) else (sakialaw02_great.j1 kj4 a0 a1 a2 a3 t185 t186 t187 (decide (a1 ≥ a0)))) = some r := H
        have A17 := Aside0.mk A170
        clear A170
        have HC18 := Aside0.mk H
        clear H
        go_upto_region 4 with (first | ((with_reducible refine gate_callee (f := 23) rfl ?_); refine goesL_ (some 40) rfl rfl Try.func23 (by kernel_rfl) rfl #[.int .i64 a0, .int .i64 a1, .int .u64 a3] rfl (by (try simp only [List.map_toArray, List.map_cons, List.map_nil]); first | done | rfl | (simp only [List.length_drop, List.length_take]; rfl)) ?_; (with_reducible refine (lap_At_uint64.calls kj4 a0 a1 a3 t185 _ A15.out).mono ?_); rintro e w' ⟨rfl, ⟨nd, rfl⟩⟩; refine ⟨_, rfl, ?_⟩) | ((with_reducible refine gate_callee (f := 39) rfl ?_); refine goesL_ (some 44) rfl rfl Try.func39 (by kernel_rfl) rfl #[.int .i64 a0, .int .i64 a1, .int .u64 a2] rfl (by (try simp only [List.map_toArray, List.map_cons, List.map_nil]); first | done | rfl | (simp only [List.length_drop, List.length_take]; rfl)) ?_; (with_reducible refine (lap_First_uint64.calls a0 a1 a2 t186 _ A16.out).mono ?_); rintro e w' ⟨rfl, ⟨nd, rfl⟩⟩; refine ⟨_, rfl, ?_⟩) | ((with_reducible refine gate_callee (f := 40) rfl ?_); refine goesL_ (some 48) rfl rfl Try.func40 (by kernel_rfl) rfl #[.int .i64 a0, .int .i64 a1, .int .u64 a2] rfl (by (try simp only [List.map_toArray, List.map_cons, List.map_nil]); first | done | rfl | (simp only [List.length_drop, List.length_take]; rfl)) ?_; (with_reducible refine (lap_Ahead_uint64.calls kj4 a0 a1 a2 t187 _ A17.out).mono ?_); rintro e w' ⟨rfl, ⟨nd, rfl⟩⟩; refine ⟨_, rfl, ?_⟩))
        (try simp only [Act.put, List.setIfInBounds_toArray, List.set_cons_zero, List.set_cons_succ])
        go_cut [55] (fun v55 wc => ∃ (kq : Nat) (x55_17 : Bool), v55 = .bool x55_17 ∧ Aside0 (sakialaw02_great.j1 kq a0 a1 a2 a3 t185 t186 t187 x55_17 = some r) ∧ Aside0 (kq ≤ kj4) ∧ Drawn0 w wc)
        case first =>
          have H := HC18.out
          clear HC18
          by_cases c19 : a1 < 0
          · rw [if_pos c19] at H
            have c19b0 : decide (a1 < 0) = true := decide_eq_true c19
            clear c19
            (first | rw [c19b0] | (simp only [i64_w, i32_w]; rw [c19b0]) | skip)
            have H' := Aside0.mk H
            clear H
            go_wp2
            go_meet
            case rel => exact ⟨_, (true), (by first | rfl | (simp; done) | (simp [*]; done)), H', ⟨by have := HJ4.out; first | omega | exact Nat.le_refl _⟩, by repeat (first | exact Drawn0.refl _ | apply Drawn0.step)⟩
          · rw [if_neg c19] at H
            have c19b0 : decide (a1 < 0) = false := decide_eq_false c19
            clear c19
            (first | rw [c19b0] | (simp only [i64_w, i32_w]; rw [c19b0]) | skip)
            have H' := Aside0.mk H
            clear H
            go_wp2
            go_meet
            case rel => exact ⟨_, (decide (a1 ≥ a0)), (by first | rfl | (simp; done) | (simp [*]; done)), H', ⟨by have := HJ4.out; first | omega | exact Nat.le_refl _⟩, by repeat (first | exact Drawn0.refl _ | apply Drawn0.step)⟩
        case rest =>
          clear HC18
          try clear c1
          try clear c2
          try clear p2
          try clear c3
          try clear c4
          try clear c8
          try clear c8b0
          try clear c8b1
          try clear c11
          try clear c11b0
          try clear c11b1
          try clear c13
          try clear c14
          try clear c19
          try clear c19b0
          try clear p2
          obtain ⟨kq, x55_17, rfl, HA, HJ17, ⟨mc17, rfl⟩⟩ := hcut
          cases kq with
          | zero => exact absurd HA.out (by simp [sakialaw02_great.j1])
          | succ kj17 =>
            have H := HA.out
            clear HA
            simp only [sakialaw02_great.j1] at H
            by_cases c20 : x55_17 = true
            · subst c20
              have H1 : (if t185 = 0 then (if t186 = 0 then (some (t187 == 0)) else (some false)) else (some false)) = some r := by rw [if_pos rfl] at H; exact H
              clear H
              have H := H1
              clear H1
              by_cases c21 : t185 = 0
              · rw [if_pos c21] at H
                have c21b0 : (t185 == 0) = true := beq_iff_eq.mpr c21
                have c21b1 : (t185 != 0) = false := bne_eq_false_iff_eq.mpr c21
                clear c21
                by_cases c22 : t186 = 0
                · rw [if_pos c22] at H
                  have c22b0 : (t186 == 0) = true := beq_iff_eq.mpr c22
                  have c22b1 : (t186 != 0) = false := bne_eq_false_iff_eq.mpr c22
                  clear c22
                  obtain rfl := Option.some.inj H
                  go_wp2
                  go_ret
                  exact ⟨by first | rfl | (simp; done) | (simp [*]; done), by repeat (first | exact Drawn0.refl _ | apply Drawn0.step)⟩
                · rw [if_neg c22] at H
                  have c22b0 : (t186 == 0) = false := beq_eq_false_iff_ne.mpr c22
                  have c22b1 : (t186 != 0) = true := bne_iff_ne.mpr c22
                  obtain rfl := Option.some.inj H
                  go_wp2
                  go_ret
                  exact ⟨by first | rfl | (simp; done) | (simp [*]; done), by repeat (first | exact Drawn0.refl _ | apply Drawn0.step)⟩
              · rw [if_neg c21] at H
                have c21b0 : (t185 == 0) = false := beq_eq_false_iff_ne.mpr c21
                have c21b1 : (t185 != 0) = true := bne_iff_ne.mpr c21
                obtain rfl := Option.some.inj H
                go_wp2
                go_ret
                exact ⟨by first | rfl | (simp; done) | (simp [*]; done), by repeat (first | exact Drawn0.refl _ | apply Drawn0.step)⟩
            · replace c20 := Bool.eq_false_iff.mpr c20
              subst c20
              have H1 : ((sakiaref02_At.f 64 a0 a1 a3).bind fun t188 => (if t185 = t188 then ((sakiaref02_First.f kj17 64 a0 a1 a2).bind fun t189 => (if t186 = t189 then ((sakiaref02_Ahead.f kj17 64 a0 a1 a2).bind fun t190 => (some (t187 == t190))) else (some false))) else (some false))) = some r := by rw [if_neg (show ¬ (false = true) by decide)] at H; exact H
              clear H
              have H := H1
              clear H1
              replace H := Option.bind_eq_some_iff.mp H
              obtain ⟨t188, A230, H⟩ := H
              replace H : (if t185 = t188 then ((sakiaref02_First.f kj17 64 a0 a1 a2).bind fun t189 => (if t186 = t189 then ((sakiaref02_Ahead.f kj17 64 a0 a1 a2).bind fun t190 => (some (t187 == t190))) else (some false))) else (some false)) = some r := H
              have A23 := Aside0.mk A230
              clear A230
              by_cases c24 : t185 = t188
              · rw [if_pos c24] at H
                have c24b0 : (t185 == t188) = true := beq_iff_eq.mpr c24
                have c24b1 : (t185 != t188) = false := bne_eq_false_iff_eq.mpr c24
                clear c24
                replace H := Option.bind_eq_some_iff.mp H
                obtain ⟨t189, A250, H⟩ := H
                replace H : (if t186 = t189 then ((sakiaref02_Ahead.f kj17 64 a0 a1 a2).bind fun t190 => (some (t187 == t190))) else (some false)) = some r := H
                have A25 := Aside0.mk A250
                clear A250
                by_cases c26 : t186 = t189
                · rw [if_pos c26] at H
                  have c26b0 : (t186 == t189) = true := beq_iff_eq.mpr c26
                  have c26b1 : (t186 != t189) = false := bne_eq_false_iff_eq.mpr c26
                  clear c26
                  replace H := Option.bind_eq_some_iff.mp H
                  obtain ⟨t190, A270, H⟩ := H
                  replace H : (some (t187 == t190)) = some r := H
                  have A27 := Aside0.mk A270
                  clear A270
                  obtain rfl := Option.some.inj H
                  go_wp2_with (first | ((with_reducible refine gate_callee (f := 36) rfl ?_); refine goesL_ (some 70) rfl rfl Try.func36 (by kernel_rfl) rfl #[.int .i64 64, .int .i64 a0, .int .i64 a1, .int .u64 a3] rfl (by (try simp only [List.map_toArray, List.map_cons, List.map_nil]); first | done | rfl | (simp only [List.length_drop, List.length_take]; rfl)) ?_; (with_reducible refine (sakiaref02_At.calls 64 a0 a1 a3 t188 _ A23.out).mono ?_); rintro e w' ⟨rfl, ⟨nd, rfl⟩⟩; refine ⟨_, rfl, ?_⟩) | (go_at_call 37; (with_reducible refine (sakiaref02_First.calls kj17 64 a0 a1 a2 t189 _ A25.out).mono ?_); rintro e w' ⟨rfl, ⟨nd, rfl⟩⟩) | (go_at_call 38; (with_reducible refine (sakiaref02_Ahead.calls kj17 64 a0 a1 a2 t190 _ A27.out).mono ?_); rintro e w' ⟨rfl, ⟨nd, rfl⟩⟩))
                  go_ret
                  exact ⟨by first | rfl | (simp; done) | (simp [*]; done), by repeat (first | exact Drawn0.refl _ | apply Drawn0.step)⟩
                · rw [if_neg c26] at H
                  have c26b0 : (t186 == t189) = false := beq_eq_false_iff_ne.mpr c26
                  have c26b1 : (t186 != t189) = true := bne_iff_ne.mpr c26
                  obtain rfl := Option.some.inj H
                  go_wp2_with (first | ((with_reducible refine gate_callee (f := 36) rfl ?_); refine goesL_ (some 70) rfl rfl Try.func36 (by kernel_rfl) rfl #[.int .i64 64, .int .i64 a0, .int .i64 a1, .int .u64 a3] rfl (by (try simp only [List.map_toArray, List.map_cons, List.map_nil]); first | done | rfl | (simp only [List.length_drop, List.length_take]; rfl)) ?_; (with_reducible refine (sakiaref02_At.calls 64 a0 a1 a3 t188 _ A23.out).mono ?_); rintro e w' ⟨rfl, ⟨nd, rfl⟩⟩; refine ⟨_, rfl, ?_⟩) | (go_at_call 37; (with_reducible refine (sakiaref02_First.calls kj17 64 a0 a1 a2 t189 _ A25.out).mono ?_); rintro e w' ⟨rfl, ⟨nd, rfl⟩⟩))
                  go_ret
                  exact ⟨by first | rfl | (simp; done) | (simp [*]; done), by repeat (first | exact Drawn0.refl _ | apply Drawn0.step)⟩
              · rw [if_neg c24] at H
                have c24b0 : (t185 == t188) = false := beq_eq_false_iff_ne.mpr c24
                have c24b1 : (t185 != t188) = true := bne_iff_ne.mpr c24
                obtain rfl := Option.some.inj H
                go_wp2_with (first | ((with_reducible refine gate_callee (f := 36) rfl ?_); refine goesL_ (some 70) rfl rfl Try.func36 (by kernel_rfl) rfl #[.int .i64 64, .int .i64 a0, .int .i64 a1, .int .u64 a3] rfl (by (try simp only [List.map_toArray, List.map_cons, List.map_nil]); first | done | rfl | (simp only [List.length_drop, List.length_take]; rfl)) ?_; (with_reducible refine (sakiaref02_At.calls 64 a0 a1 a3 t188 _ A23.out).mono ?_); rintro e w' ⟨rfl, ⟨nd, rfl⟩⟩; refine ⟨_, rfl, ?_⟩))
                go_ret
                exact ⟨by first | rfl | (simp; done) | (simp [*]; done), by repeat (first | exact Drawn0.refl _ | apply Drawn0.step)⟩

/-! ### sakialaw02_LapTells: function 6 -/
def sakialaw02_LapTells.f (k : Nat) (a0 : Int) (a1 : Int) (a2_0 : Int) (a2_1 : Int) : Option (Bool) := (lap_Right.f a0).bind fun t192 => ((sakiaref02_Right.f k a0).bind fun t193 => (if (t192 != t193) = true then (none) else ((sakiaref02_Right.f k a0).bind fun t194 => (if t194 = true then (if a0 > 4096 then ((lap_Log.f k a0).bind fun t197 => ((sakiaref02_Log.f k a0).bind fun t198 => (if t197 = t198 then ((sakialaw02_live.f k).bind fun t199 => (some t199)) else (none)))) else ((lap_Log.f k a0).bind fun t200 => ((sakiaref02_Log.f k a0).bind fun t201 => (if t200 = t201 then ((sakialaw02_small.f k a0 a1 a2_0 a2_1).bind fun t202 => (if t202 = true then ((sakialaw02_great.f k a0 a1 a2_0 a2_1).bind fun t203 => (if t203 = true then ((sakialaw02_live.f k).bind fun t204 => (some t204)) else (none))) else (none))) else (none))))) else ((sakialaw02_none.f k a0 a1 a2_0 a2_1).bind fun t195 => (if t195 = true then ((sakialaw02_live.f k).bind fun t196 => (some t196)) else (none)))))))
theorem sakialaw02_LapTells.mono : ∀ a0 a1 a2 a3 k, LeO (sakialaw02_LapTells.f k a0 a1 a2 a3) (sakialaw02_LapTells.f (k + 1) a0 a1 a2 a3) := by
  intro a0 a1 a2 a3 k
  unfold sakialaw02_LapTells.f
  repeat' first
      | (with_reducible exact lap_Log.mono _ _)
      | (with_reducible exact sakialaw02_great.mono _ _ _ _ _)
      | (with_reducible exact sakialaw02_live.mono _)
      | (with_reducible exact sakialaw02_none.mono _ _ _ _ _)
      | (with_reducible exact sakialaw02_small.mono _ _ _ _ _)
      | (with_reducible exact sakiaref02_Log.mono _ _)
      | (with_reducible exact sakiaref02_Right.mono _ _)
      | (with_reducible exact LeO.refl _)
      | (with_reducible exact LeO.none _)
      | (with_reducible refine LeO.ite ?_ ?_)
      | (with_reducible refine LeO.bind ?_ (fun _ => ?_))
      | exact lap_Log.mono _ _
      | exact sakialaw02_great.mono _ _ _ _ _
      | exact sakialaw02_live.mono _
      | exact sakialaw02_none.mono _ _ _ _ _
      | exact sakialaw02_small.mono _ _ _ _ _
      | exact sakiaref02_Log.mono _ _
      | exact sakiaref02_Right.mono _ _
      | exact LeO.none _
      | refine LeO.ite ?_ ?_
      | refine LeO.bind ?_ (fun _ => ?_)
set_option maxHeartbeats 8000000 in
set_option maxRecDepth 100000 in
theorem sakialaw02_LapTells.calls (k : Nat) (a0 : Int) (a1 : Int) (a2_0 : Int) (a2_1 : Int) (r : Bool) (w : World) (h : sakialaw02_LapTells.f k a0 a1 a2_0 a2_1 = some r) :
    Calls Try.prog 6 #[.int .i64 a0, .int .i64 a1, .agg #[.int .u64 a2_0, .int .u64 a2_1]] w fun e w' => e = .returned (.bool r) ∧ Below w.heap.size w w' := by
  have hu42 := Try.underlying42
  have HB := Aside0.mk (Below.refl w.heap.size w)
  have H : ((lap_Right.f a0).bind fun t192 => ((sakiaref02_Right.f k a0).bind fun t193 => (if (t192 != t193) = true then (none) else ((sakiaref02_Right.f k a0).bind fun t194 => (if t194 = true then (if a0 > 4096 then ((lap_Log.f k a0).bind fun t197 => ((sakiaref02_Log.f k a0).bind fun t198 => (if t197 = t198 then ((sakialaw02_live.f k).bind fun t199 => (some t199)) else (none)))) else ((lap_Log.f k a0).bind fun t200 => ((sakiaref02_Log.f k a0).bind fun t201 => (if t200 = t201 then ((sakialaw02_small.f k a0 a1 a2_0 a2_1).bind fun t202 => (if t202 = true then ((sakialaw02_great.f k a0 a1 a2_0 a2_1).bind fun t203 => (if t203 = true then ((sakialaw02_live.f k).bind fun t204 => (some t204)) else (none))) else (none))) else (none))))) else ((sakialaw02_none.f k a0 a1 a2_0 a2_1).bind fun t195 => (if t195 = true then ((sakialaw02_live.f k).bind fun t196 => (some t196)) else (none)))))))) = some r := h
  clear h
  replace H := Option.bind_eq_some_iff.mp H
  obtain ⟨t192, A40, H⟩ := H
  replace H : ((sakiaref02_Right.f k a0).bind fun t193 => (if (t192 != t193) = true then (none) else ((sakiaref02_Right.f k a0).bind fun t194 => (if t194 = true then (if a0 > 4096 then ((lap_Log.f k a0).bind fun t197 => ((sakiaref02_Log.f k a0).bind fun t198 => (if t197 = t198 then ((sakialaw02_live.f k).bind fun t199 => (some t199)) else (none)))) else ((lap_Log.f k a0).bind fun t200 => ((sakiaref02_Log.f k a0).bind fun t201 => (if t200 = t201 then ((sakialaw02_small.f k a0 a1 a2_0 a2_1).bind fun t202 => (if t202 = true then ((sakialaw02_great.f k a0 a1 a2_0 a2_1).bind fun t203 => (if t203 = true then ((sakialaw02_live.f k).bind fun t204 => (some t204)) else (none))) else (none))) else (none))))) else ((sakialaw02_none.f k a0 a1 a2_0 a2_1).bind fun t195 => (if t195 = true then ((sakialaw02_live.f k).bind fun t196 => (some t196)) else (none))))))) = some r := H
  have A4 := Aside0.mk A40
  clear A40
  replace H := Option.bind_eq_some_iff.mp H
  obtain ⟨t193, A50, H⟩ := H
  replace H : (if (t192 != t193) = true then (none) else ((sakiaref02_Right.f k a0).bind fun t194 => (if t194 = true then (if a0 > 4096 then ((lap_Log.f k a0).bind fun t197 => ((sakiaref02_Log.f k a0).bind fun t198 => (if t197 = t198 then ((sakialaw02_live.f k).bind fun t199 => (some t199)) else (none)))) else ((lap_Log.f k a0).bind fun t200 => ((sakiaref02_Log.f k a0).bind fun t201 => (if t200 = t201 then ((sakialaw02_small.f k a0 a1 a2_0 a2_1).bind fun t202 => (if t202 = true then ((sakialaw02_great.f k a0 a1 a2_0 a2_1).bind fun t203 => (if t203 = true then ((sakialaw02_live.f k).bind fun t204 => (some t204)) else (none))) else (none))) else (none))))) else ((sakialaw02_none.f k a0 a1 a2_0 a2_1).bind fun t195 => (if t195 = true then ((sakialaw02_live.f k).bind fun t196 => (some t196)) else (none)))))) = some r := H
  have A5 := Aside0.mk A50
  clear A50
  by_cases c6 : (t192 != t193) = true
  · rw [if_pos c6] at H
    exact absurd H (by simp)
  rw [if_neg c6] at H
  have c6b0 : (t192 != t193) = false := by simpa using c6
  (try (have c6b1 : decide (t192 = t193) = true := by simpa using c6))
  (try (have c6b2 : (t192 == t193) = true := by simpa using c6))
  clear c6
  replace H := Option.bind_eq_some_iff.mp H
  obtain ⟨t194, A70, H⟩ := H
  replace H : (if t194 = true then (if a0 > 4096 then ((lap_Log.f k a0).bind fun t197 => ((sakiaref02_Log.f k a0).bind fun t198 => (if t197 = t198 then ((sakialaw02_live.f k).bind fun t199 => (some t199)) else (none)))) else ((lap_Log.f k a0).bind fun t200 => ((sakiaref02_Log.f k a0).bind fun t201 => (if t200 = t201 then ((sakialaw02_small.f k a0 a1 a2_0 a2_1).bind fun t202 => (if t202 = true then ((sakialaw02_great.f k a0 a1 a2_0 a2_1).bind fun t203 => (if t203 = true then ((sakialaw02_live.f k).bind fun t204 => (some t204)) else (none))) else (none))) else (none))))) else ((sakialaw02_none.f k a0 a1 a2_0 a2_1).bind fun t195 => (if t195 = true then ((sakialaw02_live.f k).bind fun t196 => (some t196)) else (none)))) = some r := H
  have A7 := Aside0.mk A70
  clear A70
  by_cases c8 : t194 = true
  · subst c8
    have H1 : (if a0 > 4096 then ((lap_Log.f k a0).bind fun t197 => ((sakiaref02_Log.f k a0).bind fun t198 => (if t197 = t198 then ((sakialaw02_live.f k).bind fun t199 => (some t199)) else (none)))) else ((lap_Log.f k a0).bind fun t200 => ((sakiaref02_Log.f k a0).bind fun t201 => (if t200 = t201 then ((sakialaw02_small.f k a0 a1 a2_0 a2_1).bind fun t202 => (if t202 = true then ((sakialaw02_great.f k a0 a1 a2_0 a2_1).bind fun t203 => (if t203 = true then ((sakialaw02_live.f k).bind fun t204 => (some t204)) else (none))) else (none))) else (none))))) = some r := by rw [if_pos rfl] at H; exact H
    clear H
    have H := H1
    clear H1
    by_cases c9 : a0 > 4096
    · rw [if_pos c9] at H
      have c9b0 : decide (4096 < a0) = true := decide_eq_true c9
      clear c9
      replace H := Option.bind_eq_some_iff.mp H
      obtain ⟨t197, A100, H⟩ := H
      replace H : ((sakiaref02_Log.f k a0).bind fun t198 => (if t197 = t198 then ((sakialaw02_live.f k).bind fun t199 => (some t199)) else (none))) = some r := H
      have A10 := Aside0.mk A100
      clear A100
      replace H := Option.bind_eq_some_iff.mp H
      obtain ⟨t198, A110, H⟩ := H
      replace H : (if t197 = t198 then ((sakialaw02_live.f k).bind fun t199 => (some t199)) else (none)) = some r := H
      have A11 := Aside0.mk A110
      clear A110
      by_cases c12 : t197 = t198
      rotate_left
      · rw [if_neg c12] at H
        exact absurd H (by simp)
      rw [if_pos c12] at H
      have c12b0 : (t197 == t198) = true := beq_iff_eq.mpr c12
      have c12b1 : (t197 != t198) = false := bne_eq_false_iff_eq.mpr c12
      clear c12
      replace H := Option.bind_eq_some_iff.mp H
      obtain ⟨t199, A130, H⟩ := H
      replace H : (some t199) = some r := H
      have A13 := Aside0.mk A130
      clear A130
      obtain rfl := Option.some.inj H
      go_enter Try.func6, Try.ntmps6
      go_wp2_with (first | ((with_reducible refine gate_dst (N := 5) rfl ?_); refine box_event ?hg (N := 5) ?hd (cs := #[.int .u64 a2_0, .int .u64 a2_1]) (t := 42) ?hr ?_; (case hd => rfl); (case hg => rfl); (case hr => first | (go_simp; done) | (go_simp; rfl)); intro gb191 hg w14 hbox hb; have n0_ := Aside0.mk (below_step (by repeat (first | (with_reducible first | exact HB.out | apply below_alloc | apply pw_below_drewN | apply below_drew1) | exact HB.out)) hb); have n1_ := Aside0.mk (hbox); have n2_ := Aside0.mk ((by rw [hg]; exact (below_size (by repeat (first | (with_reducible first | exact HB.out | apply below_alloc | apply pw_below_drewN | apply below_drew1) | exact HB.out))) : w.heap.size ≤ gb191)); have n3_ := Aside0.mk ((by rw [hg]; exact (below_size (by repeat (first | (with_reducible first | exact HB.out | apply below_alloc | apply pw_below_drewN | apply below_drew1) | exact HB.out))) : w.heap.size ≤ gb191)); clear HB; have HB := n0_; have BK191 := n1_; have GW191 := n2_; have GE191 := n3_; clear n0_ n1_ n2_ n3_; clear hb hbox hg) | ((with_reducible refine gate_callee (f := 24) rfl ?_); refine goesL_ (some 8) rfl rfl Try.func24 (by kernel_rfl) rfl #[.int .i64 a0] rfl (by (try simp only [List.map_toArray, List.map_cons, List.map_nil]); first | done | rfl | (simp only [List.length_drop, List.length_take]; rfl)) ?_; (with_reducible refine (lap_Right.calls a0 t192 _ A4.out).mono ?_); rintro e w' ⟨rfl, ⟨nd, rfl⟩⟩; refine ⟨_, rfl, ?_⟩) | ((with_reducible refine gate_callee (f := 7) rfl ?_); refine goesL_ (some 10) rfl rfl Try.func7 (by kernel_rfl) rfl #[.int .i64 a0] rfl (by (try simp only [List.map_toArray, List.map_cons, List.map_nil]); first | done | rfl | (simp only [List.length_drop, List.length_take]; rfl)) ?_; (with_reducible refine (sakiaref02_Right.calls k a0 t193 _ A5.out).mono ?_); rintro e w' ⟨rfl, ⟨nd, rfl⟩⟩; refine ⟨_, rfl, ?_⟩) | ((with_reducible refine gate_callee (f := 7) rfl ?_); refine goesL_ (some 13) rfl rfl Try.func7 (by kernel_rfl) rfl #[.int .i64 a0] rfl (by (try simp only [List.map_toArray, List.map_cons, List.map_nil]); first | done | rfl | (simp only [List.length_drop, List.length_take]; rfl)) ?_; (with_reducible refine (sakiaref02_Right.calls k a0 true _ A7.out).mono ?_); rintro e w' ⟨rfl, ⟨nd, rfl⟩⟩; refine ⟨_, rfl, ?_⟩) | ((with_reducible refine gate_callee (f := 26) rfl ?_); refine goesL_ (some 28) rfl rfl Try.func26 (by kernel_rfl) rfl #[.int .i64 a0] rfl (by (try simp only [List.map_toArray, List.map_cons, List.map_nil]); first | done | rfl | (simp only [List.length_drop, List.length_take]; rfl)) ?_; (with_reducible refine (lap_Log.calls k a0 t197 _ A10.out).mono ?_); rintro e w' ⟨rfl, ⟨nd, rfl⟩⟩; refine ⟨_, rfl, ?_⟩) | ((with_reducible refine gate_callee (f := 27) rfl ?_); refine goesL_ (some 30) rfl rfl Try.func27 (by kernel_rfl) rfl #[.int .i64 a0] rfl (by (try simp only [List.map_toArray, List.map_cons, List.map_nil]); first | done | rfl | (simp only [List.length_drop, List.length_take]; rfl)) ?_; (with_reducible refine (sakiaref02_Log.calls k a0 t198 _ A11.out).mono ?_); rintro e w' ⟨rfl, ⟨nd, rfl⟩⟩; refine ⟨_, rfl, ?_⟩) | (go_at_call 8; (with_reducible refine (sakialaw02_live.calls k  t199 _ A13.out).mono ?_); rintro e w' ⟨rfl, ⟨nd, rfl⟩⟩))
      go_ret
      exact ⟨by first | rfl | (simp [errW_none, errW_some] <;> rfl) | (simp [*, errW_none, errW_some] <;> rfl), by repeat (first | (with_reducible first | exact HB.out | apply below_alloc | apply pw_below_drewN | apply below_drew1 | refine below_set ?_ GE191.out) | exact HB.out)⟩
    · rw [if_neg c9] at H
      have c9b0 : decide (4096 < a0) = false := decide_eq_false c9
      clear c9
      replace H := Option.bind_eq_some_iff.mp H
      obtain ⟨t200, A150, H⟩ := H
      replace H : ((sakiaref02_Log.f k a0).bind fun t201 => (if t200 = t201 then ((sakialaw02_small.f k a0 a1 a2_0 a2_1).bind fun t202 => (if t202 = true then ((sakialaw02_great.f k a0 a1 a2_0 a2_1).bind fun t203 => (if t203 = true then ((sakialaw02_live.f k).bind fun t204 => (some t204)) else (none))) else (none))) else (none))) = some r := H
      have A15 := Aside0.mk A150
      clear A150
      replace H := Option.bind_eq_some_iff.mp H
      obtain ⟨t201, A160, H⟩ := H
      replace H : (if t200 = t201 then ((sakialaw02_small.f k a0 a1 a2_0 a2_1).bind fun t202 => (if t202 = true then ((sakialaw02_great.f k a0 a1 a2_0 a2_1).bind fun t203 => (if t203 = true then ((sakialaw02_live.f k).bind fun t204 => (some t204)) else (none))) else (none))) else (none)) = some r := H
      have A16 := Aside0.mk A160
      clear A160
      by_cases c17 : t200 = t201
      rotate_left
      · rw [if_neg c17] at H
        exact absurd H (by simp)
      rw [if_pos c17] at H
      have c17b0 : (t200 == t201) = true := beq_iff_eq.mpr c17
      have c17b1 : (t200 != t201) = false := bne_eq_false_iff_eq.mpr c17
      clear c17
      replace H := Option.bind_eq_some_iff.mp H
      obtain ⟨t202, A180, H⟩ := H
      replace H : (if t202 = true then ((sakialaw02_great.f k a0 a1 a2_0 a2_1).bind fun t203 => (if t203 = true then ((sakialaw02_live.f k).bind fun t204 => (some t204)) else (none))) else (none)) = some r := H
      have A18 := Aside0.mk A180
      clear A180
      by_cases c19 : t202 = true
      · subst c19
        have H1 : ((sakialaw02_great.f k a0 a1 a2_0 a2_1).bind fun t203 => (if t203 = true then ((sakialaw02_live.f k).bind fun t204 => (some t204)) else (none))) = some r := by rw [if_pos rfl] at H; exact H
        clear H
        have H := H1
        clear H1
        replace H := Option.bind_eq_some_iff.mp H
        obtain ⟨t203, A200, H⟩ := H
        replace H : (if t203 = true then ((sakialaw02_live.f k).bind fun t204 => (some t204)) else (none)) = some r := H
        have A20 := Aside0.mk A200
        clear A200
        by_cases c21 : t203 = true
        · subst c21
          have H1 : ((sakialaw02_live.f k).bind fun t204 => (some t204)) = some r := by rw [if_pos rfl] at H; exact H
          clear H
          have H := H1
          clear H1
          replace H := Option.bind_eq_some_iff.mp H
          obtain ⟨t204, A220, H⟩ := H
          replace H : (some t204) = some r := H
          have A22 := Aside0.mk A220
          clear A220
          obtain rfl := Option.some.inj H
          go_enter Try.func6, Try.ntmps6
          go_wp2_with (first | ((with_reducible refine gate_dst (N := 5) rfl ?_); refine box_event ?hg (N := 5) ?hd (cs := #[.int .u64 a2_0, .int .u64 a2_1]) (t := 42) ?hr ?_; (case hd => rfl); (case hg => rfl); (case hr => first | (go_simp; done) | (go_simp; rfl)); intro gb191 hg w23 hbox hb; have n0_ := Aside0.mk (below_step (by repeat (first | (with_reducible first | exact HB.out | apply below_alloc | apply pw_below_drewN | apply below_drew1) | exact HB.out)) hb); have n1_ := Aside0.mk (hbox); have n2_ := Aside0.mk ((by rw [hg]; exact (below_size (by repeat (first | (with_reducible first | exact HB.out | apply below_alloc | apply pw_below_drewN | apply below_drew1) | exact HB.out))) : w.heap.size ≤ gb191)); have n3_ := Aside0.mk ((by rw [hg]; exact (below_size (by repeat (first | (with_reducible first | exact HB.out | apply below_alloc | apply pw_below_drewN | apply below_drew1) | exact HB.out))) : w.heap.size ≤ gb191)); clear HB; have HB := n0_; have BK191 := n1_; have GW191 := n2_; have GE191 := n3_; clear n0_ n1_ n2_ n3_; clear hb hbox hg) | ((with_reducible refine gate_callee (f := 24) rfl ?_); refine goesL_ (some 8) rfl rfl Try.func24 (by kernel_rfl) rfl #[.int .i64 a0] rfl (by (try simp only [List.map_toArray, List.map_cons, List.map_nil]); first | done | rfl | (simp only [List.length_drop, List.length_take]; rfl)) ?_; (with_reducible refine (lap_Right.calls a0 t192 _ A4.out).mono ?_); rintro e w' ⟨rfl, ⟨nd, rfl⟩⟩; refine ⟨_, rfl, ?_⟩) | ((with_reducible refine gate_callee (f := 7) rfl ?_); refine goesL_ (some 10) rfl rfl Try.func7 (by kernel_rfl) rfl #[.int .i64 a0] rfl (by (try simp only [List.map_toArray, List.map_cons, List.map_nil]); first | done | rfl | (simp only [List.length_drop, List.length_take]; rfl)) ?_; (with_reducible refine (sakiaref02_Right.calls k a0 t193 _ A5.out).mono ?_); rintro e w' ⟨rfl, ⟨nd, rfl⟩⟩; refine ⟨_, rfl, ?_⟩) | ((with_reducible refine gate_callee (f := 7) rfl ?_); refine goesL_ (some 13) rfl rfl Try.func7 (by kernel_rfl) rfl #[.int .i64 a0] rfl (by (try simp only [List.map_toArray, List.map_cons, List.map_nil]); first | done | rfl | (simp only [List.length_drop, List.length_take]; rfl)) ?_; (with_reducible refine (sakiaref02_Right.calls k a0 true _ A7.out).mono ?_); rintro e w' ⟨rfl, ⟨nd, rfl⟩⟩; refine ⟨_, rfl, ?_⟩) | ((with_reducible refine gate_callee (f := 26) rfl ?_); refine goesL_ (some 36) rfl rfl Try.func26 (by kernel_rfl) rfl #[.int .i64 a0] rfl (by (try simp only [List.map_toArray, List.map_cons, List.map_nil]); first | done | rfl | (simp only [List.length_drop, List.length_take]; rfl)) ?_; (with_reducible refine (lap_Log.calls k a0 t200 _ A15.out).mono ?_); rintro e w' ⟨rfl, ⟨nd, rfl⟩⟩; refine ⟨_, rfl, ?_⟩) | ((with_reducible refine gate_callee (f := 27) rfl ?_); refine goesL_ (some 38) rfl rfl Try.func27 (by kernel_rfl) rfl #[.int .i64 a0] rfl (by (try simp only [List.map_toArray, List.map_cons, List.map_nil]); first | done | rfl | (simp only [List.length_drop, List.length_take]; rfl)) ?_; (with_reducible refine (sakiaref02_Log.calls k a0 t201 _ A16.out).mono ?_); rintro e w' ⟨rfl, ⟨nd, rfl⟩⟩; refine ⟨_, rfl, ?_⟩; have hcz24_0 : w23.cell? ⟨gb191, 0, none⟩ = some (.int .u64 a2_0) := (blk_cell BK191.out 0).trans rfl; have hcz24_1 : w23.cell? ⟨gb191, 1, none⟩ = some (.int .u64 a2_1) := (blk_cell BK191.out 1).trans rfl; have hfz24_0 := blk_frozen BK191.out 0; have hfz24_1 := blk_frozen BK191.out 1) | (go_at_call 28; (with_reducible refine (sakialaw02_small.calls k a0 a1 a2_0 a2_1 true _ A18.out).mono ?_); rintro e w' ⟨rfl, ⟨nd, rfl⟩⟩) | (go_at_call 29; (with_reducible refine (sakialaw02_great.calls k a0 a1 a2_0 a2_1 true _ A20.out).mono ?_); rintro e w' ⟨rfl, ⟨nd, rfl⟩⟩) | (go_at_call 8; (with_reducible refine (sakialaw02_live.calls k  t204 _ A22.out).mono ?_); rintro e w' ⟨rfl, ⟨nd, rfl⟩⟩))
          go_ret
          exact ⟨by first | rfl | (simp [errW_none, errW_some] <;> rfl) | (simp [*, errW_none, errW_some] <;> rfl), by repeat (first | (with_reducible first | exact HB.out | apply below_alloc | apply pw_below_drewN | apply below_drew1 | refine below_set ?_ GE191.out) | exact HB.out)⟩
        · replace c21 := Bool.eq_false_iff.mpr c21
          subst c21
          have H1 : (none) = some r := by rw [if_neg (show ¬ (false = true) by decide)] at H; exact H
          clear H
          have H := H1
          clear H1
          exact absurd H (by simp)
      · replace c19 := Bool.eq_false_iff.mpr c19
        subst c19
        have H1 : (none) = some r := by rw [if_neg (show ¬ (false = true) by decide)] at H; exact H
        clear H
        have H := H1
        clear H1
        exact absurd H (by simp)
  · replace c8 := Bool.eq_false_iff.mpr c8
    subst c8
    have H1 : ((sakialaw02_none.f k a0 a1 a2_0 a2_1).bind fun t195 => (if t195 = true then ((sakialaw02_live.f k).bind fun t196 => (some t196)) else (none))) = some r := by rw [if_neg (show ¬ (false = true) by decide)] at H; exact H
    clear H
    have H := H1
    clear H1
    replace H := Option.bind_eq_some_iff.mp H
    obtain ⟨t195, A250, H⟩ := H
    replace H : (if t195 = true then ((sakialaw02_live.f k).bind fun t196 => (some t196)) else (none)) = some r := H
    have A25 := Aside0.mk A250
    clear A250
    by_cases c26 : t195 = true
    · subst c26
      have H1 : ((sakialaw02_live.f k).bind fun t196 => (some t196)) = some r := by rw [if_pos rfl] at H; exact H
      clear H
      have H := H1
      clear H1
      replace H := Option.bind_eq_some_iff.mp H
      obtain ⟨t196, A270, H⟩ := H
      replace H : (some t196) = some r := H
      have A27 := Aside0.mk A270
      clear A270
      obtain rfl := Option.some.inj H
      go_enter Try.func6, Try.ntmps6
      go_wp2_with (first | ((with_reducible refine gate_dst (N := 5) rfl ?_); refine box_event ?hg (N := 5) ?hd (cs := #[.int .u64 a2_0, .int .u64 a2_1]) (t := 42) ?hr ?_; (case hd => rfl); (case hg => rfl); (case hr => first | (go_simp; done) | (go_simp; rfl)); intro gb191 hg w28 hbox hb; have n0_ := Aside0.mk (below_step (by repeat (first | (with_reducible first | exact HB.out | apply below_alloc | apply pw_below_drewN | apply below_drew1) | exact HB.out)) hb); have n1_ := Aside0.mk (hbox); have n2_ := Aside0.mk ((by rw [hg]; exact (below_size (by repeat (first | (with_reducible first | exact HB.out | apply below_alloc | apply pw_below_drewN | apply below_drew1) | exact HB.out))) : w.heap.size ≤ gb191)); have n3_ := Aside0.mk ((by rw [hg]; exact (below_size (by repeat (first | (with_reducible first | exact HB.out | apply below_alloc | apply pw_below_drewN | apply below_drew1) | exact HB.out))) : w.heap.size ≤ gb191)); clear HB; have HB := n0_; have BK191 := n1_; have GW191 := n2_; have GE191 := n3_; clear n0_ n1_ n2_ n3_; clear hb hbox hg) | ((with_reducible refine gate_callee (f := 24) rfl ?_); refine goesL_ (some 8) rfl rfl Try.func24 (by kernel_rfl) rfl #[.int .i64 a0] rfl (by (try simp only [List.map_toArray, List.map_cons, List.map_nil]); first | done | rfl | (simp only [List.length_drop, List.length_take]; rfl)) ?_; (with_reducible refine (lap_Right.calls a0 t192 _ A4.out).mono ?_); rintro e w' ⟨rfl, ⟨nd, rfl⟩⟩; refine ⟨_, rfl, ?_⟩) | ((with_reducible refine gate_callee (f := 7) rfl ?_); refine goesL_ (some 10) rfl rfl Try.func7 (by kernel_rfl) rfl #[.int .i64 a0] rfl (by (try simp only [List.map_toArray, List.map_cons, List.map_nil]); first | done | rfl | (simp only [List.length_drop, List.length_take]; rfl)) ?_; (with_reducible refine (sakiaref02_Right.calls k a0 t193 _ A5.out).mono ?_); rintro e w' ⟨rfl, ⟨nd, rfl⟩⟩; refine ⟨_, rfl, ?_⟩) | ((with_reducible refine gate_callee (f := 7) rfl ?_); refine goesL_ (some 13) rfl rfl Try.func7 (by kernel_rfl) rfl #[.int .i64 a0] rfl (by (try simp only [List.map_toArray, List.map_cons, List.map_nil]); first | done | rfl | (simp only [List.length_drop, List.length_take]; rfl)) ?_; (with_reducible refine (sakiaref02_Right.calls k a0 false _ A7.out).mono ?_); rintro e w' ⟨rfl, ⟨nd, rfl⟩⟩; refine ⟨_, rfl, ?_⟩; have hcz29_0 : w28.cell? ⟨gb191, 0, none⟩ = some (.int .u64 a2_0) := (blk_cell BK191.out 0).trans rfl; have hcz29_1 : w28.cell? ⟨gb191, 1, none⟩ = some (.int .u64 a2_1) := (blk_cell BK191.out 1).trans rfl; have hfz29_0 := blk_frozen BK191.out 0; have hfz29_1 := blk_frozen BK191.out 1) | ((with_reducible refine gate_callee (f := 25) rfl ?_); refine goesL_ (some 21) rfl rfl Try.func25 (by kernel_rfl) rfl #[.int .i64 a0, .int .i64 a1, .int .u64 a2_0, .int .u64 a2_1] rfl (by (try simp only [List.map_toArray, List.map_cons, List.map_nil]); first | done | rfl | (simp only [List.length_drop, List.length_take]; rfl)) ?_; (with_reducible refine (sakialaw02_none.calls k a0 a1 a2_0 a2_1 true _ A25.out).mono ?_); rintro e w30 ⟨rfl, hb⟩; refine ⟨_, rfl, ?_⟩; have n0_ := Aside0.mk (blk_below (g := gb191) (o := .cells #[.int .u64 a2_0, .int .u64 a2_1] 42 (0, 0)) (by (with_reducible repeat (first | refine blk_drewN ?_ _ | refine blk_drew ?_ | refine blk_alloc ?_ _)); exact BK191.out) hb); have n1_ := Aside0.mk (below_step (by repeat (first | (with_reducible first | exact HB.out | apply below_alloc | apply pw_below_drewN | apply below_drew1 | refine below_set ?_ GE191.out) | exact HB.out)) hb); clear BK191; clear HB; have BK191 := n0_; have HB := n1_; clear n0_ n1_; (try clear hb); (try clear hb2); (try clear hk); (try clear hi)) | (go_at_call 8; (with_reducible refine (sakialaw02_live.calls k  t196 _ A27.out).mono ?_); rintro e w' ⟨rfl, ⟨nd, rfl⟩⟩))
      go_ret
      exact ⟨by first | rfl | (simp [errW_none, errW_some] <;> rfl) | (simp [*, errW_none, errW_some] <;> rfl), by repeat (first | (with_reducible first | exact HB.out | apply below_alloc | apply pw_below_drewN | apply below_drew1 | refine below_set ?_ GE191.out) | exact HB.out)⟩
    · replace c26 := Bool.eq_false_iff.mpr c26
      subst c26
      have H1 : (none) = some r := by rw [if_neg (show ¬ (false = true) by decide)] at H; exact H
      clear H
      have H := H1
      clear H1
      exact absurd H (by simp)

/-- THE ONE PURE STATEMENT of sakialaw02_LapTells: yours. -/
def sakialaw02_LapTells.Pure : Prop := ∀ (a0 : Int) (a1 : Int) (a2_0 : Int) (a2_1 : Int), (Lit.int .i64 a0).wf = true → (Lit.int .i64 a1).wf = true → (Lit.int .u64 a2_0).wf = true → (Lit.int .u64 a2_1).wf = true → ∃ k, sakialaw02_LapTells.f k a0 a1 a2_0 a2_1 = some true
theorem sakialaw02_LapTells.walk (P : sakialaw02_LapTells.Pure) (a0 : Int) (a1 : Int) (a2_0 : Int) (a2_1 : Int) (w : World) (w0 : (Lit.int .i64 a0).wf = true) (w1 : (Lit.int .i64 a1).wf = true) (w2_0 : (Lit.int .u64 a2_0).wf = true) (w2_1 : (Lit.int .u64 a2_1).wf = true) :
    Calls Try.prog 6 #[.int .i64 a0, .int .i64 a1, .agg #[.int .u64 a2_0, .int .u64 a2_1]] w fun e w' => e = .returned (.bool true) ∧ Below w.heap.size w w' := by
  obtain ⟨k, h⟩ := P a0 a1 a2_0 a2_1 w0 w1 w2_0 w2_1
  refine (sakialaw02_LapTells.calls k a0 a1 a2_0 a2_1 true w h).mono ?_
  rintro e w' ⟨rfl, hd⟩
  exact ⟨rfl, hd⟩

end Go.Proofs.Ytkkmpkgmkokjnaa.QLapTells
