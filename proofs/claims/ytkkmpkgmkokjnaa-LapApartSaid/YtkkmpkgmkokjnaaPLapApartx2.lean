-- PRINTED BY print.sh 35421559b90ae4d0a3588c463048766b98c2df88dd9212a6774a882060cdf62d: not written by this session
import Derived.Test.YtkkmpkgmkokjnaaPLapApartx0
import Derived.Test.YtkkmpkgmkokjnaaPLapApartx1
namespace Go.Proofs.Ytkkmpkgmkokjnaa.PLapApart
open Go.RowKit Go.Proofs.YtkkmpkgmkokjnaaW.PrintWords Go.Proofs.YtkkmpkgmkokjnaaW.PrintLast Go.Proofs.YtkkmpkgmkokjnaaW.PrintMore
attribute [local go_sem] max2_int min2_int max_two min_two max_three min_three max_four min_four   -- for this text's walks alone
set_option linter.unusedVariables false
set_option linter.unusedSimpArgs false

/-! ### sakialaw02_LapApart: function 3 -/
def sakialaw02_LapApart.j0 : Nat → Int → Int → Int → Bool → Option (Bool)
  | 0, _, _, _, _ => none
  | k + 1, x0, x1, x7, x50 => if x50 = true then (some false) else ((lap_Next_uint32.f x0 x7).bind fun t126 => ((lap_Next_uint64.f x0 x1).bind fun t127 => ((lap_Slot_uint32.f x0 t126).bind fun t128 => ((lap_Slot_uint32.f x0 x7).bind fun t129 => (if t128 = t129 then ((lap_Round_uint32.f k x0 t126).bind fun t130 => ((lap_Round_uint32.f k x0 x7).bind fun t131 => (if t130 = t131 then (some false) else ((lap_Slot_uint64.f x0 t127).bind fun t132 => ((lap_Slot_uint64.f x0 x1).bind fun t133 => (if t132 = t133 then ((lap_Round_uint64.f k x0 t127).bind fun t134 => ((lap_Round_uint64.f k x0 x1).bind fun t135 => (if t134 = t135 then (some false) else ((sakialaw02_live.f k).bind fun t136 => (some t136))))) else (some false))))))) else (some false))))))
def sakialaw02_LapApart.f (k : Nat) (a0 : Int) (a1 : Int) (a2 : Int) : Option (Bool) := (sakiaref02_Right.f k a0).bind fun t117 => (if t117 = true then ((wide_Of_uint32.f a1).bind fun t119 => (if a0 = 0 then (none) else ((wide_Add_uint32.f t119 (Int.tmod (wrap64 (a2)) a0)).bind fun t120 => ((wide_Add_uint64.f a1 (Int.tmod (wrap64 (a2)) a0)).bind fun t121 => ((lap_Slot_uint32.f a0 t119).bind fun t122 => ((lap_Slot_uint32.f a0 t120).bind fun t123 => (if ((t122 == t123) != ((Int.tmod (wrap64 (a2)) a0) == 0)) = true then (sakialaw02_LapApart.j0 k a0 a1 t119 true) else ((lap_Slot_uint64.f a0 a1).bind fun t124 => ((lap_Slot_uint64.f a0 t121).bind fun t125 => (sakialaw02_LapApart.j0 k a0 a1 t119 ((t124 == t125) != ((Int.tmod (wrap64 (a2)) a0) == 0)))))))))))) else ((sakialaw02_live.f k).bind fun t118 => (some t118)))
theorem sakialaw02_LapApart.mono_l : ∀ k, (∀ y0 y1 y2 y3, LeO (sakialaw02_LapApart.j0 k y0 y1 y2 y3) (sakialaw02_LapApart.j0 (k + 1) y0 y1 y2 y3))
  | 0 => fun _ _ _ _ r h => by simp [sakialaw02_LapApart.j0] at h
  | k + 1 => by
    have ih0 := sakialaw02_LapApart.mono_l k
    · intro y0 y1 y2 y3
      unfold sakialaw02_LapApart.j0
      repeat' first
      | (with_reducible exact ih0 _ _ _ _)
      | (with_reducible exact lap_Round_uint32.mono _ _ _)
      | (with_reducible exact lap_Round_uint64.mono _ _ _)
      | (with_reducible exact sakialaw02_live.mono _)
      | (with_reducible exact sakiaref02_Right.mono _ _)
      | (with_reducible exact LeO.refl _)
      | (with_reducible exact LeO.none _)
      | (with_reducible refine LeO.ite ?_ ?_)
      | (with_reducible refine LeO.bind ?_ (fun _ => ?_))
      | exact ih0 _ _ _ _
      | exact lap_Round_uint32.mono _ _ _
      | exact lap_Round_uint64.mono _ _ _
      | exact sakialaw02_live.mono _
      | exact sakiaref02_Right.mono _ _
      | exact LeO.none _
      | refine LeO.ite ?_ ?_
      | refine LeO.bind ?_ (fun _ => ?_)
theorem sakialaw02_LapApart.mono : ∀ a0 a1 a2 k, LeO (sakialaw02_LapApart.f k a0 a1 a2) (sakialaw02_LapApart.f (k + 1) a0 a1 a2) := by
  intro a0 a1 a2 k
  have ih0 := sakialaw02_LapApart.mono_l k
  unfold sakialaw02_LapApart.f
  repeat' first
      | (with_reducible exact ih0 _ _ _ _)
      | (with_reducible exact lap_Round_uint32.mono _ _ _)
      | (with_reducible exact lap_Round_uint64.mono _ _ _)
      | (with_reducible exact sakialaw02_live.mono _)
      | (with_reducible exact sakiaref02_Right.mono _ _)
      | (with_reducible exact LeO.refl _)
      | (with_reducible exact LeO.none _)
      | (with_reducible refine LeO.ite ?_ ?_)
      | (with_reducible refine LeO.bind ?_ (fun _ => ?_))
      | exact ih0 _ _ _ _
      | exact lap_Round_uint32.mono _ _ _
      | exact lap_Round_uint64.mono _ _ _
      | exact sakialaw02_live.mono _
      | exact sakiaref02_Right.mono _ _
      | exact LeO.none _
      | refine LeO.ite ?_ ?_
      | refine LeO.bind ?_ (fun _ => ?_)
set_option maxHeartbeats 8000000 in
set_option maxRecDepth 100000 in
theorem sakialaw02_LapApart.calls (k : Nat) (a0 : Int) (a1 : Int) (a2 : Int) (r : Bool) (w : World) (h : sakialaw02_LapApart.f k a0 a1 a2 = some r) :
    Calls Try.prog 3 #[.int .i64 a0, .int .u64 a1, .int .u32 a2] w fun e w' => e = .returned (.bool r) ∧ Drawn0 w w' := by
  have H : ((sakiaref02_Right.f k a0).bind fun t117 => (if t117 = true then ((wide_Of_uint32.f a1).bind fun t119 => (if a0 = 0 then (none) else ((wide_Add_uint32.f t119 (Int.tmod (wrap64 (a2)) a0)).bind fun t120 => ((wide_Add_uint64.f a1 (Int.tmod (wrap64 (a2)) a0)).bind fun t121 => ((lap_Slot_uint32.f a0 t119).bind fun t122 => ((lap_Slot_uint32.f a0 t120).bind fun t123 => (if ((t122 == t123) != ((Int.tmod (wrap64 (a2)) a0) == 0)) = true then (sakialaw02_LapApart.j0 k a0 a1 t119 true) else ((lap_Slot_uint64.f a0 a1).bind fun t124 => ((lap_Slot_uint64.f a0 t121).bind fun t125 => (sakialaw02_LapApart.j0 k a0 a1 t119 ((t124 == t125) != ((Int.tmod (wrap64 (a2)) a0) == 0)))))))))))) else ((sakialaw02_live.f k).bind fun t118 => (some t118)))) = some r := h
  clear h
  replace H := Option.bind_eq_some_iff.mp H
  obtain ⟨t117, A40, H⟩ := H
  replace H : (if t117 = true then ((wide_Of_uint32.f a1).bind fun t119 => (if a0 = 0 then (none) else ((wide_Add_uint32.f t119 (Int.tmod (wrap64 (a2)) a0)).bind fun t120 => ((wide_Add_uint64.f a1 (Int.tmod (wrap64 (a2)) a0)).bind fun t121 => ((lap_Slot_uint32.f a0 t119).bind fun t122 => ((lap_Slot_uint32.f a0 t120).bind fun t123 => (if ((t122 == t123) != ((Int.tmod (wrap64 (a2)) a0) == 0)) = true then (sakialaw02_LapApart.j0 k a0 a1 t119 true) else ((lap_Slot_uint64.f a0 a1).bind fun t124 => ((lap_Slot_uint64.f a0 t121).bind fun t125 => (sakialaw02_LapApart.j0 k a0 a1 t119 ((t124 == t125) != ((Int.tmod (wrap64 (a2)) a0) == 0)))))))))))) else ((sakialaw02_live.f k).bind fun t118 => (some t118))) = some r := H
  have A4 := Aside0.mk A40
  clear A40
  by_cases c5 : t117 = true
  · subst c5
    have H1 : ((wide_Of_uint32.f a1).bind fun t119 => (if a0 = 0 then (none) else ((wide_Add_uint32.f t119 (Int.tmod (wrap64 (a2)) a0)).bind fun t120 => ((wide_Add_uint64.f a1 (Int.tmod (wrap64 (a2)) a0)).bind fun t121 => ((lap_Slot_uint32.f a0 t119).bind fun t122 => ((lap_Slot_uint32.f a0 t120).bind fun t123 => (if ((t122 == t123) != ((Int.tmod (wrap64 (a2)) a0) == 0)) = true then (sakialaw02_LapApart.j0 k a0 a1 t119 true) else ((lap_Slot_uint64.f a0 a1).bind fun t124 => ((lap_Slot_uint64.f a0 t121).bind fun t125 => (sakialaw02_LapApart.j0 k a0 a1 t119 ((t124 == t125) != ((Int.tmod (wrap64 (a2)) a0) == 0)))))))))))) = some r := by rw [if_pos rfl] at H; exact H
    clear H
    have H := H1
    clear H1
    replace H := Option.bind_eq_some_iff.mp H
    obtain ⟨t119, A60, H⟩ := H
    replace H : (if a0 = 0 then (none) else ((wide_Add_uint32.f t119 (Int.tmod (wrap64 (a2)) a0)).bind fun t120 => ((wide_Add_uint64.f a1 (Int.tmod (wrap64 (a2)) a0)).bind fun t121 => ((lap_Slot_uint32.f a0 t119).bind fun t122 => ((lap_Slot_uint32.f a0 t120).bind fun t123 => (if ((t122 == t123) != ((Int.tmod (wrap64 (a2)) a0) == 0)) = true then (sakialaw02_LapApart.j0 k a0 a1 t119 true) else ((lap_Slot_uint64.f a0 a1).bind fun t124 => ((lap_Slot_uint64.f a0 t121).bind fun t125 => (sakialaw02_LapApart.j0 k a0 a1 t119 ((t124 == t125) != ((Int.tmod (wrap64 (a2)) a0) == 0))))))))))) = some r := H
    have A6 := Aside0.mk A60
    clear A60
    by_cases c7 : a0 = 0
    · rw [if_pos c7] at H
      exact absurd H (by simp)
    · rw [if_neg c7] at H
      have c7b0 : (a0 == 0) = false := beq_eq_false_iff_ne.mpr c7
      have c7b1 : (a0 != 0) = true := bne_iff_ne.mpr c7
      replace H := Option.bind_eq_some_iff.mp H
      obtain ⟨t120, A80, H⟩ := H
      replace H : ((wide_Add_uint64.f a1 (Int.tmod (wrap64 (a2)) a0)).bind fun t121 => ((lap_Slot_uint32.f a0 t119).bind fun t122 => ((lap_Slot_uint32.f a0 t120).bind fun t123 => (if ((t122 == t123) != ((Int.tmod (wrap64 (a2)) a0) == 0)) = true then (sakialaw02_LapApart.j0 k a0 a1 t119 true) else ((lap_Slot_uint64.f a0 a1).bind fun t124 => ((lap_Slot_uint64.f a0 t121).bind fun t125 => (sakialaw02_LapApart.j0 k a0 a1 t119 ((t124 == t125) != ((Int.tmod (wrap64 (a2)) a0) == 0))))))))) = some r := H
      have A8 := Aside0.mk A80
      clear A80
      replace H := Option.bind_eq_some_iff.mp H
      obtain ⟨t121, A90, H⟩ := H
      replace H : ((lap_Slot_uint32.f a0 t119).bind fun t122 => ((lap_Slot_uint32.f a0 t120).bind fun t123 => (if ((t122 == t123) != ((Int.tmod (wrap64 (a2)) a0) == 0)) = true then (sakialaw02_LapApart.j0 k a0 a1 t119 true) else ((lap_Slot_uint64.f a0 a1).bind fun t124 => ((lap_Slot_uint64.f a0 t121).bind fun t125 => (sakialaw02_LapApart.j0 k a0 a1 t119 ((t124 == t125) != ((Int.tmod (wrap64 (a2)) a0) == 0)))))))) = some r := H
      have A9 := Aside0.mk A90
      clear A90
      have HC10 := Aside0.mk H
      clear H
      go_enter Try.func3, Try.ntmps3
      go_upto_region 6 with (first | ((with_reducible refine gate_callee (f := 7) rfl ?_); refine goesL_ (some 14) rfl rfl Try.func7 (by kernel_rfl) rfl #[.int .i64 a0] rfl (by (try simp only [List.map_toArray, List.map_cons, List.map_nil]); first | done | rfl | (simp only [List.length_drop, List.length_take]; rfl)) ?_; (with_reducible refine (sakiaref02_Right.calls k a0 true _ A4.out).mono ?_); rintro e w' ⟨rfl, ⟨nd, rfl⟩⟩; refine ⟨_, rfl, ?_⟩) | ((with_reducible refine gate_callee (f := 9) rfl ?_); refine goesL_ (some 18) rfl rfl Try.func9 (by kernel_rfl) rfl #[.int .u64 a1] rfl (by (try simp only [List.map_toArray, List.map_cons, List.map_nil]); first | done | rfl | (simp only [List.length_drop, List.length_take]; rfl)) ?_; (with_reducible refine (wide_Of_uint32.calls a1 t119 _ A6.out).mono ?_); rintro e w' ⟨rfl, ⟨nd, rfl⟩⟩; refine ⟨_, rfl, ?_⟩) | ((with_reducible refine gate_callee (f := 10) rfl ?_); refine goesL_ (some 25) rfl rfl Try.func10 (by kernel_rfl) rfl #[.int .u32 t119, .int .i64 (Int.tmod (wrap64 (a2)) a0)] rfl (by (try simp only [List.map_toArray, List.map_cons, List.map_nil]); first | done | rfl | (simp only [List.length_drop, List.length_take]; rfl)) ?_; (with_reducible refine (wide_Add_uint32.calls t119 (Int.tmod (wrap64 (a2)) a0) t120 _ A8.out).mono ?_); rintro e w' ⟨rfl, ⟨nd, rfl⟩⟩; refine ⟨_, rfl, ?_⟩) | ((with_reducible refine gate_callee (f := 11) rfl ?_); refine goesL_ (some 28) rfl rfl Try.func11 (by kernel_rfl) rfl #[.int .u64 a1, .int .i64 (Int.tmod (wrap64 (a2)) a0)] rfl (by (try simp only [List.map_toArray, List.map_cons, List.map_nil]); first | done | rfl | (simp only [List.length_drop, List.length_take]; rfl)) ?_; (with_reducible refine (wide_Add_uint64.calls a1 (Int.tmod (wrap64 (a2)) a0) t121 _ A9.out).mono ?_); rintro e w' ⟨rfl, ⟨nd, rfl⟩⟩; refine ⟨_, rfl, ?_⟩))
      (try simp only [Act.put, List.setIfInBounds_toArray, List.set_cons_zero, List.set_cons_succ])
      go_cut [50] (fun v50 wc => ∃ (kq : Nat) (x50_9 : Bool), v50 = .bool x50_9 ∧ Aside0 (sakialaw02_LapApart.j0 kq a0 a1 t119 x50_9 = some r) ∧ Aside0 (kq ≤ k) ∧ Drawn0 w wc)
      case first =>
        have H := HC10.out
        clear HC10
        replace H := Option.bind_eq_some_iff.mp H
        obtain ⟨t122, A110, H⟩ := H
        replace H : ((lap_Slot_uint32.f a0 t120).bind fun t123 => (if ((t122 == t123) != ((Int.tmod (wrap64 (a2)) a0) == 0)) = true then (sakialaw02_LapApart.j0 k a0 a1 t119 true) else ((lap_Slot_uint64.f a0 a1).bind fun t124 => ((lap_Slot_uint64.f a0 t121).bind fun t125 => (sakialaw02_LapApart.j0 k a0 a1 t119 ((t124 == t125) != ((Int.tmod (wrap64 (a2)) a0) == 0))))))) = some r := H
        have A11 := Aside0.mk A110
        clear A110
        replace H := Option.bind_eq_some_iff.mp H
        obtain ⟨t123, A120, H⟩ := H
        replace H : (if ((t122 == t123) != ((Int.tmod (wrap64 (a2)) a0) == 0)) = true then (sakialaw02_LapApart.j0 k a0 a1 t119 true) else ((lap_Slot_uint64.f a0 a1).bind fun t124 => ((lap_Slot_uint64.f a0 t121).bind fun t125 => (sakialaw02_LapApart.j0 k a0 a1 t119 ((t124 == t125) != ((Int.tmod (wrap64 (a2)) a0) == 0)))))) = some r := H
        have A12 := Aside0.mk A120
        clear A120
        by_cases c13 : ((t122 == t123) != ((Int.tmod (wrap64 (a2)) a0) == 0)) = true
        · rw [if_pos c13] at H
          have c13b0 : ((t122 == t123) != ((Int.tmod (wrap64 (a2)) a0) == 0)) = true := c13
          (try (have c13b1 : decide ((t122 == t123) = ((Int.tmod (wrap64 (a2)) a0) == 0)) = false := by simpa using c13))
          (try (have c13b2 : ((t122 == t123) == ((Int.tmod (wrap64 (a2)) a0) == 0)) = false := by simpa using c13))
          (try (have c13b3 : ¬ ((t122 == t123) = ((Int.tmod (wrap64 (a2)) a0) == 0)) := by simpa using c13))
          clear c13
          (first | rw [c13b0] | (simp only [i64_w, i32_w]; rw [c13b0]) | skip)
          have H' := Aside0.mk H
          clear H
          go_wp2_with (first | ((with_reducible refine gate_callee (f := 12) rfl ?_); refine goesL_ (some 31) rfl rfl Try.func12 (by kernel_rfl) rfl #[.int .i64 a0, .int .u32 t119] rfl (by (try simp only [List.map_toArray, List.map_cons, List.map_nil]); first | done | rfl | (simp only [List.length_drop, List.length_take]; rfl)) ?_; (with_reducible refine (lap_Slot_uint32.calls a0 t119 t122 _ A11.out).mono ?_); rintro e w' ⟨rfl, ⟨nd, rfl⟩⟩; refine ⟨_, rfl, ?_⟩) | ((with_reducible refine gate_callee (f := 12) rfl ?_); refine goesL_ (some 34) rfl rfl Try.func12 (by kernel_rfl) rfl #[.int .i64 a0, .int .u32 t120] rfl (by (try simp only [List.map_toArray, List.map_cons, List.map_nil]); first | done | rfl | (simp only [List.length_drop, List.length_take]; rfl)) ?_; (with_reducible refine (lap_Slot_uint32.calls a0 t120 t123 _ A12.out).mono ?_); rintro e w' ⟨rfl, ⟨nd, rfl⟩⟩; refine ⟨_, rfl, ?_⟩))
          go_meet
          case rel => exact ⟨_, (true), (by first | rfl | (simp; done) | (simp [*]; done)), H', ⟨by first | omega | exact Nat.le_refl _⟩, by repeat (first | exact Drawn0.refl _ | apply Drawn0.step)⟩
        · rw [if_neg c13] at H
          have c13b0 : ((t122 == t123) != ((Int.tmod (wrap64 (a2)) a0) == 0)) = false := by simpa using c13
          (try (have c13b1 : decide ((t122 == t123) = ((Int.tmod (wrap64 (a2)) a0) == 0)) = true := by simpa using c13))
          (try (have c13b2 : ((t122 == t123) == ((Int.tmod (wrap64 (a2)) a0) == 0)) = true := by simpa using c13))
          clear c13
          (first | rw [c13b0] | (simp only [i64_w, i32_w]; rw [c13b0]) | skip)
          replace H := Option.bind_eq_some_iff.mp H
          obtain ⟨t124, A140, H⟩ := H
          replace H : ((lap_Slot_uint64.f a0 t121).bind fun t125 => (sakialaw02_LapApart.j0 k a0 a1 t119 ((t124 == t125) != ((Int.tmod (wrap64 (a2)) a0) == 0)))) = some r := H
          have A14 := Aside0.mk A140
          clear A140
          replace H := Option.bind_eq_some_iff.mp H
          obtain ⟨t125, A150, H⟩ := H
          replace H : (sakialaw02_LapApart.j0 k a0 a1 t119 ((t124 == t125) != ((Int.tmod (wrap64 (a2)) a0) == 0))) = some r := H
          have A15 := Aside0.mk A150
          clear A150
          have H' := Aside0.mk H
          clear H
          go_wp2_with (first | ((with_reducible refine gate_callee (f := 12) rfl ?_); refine goesL_ (some 31) rfl rfl Try.func12 (by kernel_rfl) rfl #[.int .i64 a0, .int .u32 t119] rfl (by (try simp only [List.map_toArray, List.map_cons, List.map_nil]); first | done | rfl | (simp only [List.length_drop, List.length_take]; rfl)) ?_; (with_reducible refine (lap_Slot_uint32.calls a0 t119 t122 _ A11.out).mono ?_); rintro e w' ⟨rfl, ⟨nd, rfl⟩⟩; refine ⟨_, rfl, ?_⟩) | ((with_reducible refine gate_callee (f := 12) rfl ?_); refine goesL_ (some 34) rfl rfl Try.func12 (by kernel_rfl) rfl #[.int .i64 a0, .int .u32 t120] rfl (by (try simp only [List.map_toArray, List.map_cons, List.map_nil]); first | done | rfl | (simp only [List.length_drop, List.length_take]; rfl)) ?_; (with_reducible refine (lap_Slot_uint32.calls a0 t120 t123 _ A12.out).mono ?_); rintro e w' ⟨rfl, ⟨nd, rfl⟩⟩; refine ⟨_, rfl, ?_⟩) | (go_at_call 13; (with_reducible refine (lap_Slot_uint64.calls a0 a1 t124 _ A14.out).mono ?_); rintro e w' ⟨rfl, ⟨nd, rfl⟩⟩) | (go_at_call 13; (with_reducible refine (lap_Slot_uint64.calls a0 t121 t125 _ A15.out).mono ?_); rintro e w' ⟨rfl, ⟨nd, rfl⟩⟩))
          go_meet
          case rel => exact ⟨_, (((t124 == t125) != ((Int.tmod (wrap64 (a2)) a0) == 0))), (by first | rfl | (simp; done) | (simp [*]; done)), H', ⟨by first | omega | exact Nat.le_refl _⟩, by repeat (first | exact Drawn0.refl _ | apply Drawn0.step)⟩
      case rest =>
        clear HC10
        try clear c1
        try clear p2
        try clear c3
        try clear c5
        try clear p6
        try clear c7
        try clear c7b0
        try clear c7b1
        try clear c9
        try clear c10
        try clear c11
        try clear c12
        try clear c13
        try clear c13b0
        try clear c13b1
        try clear c13b2
        obtain ⟨kq, x50_9, rfl, HA, HJ9, ⟨mc9, rfl⟩⟩ := hcut
        cases kq with
        | zero => exact absurd HA.out (by simp [sakialaw02_LapApart.j0])
        | succ kj9 =>
          have H := HA.out
          clear HA
          simp only [sakialaw02_LapApart.j0] at H
          by_cases c16 : x50_9 = true
          · subst c16
            have H1 : (some false) = some r := by rw [if_pos rfl] at H; exact H
            clear H
            have H := H1
            clear H1
            obtain rfl := Option.some.inj H
            go_wp2
            go_ret
            exact ⟨by first | rfl | (simp; done) | (simp [*]; done), by repeat (first | exact Drawn0.refl _ | apply Drawn0.step)⟩
          · replace c16 := Bool.eq_false_iff.mpr c16
            subst c16
            have H1 : ((lap_Next_uint32.f a0 t119).bind fun t126 => ((lap_Next_uint64.f a0 a1).bind fun t127 => ((lap_Slot_uint32.f a0 t126).bind fun t128 => ((lap_Slot_uint32.f a0 t119).bind fun t129 => (if t128 = t129 then ((lap_Round_uint32.f kj9 a0 t126).bind fun t130 => ((lap_Round_uint32.f kj9 a0 t119).bind fun t131 => (if t130 = t131 then (some false) else ((lap_Slot_uint64.f a0 t127).bind fun t132 => ((lap_Slot_uint64.f a0 a1).bind fun t133 => (if t132 = t133 then ((lap_Round_uint64.f kj9 a0 t127).bind fun t134 => ((lap_Round_uint64.f kj9 a0 a1).bind fun t135 => (if t134 = t135 then (some false) else ((sakialaw02_live.f kj9).bind fun t136 => (some t136))))) else (some false))))))) else (some false)))))) = some r := by rw [if_neg (show ¬ (false = true) by decide)] at H; exact H
            clear H
            have H := H1
            clear H1
            replace H := Option.bind_eq_some_iff.mp H
            obtain ⟨t126, A170, H⟩ := H
            replace H : ((lap_Next_uint64.f a0 a1).bind fun t127 => ((lap_Slot_uint32.f a0 t126).bind fun t128 => ((lap_Slot_uint32.f a0 t119).bind fun t129 => (if t128 = t129 then ((lap_Round_uint32.f kj9 a0 t126).bind fun t130 => ((lap_Round_uint32.f kj9 a0 t119).bind fun t131 => (if t130 = t131 then (some false) else ((lap_Slot_uint64.f a0 t127).bind fun t132 => ((lap_Slot_uint64.f a0 a1).bind fun t133 => (if t132 = t133 then ((lap_Round_uint64.f kj9 a0 t127).bind fun t134 => ((lap_Round_uint64.f kj9 a0 a1).bind fun t135 => (if t134 = t135 then (some false) else ((sakialaw02_live.f kj9).bind fun t136 => (some t136))))) else (some false))))))) else (some false))))) = some r := H
            have A17 := Aside0.mk A170
            clear A170
            replace H := Option.bind_eq_some_iff.mp H
            obtain ⟨t127, A180, H⟩ := H
            replace H : ((lap_Slot_uint32.f a0 t126).bind fun t128 => ((lap_Slot_uint32.f a0 t119).bind fun t129 => (if t128 = t129 then ((lap_Round_uint32.f kj9 a0 t126).bind fun t130 => ((lap_Round_uint32.f kj9 a0 t119).bind fun t131 => (if t130 = t131 then (some false) else ((lap_Slot_uint64.f a0 t127).bind fun t132 => ((lap_Slot_uint64.f a0 a1).bind fun t133 => (if t132 = t133 then ((lap_Round_uint64.f kj9 a0 t127).bind fun t134 => ((lap_Round_uint64.f kj9 a0 a1).bind fun t135 => (if t134 = t135 then (some false) else ((sakialaw02_live.f kj9).bind fun t136 => (some t136))))) else (some false))))))) else (some false)))) = some r := H
            have A18 := Aside0.mk A180
            clear A180
            replace H := Option.bind_eq_some_iff.mp H
            obtain ⟨t128, A190, H⟩ := H
            replace H : ((lap_Slot_uint32.f a0 t119).bind fun t129 => (if t128 = t129 then ((lap_Round_uint32.f kj9 a0 t126).bind fun t130 => ((lap_Round_uint32.f kj9 a0 t119).bind fun t131 => (if t130 = t131 then (some false) else ((lap_Slot_uint64.f a0 t127).bind fun t132 => ((lap_Slot_uint64.f a0 a1).bind fun t133 => (if t132 = t133 then ((lap_Round_uint64.f kj9 a0 t127).bind fun t134 => ((lap_Round_uint64.f kj9 a0 a1).bind fun t135 => (if t134 = t135 then (some false) else ((sakialaw02_live.f kj9).bind fun t136 => (some t136))))) else (some false))))))) else (some false))) = some r := H
            have A19 := Aside0.mk A190
            clear A190
            replace H := Option.bind_eq_some_iff.mp H
            obtain ⟨t129, A200, H⟩ := H
            replace H : (if t128 = t129 then ((lap_Round_uint32.f kj9 a0 t126).bind fun t130 => ((lap_Round_uint32.f kj9 a0 t119).bind fun t131 => (if t130 = t131 then (some false) else ((lap_Slot_uint64.f a0 t127).bind fun t132 => ((lap_Slot_uint64.f a0 a1).bind fun t133 => (if t132 = t133 then ((lap_Round_uint64.f kj9 a0 t127).bind fun t134 => ((lap_Round_uint64.f kj9 a0 a1).bind fun t135 => (if t134 = t135 then (some false) else ((sakialaw02_live.f kj9).bind fun t136 => (some t136))))) else (some false))))))) else (some false)) = some r := H
            have A20 := Aside0.mk A200
            clear A200
            by_cases c21 : t128 = t129
            · rw [if_pos c21] at H
              have c21b0 : (t128 == t129) = true := beq_iff_eq.mpr c21
              have c21b1 : (t128 != t129) = false := bne_eq_false_iff_eq.mpr c21
              clear c21
              replace H := Option.bind_eq_some_iff.mp H
              obtain ⟨t130, A220, H⟩ := H
              replace H : ((lap_Round_uint32.f kj9 a0 t119).bind fun t131 => (if t130 = t131 then (some false) else ((lap_Slot_uint64.f a0 t127).bind fun t132 => ((lap_Slot_uint64.f a0 a1).bind fun t133 => (if t132 = t133 then ((lap_Round_uint64.f kj9 a0 t127).bind fun t134 => ((lap_Round_uint64.f kj9 a0 a1).bind fun t135 => (if t134 = t135 then (some false) else ((sakialaw02_live.f kj9).bind fun t136 => (some t136))))) else (some false)))))) = some r := H
              have A22 := Aside0.mk A220
              clear A220
              replace H := Option.bind_eq_some_iff.mp H
              obtain ⟨t131, A230, H⟩ := H
              replace H : (if t130 = t131 then (some false) else ((lap_Slot_uint64.f a0 t127).bind fun t132 => ((lap_Slot_uint64.f a0 a1).bind fun t133 => (if t132 = t133 then ((lap_Round_uint64.f kj9 a0 t127).bind fun t134 => ((lap_Round_uint64.f kj9 a0 a1).bind fun t135 => (if t134 = t135 then (some false) else ((sakialaw02_live.f kj9).bind fun t136 => (some t136))))) else (some false))))) = some r := H
              have A23 := Aside0.mk A230
              clear A230
              by_cases c24 : t130 = t131
              · rw [if_pos c24] at H
                have c24b0 : (t130 == t131) = true := beq_iff_eq.mpr c24
                have c24b1 : (t130 != t131) = false := bne_eq_false_iff_eq.mpr c24
                clear c24
                obtain rfl := Option.some.inj H
                go_wp2_with (first | ((with_reducible refine gate_callee (f := 14) rfl ?_); refine goesL_ (some 53) rfl rfl Try.func14 (by kernel_rfl) rfl #[.int .i64 a0, .int .u32 t119] rfl (by (try simp only [List.map_toArray, List.map_cons, List.map_nil]); first | done | rfl | (simp only [List.length_drop, List.length_take]; rfl)) ?_; (with_reducible refine (lap_Next_uint32.calls a0 t119 t126 _ A17.out).mono ?_); rintro e w' ⟨rfl, ⟨nd, rfl⟩⟩; refine ⟨_, rfl, ?_⟩) | ((with_reducible refine gate_callee (f := 15) rfl ?_); refine goesL_ (some 56) rfl rfl Try.func15 (by kernel_rfl) rfl #[.int .i64 a0, .int .u64 a1] rfl (by (try simp only [List.map_toArray, List.map_cons, List.map_nil]); first | done | rfl | (simp only [List.length_drop, List.length_take]; rfl)) ?_; (with_reducible refine (lap_Next_uint64.calls a0 a1 t127 _ A18.out).mono ?_); rintro e w' ⟨rfl, ⟨nd, rfl⟩⟩; refine ⟨_, rfl, ?_⟩) | ((with_reducible refine gate_callee (f := 12) rfl ?_); refine goesL_ (some 59) rfl rfl Try.func12 (by kernel_rfl) rfl #[.int .i64 a0, .int .u32 t126] rfl (by (try simp only [List.map_toArray, List.map_cons, List.map_nil]); first | done | rfl | (simp only [List.length_drop, List.length_take]; rfl)) ?_; (with_reducible refine (lap_Slot_uint32.calls a0 t126 t128 _ A19.out).mono ?_); rintro e w' ⟨rfl, ⟨nd, rfl⟩⟩; refine ⟨_, rfl, ?_⟩) | ((with_reducible refine gate_callee (f := 12) rfl ?_); refine goesL_ (some 62) rfl rfl Try.func12 (by kernel_rfl) rfl #[.int .i64 a0, .int .u32 t119] rfl (by (try simp only [List.map_toArray, List.map_cons, List.map_nil]); first | done | rfl | (simp only [List.length_drop, List.length_take]; rfl)) ?_; (with_reducible refine (lap_Slot_uint32.calls a0 t119 t129 _ A20.out).mono ?_); rintro e w' ⟨rfl, ⟨nd, rfl⟩⟩; refine ⟨_, rfl, ?_⟩) | (go_at_call 16; (with_reducible refine (lap_Round_uint32.calls kj9 a0 t126 t130 _ A22.out).mono ?_); rintro e w' ⟨rfl, ⟨nd, rfl⟩⟩) | (go_at_call 16; (with_reducible refine (lap_Round_uint32.calls kj9 a0 t119 t131 _ A23.out).mono ?_); rintro e w' ⟨rfl, ⟨nd, rfl⟩⟩))
                go_ret
                exact ⟨by first | rfl | (simp; done) | (simp [*]; done), by repeat (first | exact Drawn0.refl _ | apply Drawn0.step)⟩
              · rw [if_neg c24] at H
                have c24b0 : (t130 == t131) = false := beq_eq_false_iff_ne.mpr c24
                have c24b1 : (t130 != t131) = true := bne_iff_ne.mpr c24
                replace H := Option.bind_eq_some_iff.mp H
                obtain ⟨t132, A250, H⟩ := H
                replace H : ((lap_Slot_uint64.f a0 a1).bind fun t133 => (if t132 = t133 then ((lap_Round_uint64.f kj9 a0 t127).bind fun t134 => ((lap_Round_uint64.f kj9 a0 a1).bind fun t135 => (if t134 = t135 then (some false) else ((sakialaw02_live.f kj9).bind fun t136 => (some t136))))) else (some false))) = some r := H
                have A25 := Aside0.mk A250
                clear A250
                replace H := Option.bind_eq_some_iff.mp H
                obtain ⟨t133, A260, H⟩ := H
                replace H : (if t132 = t133 then ((lap_Round_uint64.f kj9 a0 t127).bind fun t134 => ((lap_Round_uint64.f kj9 a0 a1).bind fun t135 => (if t134 = t135 then (some false) else ((sakialaw02_live.f kj9).bind fun t136 => (some t136))))) else (some false)) = some r := H
                have A26 := Aside0.mk A260
                clear A260
                by_cases c27 : t132 = t133
                · rw [if_pos c27] at H
                  have c27b0 : (t132 == t133) = true := beq_iff_eq.mpr c27
                  have c27b1 : (t132 != t133) = false := bne_eq_false_iff_eq.mpr c27
                  clear c27
                  replace H := Option.bind_eq_some_iff.mp H
                  obtain ⟨t134, A280, H⟩ := H
                  replace H : ((lap_Round_uint64.f kj9 a0 a1).bind fun t135 => (if t134 = t135 then (some false) else ((sakialaw02_live.f kj9).bind fun t136 => (some t136)))) = some r := H
                  have A28 := Aside0.mk A280
                  clear A280
                  replace H := Option.bind_eq_some_iff.mp H
                  obtain ⟨t135, A290, H⟩ := H
                  replace H : (if t134 = t135 then (some false) else ((sakialaw02_live.f kj9).bind fun t136 => (some t136))) = some r := H
                  have A29 := Aside0.mk A290
                  clear A290
                  by_cases c30 : t134 = t135
                  · rw [if_pos c30] at H
                    have c30b0 : (t134 == t135) = true := beq_iff_eq.mpr c30
                    have c30b1 : (t134 != t135) = false := bne_eq_false_iff_eq.mpr c30
                    clear c30
                    obtain rfl := Option.some.inj H
                    go_wp2_with (first | ((with_reducible refine gate_callee (f := 14) rfl ?_); refine goesL_ (some 53) rfl rfl Try.func14 (by kernel_rfl) rfl #[.int .i64 a0, .int .u32 t119] rfl (by (try simp only [List.map_toArray, List.map_cons, List.map_nil]); first | done | rfl | (simp only [List.length_drop, List.length_take]; rfl)) ?_; (with_reducible refine (lap_Next_uint32.calls a0 t119 t126 _ A17.out).mono ?_); rintro e w' ⟨rfl, ⟨nd, rfl⟩⟩; refine ⟨_, rfl, ?_⟩) | ((with_reducible refine gate_callee (f := 15) rfl ?_); refine goesL_ (some 56) rfl rfl Try.func15 (by kernel_rfl) rfl #[.int .i64 a0, .int .u64 a1] rfl (by (try simp only [List.map_toArray, List.map_cons, List.map_nil]); first | done | rfl | (simp only [List.length_drop, List.length_take]; rfl)) ?_; (with_reducible refine (lap_Next_uint64.calls a0 a1 t127 _ A18.out).mono ?_); rintro e w' ⟨rfl, ⟨nd, rfl⟩⟩; refine ⟨_, rfl, ?_⟩) | ((with_reducible refine gate_callee (f := 12) rfl ?_); refine goesL_ (some 59) rfl rfl Try.func12 (by kernel_rfl) rfl #[.int .i64 a0, .int .u32 t126] rfl (by (try simp only [List.map_toArray, List.map_cons, List.map_nil]); first | done | rfl | (simp only [List.length_drop, List.length_take]; rfl)) ?_; (with_reducible refine (lap_Slot_uint32.calls a0 t126 t128 _ A19.out).mono ?_); rintro e w' ⟨rfl, ⟨nd, rfl⟩⟩; refine ⟨_, rfl, ?_⟩) | ((with_reducible refine gate_callee (f := 12) rfl ?_); refine goesL_ (some 62) rfl rfl Try.func12 (by kernel_rfl) rfl #[.int .i64 a0, .int .u32 t119] rfl (by (try simp only [List.map_toArray, List.map_cons, List.map_nil]); first | done | rfl | (simp only [List.length_drop, List.length_take]; rfl)) ?_; (with_reducible refine (lap_Slot_uint32.calls a0 t119 t129 _ A20.out).mono ?_); rintro e w' ⟨rfl, ⟨nd, rfl⟩⟩; refine ⟨_, rfl, ?_⟩) | (go_at_call 16; (with_reducible refine (lap_Round_uint32.calls kj9 a0 t126 t130 _ A22.out).mono ?_); rintro e w' ⟨rfl, ⟨nd, rfl⟩⟩) | (go_at_call 16; (with_reducible refine (lap_Round_uint32.calls kj9 a0 t119 t131 _ A23.out).mono ?_); rintro e w' ⟨rfl, ⟨nd, rfl⟩⟩) | (go_at_call 13; (with_reducible refine (lap_Slot_uint64.calls a0 t127 t132 _ A25.out).mono ?_); rintro e w' ⟨rfl, ⟨nd, rfl⟩⟩) | (go_at_call 13; (with_reducible refine (lap_Slot_uint64.calls a0 a1 t133 _ A26.out).mono ?_); rintro e w' ⟨rfl, ⟨nd, rfl⟩⟩) | (go_at_call 17; (with_reducible refine (lap_Round_uint64.calls kj9 a0 t127 t134 _ A28.out).mono ?_); rintro e w' ⟨rfl, ⟨nd, rfl⟩⟩) | (go_at_call 17; (with_reducible refine (lap_Round_uint64.calls kj9 a0 a1 t135 _ A29.out).mono ?_); rintro e w' ⟨rfl, ⟨nd, rfl⟩⟩))
                    go_ret
                    exact ⟨by first | rfl | (simp; done) | (simp [*]; done), by repeat (first | exact Drawn0.refl _ | apply Drawn0.step)⟩
                  · rw [if_neg c30] at H
                    have c30b0 : (t134 == t135) = false := beq_eq_false_iff_ne.mpr c30
                    have c30b1 : (t134 != t135) = true := bne_iff_ne.mpr c30
                    replace H := Option.bind_eq_some_iff.mp H
                    obtain ⟨t136, A310, H⟩ := H
                    replace H : (some t136) = some r := H
                    have A31 := Aside0.mk A310
                    clear A310
                    obtain rfl := Option.some.inj H
                    go_wp2_with (first | ((with_reducible refine gate_callee (f := 14) rfl ?_); refine goesL_ (some 53) rfl rfl Try.func14 (by kernel_rfl) rfl #[.int .i64 a0, .int .u32 t119] rfl (by (try simp only [List.map_toArray, List.map_cons, List.map_nil]); first | done | rfl | (simp only [List.length_drop, List.length_take]; rfl)) ?_; (with_reducible refine (lap_Next_uint32.calls a0 t119 t126 _ A17.out).mono ?_); rintro e w' ⟨rfl, ⟨nd, rfl⟩⟩; refine ⟨_, rfl, ?_⟩) | ((with_reducible refine gate_callee (f := 15) rfl ?_); refine goesL_ (some 56) rfl rfl Try.func15 (by kernel_rfl) rfl #[.int .i64 a0, .int .u64 a1] rfl (by (try simp only [List.map_toArray, List.map_cons, List.map_nil]); first | done | rfl | (simp only [List.length_drop, List.length_take]; rfl)) ?_; (with_reducible refine (lap_Next_uint64.calls a0 a1 t127 _ A18.out).mono ?_); rintro e w' ⟨rfl, ⟨nd, rfl⟩⟩; refine ⟨_, rfl, ?_⟩) | ((with_reducible refine gate_callee (f := 12) rfl ?_); refine goesL_ (some 59) rfl rfl Try.func12 (by kernel_rfl) rfl #[.int .i64 a0, .int .u32 t126] rfl (by (try simp only [List.map_toArray, List.map_cons, List.map_nil]); first | done | rfl | (simp only [List.length_drop, List.length_take]; rfl)) ?_; (with_reducible refine (lap_Slot_uint32.calls a0 t126 t128 _ A19.out).mono ?_); rintro e w' ⟨rfl, ⟨nd, rfl⟩⟩; refine ⟨_, rfl, ?_⟩) | ((with_reducible refine gate_callee (f := 12) rfl ?_); refine goesL_ (some 62) rfl rfl Try.func12 (by kernel_rfl) rfl #[.int .i64 a0, .int .u32 t119] rfl (by (try simp only [List.map_toArray, List.map_cons, List.map_nil]); first | done | rfl | (simp only [List.length_drop, List.length_take]; rfl)) ?_; (with_reducible refine (lap_Slot_uint32.calls a0 t119 t129 _ A20.out).mono ?_); rintro e w' ⟨rfl, ⟨nd, rfl⟩⟩; refine ⟨_, rfl, ?_⟩) | (go_at_call 16; (with_reducible refine (lap_Round_uint32.calls kj9 a0 t126 t130 _ A22.out).mono ?_); rintro e w' ⟨rfl, ⟨nd, rfl⟩⟩) | (go_at_call 16; (with_reducible refine (lap_Round_uint32.calls kj9 a0 t119 t131 _ A23.out).mono ?_); rintro e w' ⟨rfl, ⟨nd, rfl⟩⟩) | (go_at_call 13; (with_reducible refine (lap_Slot_uint64.calls a0 t127 t132 _ A25.out).mono ?_); rintro e w' ⟨rfl, ⟨nd, rfl⟩⟩) | (go_at_call 13; (with_reducible refine (lap_Slot_uint64.calls a0 a1 t133 _ A26.out).mono ?_); rintro e w' ⟨rfl, ⟨nd, rfl⟩⟩) | (go_at_call 17; (with_reducible refine (lap_Round_uint64.calls kj9 a0 t127 t134 _ A28.out).mono ?_); rintro e w' ⟨rfl, ⟨nd, rfl⟩⟩) | (go_at_call 17; (with_reducible refine (lap_Round_uint64.calls kj9 a0 a1 t135 _ A29.out).mono ?_); rintro e w' ⟨rfl, ⟨nd, rfl⟩⟩) | (go_at_call 8; (with_reducible refine (sakialaw02_live.calls kj9  t136 _ A31.out).mono ?_); rintro e w' ⟨rfl, ⟨nd, rfl⟩⟩))
                    go_ret
                    exact ⟨by first | rfl | (simp; done) | (simp [*]; done), by repeat (first | exact Drawn0.refl _ | apply Drawn0.step)⟩
                · rw [if_neg c27] at H
                  have c27b0 : (t132 == t133) = false := beq_eq_false_iff_ne.mpr c27
                  have c27b1 : (t132 != t133) = true := bne_iff_ne.mpr c27
                  obtain rfl := Option.some.inj H
                  go_wp2_with (first | ((with_reducible refine gate_callee (f := 14) rfl ?_); refine goesL_ (some 53) rfl rfl Try.func14 (by kernel_rfl) rfl #[.int .i64 a0, .int .u32 t119] rfl (by (try simp only [List.map_toArray, List.map_cons, List.map_nil]); first | done | rfl | (simp only [List.length_drop, List.length_take]; rfl)) ?_; (with_reducible refine (lap_Next_uint32.calls a0 t119 t126 _ A17.out).mono ?_); rintro e w' ⟨rfl, ⟨nd, rfl⟩⟩; refine ⟨_, rfl, ?_⟩) | ((with_reducible refine gate_callee (f := 15) rfl ?_); refine goesL_ (some 56) rfl rfl Try.func15 (by kernel_rfl) rfl #[.int .i64 a0, .int .u64 a1] rfl (by (try simp only [List.map_toArray, List.map_cons, List.map_nil]); first | done | rfl | (simp only [List.length_drop, List.length_take]; rfl)) ?_; (with_reducible refine (lap_Next_uint64.calls a0 a1 t127 _ A18.out).mono ?_); rintro e w' ⟨rfl, ⟨nd, rfl⟩⟩; refine ⟨_, rfl, ?_⟩) | ((with_reducible refine gate_callee (f := 12) rfl ?_); refine goesL_ (some 59) rfl rfl Try.func12 (by kernel_rfl) rfl #[.int .i64 a0, .int .u32 t126] rfl (by (try simp only [List.map_toArray, List.map_cons, List.map_nil]); first | done | rfl | (simp only [List.length_drop, List.length_take]; rfl)) ?_; (with_reducible refine (lap_Slot_uint32.calls a0 t126 t128 _ A19.out).mono ?_); rintro e w' ⟨rfl, ⟨nd, rfl⟩⟩; refine ⟨_, rfl, ?_⟩) | ((with_reducible refine gate_callee (f := 12) rfl ?_); refine goesL_ (some 62) rfl rfl Try.func12 (by kernel_rfl) rfl #[.int .i64 a0, .int .u32 t119] rfl (by (try simp only [List.map_toArray, List.map_cons, List.map_nil]); first | done | rfl | (simp only [List.length_drop, List.length_take]; rfl)) ?_; (with_reducible refine (lap_Slot_uint32.calls a0 t119 t129 _ A20.out).mono ?_); rintro e w' ⟨rfl, ⟨nd, rfl⟩⟩; refine ⟨_, rfl, ?_⟩) | (go_at_call 16; (with_reducible refine (lap_Round_uint32.calls kj9 a0 t126 t130 _ A22.out).mono ?_); rintro e w' ⟨rfl, ⟨nd, rfl⟩⟩) | (go_at_call 16; (with_reducible refine (lap_Round_uint32.calls kj9 a0 t119 t131 _ A23.out).mono ?_); rintro e w' ⟨rfl, ⟨nd, rfl⟩⟩) | (go_at_call 13; (with_reducible refine (lap_Slot_uint64.calls a0 t127 t132 _ A25.out).mono ?_); rintro e w' ⟨rfl, ⟨nd, rfl⟩⟩) | (go_at_call 13; (with_reducible refine (lap_Slot_uint64.calls a0 a1 t133 _ A26.out).mono ?_); rintro e w' ⟨rfl, ⟨nd, rfl⟩⟩))
                  go_ret
                  exact ⟨by first | rfl | (simp; done) | (simp [*]; done), by repeat (first | exact Drawn0.refl _ | apply Drawn0.step)⟩
            · rw [if_neg c21] at H
              have c21b0 : (t128 == t129) = false := beq_eq_false_iff_ne.mpr c21
              have c21b1 : (t128 != t129) = true := bne_iff_ne.mpr c21
              obtain rfl := Option.some.inj H
              go_wp2_with (first | ((with_reducible refine gate_callee (f := 14) rfl ?_); refine goesL_ (some 53) rfl rfl Try.func14 (by kernel_rfl) rfl #[.int .i64 a0, .int .u32 t119] rfl (by (try simp only [List.map_toArray, List.map_cons, List.map_nil]); first | done | rfl | (simp only [List.length_drop, List.length_take]; rfl)) ?_; (with_reducible refine (lap_Next_uint32.calls a0 t119 t126 _ A17.out).mono ?_); rintro e w' ⟨rfl, ⟨nd, rfl⟩⟩; refine ⟨_, rfl, ?_⟩) | ((with_reducible refine gate_callee (f := 15) rfl ?_); refine goesL_ (some 56) rfl rfl Try.func15 (by kernel_rfl) rfl #[.int .i64 a0, .int .u64 a1] rfl (by (try simp only [List.map_toArray, List.map_cons, List.map_nil]); first | done | rfl | (simp only [List.length_drop, List.length_take]; rfl)) ?_; (with_reducible refine (lap_Next_uint64.calls a0 a1 t127 _ A18.out).mono ?_); rintro e w' ⟨rfl, ⟨nd, rfl⟩⟩; refine ⟨_, rfl, ?_⟩) | ((with_reducible refine gate_callee (f := 12) rfl ?_); refine goesL_ (some 59) rfl rfl Try.func12 (by kernel_rfl) rfl #[.int .i64 a0, .int .u32 t126] rfl (by (try simp only [List.map_toArray, List.map_cons, List.map_nil]); first | done | rfl | (simp only [List.length_drop, List.length_take]; rfl)) ?_; (with_reducible refine (lap_Slot_uint32.calls a0 t126 t128 _ A19.out).mono ?_); rintro e w' ⟨rfl, ⟨nd, rfl⟩⟩; refine ⟨_, rfl, ?_⟩) | ((with_reducible refine gate_callee (f := 12) rfl ?_); refine goesL_ (some 62) rfl rfl Try.func12 (by kernel_rfl) rfl #[.int .i64 a0, .int .u32 t119] rfl (by (try simp only [List.map_toArray, List.map_cons, List.map_nil]); first | done | rfl | (simp only [List.length_drop, List.length_take]; rfl)) ?_; (with_reducible refine (lap_Slot_uint32.calls a0 t119 t129 _ A20.out).mono ?_); rintro e w' ⟨rfl, ⟨nd, rfl⟩⟩; refine ⟨_, rfl, ?_⟩))
              go_ret
              exact ⟨by first | rfl | (simp; done) | (simp [*]; done), by repeat (first | exact Drawn0.refl _ | apply Drawn0.step)⟩
  · replace c5 := Bool.eq_false_iff.mpr c5
    subst c5
    have H1 : ((sakialaw02_live.f k).bind fun t118 => (some t118)) = some r := by rw [if_neg (show ¬ (false = true) by decide)] at H; exact H
    clear H
    have H := H1
    clear H1
    replace H := Option.bind_eq_some_iff.mp H
    obtain ⟨t118, A320, H⟩ := H
    replace H : (some t118) = some r := H
    have A32 := Aside0.mk A320
    clear A320
    obtain rfl := Option.some.inj H
    go_enter Try.func3, Try.ntmps3
    go_wp2_with (first | ((with_reducible refine gate_callee (f := 7) rfl ?_); refine goesL_ (some 14) rfl rfl Try.func7 (by kernel_rfl) rfl #[.int .i64 a0] rfl (by (try simp only [List.map_toArray, List.map_cons, List.map_nil]); first | done | rfl | (simp only [List.length_drop, List.length_take]; rfl)) ?_; (with_reducible refine (sakiaref02_Right.calls k a0 false _ A4.out).mono ?_); rintro e w' ⟨rfl, ⟨nd, rfl⟩⟩; refine ⟨_, rfl, ?_⟩) | ((with_reducible refine gate_callee (f := 8) rfl ?_); refine goesL_ (some 16) rfl rfl Try.func8 (by kernel_rfl) rfl #[] rfl (by (try simp only [List.map_toArray, List.map_cons, List.map_nil]); first | done | rfl | (simp only [List.length_drop, List.length_take]; rfl)) ?_; (with_reducible refine (sakialaw02_live.calls k  t118 _ A32.out).mono ?_); rintro e w' ⟨rfl, ⟨nd, rfl⟩⟩; refine ⟨_, rfl, ?_⟩))
    go_ret
    exact ⟨by first | rfl | (simp; done) | (simp [*]; done), by repeat (first | exact Drawn0.refl _ | apply Drawn0.step)⟩

/-- THE ONE PURE STATEMENT of sakialaw02_LapApart: yours. -/
def sakialaw02_LapApart.Pure : Prop := ∀ (a0 : Int) (a1 : Int) (a2 : Int), (Lit.int .i64 a0).wf = true → (Lit.int .u64 a1).wf = true → (Lit.int .u32 a2).wf = true → ∃ k, sakialaw02_LapApart.f k a0 a1 a2 = some true
theorem sakialaw02_LapApart.walk (P : sakialaw02_LapApart.Pure) (a0 : Int) (a1 : Int) (a2 : Int) (w : World) (w0 : (Lit.int .i64 a0).wf = true) (w1 : (Lit.int .u64 a1).wf = true) (w2 : (Lit.int .u32 a2).wf = true) :
    Calls Try.prog 3 #[.int .i64 a0, .int .u64 a1, .int .u32 a2] w fun e w' => e = .returned (.bool true) ∧ Below w.heap.size w w' := by
  obtain ⟨k, h⟩ := P a0 a1 a2 w0 w1 w2
  refine (sakialaw02_LapApart.calls k a0 a1 a2 true w h).mono ?_
  rintro e w' ⟨rfl, hd⟩
  exact ⟨rfl, hd.below⟩

end Go.Proofs.Ytkkmpkgmkokjnaa.PLapApart
