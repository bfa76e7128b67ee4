-- PRINTED BY print.sh 35421559b90ae4d0a3588c463048766b98c2df88dd9212a6774a882060cdf62d: not written by this session
import Derived.Test.YtkkmpkgmkokjnaaPLapBackx0
import Derived.Test.YtkkmpkgmkokjnaaPLapBackx1
namespace Go.Proofs.Ytkkmpkgmkokjnaa.PLapBack
open Go.RowKit Go.Proofs.YtkkmpkgmkokjnaaW.PrintWords Go.Proofs.YtkkmpkgmkokjnaaW.PrintLast Go.Proofs.YtkkmpkgmkokjnaaW.PrintMore
attribute [local go_sem] max2_int min2_int max_two min_two max_three min_three max_four min_four   -- for this text's walks alone
set_option linter.unusedVariables false
set_option linter.unusedSimpArgs false

/-! ### sakialaw02_LapBack: function 5 -/
def sakialaw02_LapBack.f (k : Nat) (a0 : Int) (a1 : Int) : Option (Bool) := (sakiaref02_Right.f k a0).bind fun t120 => (if t120 = true then ((wide_Of_uint32.f a1).bind fun t122 => ((lap_Slot_uint32.f a0 t122).bind fun t123 => ((lap_Round_uint32.f k a0 t122).bind fun t124 => ((lap_At_uint32.f k a0 t123 t124).bind fun t125 => (if t125 = t122 then ((lap_Slot_uint64.f a0 a1).bind fun t126 => ((lap_Round_uint64.f k a0 a1).bind fun t127 => ((lap_At_uint64.f k a0 t126 t127).bind fun t128 => (if t128 = a1 then ((sakialaw02_live.f k).bind fun t129 => (some t129)) else (some false))))) else (some false)))))) else ((sakialaw02_live.f k).bind fun t121 => (some t121)))
theorem sakialaw02_LapBack.mono : ∀ a0 a1 k, LeO (sakialaw02_LapBack.f k a0 a1) (sakialaw02_LapBack.f (k + 1) a0 a1) := by
  intro a0 a1 k
  unfold sakialaw02_LapBack.f
  repeat' first
      | (with_reducible exact lap_At_uint32.mono _ _ _ _)
      | (with_reducible exact lap_At_uint64.mono _ _ _ _)
      | (with_reducible exact lap_Round_uint32.mono _ _ _)
      | (with_reducible exact lap_Round_uint64.mono _ _ _)
      | (with_reducible exact sakialaw02_live.mono _)
      | (with_reducible exact sakiaref02_Right.mono _ _)
      | (with_reducible exact LeO.refl _)
      | (with_reducible exact LeO.none _)
      | (with_reducible refine LeO.ite ?_ ?_)
      | (with_reducible refine LeO.bind ?_ (fun _ => ?_))
      | exact lap_At_uint32.mono _ _ _ _
      | exact lap_At_uint64.mono _ _ _ _
      | exact lap_Round_uint32.mono _ _ _
      | exact lap_Round_uint64.mono _ _ _
      | exact sakialaw02_live.mono _
      | exact sakiaref02_Right.mono _ _
      | exact LeO.none _
      | refine LeO.ite ?_ ?_
      | refine LeO.bind ?_ (fun _ => ?_)
set_option maxHeartbeats 8000000 in
set_option maxRecDepth 100000 in
theorem sakialaw02_LapBack.calls (k : Nat) (a0 : Int) (a1 : Int) (r : Bool) (w : World) (h : sakialaw02_LapBack.f k a0 a1 = some r) :
    Calls Try.prog 5 #[.int .i64 a0, .int .u64 a1] w fun e w' => e = .returned (.bool r) ∧ Drawn0 w w' := by
  have H : ((sakiaref02_Right.f k a0).bind fun t120 => (if t120 = true then ((wide_Of_uint32.f a1).bind fun t122 => ((lap_Slot_uint32.f a0 t122).bind fun t123 => ((lap_Round_uint32.f k a0 t122).bind fun t124 => ((lap_At_uint32.f k a0 t123 t124).bind fun t125 => (if t125 = t122 then ((lap_Slot_uint64.f a0 a1).bind fun t126 => ((lap_Round_uint64.f k a0 a1).bind fun t127 => ((lap_At_uint64.f k a0 t126 t127).bind fun t128 => (if t128 = a1 then ((sakialaw02_live.f k).bind fun t129 => (some t129)) else (some false))))) else (some false)))))) else ((sakialaw02_live.f k).bind fun t121 => (some t121)))) = some r := h
  clear h
  replace H := Option.bind_eq_some_iff.mp H
  obtain ⟨t120, A30, H⟩ := H
  replace H : (if t120 = true then ((wide_Of_uint32.f a1).bind fun t122 => ((lap_Slot_uint32.f a0 t122).bind fun t123 => ((lap_Round_uint32.f k a0 t122).bind fun t124 => ((lap_At_uint32.f k a0 t123 t124).bind fun t125 => (if t125 = t122 then ((lap_Slot_uint64.f a0 a1).bind fun t126 => ((lap_Round_uint64.f k a0 a1).bind fun t127 => ((lap_At_uint64.f k a0 t126 t127).bind fun t128 => (if t128 = a1 then ((sakialaw02_live.f k).bind fun t129 => (some t129)) else (some false))))) else (some false)))))) else ((sakialaw02_live.f k).bind fun t121 => (some t121))) = some r := H
  have A3 := Aside0.mk A30
  clear A30
  by_cases c4 : t120 = true
  · subst c4
    have H1 : ((wide_Of_uint32.f a1).bind fun t122 => ((lap_Slot_uint32.f a0 t122).bind fun t123 => ((lap_Round_uint32.f k a0 t122).bind fun t124 => ((lap_At_uint32.f k a0 t123 t124).bind fun t125 => (if t125 = t122 then ((lap_Slot_uint64.f a0 a1).bind fun t126 => ((lap_Round_uint64.f k a0 a1).bind fun t127 => ((lap_At_uint64.f k a0 t126 t127).bind fun t128 => (if t128 = a1 then ((sakialaw02_live.f k).bind fun t129 => (some t129)) else (some false))))) else (some false)))))) = some r := by rw [if_pos rfl] at H; exact H
    clear H
    have H := H1
    clear H1
    replace H := Option.bind_eq_some_iff.mp H
    obtain ⟨t122, A50, H⟩ := H
    replace H : ((lap_Slot_uint32.f a0 t122).bind fun t123 => ((lap_Round_uint32.f k a0 t122).bind fun t124 => ((lap_At_uint32.f k a0 t123 t124).bind fun t125 => (if t125 = t122 then ((lap_Slot_uint64.f a0 a1).bind fun t126 => ((lap_Round_uint64.f k a0 a1).bind fun t127 => ((lap_At_uint64.f k a0 t126 t127).bind fun t128 => (if t128 = a1 then ((sakialaw02_live.f k).bind fun t129 => (some t129)) else (some false))))) else (some false))))) = some r := H
    have A5 := Aside0.mk A50
    clear A50
    replace H := Option.bind_eq_some_iff.mp H
    obtain ⟨t123, A60, H⟩ := H
    replace H : ((lap_Round_uint32.f k a0 t122).bind fun t124 => ((lap_At_uint32.f k a0 t123 t124).bind fun t125 => (if t125 = t122 then ((lap_Slot_uint64.f a0 a1).bind fun t126 => ((lap_Round_uint64.f k a0 a1).bind fun t127 => ((lap_At_uint64.f k a0 t126 t127).bind fun t128 => (if t128 = a1 then ((sakialaw02_live.f k).bind fun t129 => (some t129)) else (some false))))) else (some false)))) = some r := H
    have A6 := Aside0.mk A60
    clear A60
    replace H := Option.bind_eq_some_iff.mp H
    obtain ⟨t124, A70, H⟩ := H
    replace H : ((lap_At_uint32.f k a0 t123 t124).bind fun t125 => (if t125 = t122 then ((lap_Slot_uint64.f a0 a1).bind fun t126 => ((lap_Round_uint64.f k a0 a1).bind fun t127 => ((lap_At_uint64.f k a0 t126 t127).bind fun t128 => (if t128 = a1 then ((sakialaw02_live.f k).bind fun t129 => (some t129)) else (some false))))) else (some false))) = some r := H
    have A7 := Aside0.mk A70
    clear A70
    replace H := Option.bind_eq_some_iff.mp H
    obtain ⟨t125, A80, H⟩ := H
    replace H : (if t125 = t122 then ((lap_Slot_uint64.f a0 a1).bind fun t126 => ((lap_Round_uint64.f k a0 a1).bind fun t127 => ((lap_At_uint64.f k a0 t126 t127).bind fun t128 => (if t128 = a1 then ((sakialaw02_live.f k).bind fun t129 => (some t129)) else (some false))))) else (some false)) = some r := H
    have A8 := Aside0.mk A80
    clear A80
    by_cases c9 : t125 = t122
    · rw [if_pos c9] at H
      have c9b0 : (t125 == t122) = true := beq_iff_eq.mpr c9
      have c9b1 : (t125 != t122) = false := bne_eq_false_iff_eq.mpr c9
      clear c9
      replace H := Option.bind_eq_some_iff.mp H
      obtain ⟨t126, A100, H⟩ := H
      replace H : ((lap_Round_uint64.f k a0 a1).bind fun t127 => ((lap_At_uint64.f k a0 t126 t127).bind fun t128 => (if t128 = a1 then ((sakialaw02_live.f k).bind fun t129 => (some t129)) else (some false)))) = some r := H
      have A10 := Aside0.mk A100
      clear A100
      replace H := Option.bind_eq_some_iff.mp H
      obtain ⟨t127, A110, H⟩ := H
      replace H : ((lap_At_uint64.f k a0 t126 t127).bind fun t128 => (if t128 = a1 then ((sakialaw02_live.f k).bind fun t129 => (some t129)) else (some false))) = some r := H
      have A11 := Aside0.mk A110
      clear A110
      replace H := Option.bind_eq_some_iff.mp H
      obtain ⟨t128, A120, H⟩ := H
      replace H : (if t128 = a1 then ((sakialaw02_live.f k).bind fun t129 => (some t129)) else (some false)) = some r := H
      have A12 := Aside0.mk A120
      clear A120
      by_cases c13 : t128 = a1
      · rw [if_pos c13] at H
        have c13b0 : (t128 == a1) = true := beq_iff_eq.mpr c13
        have c13b1 : (t128 != a1) = false := bne_eq_false_iff_eq.mpr c13
        clear c13
        replace H := Option.bind_eq_some_iff.mp H
        obtain ⟨t129, A140, H⟩ := H
        replace H : (some t129) = some r := H
        have A14 := Aside0.mk A140
        clear A140
        obtain rfl := Option.some.inj H
        go_enter Try.func5, Try.ntmps5
        go_wp2_with (first | ((with_reducible refine gate_callee (f := 7) rfl ?_); refine goesL_ (some 7) rfl rfl Try.func7 (by kernel_rfl) rfl #[.int .i64 a0] rfl (by (try simp only [List.map_toArray, List.map_cons, List.map_nil]); first | done | rfl | (simp only [List.length_drop, List.length_take]; rfl)) ?_; (with_reducible refine (sakiaref02_Right.calls k a0 true _ A3.out).mono ?_); rintro e w' ⟨rfl, ⟨nd, rfl⟩⟩; refine ⟨_, rfl, ?_⟩) | ((with_reducible refine gate_callee (f := 9) rfl ?_); refine goesL_ (some 11) rfl rfl Try.func9 (by kernel_rfl) rfl #[.int .u64 a1] rfl (by (try simp only [List.map_toArray, List.map_cons, List.map_nil]); first | done | rfl | (simp only [List.length_drop, List.length_take]; rfl)) ?_; (with_reducible refine (wide_Of_uint32.calls a1 t122 _ A5.out).mono ?_); rintro e w' ⟨rfl, ⟨nd, rfl⟩⟩; refine ⟨_, rfl, ?_⟩) | ((with_reducible refine gate_callee (f := 12) rfl ?_); refine goesL_ (some 15) rfl rfl Try.func12 (by kernel_rfl) rfl #[.int .i64 a0, .int .u32 t122] rfl (by (try simp only [List.map_toArray, List.map_cons, List.map_nil]); first | done | rfl | (simp only [List.length_drop, List.length_take]; rfl)) ?_; (with_reducible refine (lap_Slot_uint32.calls a0 t122 t123 _ A6.out).mono ?_); rintro e w' ⟨rfl, ⟨nd, rfl⟩⟩; refine ⟨_, rfl, ?_⟩) | ((with_reducible refine gate_callee (f := 16) rfl ?_); refine goesL_ (some 18) rfl rfl Try.func16 (by kernel_rfl) rfl #[.int .i64 a0, .int .u32 t122] rfl (by (try simp only [List.map_toArray, List.map_cons, List.map_nil]); first | done | rfl | (simp only [List.length_drop, List.length_take]; rfl)) ?_; (with_reducible refine (lap_Round_uint32.calls k a0 t122 t124 _ A7.out).mono ?_); rintro e w' ⟨rfl, ⟨nd, rfl⟩⟩; refine ⟨_, rfl, ?_⟩) | ((with_reducible refine gate_callee (f := 22) rfl ?_); refine goesL_ (some 19) rfl rfl Try.func22 (by kernel_rfl) rfl #[.int .i64 a0, .int .i64 t123, .int .u32 t124] rfl (by (try simp only [List.map_toArray, List.map_cons, List.map_nil]); first | done | rfl | (simp only [List.length_drop, List.length_take]; rfl)) ?_; (with_reducible refine (lap_At_uint32.calls k a0 t123 t124 t125 _ A8.out).mono ?_); rintro e w' ⟨rfl, ⟨nd, rfl⟩⟩; refine ⟨_, rfl, ?_⟩) | (go_at_call 13; (with_reducible refine (lap_Slot_uint64.calls a0 a1 t126 _ A10.out).mono ?_); rintro e w' ⟨rfl, ⟨nd, rfl⟩⟩) | (go_at_call 17; (with_reducible refine (lap_Round_uint64.calls k a0 a1 t127 _ A11.out).mono ?_); rintro e w' ⟨rfl, ⟨nd, rfl⟩⟩) | (go_at_call 23; (with_reducible refine (lap_At_uint64.calls k a0 t126 t127 t128 _ A12.out).mono ?_); rintro e w' ⟨rfl, ⟨nd, rfl⟩⟩) | (go_at_call 8; (with_reducible refine (sakialaw02_live.calls k  t129 _ A14.out).mono ?_); rintro e w' ⟨rfl, ⟨nd, rfl⟩⟩))
        go_ret
        exact ⟨by first | rfl | (simp; done) | (simp [*]; done), by repeat (first | exact Drawn0.refl _ | apply Drawn0.step)⟩
      · rw [if_neg c13] at H
        have c13b0 : (t128 == a1) = false := beq_eq_false_iff_ne.mpr c13
        have c13b1 : (t128 != a1) = true := bne_iff_ne.mpr c13
        obtain rfl := Option.some.inj H
        go_enter Try.func5, Try.ntmps5
        go_wp2_with (first | ((with_reducible refine gate_callee (f := 7) rfl ?_); refine goesL_ (some 7) rfl rfl Try.func7 (by kernel_rfl) rfl #[.int .i64 a0] rfl (by (try simp only [List.map_toArray, List.map_cons, List.map_nil]); first | done | rfl | (simp only [List.length_drop, List.length_take]; rfl)) ?_; (with_reducible refine (sakiaref02_Right.calls k a0 true _ A3.out).mono ?_); rintro e w' ⟨rfl, ⟨nd, rfl⟩⟩; refine ⟨_, rfl, ?_⟩) | ((with_reducible refine gate_callee (f := 9) rfl ?_); refine goesL_ (some 11) rfl rfl Try.func9 (by kernel_rfl) rfl #[.int .u64 a1] rfl (by (try simp only [List.map_toArray, List.map_cons, List.map_nil]); first | done | rfl | (simp only [List.length_drop, List.length_take]; rfl)) ?_; (with_reducible refine (wide_Of_uint32.calls a1 t122 _ A5.out).mono ?_); rintro e w' ⟨rfl, ⟨nd, rfl⟩⟩; refine ⟨_, rfl, ?_⟩) | ((with_reducible refine gate_callee (f := 12) rfl ?_); refine goesL_ (some 15) rfl rfl Try.func12 (by kernel_rfl) rfl #[.int .i64 a0, .int .u32 t122] rfl (by (try simp only [List.map_toArray, List.map_cons, List.map_nil]); first | done | rfl | (simp only [List.length_drop, List.length_take]; rfl)) ?_; (with_reducible refine (lap_Slot_uint32.calls a0 t122 t123 _ A6.out).mono ?_); rintro e w' ⟨rfl, ⟨nd, rfl⟩⟩; refine ⟨_, rfl, ?_⟩) | ((with_reducible refine gate_callee (f := 16) rfl ?_); refine goesL_ (some 18) rfl rfl Try.func16 (by kernel_rfl) rfl #[.int .i64 a0, .int .u32 t122] rfl (by (try simp only [List.map_toArray, List.map_cons, List.map_nil]); first | done | rfl | (simp only [List.length_drop, List.length_take]; rfl)) ?_; (with_reducible refine (lap_Round_uint32.calls k a0 t122 t124 _ A7.out).mono ?_); rintro e w' ⟨rfl, ⟨nd, rfl⟩⟩; refine ⟨_, rfl, ?_⟩) | ((with_reducible refine gate_callee (f := 22) rfl ?_); refine goesL_ (some 19) rfl rfl Try.func22 (by kernel_rfl) rfl #[.int .i64 a0, .int .i64 t123, .int .u32 t124] rfl (by (try simp only [List.map_toArray, List.map_cons, List.map_nil]); first | done | rfl | (simp only [List.length_drop, List.length_take]; rfl)) ?_; (with_reducible refine (lap_At_uint32.calls k a0 t123 t124 t125 _ A8.out).mono ?_); rintro e w' ⟨rfl, ⟨nd, rfl⟩⟩; refine ⟨_, rfl, ?_⟩) | (go_at_call 13; (with_reducible refine (lap_Slot_uint64.calls a0 a1 t126 _ A10.out).mono ?_); rintro e w' ⟨rfl, ⟨nd, rfl⟩⟩) | (go_at_call 17; (with_reducible refine (lap_Round_uint64.calls k a0 a1 t127 _ A11.out).mono ?_); rintro e w' ⟨rfl, ⟨nd, rfl⟩⟩) | (go_at_call 23; (with_reducible refine (lap_At_uint64.calls k a0 t126 t127 t128 _ A12.out).mono ?_); rintro e w' ⟨rfl, ⟨nd, rfl⟩⟩))
        go_ret
        exact ⟨by first | rfl | (simp; done) | (simp [*]; done), by repeat (first | exact Drawn0.refl _ | apply Drawn0.step)⟩
    · rw [if_neg c9] at H
      have c9b0 : (t125 == t122) = false := beq_eq_false_iff_ne.mpr c9
      have c9b1 : (t125 != t122) = true := bne_iff_ne.mpr c9
      obtain rfl := Option.some.inj H
      go_enter Try.func5, Try.ntmps5
      go_wp2_with (first | ((with_reducible refine gate_callee (f := 7) rfl ?_); refine goesL_ (some 7) rfl rfl Try.func7 (by kernel_rfl) rfl #[.int .i64 a0] rfl (by (try simp only [List.map_toArray, List.map_cons, List.map_nil]); first | done | rfl | (simp only [List.length_drop, List.length_take]; rfl)) ?_; (with_reducible refine (sakiaref02_Right.calls k a0 true _ A3.out).mono ?_); rintro e w' ⟨rfl, ⟨nd, rfl⟩⟩; refine ⟨_, rfl, ?_⟩) | ((with_reducible refine gate_callee (f := 9) rfl ?_); refine goesL_ (some 11) rfl rfl Try.func9 (by kernel_rfl) rfl #[.int .u64 a1] rfl (by (try simp only [List.map_toArray, List.map_cons, List.map_nil]); first | done | rfl | (simp only [List.length_drop, List.length_take]; rfl)) ?_; (with_reducible refine (wide_Of_uint32.calls a1 t122 _ A5.out).mono ?_); rintro e w' ⟨rfl, ⟨nd, rfl⟩⟩; refine ⟨_, rfl, ?_⟩) | ((with_reducible refine gate_callee (f := 12) rfl ?_); refine goesL_ (some 15) rfl rfl Try.func12 (by kernel_rfl) rfl #[.int .i64 a0, .int .u32 t122] rfl (by (try simp only [List.map_toArray, List.map_cons, List.map_nil]); first | done | rfl | (simp only [List.length_drop, List.length_take]; rfl)) ?_; (with_reducible refine (lap_Slot_uint32.calls a0 t122 t123 _ A6.out).mono ?_); rintro e w' ⟨rfl, ⟨nd, rfl⟩⟩; refine ⟨_, rfl, ?_⟩) | ((with_reducible refine gate_callee (f := 16) rfl ?_); refine goesL_ (some 18) rfl rfl Try.func16 (by kernel_rfl) rfl #[.int .i64 a0, .int .u32 t122] rfl (by (try simp only [List.map_toArray, List.map_cons, List.map_nil]); first | done | rfl | (simp only [List.length_drop, List.length_take]; rfl)) ?_; (with_reducible refine (lap_Round_uint32.calls k a0 t122 t124 _ A7.out).mono ?_); rintro e w' ⟨rfl, ⟨nd, rfl⟩⟩; refine ⟨_, rfl, ?_⟩) | ((with_reducible refine gate_callee (f := 22) rfl ?_); refine goesL_ (some 19) rfl rfl Try.func22 (by kernel_rfl) rfl #[.int .i64 a0, .int .i64 t123, .int .u32 t124] rfl (by (try simp only [List.map_toArray, List.map_cons, List.map_nil]); first | done | rfl | (simp only [List.length_drop, List.length_take]; rfl)) ?_; (with_reducible refine (lap_At_uint32.calls k a0 t123 t124 t125 _ A8.out).mono ?_); rintro e w' ⟨rfl, ⟨nd, rfl⟩⟩; refine ⟨_, rfl, ?_⟩))
      go_ret
      exact ⟨by first | rfl | (simp; done) | (simp [*]; done), by repeat (first | exact Drawn0.refl _ | apply Drawn0.step)⟩
  · replace c4 := Bool.eq_false_iff.mpr c4
    subst c4
    have H1 : ((sakialaw02_live.f k).bind fun t121 => (some t121)) = some r := by rw [if_neg (show ¬ (false = true) by decide)] at H; exact H
    clear H
    have H := H1
    clear H1
    replace H := Option.bind_eq_some_iff.mp H
    obtain ⟨t121, A150, H⟩ := H
    replace H : (some t121) = some r := H
    have A15 := Aside0.mk A150
    clear A150
    obtain rfl := Option.some.inj H
    go_enter Try.func5, Try.ntmps5
    go_wp2_with (first | ((with_reducible refine gate_callee (f := 7) rfl ?_); refine goesL_ (some 7) rfl rfl Try.func7 (by kernel_rfl) rfl #[.int .i64 a0] rfl (by (try simp only [List.map_toArray, List.map_cons, List.map_nil]); first | done | rfl | (simp only [List.length_drop, List.length_take]; rfl)) ?_; (with_reducible refine (sakiaref02_Right.calls k a0 false _ A3.out).mono ?_); rintro e w' ⟨rfl, ⟨nd, rfl⟩⟩; refine ⟨_, rfl, ?_⟩) | ((with_reducible refine gate_callee (f := 8) rfl ?_); refine goesL_ (some 9) rfl rfl Try.func8 (by kernel_rfl) rfl #[] rfl (by (try simp only [List.map_toArray, List.map_cons, List.map_nil]); first | done | rfl | (simp only [List.length_drop, List.length_take]; rfl)) ?_; (with_reducible refine (sakialaw02_live.calls k  t121 _ A15.out).mono ?_); rintro e w' ⟨rfl, ⟨nd, rfl⟩⟩; refine ⟨_, rfl, ?_⟩))
    go_ret
    exact ⟨by first | rfl | (simp; done) | (simp [*]; done), by repeat (first | exact Drawn0.refl _ | apply Drawn0.step)⟩

/-- THE ONE PURE STATEMENT of sakialaw02_LapBack: yours. -/
def sakialaw02_LapBack.Pure : Prop := ∀ (a0 : Int) (a1 : Int), (Lit.int .i64 a0).wf = true → (Lit.int .u64 a1).wf = true → ∃ k, sakialaw02_LapBack.f k a0 a1 = some true
theorem sakialaw02_LapBack.walk (P : sakialaw02_LapBack.Pure) (a0 : Int) (a1 : Int) (w : World) (w0 : (Lit.int .i64 a0).wf = true) (w1 : (Lit.int .u64 a1).wf = true) :
    Calls Try.prog 5 #[.int .i64 a0, .int .u64 a1] w fun e w' => e = .returned (.bool true) ∧ Below w.heap.size w w' := by
  obtain ⟨k, h⟩ := P a0 a1 w0 w1
  refine (sakialaw02_LapBack.calls k a0 a1 true w h).mono ?_
  rintro e w' ⟨rfl, hd⟩
  exact ⟨rfl, hd.below⟩

end Go.Proofs.Ytkkmpkgmkokjnaa.PLapBack
