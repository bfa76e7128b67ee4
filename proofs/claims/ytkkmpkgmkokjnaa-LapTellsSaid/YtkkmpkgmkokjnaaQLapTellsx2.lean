-- Written for this claim by a program of this session.
import Derived.Test.YtkkmpkgmkokjnaaQLapTellsx0
import Derived.Test.YtkkmpkgmkokjnaaQLapTellsx1
namespace Go.Proofs.Ytkkmpkgmkokjnaa.QLapTells
open Go.RowKit Go.Proofs.YtkkmpkgmkokjnaaW.PrintWords Go.Proofs.YtkkmpkgmkokjnaaW.PrintLast Go.Proofs.YtkkmpkgmkokjnaaW.PrintMore
attribute [local go_sem] max2_int min2_int max_two min_two max_three min_three max_four min_four   -- for this text's walks alone
set_option linter.unusedVariables false
set_option linter.unusedSimpArgs false

/-! ### lap_there: function 32 -/
def lap_there.f (a0 : Int) (a1 : Int) : Option (Bool) := (lap_Right.f a0).bind fun t123 => (if t123 = true then (if a1 ≥ 0 then (some (decide (a1 < a0))) else (some false)) else (some false))
set_option maxHeartbeats 8000000 in
set_option maxRecDepth 100000 in
theorem lap_there.calls (a0 : Int) (a1 : Int) (r : Bool) (w : World) (h : lap_there.f a0 a1 = some r) :
    Calls Try.prog 32 #[.int .i64 a0, .int .i64 a1] w fun e w' => e = .returned (.bool r) ∧ Drawn0 w w' := by
  have H : ((lap_Right.f a0).bind fun t123 => (if t123 = true then (if a1 ≥ 0 then (some (decide (a1 < a0))) else (some false)) else (some false))) = some r := h
  clear h
  replace H := Option.bind_eq_some_iff.mp H
  obtain ⟨t123, A30, H⟩ := H
  replace H : (if t123 = true then (if a1 ≥ 0 then (some (decide (a1 < a0))) else (some false)) else (some false)) = some r := H
  have A3 := Aside0.mk A30
  clear A30
  by_cases c4 : t123 = true
  · subst c4
    have H1 : (if a1 ≥ 0 then (some (decide (a1 < a0))) else (some false)) = some r := by rw [if_pos rfl] at H; exact H
    clear H
    have H := H1
    clear H1
    by_cases c5 : a1 ≥ 0
    · rw [if_pos c5] at H
      have c5b0 : decide (0 ≤ a1) = true := decide_eq_true c5
      clear c5
      obtain rfl := Option.some.inj H
      go_enter Try.func32, Try.ntmps32
      go_wp2_with (first | ((with_reducible refine gate_callee (f := 24) rfl ?_); refine goesL_ (some 6) rfl rfl Try.func24 (by kernel_rfl) rfl #[.int .i64 a0] rfl (by (try simp only [List.map_toArray, List.map_cons, List.map_nil]); first | done | rfl | (simp only [List.length_drop, List.length_take]; rfl)) ?_; (with_reducible refine (lap_Right.calls a0 true _ A3.out).mono ?_); rintro e w' ⟨rfl, ⟨nd, rfl⟩⟩; refine ⟨_, rfl, ?_⟩))
      go_ret
      exact ⟨by first | rfl | (simp; done) | (simp [*]; done), by repeat (first | exact Drawn0.refl _ | apply Drawn0.step)⟩
    · rw [if_neg c5] at H
      have c5b0 : decide (0 ≤ a1) = false := decide_eq_false c5
      clear c5
      obtain rfl := Option.some.inj H
      go_enter Try.func32, Try.ntmps32
      go_wp2_with (first | ((with_reducible refine gate_callee (f := 24) rfl ?_); refine goesL_ (some 6) rfl rfl Try.func24 (by kernel_rfl) rfl #[.int .i64 a0] rfl (by (try simp only [List.map_toArray, List.map_cons, List.map_nil]); first | done | rfl | (simp only [List.length_drop, List.length_take]; rfl)) ?_; (with_reducible refine (lap_Right.calls a0 true _ A3.out).mono ?_); rintro e w' ⟨rfl, ⟨nd, rfl⟩⟩; refine ⟨_, rfl, ?_⟩))
      go_ret
      exact ⟨by first | rfl | (simp; done) | (simp [*]; done), by repeat (first | exact Drawn0.refl _ | apply Drawn0.step)⟩
  · replace c4 := Bool.eq_false_iff.mpr c4
    subst c4
    have H1 : (some false) = some r := by rw [if_neg (show ¬ (false = true) by decide)] at H; exact H
    clear H
    have H := H1
    clear H1
    obtain rfl := Option.some.inj H
    go_enter Try.func32, Try.ntmps32
    go_wp2_with (first | ((with_reducible refine gate_callee (f := 24) rfl ?_); refine goesL_ (some 6) rfl rfl Try.func24 (by kernel_rfl) rfl #[.int .i64 a0] rfl (by (try simp only [List.map_toArray, List.map_cons, List.map_nil]); first | done | rfl | (simp only [List.length_drop, List.length_take]; rfl)) ?_; (with_reducible refine (lap_Right.calls a0 false _ A3.out).mono ?_); rintro e w' ⟨rfl, ⟨nd, rfl⟩⟩; refine ⟨_, rfl, ?_⟩))
    go_ret
    exact ⟨by first | rfl | (simp; done) | (simp [*]; done), by repeat (first | exact Drawn0.refl _ | apply Drawn0.step)⟩

/-! ### lap_At_uint32: function 22 -/
def lap_At_uint32.f (k : Nat) (a0 : Int) (a1 : Int) (a2 : Int) : Option (Int) := (lap_there.f a0 a1).bind fun t124 => (if t124 = true then ((lap_Log.f k a0).bind fun t125 => (if 0 ≤ t125 then (some (Go.bits .or .u32 (shl .u32 a2 t125) ((a1) % 4294967296))) else (none))) else (some 0))
theorem lap_At_uint32.mono : ∀ a0 a1 a2 k, LeO (lap_At_uint32.f k a0 a1 a2) (lap_At_uint32.f (k + 1) a0 a1 a2) := by
  intro a0 a1 a2 k
  unfold lap_At_uint32.f
  repeat' first
      | (with_reducible exact lap_Log.mono _ _)
      | (with_reducible exact LeO.refl _)
      | (with_reducible exact LeO.none _)
      | (with_reducible refine LeO.ite ?_ ?_)
      | (with_reducible refine LeO.bind ?_ (fun _ => ?_))
      | exact lap_Log.mono _ _
      | exact LeO.none _
      | refine LeO.ite ?_ ?_
      | refine LeO.bind ?_ (fun _ => ?_)
set_option maxHeartbeats 8000000 in
set_option maxRecDepth 100000 in
theorem lap_At_uint32.calls (k : Nat) (a0 : Int) (a1 : Int) (a2 : Int) (r : Int) (w : World) (h : lap_At_uint32.f k a0 a1 a2 = some r) :
    Calls Try.prog 22 #[.int .i64 a0, .int .i64 a1, .int .u32 a2] w fun e w' => e = .returned (.int .u32 r) ∧ Drawn0 w w' := by
  have H : ((lap_there.f a0 a1).bind fun t124 => (if t124 = true then ((lap_Log.f k a0).bind fun t125 => (if 0 ≤ t125 then (some (Go.bits .or .u32 (shl .u32 a2 t125) ((a1) % 4294967296))) else (none))) else (some 0))) = some r := h
  clear h
  replace H := Option.bind_eq_some_iff.mp H
  obtain ⟨t124, A40, H⟩ := H
  replace H : (if t124 = true then ((lap_Log.f k a0).bind fun t125 => (if 0 ≤ t125 then (some (Go.bits .or .u32 (shl .u32 a2 t125) ((a1) % 4294967296))) else (none))) else (some 0)) = some r := H
  have A4 := Aside0.mk A40
  clear A40
  by_cases c5 : t124 = true
  · subst c5
    have H1 : ((lap_Log.f k a0).bind fun t125 => (if 0 ≤ t125 then (some (Go.bits .or .u32 (shl .u32 a2 t125) ((a1) % 4294967296))) else (none))) = some r := by rw [if_pos rfl] at H; exact H
    clear H
    have H := H1
    clear H1
    replace H := Option.bind_eq_some_iff.mp H
    obtain ⟨t125, A60, H⟩ := H
    replace H : (if 0 ≤ t125 then (some (Go.bits .or .u32 (shl .u32 a2 t125) ((a1) % 4294967296))) else (none)) = some r := H
    have A6 := Aside0.mk A60
    clear A60
    by_cases c7 : 0 ≤ t125
    rotate_left
    · rw [if_neg c7] at H
      exact absurd H (by simp)
    rw [if_pos c7] at H
    have c7b0 := eq_true c7
    have c7b1 : decide (0 ≤ t125) = true := decide_eq_true c7
    clear c7
    obtain ⟨ji8, hji8⟩ : ∃ j_ : Int, (shl .u32 a2 t125) = j_ := ⟨_, rfl⟩
    replace H : (some (Go.bits .or .u32 (ji8) ((a1) % 4294967296))) = some r := by first | (rw [hji8] at H; exact H) | (simp only [hji8] at H ⊢; exact H)
    (try rw [hji8] at A4)
    (try rw [hji8] at A6)
    have hji8_ : (IntKind.u32.wrap (a2 * 2 ^ min t125.toNat 32)) = ji8 := hji8
    have hji8z : t125 ≤ 32 → (IntKind.u32.wrap (a2 * 2 ^ t125.toNat)) = ji8 := shl_small hji8
    obtain rfl := Option.some.inj H
    go_enter Try.func22, Try.ntmps22
    go_wp2_with (first | ((with_reducible refine gate_callee (f := 32) rfl ?_); refine goesL_ (some 9) rfl rfl Try.func32 (by kernel_rfl) rfl #[.int .i64 a0, .int .i64 a1] rfl (by (try simp only [List.map_toArray, List.map_cons, List.map_nil]); first | done | rfl | (simp only [List.length_drop, List.length_take]; rfl)) ?_; (with_reducible refine (lap_there.calls a0 a1 true _ A4.out).mono ?_); rintro e w' ⟨rfl, ⟨nd, rfl⟩⟩; refine ⟨_, rfl, ?_⟩) | ((with_reducible refine gate_callee (f := 26) rfl ?_); refine goesL_ (some 13) rfl rfl Try.func26 (by kernel_rfl) rfl #[.int .i64 a0] rfl (by (try simp only [List.map_toArray, List.map_cons, List.map_nil]); first | done | rfl | (simp only [List.length_drop, List.length_take]; rfl)) ?_; (with_reducible refine (lap_Log.calls k a0 t125 _ A6.out).mono ?_); rintro e w' ⟨rfl, ⟨nd, rfl⟩⟩; refine ⟨_, rfl, ?_⟩))
    go_ret
    exact ⟨by first | rfl | (simp; done) | (simp only [← hji8] <;> (first | rfl | simp)) | (simp [*]; done), by repeat (first | exact Drawn0.refl _ | apply Drawn0.step)⟩
  · replace c5 := Bool.eq_false_iff.mpr c5
    subst c5
    have H1 : (some 0) = some r := by rw [if_neg (show ¬ (false = true) by decide)] at H; exact H
    clear H
    have H := H1
    clear H1
    obtain rfl := Option.some.inj H
    go_enter Try.func22, Try.ntmps22
    go_wp2_with (first | ((with_reducible refine gate_callee (f := 32) rfl ?_); refine goesL_ (some 9) rfl rfl Try.func32 (by kernel_rfl) rfl #[.int .i64 a0, .int .i64 a1] rfl (by (try simp only [List.map_toArray, List.map_cons, List.map_nil]); first | done | rfl | (simp only [List.length_drop, List.length_take]; rfl)) ?_; (with_reducible refine (lap_there.calls a0 a1 false _ A4.out).mono ?_); rintro e w' ⟨rfl, ⟨nd, rfl⟩⟩; refine ⟨_, rfl, ?_⟩))
    go_ret
    exact ⟨by first | rfl | (simp; done) | (simp [*]; done), by repeat (first | exact Drawn0.refl _ | apply Drawn0.step)⟩

/-! ### lap_At_uint64: function 23 -/
def lap_At_uint64.f (k : Nat) (a0 : Int) (a1 : Int) (a2 : Int) : Option (Int) := (lap_there.f a0 a1).bind fun t126 => (if t126 = true then ((lap_Log.f k a0).bind fun t127 => (if 0 ≤ t127 then (some (Go.bits .or .u64 (shl .u64 a2 t127) (IntKind.u64.wrap (a1)))) else (none))) else (some 0))
theorem lap_At_uint64.mono : ∀ a0 a1 a2 k, LeO (lap_At_uint64.f k a0 a1 a2) (lap_At_uint64.f (k + 1) a0 a1 a2) := by
  intro a0 a1 a2 k
  unfold lap_At_uint64.f
  repeat' first
      | (with_reducible exact lap_Log.mono _ _)
      | (with_reducible exact LeO.refl _)
      | (with_reducible exact LeO.none _)
      | (with_reducible refine LeO.ite ?_ ?_)
      | (with_reducible refine LeO.bind ?_ (fun _ => ?_))
      | exact lap_Log.mono _ _
      | exact LeO.none _
      | refine LeO.ite ?_ ?_
      | refine LeO.bind ?_ (fun _ => ?_)
set_option maxHeartbeats 8000000 in
set_option maxRecDepth 100000 in
theorem lap_At_uint64.calls (k : Nat) (a0 : Int) (a1 : Int) (a2 : Int) (r : Int) (w : World) (h : lap_At_uint64.f k a0 a1 a2 = some r) :
    Calls Try.prog 23 #[.int .i64 a0, .int .i64 a1, .int .u64 a2] w fun e w' => e = .returned (.int .u64 r) ∧ Drawn0 w w' := by
  have H : ((lap_there.f a0 a1).bind fun t126 => (if t126 = true then ((lap_Log.f k a0).bind fun t127 => (if 0 ≤ t127 then (some (Go.bits .or .u64 (shl .u64 a2 t127) (IntKind.u64.wrap (a1)))) else (none))) else (some 0))) = some r := h
  clear h
  replace H := Option.bind_eq_some_iff.mp H
  obtain ⟨t126, A40, H⟩ := H
  replace H : (if t126 = true then ((lap_Log.f k a0).bind fun t127 => (if 0 ≤ t127 then (some (Go.bits .or .u64 (shl .u64 a2 t127) (IntKind.u64.wrap (a1)))) else (none))) else (some 0)) = some r := H
  have A4 := Aside0.mk A40
  clear A40
  by_cases c5 : t126 = true
  · subst c5
    have H1 : ((lap_Log.f k a0).bind fun t127 => (if 0 ≤ t127 then (some (Go.bits .or .u64 (shl .u64 a2 t127) (IntKind.u64.wrap (a1)))) else (none))) = some r := by rw [if_pos rfl] at H; exact H
    clear H
    have H := H1
    clear H1
    replace H := Option.bind_eq_some_iff.mp H
    obtain ⟨t127, A60, H⟩ := H
    replace H : (if 0 ≤ t127 then (some (Go.bits .or .u64 (shl .u64 a2 t127) (IntKind.u64.wrap (a1)))) else (none)) = some r := H
    have A6 := Aside0.mk A60
    clear A60
    by_cases c7 : 0 ≤ t127
    rotate_left
    · rw [if_neg c7] at H
      exact absurd H (by simp)
    rw [if_pos c7] at H
    have c7b0 := eq_true c7
    have c7b1 : decide (0 ≤ t127) = true := decide_eq_true c7
    clear c7
    obtain ⟨ji8, hji8⟩ : ∃ j_ : Int, (shl .u64 a2 t127) = j_ := ⟨_, rfl⟩
    replace H : (some (Go.bits .or .u64 (ji8) (IntKind.u64.wrap (a1)))) = some r := by first | (rw [hji8] at H; exact H) | (simp only [hji8] at H ⊢; exact H)
    (try rw [hji8] at A4)
    (try rw [hji8] at A6)
    have hji8_ : (IntKind.u64.wrap (a2 * 2 ^ min t127.toNat 64)) = ji8 := hji8
    have hji8z : t127 ≤ 64 → (IntKind.u64.wrap (a2 * 2 ^ t127.toNat)) = ji8 := shl_small hji8
    obtain rfl := Option.some.inj H
    go_enter Try.func23, Try.ntmps23
    go_wp2_with (first | ((with_reducible refine gate_callee (f := 32) rfl ?_); refine goesL_ (some 9) rfl rfl Try.func32 (by kernel_rfl) rfl #[.int .i64 a0, .int .i64 a1] rfl (by (try simp only [List.map_toArray, List.map_cons, List.map_nil]); first | done | rfl | (simp only [List.length_drop, List.length_take]; rfl)) ?_; (with_reducible refine (lap_there.calls a0 a1 true _ A4.out).mono ?_); rintro e w' ⟨rfl, ⟨nd, rfl⟩⟩; refine ⟨_, rfl, ?_⟩) | ((with_reducible refine gate_callee (f := 26) rfl ?_); refine goesL_ (some 13) rfl rfl Try.func26 (by kernel_rfl) rfl #[.int .i64 a0] rfl (by (try simp only [List.map_toArray, List.map_cons, List.map_nil]); first | done | rfl | (simp only [List.length_drop, List.length_take]; rfl)) ?_; (with_reducible refine (lap_Log.calls k a0 t127 _ A6.out).mono ?_); rintro e w' ⟨rfl, ⟨nd, rfl⟩⟩; refine ⟨_, rfl, ?_⟩))
    go_ret
    exact ⟨by first | rfl | (simp; done) | (simp only [← hji8] <;> (first | rfl | simp)) | (simp [*]; done), by repeat (first | exact Drawn0.refl _ | apply Drawn0.step)⟩
  · replace c5 := Bool.eq_false_iff.mpr c5
    subst c5
    have H1 : (some 0) = some r := by rw [if_neg (show ¬ (false = true) by decide)] at H; exact H
    clear H
    have H := H1
    clear H1
    obtain rfl := Option.some.inj H
    go_enter Try.func23, Try.ntmps23
    go_wp2_with (first | ((with_reducible refine gate_callee (f := 32) rfl ?_); refine goesL_ (some 9) rfl rfl Try.func32 (by kernel_rfl) rfl #[.int .i64 a0, .int .i64 a1] rfl (by (try simp only [List.map_toArray, List.map_cons, List.map_nil]); first | done | rfl | (simp only [List.length_drop, List.length_take]; rfl)) ?_; (with_reducible refine (lap_there.calls a0 a1 false _ A4.out).mono ?_); rintro e w' ⟨rfl, ⟨nd, rfl⟩⟩; refine ⟨_, rfl, ?_⟩))
    go_ret
    exact ⟨by first | rfl | (simp; done) | (simp [*]; done), by repeat (first | exact Drawn0.refl _ | apply Drawn0.step)⟩

/-! ### lap_First_uint32: function 33 -/
def lap_First_uint32.f (a0 : Int) (a1 : Int) (a2 : Int) : Option (Int) := (lap_there.f a0 a1).bind fun t128 => (if t128 = true then (some ((a2 + (Go.bits .and .u32 ((((a1) % 4294967296) - a2) % 4294967296) ((wrap64 (a0 - 1)) % 4294967296))) % 4294967296)) else (some 0))
set_option maxHeartbeats 8000000 in
set_option maxRecDepth 100000 in
theorem lap_First_uint32.calls (a0 : Int) (a1 : Int) (a2 : Int) (r : Int) (w : World) (h : lap_First_uint32.f a0 a1 a2 = some r) :
    Calls Try.prog 33 #[.int .i64 a0, .int .i64 a1, .int .u32 a2] w fun e w' => e = .returned (.int .u32 r) ∧ Drawn0 w w' := by
  have H : ((lap_there.f a0 a1).bind fun t128 => (if t128 = true then (some ((a2 + (Go.bits .and .u32 ((((a1) % 4294967296) - a2) % 4294967296) ((wrap64 (a0 - 1)) % 4294967296))) % 4294967296)) else (some 0))) = some r := h
  clear h
  replace H := Option.bind_eq_some_iff.mp H
  obtain ⟨t128, A40, H⟩ := H
  replace H : (if t128 = true then (some ((a2 + (Go.bits .and .u32 ((((a1) % 4294967296) - a2) % 4294967296) ((wrap64 (a0 - 1)) % 4294967296))) % 4294967296)) else (some 0)) = some r := H
  have A4 := Aside0.mk A40
  clear A40
  by_cases c5 : t128 = true
  · subst c5
    have H1 : (some ((a2 + (Go.bits .and .u32 ((((a1) % 4294967296) - a2) % 4294967296) ((wrap64 (a0 - 1)) % 4294967296))) % 4294967296)) = some r := by rw [if_pos rfl] at H; exact H
    clear H
    have H := H1
    clear H1
    obtain rfl := Option.some.inj H
    go_enter Try.func33, Try.ntmps33
    go_wp2_with (first | ((with_reducible refine gate_callee (f := 32) rfl ?_); refine goesL_ (some 9) rfl rfl Try.func32 (by kernel_rfl) rfl #[.int .i64 a0, .int .i64 a1] rfl (by (try simp only [List.map_toArray, List.map_cons, List.map_nil]); first | done | rfl | (simp only [List.length_drop, List.length_take]; rfl)) ?_; (with_reducible refine (lap_there.calls a0 a1 true _ A4.out).mono ?_); rintro e w' ⟨rfl, ⟨nd, rfl⟩⟩; refine ⟨_, rfl, ?_⟩))
    go_ret
    exact ⟨by first | rfl | (simp; done) | (simp [*]; done), by repeat (first | exact Drawn0.refl _ | apply Drawn0.step)⟩
  · replace c5 := Bool.eq_false_iff.mpr c5
    subst c5
    have H1 : (some 0) = some r := by rw [if_neg (show ¬ (false = true) by decide)] at H; exact H
    clear H
    have H := H1
    clear H1
    obtain rfl := Option.some.inj H
    go_enter Try.func33, Try.ntmps33
    go_wp2_with (first | ((with_reducible refine gate_callee (f := 32) rfl ?_); refine goesL_ (some 9) rfl rfl Try.func32 (by kernel_rfl) rfl #[.int .i64 a0, .int .i64 a1] rfl (by (try simp only [List.map_toArray, List.map_cons, List.map_nil]); first | done | rfl | (simp only [List.length_drop, List.length_take]; rfl)) ?_; (with_reducible refine (lap_there.calls a0 a1 false _ A4.out).mono ?_); rintro e w' ⟨rfl, ⟨nd, rfl⟩⟩; refine ⟨_, rfl, ?_⟩))
    go_ret
    exact ⟨by first | rfl | (simp; done) | (simp [*]; done), by repeat (first | exact Drawn0.refl _ | apply Drawn0.step)⟩

/-! ### lap_Ahead_uint32: function 34 -/
def lap_Ahead_uint32.f (k : Nat) (a0 : Int) (a1 : Int) (a2 : Int) : Option (Int) := (lap_there.f a0 a1).bind fun t129 => (if t129 = true then ((lap_First_uint32.f a0 a1 a2).bind fun t130 => ((lap_Round_uint32.f k a0 ((t130 - ((a0) % 4294967296)) % 4294967296)).bind fun t131 => (some t131))) else (some 0))
theorem lap_Ahead_uint32.mono : ∀ a0 a1 a2 k, LeO (lap_Ahead_uint32.f k a0 a1 a2) (lap_Ahead_uint32.f (k + 1) a0 a1 a2) := by
  intro a0 a1 a2 k
  unfold lap_Ahead_uint32.f
  repeat' first
      | (with_reducible exact lap_Round_uint32.mono _ _ _)
      | (with_reducible exact LeO.refl _)
      | (with_reducible exact LeO.none _)
      | (with_reducible refine LeO.ite ?_ ?_)
      | (with_reducible refine LeO.bind ?_ (fun _ => ?_))
      | exact lap_Round_uint32.mono _ _ _
      | exact LeO.none _
      | refine LeO.ite ?_ ?_
      | refine LeO.bind ?_ (fun _ => ?_)
set_option maxHeartbeats 8000000 in
set_option maxRecDepth 100000 in
theorem lap_Ahead_uint32.calls (k : Nat) (a0 : Int) (a1 : Int) (a2 : Int) (r : Int) (w : World) (h : lap_Ahead_uint32.f k a0 a1 a2 = some r) :
    Calls Try.prog 34 #[.int .i64 a0, .int .i64 a1, .int .u32 a2] w fun e w' => e = .returned (.int .u32 r) ∧ Drawn0 w w' := by
  have H : ((lap_there.f a0 a1).bind fun t129 => (if t129 = true then ((lap_First_uint32.f a0 a1 a2).bind fun t130 => ((lap_Round_uint32.f k a0 ((t130 - ((a0) % 4294967296)) % 4294967296)).bind fun t131 => (some t131))) else (some 0))) = some r := h
  clear h
  replace H := Option.bind_eq_some_iff.mp H
  obtain ⟨t129, A40, H⟩ := H
  replace H : (if t129 = true then ((lap_First_uint32.f a0 a1 a2).bind fun t130 => ((lap_Round_uint32.f k a0 ((t130 - ((a0) % 4294967296)) % 4294967296)).bind fun t131 => (some t131))) else (some 0)) = some r := H
  have A4 := Aside0.mk A40
  clear A40
  by_cases c5 : t129 = true
  · subst c5
    have H1 : ((lap_First_uint32.f a0 a1 a2).bind fun t130 => ((lap_Round_uint32.f k a0 ((t130 - ((a0) % 4294967296)) % 4294967296)).bind fun t131 => (some t131))) = some r := by rw [if_pos rfl] at H; exact H
    clear H
    have H := H1
    clear H1
    replace H := Option.bind_eq_some_iff.mp H
    obtain ⟨t130, A60, H⟩ := H
    replace H : ((lap_Round_uint32.f k a0 ((t130 - ((a0) % 4294967296)) % 4294967296)).bind fun t131 => (some t131)) = some r := H
    have A6 := Aside0.mk A60
    clear A60
    replace H := Option.bind_eq_some_iff.mp H
    obtain ⟨t131, A70, H⟩ := H
    replace H : (some t131) = some r := H
    have A7 := Aside0.mk A70
    clear A70
    obtain rfl := Option.some.inj H
    go_enter Try.func34, Try.ntmps34
    go_wp2_with (first | ((with_reducible refine gate_callee (f := 32) rfl ?_); refine goesL_ (some 9) rfl rfl Try.func32 (by kernel_rfl) rfl #[.int .i64 a0, .int .i64 a1] rfl (by (try simp only [List.map_toArray, List.map_cons, List.map_nil]); first | done | rfl | (simp only [List.length_drop, List.length_take]; rfl)) ?_; (with_reducible refine (lap_there.calls a0 a1 true _ A4.out).mono ?_); rintro e w' ⟨rfl, ⟨nd, rfl⟩⟩; refine ⟨_, rfl, ?_⟩) | ((with_reducible refine gate_callee (f := 33) rfl ?_); refine goesL_ (some 15) rfl rfl Try.func33 (by kernel_rfl) rfl #[.int .i64 a0, .int .i64 a1, .int .u32 a2] rfl (by (try simp only [List.map_toArray, List.map_cons, List.map_nil]); first | done | rfl | (simp only [List.length_drop, List.length_take]; rfl)) ?_; (with_reducible refine (lap_First_uint32.calls a0 a1 a2 t130 _ A6.out).mono ?_); rintro e w' ⟨rfl, ⟨nd, rfl⟩⟩; refine ⟨_, rfl, ?_⟩) | ((with_reducible refine gate_callee (f := 16) rfl ?_); refine goesL_ (some 19) rfl rfl Try.func16 (by kernel_rfl) rfl #[.int .i64 a0, .int .u32 ((t130 - ((a0) % 4294967296)) % 4294967296)] rfl (by (try simp only [List.map_toArray, List.map_cons, List.map_nil]); first | done | rfl | (simp only [List.length_drop, List.length_take]; rfl)) ?_; (with_reducible refine (lap_Round_uint32.calls k a0 ((t130 - ((a0) % 4294967296)) % 4294967296) t131 _ A7.out).mono ?_); rintro e w' ⟨rfl, ⟨nd, rfl⟩⟩; refine ⟨_, rfl, ?_⟩))
    go_ret
    exact ⟨by first | rfl | (simp; done) | (simp [*]; done), by repeat (first | exact Drawn0.refl _ | apply Drawn0.step)⟩
  · replace c5 := Bool.eq_false_iff.mpr c5
    subst c5
    have H1 : (some 0) = some r := by rw [if_neg (show ¬ (false = true) by decide)] at H; exact H
    clear H
    have H := H1
    clear H1
    obtain rfl := Option.some.inj H
    go_enter Try.func34, Try.ntmps34
    go_wp2_with (first | ((with_reducible refine gate_callee (f := 32) rfl ?_); refine goesL_ (some 9) rfl rfl Try.func32 (by kernel_rfl) rfl #[.int .i64 a0, .int .i64 a1] rfl (by (try simp only [List.map_toArray, List.map_cons, List.map_nil]); first | done | rfl | (simp only [List.length_drop, List.length_take]; rfl)) ?_; (with_reducible refine (lap_there.calls a0 a1 false _ A4.out).mono ?_); rintro e w' ⟨rfl, ⟨nd, rfl⟩⟩; refine ⟨_, rfl, ?_⟩))
    go_ret
    exact ⟨by first | rfl | (simp; done) | (simp [*]; done), by repeat (first | exact Drawn0.refl _ | apply Drawn0.step)⟩

/-! ### sakialaw02_none: function 25 -/
def sakialaw02_none.j0 : Nat → Int → Int → Int → Int → Bool → Option (Bool)
  | 0, _, _, _, _, _ => none
  | k + 1, x0, x1, x2, x3, x56 => if x56 = true then (some false) else ((lap_Slot_uint64.f x0 x2).bind fun t141 => (if t141 = 0 then ((lap_Round_uint64.f k x0 x2).bind fun t142 => (if t142 = 0 then ((lap_At_uint64.f k x0 x1 x3).bind fun t143 => (if t143 = 0 then ((lap_Next_uint64.f x0 x2).bind fun t144 => (if t144 = 0 then ((lap_Turns_uint64.f k x0 x2 1).bind fun t145 => (some ((t145.length : Int) == 0))) else (some false))) else (some false))) else (some false))) else (some false)))
def sakialaw02_none.f (k : Nat) (a0 : Int) (a1 : Int) (a2 : Int) (a3 : Int) : Option (Bool) := (wide_Of_uint32.f a2).bind fun t132 => ((wide_Of_uint32.f a3).bind fun t133 => ((lap_Log.f k a0).bind fun t134 => (if t134 = 0 then ((lap_Slot_uint32.f a0 t132).bind fun t135 => (if t135 = 0 then ((lap_Round_uint32.f k a0 t132).bind fun t136 => (if t136 = 0 then ((lap_At_uint32.f k a0 a1 t133).bind fun t137 => (if t137 = 0 then ((lap_Next_uint32.f a0 t132).bind fun t138 => (if t138 = 0 then ((lap_First_uint32.f a0 a1 t132).bind fun t139 => (if t139 = 0 then ((lap_Ahead_uint32.f k a0 a1 t132).bind fun t140 => (sakialaw02_none.j0 k a0 a1 a2 a3 (t140 != 0))) else (sakialaw02_none.j0 k a0 a1 a2 a3 true))) else (sakialaw02_none.j0 k a0 a1 a2 a3 true))) else (sakialaw02_none.j0 k a0 a1 a2 a3 true))) else (sakialaw02_none.j0 k a0 a1 a2 a3 true))) else (sakialaw02_none.j0 k a0 a1 a2 a3 true))) else (sakialaw02_none.j0 k a0 a1 a2 a3 true))))
theorem sakialaw02_none.mono_l : ∀ k, (∀ y0 y1 y2 y3 y4, LeO (sakialaw02_none.j0 k y0 y1 y2 y3 y4) (sakialaw02_none.j0 (k + 1) y0 y1 y2 y3 y4))
  | 0 => fun _ _ _ _ _ r h => by simp [sakialaw02_none.j0] at h
  | k + 1 => by
    have ih0 := sakialaw02_none.mono_l k
    · intro y0 y1 y2 y3 y4
      unfold sakialaw02_none.j0
      repeat' first
      | (with_reducible exact ih0 _ _ _ _ _)
      | (with_reducible exact lap_Ahead_uint32.mono _ _ _ _)
      | (with_reducible exact lap_At_uint32.mono _ _ _ _)
      | (with_reducible exact lap_At_uint64.mono _ _ _ _)
      | (with_reducible exact lap_Log.mono _ _)
      | (with_reducible exact lap_Round_uint32.mono _ _ _)
      | (with_reducible exact lap_Round_uint64.mono _ _ _)
      | (with_reducible exact lap_Turns_uint64.mono _ _ _ _)
      | (with_reducible exact LeO.refl _)
      | (with_reducible exact LeO.none _)
      | (with_reducible refine LeO.ite ?_ ?_)
      | (with_reducible refine LeO.bind ?_ (fun _ => ?_))
      | exact ih0 _ _ _ _ _
      | exact lap_Ahead_uint32.mono _ _ _ _
      | exact lap_At_uint32.mono _ _ _ _
      | exact lap_At_uint64.mono _ _ _ _
      | exact lap_Log.mono _ _
      | exact lap_Round_uint32.mono _ _ _
      | exact lap_Round_uint64.mono _ _ _
      | exact lap_Turns_uint64.mono _ _ _ _
      | exact LeO.none _
      | refine LeO.ite ?_ ?_
      | refine LeO.bind ?_ (fun _ => ?_)
theorem sakialaw02_none.mono : ∀ a0 a1 a2 a3 k, LeO (sakialaw02_none.f k a0 a1 a2 a3) (sakialaw02_none.f (k + 1) a0 a1 a2 a3) := by
  intro a0 a1 a2 a3 k
  have ih0 := sakialaw02_none.mono_l k
  unfold sakialaw02_none.f
  repeat' first
      | (with_reducible exact ih0 _ _ _ _ _)
      | (with_reducible exact lap_Ahead_uint32.mono _ _ _ _)
      | (with_reducible exact lap_At_uint32.mono _ _ _ _)
      | (with_reducible exact lap_At_uint64.mono _ _ _ _)
      | (with_reducible exact lap_Log.mono _ _)
      | (with_reducible exact lap_Round_uint32.mono _ _ _)
      | (with_reducible exact lap_Round_uint64.mono _ _ _)
      | (with_reducible exact lap_Turns_uint64.mono _ _ _ _)
      | (with_reducible exact LeO.refl _)
      | (with_reducible exact LeO.none _)
      | (with_reducible refine LeO.ite ?_ ?_)
      | (with_reducible refine LeO.bind ?_ (fun _ => ?_))
      | exact ih0 _ _ _ _ _
      | exact lap_Ahead_uint32.mono _ _ _ _
      | exact lap_At_uint32.mono _ _ _ _
      | exact lap_At_uint64.mono _ _ _ _
      | exact lap_Log.mono _ _
      | exact lap_Round_uint32.mono _ _ _
      | exact lap_Round_uint64.mono _ _ _
      | exact lap_Turns_uint64.mono _ _ _ _
      | exact LeO.none _
      | refine LeO.ite ?_ ?_
      | refine LeO.bind ?_ (fun _ => ?_)
set_option maxHeartbeats 8000000 in
set_option maxRecDepth 100000 in
theorem sakialaw02_none.calls (k : Nat) (a0 : Int) (a1 : Int) (a2 : Int) (a3 : Int) (r : Bool) (w : World) (h : sakialaw02_none.f k a0 a1 a2 a3 = some r) :
    Calls Try.prog 25 #[.int .i64 a0, .int .i64 a1, .int .u64 a2, .int .u64 a3] w fun e w' => e = .returned (.bool r) ∧ Below w.heap.size w w' := by
  have HB := Aside0.mk (Below.refl w.heap.size w)
  have H : ((wide_Of_uint32.f a2).bind fun t132 => ((wide_Of_uint32.f a3).bind fun t133 => ((lap_Log.f k a0).bind fun t134 => (if t134 = 0 then ((lap_Slot_uint32.f a0 t132).bind fun t135 => (if t135 = 0 then ((lap_Round_uint32.f k a0 t132).bind fun t136 => (if t136 = 0 then ((lap_At_uint32.f k a0 a1 t133).bind fun t137 => (if t137 = 0 then ((lap_Next_uint32.f a0 t132).bind fun t138 => (if t138 = 0 then ((lap_First_uint32.f a0 a1 t132).bind fun t139 => (if t139 = 0 then ((lap_Ahead_uint32.f k a0 a1 t132).bind fun t140 => (sakialaw02_none.j0 k a0 a1 a2 a3 (t140 != 0))) else (sakialaw02_none.j0 k a0 a1 a2 a3 true))) else (sakialaw02_none.j0 k a0 a1 a2 a3 true))) else (sakialaw02_none.j0 k a0 a1 a2 a3 true))) else (sakialaw02_none.j0 k a0 a1 a2 a3 true))) else (sakialaw02_none.j0 k a0 a1 a2 a3 true))) else (sakialaw02_none.j0 k a0 a1 a2 a3 true))))) = some r := h
  clear h
  replace H := Option.bind_eq_some_iff.mp H
  obtain ⟨t132, A50, H⟩ := H
  replace H : ((wide_Of_uint32.f a3).bind fun t133 => ((lap_Log.f k a0).bind fun t134 => (if t134 = 0 then ((lap_Slot_uint32.f a0 t132).bind fun t135 => (if t135 = 0 then ((lap_Round_uint32.f k a0 t132).bind fun t136 => (if t136 = 0 then ((lap_At_uint32.f k a0 a1 t133).bind fun t137 => (if t137 = 0 then ((lap_Next_uint32.f a0 t132).bind fun t138 => (if t138 = 0 then ((lap_First_uint32.f a0 a1 t132).bind fun t139 => (if t139 = 0 then ((lap_Ahead_uint32.f k a0 a1 t132).bind fun t140 => (sakialaw02_none.j0 k a0 a1 a2 a3 (t140 != 0))) else (sakialaw02_none.j0 k a0 a1 a2 a3 true))) else (sakialaw02_none.j0 k a0 a1 a2 a3 true))) else (sakialaw02_none.j0 k a0 a1 a2 a3 true))) else (sakialaw02_none.j0 k a0 a1 a2 a3 true))) else (sakialaw02_none.j0 k a0 a1 a2 a3 true))) else (sakialaw02_none.j0 k a0 a1 a2 a3 true)))) = some r := H
  have A5 := Aside0.mk A50
  clear A50
  replace H := Option.bind_eq_some_iff.mp H
  obtain ⟨t133, A60, H⟩ := H
  replace H : ((lap_Log.f k a0).bind fun t134 => (if t134 = 0 then ((lap_Slot_uint32.f a0 t132).bind fun t135 => (if t135 = 0 then ((lap_Round_uint32.f k a0 t132).bind fun t136 => (if t136 = 0 then ((lap_At_uint32.f k a0 a1 t133).bind fun t137 => (if t137 = 0 then ((lap_Next_uint32.f a0 t132).bind fun t138 => (if t138 = 0 then ((lap_First_uint32.f a0 a1 t132).bind fun t139 => (if t139 = 0 then ((lap_Ahead_uint32.f k a0 a1 t132).bind fun t140 => (sakialaw02_none.j0 k a0 a1 a2 a3 (t140 != 0))) else (sakialaw02_none.j0 k a0 a1 a2 a3 true))) else (sakialaw02_none.j0 k a0 a1 a2 a3 true))) else (sakialaw02_none.j0 k a0 a1 a2 a3 true))) else (sakialaw02_none.j0 k a0 a1 a2 a3 true))) else (sakialaw02_none.j0 k a0 a1 a2 a3 true))) else (sakialaw02_none.j0 k a0 a1 a2 a3 true))) = some r := H
  have A6 := Aside0.mk A60
  clear A60
  have HC7 := Aside0.mk H
  clear H
  go_enter Try.func25, Try.ntmps25
  go_upto_region 2 with (first | ((with_reducible refine gate_callee (f := 9) rfl ?_); refine goesL_ (some 12) rfl rfl Try.func9 (by kernel_rfl) rfl #[.int .u64 a2] rfl (by (try simp only [List.map_toArray, List.map_cons, List.map_nil]); first | done | rfl | (simp only [List.length_drop, List.length_take]; rfl)) ?_; (with_reducible refine (wide_Of_uint32.calls a2 t132 _ A5.out).mono ?_); rintro e w' ⟨rfl, ⟨nd, rfl⟩⟩; refine ⟨_, rfl, ?_⟩) | ((with_reducible refine gate_callee (f := 9) rfl ?_); refine goesL_ (some 14) rfl rfl Try.func9 (by kernel_rfl) rfl #[.int .u64 a3] rfl (by (try simp only [List.map_toArray, List.map_cons, List.map_nil]); first | done | rfl | (simp only [List.length_drop, List.length_take]; rfl)) ?_; (with_reducible refine (wide_Of_uint32.calls a3 t133 _ A6.out).mono ?_); rintro e w' ⟨rfl, ⟨nd, rfl⟩⟩; refine ⟨_, rfl, ?_⟩))
  (try simp only [Act.put, List.setIfInBounds_toArray, List.set_cons_zero, List.set_cons_succ])
  go_cut [56] (fun v56 wc => ∃ (kq : Nat) (x56_6 : Bool), v56 = .bool x56_6 ∧ Aside0 (sakialaw02_none.j0 kq a0 a1 a2 a3 x56_6 = some r) ∧ Aside0 (kq ≤ k) ∧ Aside0 (Below w.heap.size w wc))
  case first =>
    have H := HC7.out
    clear HC7
    replace H := Option.bind_eq_some_iff.mp H
    obtain ⟨t134, A80, H⟩ := H
    replace H : (if t134 = 0 then ((lap_Slot_uint32.f a0 t132).bind fun t135 => (if t135 = 0 then ((lap_Round_uint32.f k a0 t132).bind fun t136 => (if t136 = 0 then ((lap_At_uint32.f k a0 a1 t133).bind fun t137 => (if t137 = 0 then ((lap_Next_uint32.f a0 t132).bind fun t138 => (if t138 = 0 then ((lap_First_uint32.f a0 a1 t132).bind fun t139 => (if t139 = 0 then ((lap_Ahead_uint32.f k a0 a1 t132).bind fun t140 => (sakialaw02_none.j0 k a0 a1 a2 a3 (t140 != 0))) else (sakialaw02_none.j0 k a0 a1 a2 a3 true))) else (sakialaw02_none.j0 k a0 a1 a2 a3 true))) else (sakialaw02_none.j0 k a0 a1 a2 a3 true))) else (sakialaw02_none.j0 k a0 a1 a2 a3 true))) else (sakialaw02_none.j0 k a0 a1 a2 a3 true))) else (sakialaw02_none.j0 k a0 a1 a2 a3 true)) = some r := H
    have A8 := Aside0.mk A80
    clear A80
    by_cases c9 : t134 = 0
    · rw [if_pos c9] at H
      have c9b0 : (t134 == 0) = true := beq_iff_eq.mpr c9
      have c9b1 : (t134 != 0) = false := bne_eq_false_iff_eq.mpr c9
      clear c9
      (first | rw [c9b0] | (simp only [i64_w, i32_w]; rw [c9b0]) | skip)
      replace H := Option.bind_eq_some_iff.mp H
      obtain ⟨t135, A100, H⟩ := H
      replace H : (if t135 = 0 then ((lap_Round_uint32.f k a0 t132).bind fun t136 => (if t136 = 0 then ((lap_At_uint32.f k a0 a1 t133).bind fun t137 => (if t137 = 0 then ((lap_Next_uint32.f a0 t132).bind fun t138 => (if t138 = 0 then ((lap_First_uint32.f a0 a1 t132).bind fun t139 => (if t139 = 0 then ((lap_Ahead_uint32.f k a0 a1 t132).bind fun t140 => (sakialaw02_none.j0 k a0 a1 a2 a3 (t140 != 0))) else (sakialaw02_none.j0 k a0 a1 a2 a3 true))) else (sakialaw02_none.j0 k a0 a1 a2 a3 true))) else (sakialaw02_none.j0 k a0 a1 a2 a3 true))) else (sakialaw02_none.j0 k a0 a1 a2 a3 true))) else (sakialaw02_none.j0 k a0 a1 a2 a3 true)) = some r := H
      have A10 := Aside0.mk A100
      clear A100
      by_cases c11 : t135 = 0
      · rw [if_pos c11] at H
        have c11b0 : (t135 == 0) = true := beq_iff_eq.mpr c11
        have c11b1 : (t135 != 0) = false := bne_eq_false_iff_eq.mpr c11
        clear c11
        replace H := Option.bind_eq_some_iff.mp H
        obtain ⟨t136, A120, H⟩ := H
        replace H : (if t136 = 0 then ((lap_At_uint32.f k a0 a1 t133).bind fun t137 => (if t137 = 0 then ((lap_Next_uint32.f a0 t132).bind fun t138 => (if t138 = 0 then ((lap_First_uint32.f a0 a1 t132).bind fun t139 => (if t139 = 0 then ((lap_Ahead_uint32.f k a0 a1 t132).bind fun t140 => (sakialaw02_none.j0 k a0 a1 a2 a3 (t140 != 0))) else (sakialaw02_none.j0 k a0 a1 a2 a3 true))) else (sakialaw02_none.j0 k a0 a1 a2 a3 true))) else (sakialaw02_none.j0 k a0 a1 a2 a3 true))) else (sakialaw02_none.j0 k a0 a1 a2 a3 true)) = some r := H
        have A12 := Aside0.mk A120
        clear A120
        by_cases c13 : t136 = 0
        · rw [if_pos c13] at H
          have c13b0 : (t136 == 0) = true := beq_iff_eq.mpr c13
          have c13b1 : (t136 != 0) = false := bne_eq_false_iff_eq.mpr c13
          clear c13
          replace H := Option.bind_eq_some_iff.mp H
          obtain ⟨t137, A140, H⟩ := H
          replace H : (if t137 = 0 then ((lap_Next_uint32.f a0 t132).bind fun t138 => (if t138 = 0 then ((lap_First_uint32.f a0 a1 t132).bind fun t139 => (if t139 = 0 then ((lap_Ahead_uint32.f k a0 a1 t132).bind fun t140 => (sakialaw02_none.j0 k a0 a1 a2 a3 (t140 != 0))) else (sakialaw02_none.j0 k a0 a1 a2 a3 true))) else (sakialaw02_none.j0 k a0 a1 a2 a3 true))) else (sakialaw02_none.j0 k a0 a1 a2 a3 true)) = some r := H
          have A14 := Aside0.mk A140
          clear A140
          by_cases c15 : t137 = 0
          · rw [if_pos c15] at H
            have c15b0 : (t137 == 0) = true := beq_iff_eq.mpr c15
            have c15b1 : (t137 != 0) = false := bne_eq_false_iff_eq.mpr c15
            clear c15
            replace H := Option.bind_eq_some_iff.mp H
            obtain ⟨t138, A160, H⟩ := H
            replace H : (if t138 = 0 then ((lap_First_uint32.f a0 a1 t132).bind fun t139 => (if t139 = 0 then ((lap_Ahead_uint32.f k a0 a1 t132).bind fun t140 => (sakialaw02_none.j0 k a0 a1 a2 a3 (t140 != 0))) else (sakialaw02_none.j0 k a0 a1 a2 a3 true))) else (sakialaw02_none.j0 k a0 a1 a2 a3 true)) = some r := H
            have A16 := Aside0.mk A160
            clear A160
            by_cases c17 : t138 = 0
            · rw [if_pos c17] at H
              have c17b0 : (t138 == 0) = true := beq_iff_eq.mpr c17
              have c17b1 : (t138 != 0) = false := bne_eq_false_iff_eq.mpr c17
              clear c17
              replace H := Option.bind_eq_some_iff.mp H
              obtain ⟨t139, A180, H⟩ := H
              replace H : (if t139 = 0 then ((lap_Ahead_uint32.f k a0 a1 t132).bind fun t140 => (sakialaw02_none.j0 k a0 a1 a2 a3 (t140 != 0))) else (sakialaw02_none.j0 k a0 a1 a2 a3 true)) = some r := H
              have A18 := Aside0.mk A180
              clear A180
              by_cases c19 : t139 = 0
              · rw [if_pos c19] at H
                have c19b0 : (t139 == 0) = true := beq_iff_eq.mpr c19
                have c19b1 : (t139 != 0) = false := bne_eq_false_iff_eq.mpr c19
                clear c19
                replace H := Option.bind_eq_some_iff.mp H
                obtain ⟨t140, A200, H⟩ := H
                replace H : (sakialaw02_none.j0 k a0 a1 a2 a3 (t140 != 0)) = some r := H
                have A20 := Aside0.mk A200
                clear A200
                have H' := Aside0.mk H
                clear H
                go_wp2_with (first | ((with_reducible refine gate_callee (f := 26) rfl ?_); refine goesL_ (some 16) rfl rfl Try.func26 (by kernel_rfl) rfl #[.int .i64 a0] rfl (by (try simp only [List.map_toArray, List.map_cons, List.map_nil]); first | done | rfl | (simp only [List.length_drop, List.length_take]; rfl)) ?_; (with_reducible refine (lap_Log.calls k a0 t134 _ A8.out).mono ?_); rintro e w' ⟨rfl, ⟨nd, rfl⟩⟩; refine ⟨_, rfl, ?_⟩) | (go_at_call 12; (with_reducible refine (lap_Slot_uint32.calls a0 t132 t135 _ A10.out).mono ?_); rintro e w' ⟨rfl, ⟨nd, rfl⟩⟩) | (go_at_call 16; (with_reducible refine (lap_Round_uint32.calls k a0 t132 t136 _ A12.out).mono ?_); rintro e w' ⟨rfl, ⟨nd, rfl⟩⟩) | (go_at_call 22; (with_reducible refine (lap_At_uint32.calls k a0 a1 t133 t137 _ A14.out).mono ?_); rintro e w' ⟨rfl, ⟨nd, rfl⟩⟩) | (go_at_call 14; (with_reducible refine (lap_Next_uint32.calls a0 t132 t138 _ A16.out).mono ?_); rintro e w' ⟨rfl, ⟨nd, rfl⟩⟩) | (go_at_call 33; (with_reducible refine (lap_First_uint32.calls a0 a1 t132 t139 _ A18.out).mono ?_); rintro e w' ⟨rfl, ⟨nd, rfl⟩⟩) | (go_at_call 34; (with_reducible refine (lap_Ahead_uint32.calls k a0 a1 t132 t140 _ A20.out).mono ?_); rintro e w' ⟨rfl, ⟨nd, rfl⟩⟩))
                go_meet
                case rel => exact ⟨_, ((t140 != 0)), (by first | rfl | (simp; done) | (simp [*]; done)), H', ⟨by first | omega | exact Nat.le_refl _⟩, ⟨by repeat (first | (with_reducible first | exact HB.out | apply below_alloc | apply pw_below_drewN | apply below_drew1) | exact HB.out)⟩⟩
              · rw [if_neg c19] at H
                have c19b0 : (t139 == 0) = false := beq_eq_false_iff_ne.mpr c19
                have c19b1 : (t139 != 0) = true := bne_iff_ne.mpr c19
                have H' := Aside0.mk H
                clear H
                go_wp2_with (first | ((with_reducible refine gate_callee (f := 26) rfl ?_); refine goesL_ (some 16) rfl rfl Try.func26 (by kernel_rfl) rfl #[.int .i64 a0] rfl (by (try simp only [List.map_toArray, List.map_cons, List.map_nil]); first | done | rfl | (simp only [List.length_drop, List.length_take]; rfl)) ?_; (with_reducible refine (lap_Log.calls k a0 t134 _ A8.out).mono ?_); rintro e w' ⟨rfl, ⟨nd, rfl⟩⟩; refine ⟨_, rfl, ?_⟩) | (go_at_call 12; (with_reducible refine (lap_Slot_uint32.calls a0 t132 t135 _ A10.out).mono ?_); rintro e w' ⟨rfl, ⟨nd, rfl⟩⟩) | (go_at_call 16; (with_reducible refine (lap_Round_uint32.calls k a0 t132 t136 _ A12.out).mono ?_); rintro e w' ⟨rfl, ⟨nd, rfl⟩⟩) | (go_at_call 22; (with_reducible refine (lap_At_uint32.calls k a0 a1 t133 t137 _ A14.out).mono ?_); rintro e w' ⟨rfl, ⟨nd, rfl⟩⟩) | (go_at_call 14; (with_reducible refine (lap_Next_uint32.calls a0 t132 t138 _ A16.out).mono ?_); rintro e w' ⟨rfl, ⟨nd, rfl⟩⟩) | (go_at_call 33; (with_reducible refine (lap_First_uint32.calls a0 a1 t132 t139 _ A18.out).mono ?_); rintro e w' ⟨rfl, ⟨nd, rfl⟩⟩))
                go_meet
                case rel => exact ⟨_, (true), (by first | rfl | (simp; done) | (simp [*]; done)), H', ⟨by first | omega | exact Nat.le_refl _⟩, ⟨by repeat (first | (with_reducible first | exact HB.out | apply below_alloc | apply pw_below_drewN | apply below_drew1) | exact HB.out)⟩⟩
            · rw [if_neg c17] at H
              have c17b0 : (t138 == 0) = false := beq_eq_false_iff_ne.mpr c17
              have c17b1 : (t138 != 0) = true := bne_iff_ne.mpr c17
              have H' := Aside0.mk H
              clear H
              go_wp2_with (first | ((with_reducible refine gate_callee (f := 26) rfl ?_); refine goesL_ (some 16) rfl rfl Try.func26 (by kernel_rfl) rfl #[.int .i64 a0] rfl (by (try simp only [List.map_toArray, List.map_cons, List.map_nil]); first | done | rfl | (simp only [List.length_drop, List.length_take]; rfl)) ?_; (with_reducible refine (lap_Log.calls k a0 t134 _ A8.out).mono ?_); rintro e w' ⟨rfl, ⟨nd, rfl⟩⟩; refine ⟨_, rfl, ?_⟩) | (go_at_call 12; (with_reducible refine (lap_Slot_uint32.calls a0 t132 t135 _ A10.out).mono ?_); rintro e w' ⟨rfl, ⟨nd, rfl⟩⟩) | (go_at_call 16; (with_reducible refine (lap_Round_uint32.calls k a0 t132 t136 _ A12.out).mono ?_); rintro e w' ⟨rfl, ⟨nd, rfl⟩⟩) | (go_at_call 22; (with_reducible refine (lap_At_uint32.calls k a0 a1 t133 t137 _ A14.out).mono ?_); rintro e w' ⟨rfl, ⟨nd, rfl⟩⟩) | (go_at_call 14; (with_reducible refine (lap_Next_uint32.calls a0 t132 t138 _ A16.out).mono ?_); rintro e w' ⟨rfl, ⟨nd, rfl⟩⟩))
              go_meet
              case rel => exact ⟨_, (true), (by first | rfl | (simp; done) | (simp [*]; done)), H', ⟨by first | omega | exact Nat.le_refl _⟩, ⟨by repeat (first | (with_reducible first | exact HB.out | apply below_alloc | apply pw_below_drewN | apply below_drew1) | exact HB.out)⟩⟩
          · rw [if_neg c15] at H
            have c15b0 : (t137 == 0) = false := beq_eq_false_iff_ne.mpr c15
            have c15b1 : (t137 != 0) = true := bne_iff_ne.mpr c15
            have H' := Aside0.mk H
            clear H
            go_wp2_with (first | ((with_reducible refine gate_callee (f := 26) rfl ?_); refine goesL_ (some 16) rfl rfl Try.func26 (by kernel_rfl) rfl #[.int .i64 a0] rfl (by (try simp only [List.map_toArray, List.map_cons, List.map_nil]); first | done | rfl | (simp only [List.length_drop, List.length_take]; rfl)) ?_; (with_reducible refine (lap_Log.calls k a0 t134 _ A8.out).mono ?_); rintro e w' ⟨rfl, ⟨nd, rfl⟩⟩; refine ⟨_, rfl, ?_⟩) | (go_at_call 12; (with_reducible refine (lap_Slot_uint32.calls a0 t132 t135 _ A10.out).mono ?_); rintro e w' ⟨rfl, ⟨nd, rfl⟩⟩) | (go_at_call 16; (with_reducible refine (lap_Round_uint32.calls k a0 t132 t136 _ A12.out).mono ?_); rintro e w' ⟨rfl, ⟨nd, rfl⟩⟩) | (go_at_call 22; (with_reducible refine (lap_At_uint32.calls k a0 a1 t133 t137 _ A14.out).mono ?_); rintro e w' ⟨rfl, ⟨nd, rfl⟩⟩))
            go_meet
            case rel => exact ⟨_, (true), (by first | rfl | (simp; done) | (simp [*]; done)), H', ⟨by first | omega | exact Nat.le_refl _⟩, ⟨by repeat (first | (with_reducible first | exact HB.out | apply below_alloc | apply pw_below_drewN | apply below_drew1) | exact HB.out)⟩⟩
        · rw [if_neg c13] at H
          have c13b0 : (t136 == 0) = false := beq_eq_false_iff_ne.mpr c13
          have c13b1 : (t136 != 0) = true := bne_iff_ne.mpr c13
          have H' := Aside0.mk H
          clear H
          go_wp2_with (first | ((with_reducible refine gate_callee (f := 26) rfl ?_); refine goesL_ (some 16) rfl rfl Try.func26 (by kernel_rfl) rfl #[.int .i64 a0] rfl (by (try simp only [List.map_toArray, List.map_cons, List.map_nil]); first | done | rfl | (simp only [List.length_drop, List.length_take]; rfl)) ?_; (with_reducible refine (lap_Log.calls k a0 t134 _ A8.out).mono ?_); rintro e w' ⟨rfl, ⟨nd, rfl⟩⟩; refine ⟨_, rfl, ?_⟩) | (go_at_call 12; (with_reducible refine (lap_Slot_uint32.calls a0 t132 t135 _ A10.out).mono ?_); rintro e w' ⟨rfl, ⟨nd, rfl⟩⟩) | (go_at_call 16; (with_reducible refine (lap_Round_uint32.calls k a0 t132 t136 _ A12.out).mono ?_); rintro e w' ⟨rfl, ⟨nd, rfl⟩⟩))
          go_meet
          case rel => exact ⟨_, (true), (by first | rfl | (simp; done) | (simp [*]; done)), H', ⟨by first | omega | exact Nat.le_refl _⟩, ⟨by repeat (first | (with_reducible first | exact HB.out | apply below_alloc | apply pw_below_drewN | apply below_drew1) | exact HB.out)⟩⟩
      · rw [if_neg c11] at H
        have c11b0 : (t135 == 0) = false := beq_eq_false_iff_ne.mpr c11
        have c11b1 : (t135 != 0) = true := bne_iff_ne.mpr c11
        have H' := Aside0.mk H
        clear H
        go_wp2_with (first | ((with_reducible refine gate_callee (f := 26) rfl ?_); refine goesL_ (some 16) rfl rfl Try.func26 (by kernel_rfl) rfl #[.int .i64 a0] rfl (by (try simp only [List.map_toArray, List.map_cons, List.map_nil]); first | done | rfl | (simp only [List.length_drop, List.length_take]; rfl)) ?_; (with_reducible refine (lap_Log.calls k a0 t134 _ A8.out).mono ?_); rintro e w' ⟨rfl, ⟨nd, rfl⟩⟩; refine ⟨_, rfl, ?_⟩) | (go_at_call 12; (with_reducible refine (lap_Slot_uint32.calls a0 t132 t135 _ A10.out).mono ?_); rintro e w' ⟨rfl, ⟨nd, rfl⟩⟩))
        go_meet
        case rel => exact ⟨_, (true), (by first | rfl | (simp; done) | (simp [*]; done)), H', ⟨by first | omega | exact Nat.le_refl _⟩, ⟨by repeat (first | (with_reducible first | exact HB.out | apply below_alloc | apply pw_below_drewN | apply below_drew1) | exact HB.out)⟩⟩
    · rw [if_neg c9] at H
      have c9b0 : (t134 == 0) = false := beq_eq_false_iff_ne.mpr c9
      have c9b1 : (t134 != 0) = true := bne_iff_ne.mpr c9
      (first | rw [c9b0] | (simp only [i64_w, i32_w]; rw [c9b0]) | skip)
      have H' := Aside0.mk H
      clear H
      go_wp2_with (first | ((with_reducible refine gate_callee (f := 26) rfl ?_); refine goesL_ (some 16) rfl rfl Try.func26 (by kernel_rfl) rfl #[.int .i64 a0] rfl (by (try simp only [List.map_toArray, List.map_cons, List.map_nil]); first | done | rfl | (simp only [List.length_drop, List.length_take]; rfl)) ?_; (with_reducible refine (lap_Log.calls k a0 t134 _ A8.out).mono ?_); rintro e w' ⟨rfl, ⟨nd, rfl⟩⟩; refine ⟨_, rfl, ?_⟩))
      go_meet
      case rel => exact ⟨_, (true), (by first | rfl | (simp; done) | (simp [*]; done)), H', ⟨by first | omega | exact Nat.le_refl _⟩, ⟨by repeat (first | (with_reducible first | exact HB.out | apply below_alloc | apply pw_below_drewN | apply below_drew1) | exact HB.out)⟩⟩
  case rest =>
    clear HC7
    try clear c1
    try clear c2
    try clear p2
    try clear c9
    try clear c9b0
    try clear c9b1
    try clear c11
    try clear c11b0
    try clear c11b1
    try clear c13
    try clear c13b0
    try clear c13b1
    try clear c15
    try clear c15b0
    try clear c15b1
    try clear c17
    try clear c17b0
    try clear c17b1
    try clear c19
    try clear c19b0
    try clear c19b1
    obtain ⟨kq, x56_6, rfl, HA, HJ6, HB⟩ := hcut
    cases kq with
    | zero => exact absurd HA.out (by simp [sakialaw02_none.j0])
    | succ kj6 =>
      have H := HA.out
      clear HA
      simp only [sakialaw02_none.j0] at H
      by_cases c21 : x56_6 = true
      · subst c21
        have H1 : (some false) = some r := by rw [if_pos rfl] at H; exact H
        clear H
        have H := H1
        clear H1
        obtain rfl := Option.some.inj H
        go_wp2
        go_ret
        exact ⟨by first | rfl | (simp [errW_none, errW_some] <;> rfl) | (simp [*, errW_none, errW_some] <;> rfl), by repeat (first | (with_reducible first | exact HB.out | apply below_alloc | apply pw_below_drewN | apply below_drew1) | exact HB.out)⟩
      · replace c21 := Bool.eq_false_iff.mpr c21
        subst c21
        have H1 : ((lap_Slot_uint64.f a0 a2).bind fun t141 => (if t141 = 0 then ((lap_Round_uint64.f kj6 a0 a2).bind fun t142 => (if t142 = 0 then ((lap_At_uint64.f kj6 a0 a1 a3).bind fun t143 => (if t143 = 0 then ((lap_Next_uint64.f a0 a2).bind fun t144 => (if t144 = 0 then ((lap_Turns_uint64.f kj6 a0 a2 1).bind fun t145 => (some ((t145.length : Int) == 0))) else (some false))) else (some false))) else (some false))) else (some false))) = some r := by rw [if_neg (show ¬ (false = true) by decide)] at H; exact H
        clear H
        have H := H1
        clear H1
        replace H := Option.bind_eq_some_iff.mp H
        obtain ⟨t141, A220, H⟩ := H
        replace H : (if t141 = 0 then ((lap_Round_uint64.f kj6 a0 a2).bind fun t142 => (if t142 = 0 then ((lap_At_uint64.f kj6 a0 a1 a3).bind fun t143 => (if t143 = 0 then ((lap_Next_uint64.f a0 a2).bind fun t144 => (if t144 = 0 then ((lap_Turns_uint64.f kj6 a0 a2 1).bind fun t145 => (some ((t145.length : Int) == 0))) else (some false))) else (some false))) else (some false))) else (some false)) = some r := H
        have A22 := Aside0.mk A220
        clear A220
        by_cases c23 : t141 = 0
        · rw [if_pos c23] at H
          have c23b0 : (t141 == 0) = true := beq_iff_eq.mpr c23
          have c23b1 : (t141 != 0) = false := bne_eq_false_iff_eq.mpr c23
          clear c23
          replace H := Option.bind_eq_some_iff.mp H
          obtain ⟨t142, A240, H⟩ := H
          replace H : (if t142 = 0 then ((lap_At_uint64.f kj6 a0 a1 a3).bind fun t143 => (if t143 = 0 then ((lap_Next_uint64.f a0 a2).bind fun t144 => (if t144 = 0 then ((lap_Turns_uint64.f kj6 a0 a2 1).bind fun t145 => (some ((t145.length : Int) == 0))) else (some false))) else (some false))) else (some false)) = some r := H
          have A24 := Aside0.mk A240
          clear A240
          by_cases c25 : t142 = 0
          · rw [if_pos c25] at H
            have c25b0 : (t142 == 0) = true := beq_iff_eq.mpr c25
            have c25b1 : (t142 != 0) = false := bne_eq_false_iff_eq.mpr c25
            clear c25
            replace H := Option.bind_eq_some_iff.mp H
            obtain ⟨t143, A260, H⟩ := H
            replace H : (if t143 = 0 then ((lap_Next_uint64.f a0 a2).bind fun t144 => (if t144 = 0 then ((lap_Turns_uint64.f kj6 a0 a2 1).bind fun t145 => (some ((t145.length : Int) == 0))) else (some false))) else (some false)) = some r := H
            have A26 := Aside0.mk A260
            clear A260
            by_cases c27 : t143 = 0
            · rw [if_pos c27] at H
              have c27b0 : (t143 == 0) = true := beq_iff_eq.mpr c27
              have c27b1 : (t143 != 0) = false := bne_eq_false_iff_eq.mpr c27
              clear c27
              replace H := Option.bind_eq_some_iff.mp H
              obtain ⟨t144, A280, H⟩ := H
              replace H : (if t144 = 0 then ((lap_Turns_uint64.f kj6 a0 a2 1).bind fun t145 => (some ((t145.length : Int) == 0))) else (some false)) = some r := H
              have A28 := Aside0.mk A280
              clear A280
              by_cases c29 : t144 = 0
              · rw [if_pos c29] at H
                have c29b0 : (t144 == 0) = true := beq_iff_eq.mpr c29
                have c29b1 : (t144 != 0) = false := bne_eq_false_iff_eq.mpr c29
                clear c29
                replace H := Option.bind_eq_some_iff.mp H
                obtain ⟨t145, A300, H⟩ := H
                replace H : (some ((t145.length : Int) == 0)) = some r := H
                have A30 := Aside0.mk A300
                clear A300
                obtain rfl := Option.some.inj H
                go_wp2_with (first | ((with_reducible refine gate_callee (f := 13) rfl ?_); refine goesL_ (some 59) rfl rfl Try.func13 (by kernel_rfl) rfl #[.int .i64 a0, .int .u64 a2] rfl (by (try simp only [List.map_toArray, List.map_cons, List.map_nil]); first | done | rfl | (simp only [List.length_drop, List.length_take]; rfl)) ?_; (with_reducible refine (lap_Slot_uint64.calls a0 a2 t141 _ A22.out).mono ?_); rintro e w' ⟨rfl, ⟨nd, rfl⟩⟩; refine ⟨_, rfl, ?_⟩) | (go_at_call 17; (with_reducible refine (lap_Round_uint64.calls kj6 a0 a2 t142 _ A24.out).mono ?_); rintro e w' ⟨rfl, ⟨nd, rfl⟩⟩) | (go_at_call 23; (with_reducible refine (lap_At_uint64.calls kj6 a0 a1 a3 t143 _ A26.out).mono ?_); rintro e w' ⟨rfl, ⟨nd, rfl⟩⟩) | (go_at_call 15; (with_reducible refine (lap_Next_uint64.calls a0 a2 t144 _ A28.out).mono ?_); rintro e w' ⟨rfl, ⟨nd, rfl⟩⟩) | (go_at_call 19; (with_reducible refine (lap_Turns_uint64.calls kj6 a0 a2 1 t145 _ A30.out).mono ?_); rintro e w31 ⟨v146, rfl, ho0, hb⟩; have n0_ := Aside0.mk (Kd.R_lower ho0 (below_size (by repeat (first | (with_reducible first | exact HB.out | apply below_alloc | apply pw_below_drewN | apply below_drew1) | exact HB.out)))); have n1_ := Aside0.mk (below_step (by repeat (first | (with_reducible first | exact HB.out | apply below_alloc | apply pw_below_drewN | apply below_drew1) | exact HB.out)) hb); clear HB; have HO147 := n0_; have HB := n1_; clear n0_ n1_; (try clear hb); (try clear hb2); (try clear hk); (try clear hi); (try clear ho0); obtain ⟨Ao32, co32, eo32⟩ := Kd.R_slice HO147.out; subst eo32))
                go_ret
                exact ⟨by first | rfl | (simp [errW_none, errW_some] <;> rfl) | (simp [*, errW_none, errW_some] <;> rfl), by repeat (first | (with_reducible first | exact HB.out | apply below_alloc | apply pw_below_drewN | apply below_drew1) | exact HB.out)⟩
              · rw [if_neg c29] at H
                have c29b0 : (t144 == 0) = false := beq_eq_false_iff_ne.mpr c29
                have c29b1 : (t144 != 0) = true := bne_iff_ne.mpr c29
                obtain rfl := Option.some.inj H
                go_wp2_with (first | ((with_reducible refine gate_callee (f := 13) rfl ?_); refine goesL_ (some 59) rfl rfl Try.func13 (by kernel_rfl) rfl #[.int .i64 a0, .int .u64 a2] rfl (by (try simp only [List.map_toArray, List.map_cons, List.map_nil]); first | done | rfl | (simp only [List.length_drop, List.length_take]; rfl)) ?_; (with_reducible refine (lap_Slot_uint64.calls a0 a2 t141 _ A22.out).mono ?_); rintro e w' ⟨rfl, ⟨nd, rfl⟩⟩; refine ⟨_, rfl, ?_⟩) | (go_at_call 17; (with_reducible refine (lap_Round_uint64.calls kj6 a0 a2 t142 _ A24.out).mono ?_); rintro e w' ⟨rfl, ⟨nd, rfl⟩⟩) | (go_at_call 23; (with_reducible refine (lap_At_uint64.calls kj6 a0 a1 a3 t143 _ A26.out).mono ?_); rintro e w' ⟨rfl, ⟨nd, rfl⟩⟩) | (go_at_call 15; (with_reducible refine (lap_Next_uint64.calls a0 a2 t144 _ A28.out).mono ?_); rintro e w' ⟨rfl, ⟨nd, rfl⟩⟩))
                go_ret
                exact ⟨by first | rfl | (simp [errW_none, errW_some] <;> rfl) | (simp [*, errW_none, errW_some] <;> rfl), by repeat (first | (with_reducible first | exact HB.out | apply below_alloc | apply pw_below_drewN | apply below_drew1) | exact HB.out)⟩
            · rw [if_neg c27] at H
              have c27b0 : (t143 == 0) = false := beq_eq_false_iff_ne.mpr c27
              have c27b1 : (t143 != 0) = true := bne_iff_ne.mpr c27
              obtain rfl := Option.some.inj H
              go_wp2_with (first | ((with_reducible refine gate_callee (f := 13) rfl ?_); refine goesL_ (some 59) rfl rfl Try.func13 (by kernel_rfl) rfl #[.int .i64 a0, .int .u64 a2] rfl (by (try simp only [List.map_toArray, List.map_cons, List.map_nil]); first | done | rfl | (simp only [List.length_drop, List.length_take]; rfl)) ?_; (with_reducible refine (lap_Slot_uint64.calls a0 a2 t141 _ A22.out).mono ?_); rintro e w' ⟨rfl, ⟨nd, rfl⟩⟩; refine ⟨_, rfl, ?_⟩) | (go_at_call 17; (with_reducible refine (lap_Round_uint64.calls kj6 a0 a2 t142 _ A24.out).mono ?_); rintro e w' ⟨rfl, ⟨nd, rfl⟩⟩) | (go_at_call 23; (with_reducible refine (lap_At_uint64.calls kj6 a0 a1 a3 t143 _ A26.out).mono ?_); rintro e w' ⟨rfl, ⟨nd, rfl⟩⟩))
              go_ret
              exact ⟨by first | rfl | (simp [errW_none, errW_some] <;> rfl) | (simp [*, errW_none, errW_some] <;> rfl), by repeat (first | (with_reducible first | exact HB.out | apply below_alloc | apply pw_below_drewN | apply below_drew1) | exact HB.out)⟩
          · rw [if_neg c25] at H
            have c25b0 : (t142 == 0) = false := beq_eq_false_iff_ne.mpr c25
            have c25b1 : (t142 != 0) = true := bne_iff_ne.mpr c25
            obtain rfl := Option.some.inj H
            go_wp2_with (first | ((with_reducible refine gate_callee (f := 13) rfl ?_); refine goesL_ (some 59) rfl rfl Try.func13 (by kernel_rfl) rfl #[.int .i64 a0, .int .u64 a2] rfl (by (try simp only [List.map_toArray, List.map_cons, List.map_nil]); first | done | rfl | (simp only [List.length_drop, List.length_take]; rfl)) ?_; (with_reducible refine (lap_Slot_uint64.calls a0 a2 t141 _ A22.out).mono ?_); rintro e w' ⟨rfl, ⟨nd, rfl⟩⟩; refine ⟨_, rfl, ?_⟩) | (go_at_call 17; (with_reducible refine (lap_Round_uint64.calls kj6 a0 a2 t142 _ A24.out).mono ?_); rintro e w' ⟨rfl, ⟨nd, rfl⟩⟩))
            go_ret
            exact ⟨by first | rfl | (simp [errW_none, errW_some] <;> rfl) | (simp [*, errW_none, errW_some] <;> rfl), by repeat (first | (with_reducible first | exact HB.out | apply below_alloc | apply pw_below_drewN | apply below_drew1) | exact HB.out)⟩
        · rw [if_neg c23] at H
          have c23b0 : (t141 == 0) = false := beq_eq_false_iff_ne.mpr c23
          have c23b1 : (t141 != 0) = true := bne_iff_ne.mpr c23
          obtain rfl := Option.some.inj H
          go_wp2_with (first | ((with_reducible refine gate_callee (f := 13) rfl ?_); refine goesL_ (some 59) rfl rfl Try.func13 (by kernel_rfl) rfl #[.int .i64 a0, .int .u64 a2] rfl (by (try simp only [List.map_toArray, List.map_cons, List.map_nil]); first | done | rfl | (simp only [List.length_drop, List.length_take]; rfl)) ?_; (with_reducible refine (lap_Slot_uint64.calls a0 a2 t141 _ A22.out).mono ?_); rintro e w' ⟨rfl, ⟨nd, rfl⟩⟩; refine ⟨_, rfl, ?_⟩))
          go_ret
          exact ⟨by first | rfl | (simp [errW_none, errW_some] <;> rfl) | (simp [*, errW_none, errW_some] <;> rfl), by repeat (first | (with_reducible first | exact HB.out | apply below_alloc | apply pw_below_drewN | apply below_drew1) | exact HB.out)⟩

/-! ### sakiaref02_Log: function 27 -/
def sakiaref02_Log.l0 : Nat → Int → Int → Option (Int)
  | 0, _, _ => none
  | k + 1, x0, x3 => (sakiaref02_Right.f k x0).bind fun t148 => (if t148 = true then (if x0 > 1 then (sakiaref02_Log.l0 k (wrap64 (Int.tdiv x0 2)) (wrap64 (x3 + 1))) else (some x3)) else (some x3))
def sakiaref02_Log.f (k : Nat) (a0 : Int) : Option (Int) := sakiaref02_Log.l0 k a0 0
theorem sakiaref02_Log.mono_l : ∀ k, (∀ y0 y1, LeO (sakiaref02_Log.l0 k y0 y1) (sakiaref02_Log.l0 (k + 1) y0 y1))
  | 0 => fun _ _ r h => by simp [sakiaref02_Log.l0] at h
  | k + 1 => by
    have ih0 := sakiaref02_Log.mono_l k
    · intro y0 y1
      unfold sakiaref02_Log.l0
      repeat' first
      | (with_reducible exact ih0 _ _)
      | (with_reducible exact sakiaref02_Right.mono _ _)
      | (with_reducible exact LeO.refl _)
      | (with_reducible exact LeO.none _)
      | (with_reducible refine LeO.ite ?_ ?_)
      | (with_reducible refine LeO.bind ?_ (fun _ => ?_))
      | exact ih0 _ _
      | exact sakiaref02_Right.mono _ _
      | exact LeO.none _
      | refine LeO.ite ?_ ?_
      | refine LeO.bind ?_ (fun _ => ?_)
theorem sakiaref02_Log.mono : ∀ a0 k, LeO (sakiaref02_Log.f k a0) (sakiaref02_Log.f (k + 1) a0) := by
  intro a0 k
  have ih0 := sakiaref02_Log.mono_l k
  unfold sakiaref02_Log.f
  repeat' first
      | (with_reducible exact ih0 _ _)
      | (with_reducible exact sakiaref02_Right.mono _ _)
      | (with_reducible exact LeO.refl _)
      | (with_reducible exact LeO.none _)
      | (with_reducible refine LeO.ite ?_ ?_)
      | (with_reducible refine LeO.bind ?_ (fun _ => ?_))
      | exact ih0 _ _
      | exact sakiaref02_Right.mono _ _
      | exact LeO.none _
      | refine LeO.ite ?_ ?_
      | refine LeO.bind ?_ (fun _ => ?_)
set_option maxHeartbeats 8000000 in
set_option maxRecDepth 100000 in
theorem sakiaref02_Log.calls (k : Nat) (a0 : Int) (r : Int) (w : World) (h : sakiaref02_Log.f k a0 = some r) :
    Calls Try.prog 27 #[.int .i64 a0] w fun e w' => e = .returned (.int .i64 r) ∧ Drawn0 w w' := by
  have H : (sakiaref02_Log.l0 k a0 0) = some r := h
  clear h
  have H' := Aside0.mk H
  clear H
  go_enter Try.func27, Try.ntmps27
  go_wp2
  go_loopg [0, 3] k (fun kq v0 v3 w' => ∃ (x0_1 : Int) (x3_1 : Int), v0 = .int .i64 x0_1 ∧ v3 = .int .i64 x3_1 ∧ Aside0 (sakiaref02_Log.l0 kq x0_1 x3_1 = some r) ∧ Aside0 (kq ≤ k) ∧ Drawn0 w w')
  case atStart => exact ⟨(a0), (0), (by first | rfl | (simp; done) | (simp [*]; done)), (by first | rfl | (simp; done) | (simp [*]; done)), H', ⟨Nat.le_refl _⟩, by repeat (first | exact Drawn0.refl _ | apply Drawn0.step)⟩
  case round =>
    clear H'
    obtain ⟨x0_1, x3_1, rfl, rfl, HA, HK1, ⟨m1, rfl⟩⟩ := hrel
    cases gk with
    | zero => exact absurd HA.out (by simp [sakiaref02_Log.l0])
    | succ k1 =>
      have H := HA.out
      clear HA
      simp only [sakiaref02_Log.l0] at H
      replace H := Option.bind_eq_some_iff.mp H
      obtain ⟨t148, A20, H⟩ := H
      replace H : (if t148 = true then (if x0_1 > 1 then (sakiaref02_Log.l0 k1 (wrap64 (Int.tdiv x0_1 2)) (wrap64 (x3_1 + 1))) else (some x3_1)) else (some x3_1)) = some r := H
      have A2 := Aside0.mk A20
      clear A20
      by_cases c3 : t148 = true
      · subst c3
        have H1 : (if x0_1 > 1 then (sakiaref02_Log.l0 k1 (wrap64 (Int.tdiv x0_1 2)) (wrap64 (x3_1 + 1))) else (some x3_1)) = some r := by rw [if_pos rfl] at H; exact H
        clear H
        have H := H1
        clear H1
        by_cases c4 : x0_1 > 1
        · rw [if_pos c4] at H
          have c4b0 : decide (1 < x0_1) = true := decide_eq_true c4
          clear c4
          have H' := Aside0.mk H
          clear H
          go_wp2_with (first | ((with_reducible refine gate_callee (f := 7) rfl ?_); refine goesL_ (some 5) rfl rfl Try.func7 (by kernel_rfl) rfl #[.int .i64 x0_1] rfl (by (try simp only [List.map_toArray, List.map_cons, List.map_nil]); first | done | rfl | (simp only [List.length_drop, List.length_take]; rfl)) ?_; (with_reducible refine (sakiaref02_Right.calls k1 x0_1 true _ A2.out).mono ?_); rintro e w' ⟨rfl, ⟨nd, rfl⟩⟩; refine ⟨_, rfl, ?_⟩))
          go_roundg k1
          case measure => have := HK1.out; omega
          case rel => exact ⟨(wrap64 (Int.tdiv x0_1 2)), (wrap64 (x3_1 + 1)), (by first | rfl | (simp; done) | (simp [*]; done)), (by first | rfl | (simp; done) | (simp [*]; done)), H', ⟨by have := HK1.out; omega⟩, by repeat (first | exact Drawn0.refl _ | apply Drawn0.step)⟩
        · rw [if_neg c4] at H
          have c4b0 : decide (1 < x0_1) = false := decide_eq_false c4
          clear c4
          obtain rfl := Option.some.inj H
          go_wp2_with (first | ((with_reducible refine gate_callee (f := 7) rfl ?_); refine goesL_ (some 5) rfl rfl Try.func7 (by kernel_rfl) rfl #[.int .i64 x0_1] rfl (by (try simp only [List.map_toArray, List.map_cons, List.map_nil]); first | done | rfl | (simp only [List.length_drop, List.length_take]; rfl)) ?_; (with_reducible refine (sakiaref02_Right.calls k1 x0_1 true _ A2.out).mono ?_); rintro e w' ⟨rfl, ⟨nd, rfl⟩⟩; refine ⟨_, rfl, ?_⟩))
          go_ret
          exact ⟨by first | rfl | (simp; done) | (simp [*]; done), by repeat (first | exact Drawn0.refl _ | apply Drawn0.step)⟩
      · replace c3 := Bool.eq_false_iff.mpr c3
        subst c3
        have H1 : (some x3_1) = some r := by rw [if_neg (show ¬ (false = true) by decide)] at H; exact H
        clear H
        have H := H1
        clear H1
        obtain rfl := Option.some.inj H
        go_wp2_with (first | ((with_reducible refine gate_callee (f := 7) rfl ?_); refine goesL_ (some 5) rfl rfl Try.func7 (by kernel_rfl) rfl #[.int .i64 x0_1] rfl (by (try simp only [List.map_toArray, List.map_cons, List.map_nil]); first | done | rfl | (simp only [List.length_drop, List.length_take]; rfl)) ?_; (with_reducible refine (sakiaref02_Right.calls k1 x0_1 false _ A2.out).mono ?_); rintro e w' ⟨rfl, ⟨nd, rfl⟩⟩; refine ⟨_, rfl, ?_⟩))
        go_ret
        exact ⟨by first | rfl | (simp; done) | (simp [*]; done), by repeat (first | exact Drawn0.refl _ | apply Drawn0.step)⟩

/-! ### sakiaref02_Slot: function 20 -/
def sakiaref02_Slot.f (a0 : Int) (a1 : Int) : Option (Int) := if (IntKind.u64.wrap (a0)) = 0 then (none) else (some (wrap64 (Int.tmod a1 (IntKind.u64.wrap (a0)))))
set_option maxHeartbeats 8000000 in
set_option maxRecDepth 100000 in
theorem sakiaref02_Slot.calls (a0 : Int) (a1 : Int) (r : Int) (w : World) (h : sakiaref02_Slot.f a0 a1 = some r) :
    Calls Try.prog 20 #[.int .i64 a0, .int .u64 a1] w fun e w' => e = .returned (.int .i64 r) ∧ Drawn0 w w' := by
  have H : (if (IntKind.u64.wrap (a0)) = 0 then (none) else (some (wrap64 (Int.tmod a1 (IntKind.u64.wrap (a0)))))) = some r := h
  clear h
  by_cases c3 : (IntKind.u64.wrap (a0)) = 0
  · rw [if_pos c3] at H
    exact absurd H (by simp)
  rw [if_neg c3] at H
  have c3b0 : ((IntKind.u64.wrap (a0)) == 0) = false := beq_eq_false_iff_ne.mpr c3
  have c3b1 : ((IntKind.u64.wrap (a0)) != 0) = true := bne_iff_ne.mpr c3
  obtain rfl := Option.some.inj H
  go_enter Try.func20, Try.ntmps20
  go_wp2
  go_ret
  exact ⟨by first | rfl | (simp; done) | (simp [*]; done), by repeat (first | exact Drawn0.refl _ | apply Drawn0.step)⟩

/-! ### sakiaref01_Cut: function 31 -/
def sakiaref01_Cut.f (a0 : Int) (a1 : Int) : Option (Int) := if a0 = 32 then (some (Int.tmod a1 4294967296)) else (if a0 = 64 then (some a1) else (some 0))
set_option maxHeartbeats 8000000 in
set_option maxRecDepth 100000 in
theorem sakiaref01_Cut.calls (a0 : Int) (a1 : Int) (r : Int) (w : World) (h : sakiaref01_Cut.f a0 a1 = some r) :
    Calls Try.prog 31 #[.int .i64 a0, .int .u64 a1] w fun e w' => e = .returned (.int .u64 r) ∧ Drawn0 w w' := by
  have H : (if a0 = 32 then (some (Int.tmod a1 4294967296)) else (if a0 = 64 then (some a1) else (some 0))) = some r := h
  clear h
  by_cases c3 : a0 = 32
  · rw [if_pos c3] at H
    have c3b0 : (a0 == 32) = true := beq_iff_eq.mpr c3
    have c3b1 : (a0 != 32) = false := bne_eq_false_iff_eq.mpr c3
    clear c3
    obtain rfl := Option.some.inj H
    go_enter Try.func31, Try.ntmps31
    go_wp2
    go_ret
    exact ⟨by first | rfl | (simp; done) | (simp [*]; done), by repeat (first | exact Drawn0.refl _ | apply Drawn0.step)⟩
  · rw [if_neg c3] at H
    have c3b0 : (a0 == 32) = false := beq_eq_false_iff_ne.mpr c3
    have c3b1 : (a0 != 32) = true := bne_iff_ne.mpr c3
    by_cases c4 : a0 = 64
    · rw [if_pos c4] at H
      have c4b0 : (a0 == 64) = true := beq_iff_eq.mpr c4
      have c4b1 : (a0 != 64) = false := bne_eq_false_iff_eq.mpr c4
      clear c4
      obtain rfl := Option.some.inj H
      go_enter Try.func31, Try.ntmps31
      go_wp2
      go_ret
      exact ⟨by first | rfl | (simp; done) | (simp [*]; done), by repeat (first | exact Drawn0.refl _ | apply Drawn0.step)⟩
    · rw [if_neg c4] at H
      have c4b0 : (a0 == 64) = false := beq_eq_false_iff_ne.mpr c4
      have c4b1 : (a0 != 64) = true := bne_iff_ne.mpr c4
      obtain rfl := Option.some.inj H
      go_enter Try.func31, Try.ntmps31
      go_wp2
      go_ret
      exact ⟨by first | rfl | (simp; done) | (simp [*]; done), by repeat (first | exact Drawn0.refl _ | apply Drawn0.step)⟩

/-! ### sakiaref01_Plus: function 21 -/
def sakiaref01_Plus.f (a0 : Int) (a1 : Int) (a2 : Int) : Option (Int) := (sakiaref01_Cut.f a0 (IntKind.u64.wrap (a1 + (IntKind.u64.wrap (a2))))).bind fun t149 => (some t149)
set_option maxHeartbeats 8000000 in
set_option maxRecDepth 100000 in
theorem sakiaref01_Plus.calls (a0 : Int) (a1 : Int) (a2 : Int) (r : Int) (w : World) (h : sakiaref01_Plus.f a0 a1 a2 = some r) :
    Calls Try.prog 21 #[.int .i64 a0, .int .u64 a1, .int .i64 a2] w fun e w' => e = .returned (.int .u64 r) ∧ Drawn0 w w' := by
  have H : ((sakiaref01_Cut.f a0 (IntKind.u64.wrap (a1 + (IntKind.u64.wrap (a2))))).bind fun t149 => (some t149)) = some r := h
  clear h
  replace H := Option.bind_eq_some_iff.mp H
  obtain ⟨t149, A40, H⟩ := H
  replace H : (some t149) = some r := H
  have A4 := Aside0.mk A40
  clear A40
  obtain rfl := Option.some.inj H
  go_enter Try.func21, Try.ntmps21
  go_wp2_with (first | ((with_reducible refine gate_callee (f := 31) rfl ?_); refine goesL_ (some 12) rfl rfl Try.func31 (by kernel_rfl) rfl #[.int .i64 a0, .int .u64 (IntKind.u64.wrap (a1 + (IntKind.u64.wrap (a2))))] rfl (by (try simp only [List.map_toArray, List.map_cons, List.map_nil]); first | done | rfl | (simp only [List.length_drop, List.length_take]; rfl)) ?_; (with_reducible refine (sakiaref01_Cut.calls a0 (IntKind.u64.wrap (a1 + (IntKind.u64.wrap (a2)))) t149 _ A4.out).mono ?_); rintro e w' ⟨rfl, ⟨nd, rfl⟩⟩; refine ⟨_, rfl, ?_⟩))
  go_ret
  exact ⟨by first | rfl | (simp; done) | (simp [*]; done), by repeat (first | exact Drawn0.refl _ | apply Drawn0.step)⟩

/-! ### sakiaref02_Round: function 35 -/
def sakiaref02_Round.f (a0 : Int) (a1 : Int) : Option (Int) := if (IntKind.u64.wrap (a0)) = 0 then (none) else (some (IntKind.u64.wrap (Int.tdiv a1 (IntKind.u64.wrap (a0)))))
set_option maxHeartbeats 8000000 in
set_option maxRecDepth 100000 in
theorem sakiaref02_Round.calls (a0 : Int) (a1 : Int) (r : Int) (w : World) (h : sakiaref02_Round.f a0 a1 = some r) :
    Calls Try.prog 35 #[.int .i64 a0, .int .u64 a1] w fun e w' => e = .returned (.int .u64 r) ∧ Drawn0 w w' := by
  have H : (if (IntKind.u64.wrap (a0)) = 0 then (none) else (some (IntKind.u64.wrap (Int.tdiv a1 (IntKind.u64.wrap (a0)))))) = some r := h
  clear h
  by_cases c3 : (IntKind.u64.wrap (a0)) = 0
  · rw [if_pos c3] at H
    exact absurd H (by simp)
  rw [if_neg c3] at H
  have c3b0 : ((IntKind.u64.wrap (a0)) == 0) = false := beq_eq_false_iff_ne.mpr c3
  have c3b1 : ((IntKind.u64.wrap (a0)) != 0) = true := bne_iff_ne.mpr c3
  obtain rfl := Option.some.inj H
  go_enter Try.func35, Try.ntmps35
  go_wp2
  go_ret
  exact ⟨by first | rfl | (simp; done) | (simp [*]; done), by repeat (first | exact Drawn0.refl _ | apply Drawn0.step)⟩

/-! ### sakiaref02_At: function 36 -/
def sakiaref02_At.f (a0 : Int) (a1 : Int) (a2 : Int) (a3 : Int) : Option (Int) := (sakiaref01_Cut.f a0 (IntKind.u64.wrap ((IntKind.u64.wrap (a3 * (IntKind.u64.wrap (a1)))) + (IntKind.u64.wrap (a2))))).bind fun t150 => (some t150)
set_option maxHeartbeats 8000000 in
set_option maxRecDepth 100000 in
theorem sakiaref02_At.calls (a0 : Int) (a1 : Int) (a2 : Int) (a3 : Int) (r : Int) (w : World) (h : sakiaref02_At.f a0 a1 a2 a3 = some r) :
    Calls Try.prog 36 #[.int .i64 a0, .int .i64 a1, .int .i64 a2, .int .u64 a3] w fun e w' => e = .returned (.int .u64 r) ∧ Drawn0 w w' := by
  have H : ((sakiaref01_Cut.f a0 (IntKind.u64.wrap ((IntKind.u64.wrap (a3 * (IntKind.u64.wrap (a1)))) + (IntKind.u64.wrap (a2))))).bind fun t150 => (some t150)) = some r := h
  clear h
  replace H := Option.bind_eq_some_iff.mp H
  obtain ⟨t150, A50, H⟩ := H
  replace H : (some t150) = some r := H
  have A5 := Aside0.mk A50
  clear A50
  obtain rfl := Option.some.inj H
  go_enter Try.func36, Try.ntmps36
  go_wp2_with (first | ((with_reducible refine gate_callee (f := 31) rfl ?_); refine goesL_ (some 17) rfl rfl Try.func31 (by kernel_rfl) rfl #[.int .i64 a0, .int .u64 (IntKind.u64.wrap ((IntKind.u64.wrap (a3 * (IntKind.u64.wrap (a1)))) + (IntKind.u64.wrap (a2))))] rfl (by (try simp only [List.map_toArray, List.map_cons, List.map_nil]); first | done | rfl | (simp only [List.length_drop, List.length_take]; rfl)) ?_; (with_reducible refine (sakiaref01_Cut.calls a0 (IntKind.u64.wrap ((IntKind.u64.wrap (a3 * (IntKind.u64.wrap (a1)))) + (IntKind.u64.wrap (a2)))) t150 _ A5.out).mono ?_); rintro e w' ⟨rfl, ⟨nd, rfl⟩⟩; refine ⟨_, rfl, ?_⟩))
  go_ret
  exact ⟨by first | rfl | (simp; done) | (simp [*]; done), by repeat (first | exact Drawn0.refl _ | apply Drawn0.step)⟩

end Go.Proofs.Ytkkmpkgmkokjnaa.QLapTells
