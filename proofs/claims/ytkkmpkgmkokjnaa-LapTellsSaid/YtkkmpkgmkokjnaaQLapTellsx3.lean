-- Written for this claim by a program of this session.
import Derived.Test.YtkkmpkgmkokjnaaQLapTellsx0
import Derived.Test.YtkkmpkgmkokjnaaQLapTellsx1
import Derived.Test.YtkkmpkgmkokjnaaQLapTellsx2
namespace Go.Proofs.Ytkkmpkgmkokjnaa.QLapTells
open Go.RowKit Go.Proofs.YtkkmpkgmkokjnaaW.PrintWords Go.Proofs.YtkkmpkgmkokjnaaW.PrintLast Go.Proofs.YtkkmpkgmkokjnaaW.PrintMore
attribute [local go_sem] max2_int min2_int max_two min_two max_three min_three max_four min_four   -- for this text's walks alone
set_option linter.unusedVariables false
set_option linter.unusedSimpArgs false

/-! ### sakiaref02_First: function 37 -/
def sakiaref02_First.l0 : Nat → Int → Int → Int → Int → Int → Option (Int)
  | 0, _, _, _, _, _ => none
  | k + 1, x0, x1, x2, x3, x9 => if x9 < x1 then ((sakiaref01_Plus.f x0 x3 x9).bind fun t151 => ((sakiaref02_Slot.f x1 t151).bind fun t152 => (if t152 = x2 then (some t151) else (sakiaref02_First.l0 k x0 x1 x2 x3 (wrap64 (x9 + 1)))))) else (some 0)
def sakiaref02_First.f (k : Nat) (a0 : Int) (a1 : Int) (a2 : Int) (a3 : Int) : Option (Int) := sakiaref02_First.l0 k a0 a1 a2 a3 0
theorem sakiaref02_First.mono_l : ∀ k, (∀ y0 y1 y2 y3 y4, LeO (sakiaref02_First.l0 k y0 y1 y2 y3 y4) (sakiaref02_First.l0 (k + 1) y0 y1 y2 y3 y4))
  | 0 => fun _ _ _ _ _ r h => by simp [sakiaref02_First.l0] at h
  | k + 1 => by
    have ih0 := sakiaref02_First.mono_l k
    · intro y0 y1 y2 y3 y4
      unfold sakiaref02_First.l0
      repeat' first
      | (with_reducible exact ih0 _ _ _ _ _)
      | (with_reducible exact LeO.refl _)
      | (with_reducible exact LeO.none _)
      | (with_reducible refine LeO.ite ?_ ?_)
      | (with_reducible refine LeO.bind ?_ (fun _ => ?_))
      | exact ih0 _ _ _ _ _
      | exact LeO.none _
      | refine LeO.ite ?_ ?_
      | refine LeO.bind ?_ (fun _ => ?_)
theorem sakiaref02_First.mono : ∀ a0 a1 a2 a3 k, LeO (sakiaref02_First.f k a0 a1 a2 a3) (sakiaref02_First.f (k + 1) a0 a1 a2 a3) := by
  intro a0 a1 a2 a3 k
  have ih0 := sakiaref02_First.mono_l k
  unfold sakiaref02_First.f
  repeat' first
      | (with_reducible exact ih0 _ _ _ _ _)
      | (with_reducible exact LeO.refl _)
      | (with_reducible exact LeO.none _)
      | (with_reducible refine LeO.ite ?_ ?_)
      | (with_reducible refine LeO.bind ?_ (fun _ => ?_))
      | exact ih0 _ _ _ _ _
      | exact LeO.none _
      | refine LeO.ite ?_ ?_
      | refine LeO.bind ?_ (fun _ => ?_)
set_option maxHeartbeats 8000000 in
set_option maxRecDepth 100000 in
theorem sakiaref02_First.calls (k : Nat) (a0 : Int) (a1 : Int) (a2 : Int) (a3 : Int) (r : Int) (w : World) (h : sakiaref02_First.f k a0 a1 a2 a3 = some r) :
    Calls Try.prog 37 #[.int .i64 a0, .int .i64 a1, .int .i64 a2, .int .u64 a3] w fun e w' => e = .returned (.int .u64 r) ∧ Drawn0 w w' := by
  have H : (sakiaref02_First.l0 k a0 a1 a2 a3 0) = some r := h
  clear h
  have H' := Aside0.mk H
  clear H
  go_enter Try.func37, Try.ntmps37
  go_wp2
  go_loopg [9] k (fun kq v9 w' => ∃ (x9_1 : Int), v9 = .int .i64 x9_1 ∧ Aside0 (sakiaref02_First.l0 kq a0 a1 a2 a3 x9_1 = some r) ∧ Aside0 (kq ≤ k) ∧ Drawn0 w w')
  case atStart => exact ⟨(0), (by first | rfl | (simp; done) | (simp [*]; done)), H', ⟨Nat.le_refl _⟩, by repeat (first | exact Drawn0.refl _ | apply Drawn0.step)⟩
  case round =>
    clear H'
    try clear p2
    try clear c3
    obtain ⟨x9_1, rfl, HA, HK1, ⟨m1, rfl⟩⟩ := hrel
    cases gk with
    | zero => exact absurd HA.out (by simp [sakiaref02_First.l0])
    | succ k1 =>
      have H := HA.out
      clear HA
      simp only [sakiaref02_First.l0] at H
      by_cases c5 : x9_1 < a1
      · rw [if_pos c5] at H
        have c5b0 : decide (x9_1 < a1) = true := decide_eq_true c5
        clear c5
        replace H := Option.bind_eq_some_iff.mp H
        obtain ⟨t151, A60, H⟩ := H
        replace H : ((sakiaref02_Slot.f a1 t151).bind fun t152 => (if t152 = a2 then (some t151) else (sakiaref02_First.l0 k1 a0 a1 a2 a3 (wrap64 (x9_1 + 1))))) = some r := H
        have A6 := Aside0.mk A60
        clear A60
        replace H := Option.bind_eq_some_iff.mp H
        obtain ⟨t152, A70, H⟩ := H
        replace H : (if t152 = a2 then (some t151) else (sakiaref02_First.l0 k1 a0 a1 a2 a3 (wrap64 (x9_1 + 1)))) = some r := H
        have A7 := Aside0.mk A70
        clear A70
        by_cases c8 : t152 = a2
        · rw [if_pos c8] at H
          have c8b0 : (t152 == a2) = true := beq_iff_eq.mpr c8
          have c8b1 : (t152 != a2) = false := bne_eq_false_iff_eq.mpr c8
          clear c8
          obtain rfl := Option.some.inj H
          go_wp2_with (first | ((with_reducible refine gate_callee (f := 21) rfl ?_); refine goesL_ (some 19) rfl rfl Try.func21 (by kernel_rfl) rfl #[.int .i64 a0, .int .u64 a3, .int .i64 x9_1] rfl (by (try simp only [List.map_toArray, List.map_cons, List.map_nil]); first | done | rfl | (simp only [List.length_drop, List.length_take]; rfl)) ?_; (with_reducible refine (sakiaref01_Plus.calls a0 a3 x9_1 t151 _ A6.out).mono ?_); rintro e w' ⟨rfl, ⟨nd, rfl⟩⟩; refine ⟨_, rfl, ?_⟩) | ((with_reducible refine gate_callee (f := 20) rfl ?_); refine goesL_ (some 22) rfl rfl Try.func20 (by kernel_rfl) rfl #[.int .i64 a1, .int .u64 t151] rfl (by (try simp only [List.map_toArray, List.map_cons, List.map_nil]); first | done | rfl | (simp only [List.length_drop, List.length_take]; rfl)) ?_; (with_reducible refine (sakiaref02_Slot.calls a1 t151 t152 _ A7.out).mono ?_); rintro e w' ⟨rfl, ⟨nd, rfl⟩⟩; refine ⟨_, rfl, ?_⟩))
          go_ret
          exact ⟨by first | rfl | (simp; done) | (simp [*]; done), by repeat (first | exact Drawn0.refl _ | apply Drawn0.step)⟩
        · rw [if_neg c8] at H
          have c8b0 : (t152 == a2) = false := beq_eq_false_iff_ne.mpr c8
          have c8b1 : (t152 != a2) = true := bne_iff_ne.mpr c8
          have H' := Aside0.mk H
          clear H
          go_wp2_with (first | ((with_reducible refine gate_callee (f := 21) rfl ?_); refine goesL_ (some 19) rfl rfl Try.func21 (by kernel_rfl) rfl #[.int .i64 a0, .int .u64 a3, .int .i64 x9_1] rfl (by (try simp only [List.map_toArray, List.map_cons, List.map_nil]); first | done | rfl | (simp only [List.length_drop, List.length_take]; rfl)) ?_; (with_reducible refine (sakiaref01_Plus.calls a0 a3 x9_1 t151 _ A6.out).mono ?_); rintro e w' ⟨rfl, ⟨nd, rfl⟩⟩; refine ⟨_, rfl, ?_⟩) | ((with_reducible refine gate_callee (f := 20) rfl ?_); refine goesL_ (some 22) rfl rfl Try.func20 (by kernel_rfl) rfl #[.int .i64 a1, .int .u64 t151] rfl (by (try simp only [List.map_toArray, List.map_cons, List.map_nil]); first | done | rfl | (simp only [List.length_drop, List.length_take]; rfl)) ?_; (with_reducible refine (sakiaref02_Slot.calls a1 t151 t152 _ A7.out).mono ?_); rintro e w' ⟨rfl, ⟨nd, rfl⟩⟩; refine ⟨_, rfl, ?_⟩))
          go_roundg k1
          case measure => have := HK1.out; omega
          case rel => exact ⟨(wrap64 (x9_1 + 1)), (by first | rfl | (simp; done) | (simp [*]; done)), H', ⟨by have := HK1.out; omega⟩, by repeat (first | exact Drawn0.refl _ | apply Drawn0.step)⟩
      · rw [if_neg c5] at H
        have c5b0 : decide (x9_1 < a1) = false := decide_eq_false c5
        clear c5
        obtain rfl := Option.some.inj H
        go_wp2
        go_ret
        exact ⟨by first | rfl | (simp; done) | (simp [*]; done), by repeat (first | exact Drawn0.refl _ | apply Drawn0.step)⟩

/-! ### sakiaref02_Ahead: function 38 -/
def sakiaref02_Ahead.f (k : Nat) (a0 : Int) (a1 : Int) (a2 : Int) (a3 : Int) : Option (Int) := (sakiaref02_First.f k a0 a1 a2 a3).bind fun t153 => ((sakiaref01_Plus.f a0 t153 (wrap64 (-a1))).bind fun t154 => ((sakiaref02_Round.f a1 t154).bind fun t155 => (some t155)))
theorem sakiaref02_Ahead.mono : ∀ a0 a1 a2 a3 k, LeO (sakiaref02_Ahead.f k a0 a1 a2 a3) (sakiaref02_Ahead.f (k + 1) a0 a1 a2 a3) := by
  intro a0 a1 a2 a3 k
  unfold sakiaref02_Ahead.f
  repeat' first
      | (with_reducible exact sakiaref02_First.mono _ _ _ _ _)
      | (with_reducible exact LeO.refl _)
      | (with_reducible exact LeO.none _)
      | (with_reducible refine LeO.ite ?_ ?_)
      | (with_reducible refine LeO.bind ?_ (fun _ => ?_))
      | exact sakiaref02_First.mono _ _ _ _ _
      | exact LeO.none _
      | refine LeO.ite ?_ ?_
      | refine LeO.bind ?_ (fun _ => ?_)
set_option maxHeartbeats 8000000 in
set_option maxRecDepth 100000 in
theorem sakiaref02_Ahead.calls (k : Nat) (a0 : Int) (a1 : Int) (a2 : Int) (a3 : Int) (r : Int) (w : World) (h : sakiaref02_Ahead.f k a0 a1 a2 a3 = some r) :
    Calls Try.prog 38 #[.int .i64 a0, .int .i64 a1, .int .i64 a2, .int .u64 a3] w fun e w' => e = .returned (.int .u64 r) ∧ Drawn0 w w' := by
  have H : ((sakiaref02_First.f k a0 a1 a2 a3).bind fun t153 => ((sakiaref01_Plus.f a0 t153 (wrap64 (-a1))).bind fun t154 => ((sakiaref02_Round.f a1 t154).bind fun t155 => (some t155)))) = some r := h
  clear h
  replace H := Option.bind_eq_some_iff.mp H
  obtain ⟨t153, A50, H⟩ := H
  replace H : ((sakiaref01_Plus.f a0 t153 (wrap64 (-a1))).bind fun t154 => ((sakiaref02_Round.f a1 t154).bind fun t155 => (some t155))) = some r := H
  have A5 := Aside0.mk A50
  clear A50
  replace H := Option.bind_eq_some_iff.mp H
  obtain ⟨t154, A60, H⟩ := H
  replace H : ((sakiaref02_Round.f a1 t154).bind fun t155 => (some t155)) = some r := H
  have A6 := Aside0.mk A60
  clear A60
  replace H := Option.bind_eq_some_iff.mp H
  obtain ⟨t155, A70, H⟩ := H
  replace H : (some t155) = some r := H
  have A7 := Aside0.mk A70
  clear A70
  obtain rfl := Option.some.inj H
  go_enter Try.func38, Try.ntmps38
  go_wp2_with (first | ((with_reducible refine gate_callee (f := 37) rfl ?_); refine goesL_ (some 15) rfl rfl Try.func37 (by kernel_rfl) rfl #[.int .i64 a0, .int .i64 a1, .int .i64 a2, .int .u64 a3] rfl (by (try simp only [List.map_toArray, List.map_cons, List.map_nil]); first | done | rfl | (simp only [List.length_drop, List.length_take]; rfl)) ?_; (with_reducible refine (sakiaref02_First.calls k a0 a1 a2 a3 t153 _ A5.out).mono ?_); rintro e w' ⟨rfl, ⟨nd, rfl⟩⟩; refine ⟨_, rfl, ?_⟩) | ((with_reducible refine gate_callee (f := 21) rfl ?_); refine goesL_ (some 18) rfl rfl Try.func21 (by kernel_rfl) rfl #[.int .i64 a0, .int .u64 t153, .int .i64 (wrap64 (-a1))] rfl (by (try simp only [List.map_toArray, List.map_cons, List.map_nil]); first | done | rfl | (simp only [List.length_drop, List.length_take]; rfl)) ?_; (with_reducible refine (sakiaref01_Plus.calls a0 t153 (wrap64 (-a1)) t154 _ A6.out).mono ?_); rintro e w' ⟨rfl, ⟨nd, rfl⟩⟩; refine ⟨_, rfl, ?_⟩) | ((with_reducible refine gate_callee (f := 35) rfl ?_); refine goesL_ (some 19) rfl rfl Try.func35 (by kernel_rfl) rfl #[.int .i64 a1, .int .u64 t154] rfl (by (try simp only [List.map_toArray, List.map_cons, List.map_nil]); first | done | rfl | (simp only [List.length_drop, List.length_take]; rfl)) ?_; (with_reducible refine (sakiaref02_Round.calls a1 t154 t155 _ A7.out).mono ?_); rintro e w' ⟨rfl, ⟨nd, rfl⟩⟩; refine ⟨_, rfl, ?_⟩))
  go_ret
  exact ⟨by first | rfl | (simp; done) | (simp [*]; done), by repeat (first | exact Drawn0.refl _ | apply Drawn0.step)⟩

/-! ### sakialaw02_small: function 28 -/
mutual
def sakialaw02_small.j0 : Nat → Int → Int → Int → Int → Int → Bool → Option (Bool)
  | 0, _, _, _, _, _, _ => none
  | k + 1, x0, x1, x2, x3, x9, x33 => if x33 = true then (some false) else ((wide_Of_uint32.f x2).bind fun t163 => ((lap_Next_uint32.f x0 t163).bind fun t164 => ((sakiaref01_Plus.f 32 x2 x0).bind fun t165 => (if (IntKind.u64.wrap (t164)) = t165 then ((wide_Of_uint32.f x3).bind fun t166 => ((lap_At_uint32.f k x0 x1 t166).bind fun t167 => ((wide_Of_uint32.f x2).bind fun t168 => ((lap_First_uint32.f x0 x1 t168).bind fun t169 => ((wide_Of_uint32.f x2).bind fun t170 => ((lap_Ahead_uint32.f k x0 x1 t170).bind fun t171 => (if x1 < 0 then (sakialaw02_small.j1 k x0 x1 x3 x9 (IntKind.u64.wrap (t167)) (IntKind.u64.wrap (t169)) (IntKind.u64.wrap (t171)) true) else (sakialaw02_small.j1 k x0 x1 x3 x9 (IntKind.u64.wrap (t167)) (IntKind.u64.wrap (t169)) (IntKind.u64.wrap (t171)) (decide (x1 ≥ x0)))))))))) else (some false)))))
def sakialaw02_small.j1 : Nat → Int → Int → Int → Int → Int → Int → Int → Bool → Option (Bool)
  | 0, _, _, _, _, _, _, _, _ => none
  | k + 1, x0, x1, x3, x9, x10, x11, x12, x67 => if x67 = true then (if x10 = 0 then (if x11 = 0 then (some (x12 == 0)) else (some false)) else (some false)) else ((sakiaref02_At.f 32 x0 x1 x3).bind fun t172 => (if x10 = t172 then ((sakiaref02_First.f k 32 x0 x1 x9).bind fun t173 => (if x11 = t173 then ((sakiaref02_Ahead.f k 32 x0 x1 x9).bind fun t174 => (some (x12 == t174))) else (some false))) else (some false)))
end
def sakialaw02_small.f (k : Nat) (a0 : Int) (a1 : Int) (a2 : Int) (a3 : Int) : Option (Bool) := (sakiaref01_Cut.f 32 a2).bind fun t156 => ((wide_Of_uint32.f a2).bind fun t157 => ((lap_Slot_uint32.f a0 t157).bind fun t158 => ((sakiaref02_Slot.f a0 t156).bind fun t159 => (if t158 = t159 then ((wide_Of_uint32.f a2).bind fun t160 => ((lap_Round_uint32.f k a0 t160).bind fun t161 => ((sakiaref02_Round.f a0 t156).bind fun t162 => (sakialaw02_small.j0 k a0 a1 a2 a3 t156 ((IntKind.u64.wrap (t161)) != t162))))) else (sakialaw02_small.j0 k a0 a1 a2 a3 t156 true)))))
theorem sakialaw02_small.mono_l : ∀ k, (∀ y0 y1 y2 y3 y4 y5, LeO (sakialaw02_small.j0 k y0 y1 y2 y3 y4 y5) (sakialaw02_small.j0 (k + 1) y0 y1 y2 y3 y4 y5)) ∧ (∀ y0 y1 y2 y3 y4 y5 y6 y7, LeO (sakialaw02_small.j1 k y0 y1 y2 y3 y4 y5 y6 y7) (sakialaw02_small.j1 (k + 1) y0 y1 y2 y3 y4 y5 y6 y7))
  | 0 => ⟨fun _ _ _ _ _ _ r h => by simp [sakialaw02_small.j0] at h, fun _ _ _ _ _ _ _ _ r h => by simp [sakialaw02_small.j1] at h⟩
  | k + 1 => by
    obtain ⟨ih0, ih1⟩ := sakialaw02_small.mono_l k
    refine ⟨?_, ?_⟩
    · intro y0 y1 y2 y3 y4 y5
      unfold sakialaw02_small.j0
      repeat' first
      | (with_reducible exact ih0 _ _ _ _ _ _)
      | (with_reducible exact ih1 _ _ _ _ _ _ _ _)
      | (with_reducible exact lap_Ahead_uint32.mono _ _ _ _)
      | (with_reducible exact lap_At_uint32.mono _ _ _ _)
      | (with_reducible exact lap_Round_uint32.mono _ _ _)
      | (with_reducible exact sakiaref02_Ahead.mono _ _ _ _ _)
      | (with_reducible exact sakiaref02_First.mono _ _ _ _ _)
      | (with_reducible exact LeO.refl _)
      | (with_reducible exact LeO.none _)
      | (with_reducible refine LeO.ite ?_ ?_)
      | (with_reducible refine LeO.bind ?_ (fun _ => ?_))
      | exact ih0 _ _ _ _ _ _
      | exact ih1 _ _ _ _ _ _ _ _
      | exact lap_Ahead_uint32.mono _ _ _ _
      | exact lap_At_uint32.mono _ _ _ _
      | exact lap_Round_uint32.mono _ _ _
      | exact sakiaref02_Ahead.mono _ _ _ _ _
      | exact sakiaref02_First.mono _ _ _ _ _
      | exact LeO.none _
      | refine LeO.ite ?_ ?_
      | refine LeO.bind ?_ (fun _ => ?_)
    · intro y0 y1 y2 y3 y4 y5 y6 y7
      unfold sakialaw02_small.j1
      repeat' first
      | (with_reducible exact ih0 _ _ _ _ _ _)
      | (with_reducible exact ih1 _ _ _ _ _ _ _ _)
      | (with_reducible exact lap_Ahead_uint32.mono _ _ _ _)
      | (with_reducible exact lap_At_uint32.mono _ _ _ _)
      | (with_reducible exact lap_Round_uint32.mono _ _ _)
      | (with_reducible exact sakiaref02_Ahead.mono _ _ _ _ _)
      | (with_reducible exact sakiaref02_First.mono _ _ _ _ _)
      | (with_reducible exact LeO.refl _)
      | (with_reducible exact LeO.none _)
      | (with_reducible refine LeO.ite ?_ ?_)
      | (with_reducible refine LeO.bind ?_ (fun _ => ?_))
      | exact ih0 _ _ _ _ _ _
      | exact ih1 _ _ _ _ _ _ _ _
      | exact lap_Ahead_uint32.mono _ _ _ _
      | exact lap_At_uint32.mono _ _ _ _
      | exact lap_Round_uint32.mono _ _ _
      | exact sakiaref02_Ahead.mono _ _ _ _ _
      | exact sakiaref02_First.mono _ _ _ _ _
      | exact LeO.none _
      | refine LeO.ite ?_ ?_
      | refine LeO.bind ?_ (fun _ => ?_)
theorem sakialaw02_small.mono : ∀ a0 a1 a2 a3 k, LeO (sakialaw02_small.f k a0 a1 a2 a3) (sakialaw02_small.f (k + 1) a0 a1 a2 a3) := by
  intro a0 a1 a2 a3 k
  obtain ⟨ih0, ih1⟩ := sakialaw02_small.mono_l k
  unfold sakialaw02_small.f
  repeat' first
      | (with_reducible exact ih0 _ _ _ _ _ _)
      | (with_reducible exact ih1 _ _ _ _ _ _ _ _)
      | (with_reducible exact lap_Ahead_uint32.mono _ _ _ _)
      | (with_reducible exact lap_At_uint32.mono _ _ _ _)
      | (with_reducible exact lap_Round_uint32.mono _ _ _)
      | (with_reducible exact sakiaref02_Ahead.mono _ _ _ _ _)
      | (with_reducible exact sakiaref02_First.mono _ _ _ _ _)
      | (with_reducible exact LeO.refl _)
      | (with_reducible exact LeO.none _)
      | (with_reducible refine LeO.ite ?_ ?_)
      | (with_reducible refine LeO.bind ?_ (fun _ => ?_))
      | exact ih0 _ _ _ _ _ _
      | exact ih1 _ _ _ _ _ _ _ _
      | exact lap_Ahead_uint32.mono _ _ _ _
      | exact lap_At_uint32.mono _ _ _ _
      | exact lap_Round_uint32.mono _ _ _
      | exact sakiaref02_Ahead.mono _ _ _ _ _
      | exact sakiaref02_First.mono _ _ _ _ _
      | exact LeO.none _
      | refine LeO.ite ?_ ?_
      | refine LeO.bind ?_ (fun _ => ?_)
set_option maxHeartbeats 8000000 in
set_option maxRecDepth 100000 in
theorem sakialaw02_small.calls (k : Nat) (a0 : Int) (a1 : Int) (a2 : Int) (a3 : Int) (r : Bool) (w : World) (h : sakialaw02_small.f k a0 a1 a2 a3 = some r) :
    Calls Try.prog 28 #[.int .i64 a0, .int .i64 a1, .int .u64 a2, .int .u64 a3] w fun e w' => e = .returned (.bool r) ∧ Drawn0 w w' := by
  have H : ((sakiaref01_Cut.f 32 a2).bind fun t156 => ((wide_Of_uint32.f a2).bind fun t157 => ((lap_Slot_uint32.f a0 t157).bind fun t158 => ((sakiaref02_Slot.f a0 t156).bind fun t159 => (if t158 = t159 then ((wide_Of_uint32.f a2).bind fun t160 => ((lap_Round_uint32.f k a0 t160).bind fun t161 => ((sakiaref02_Round.f a0 t156).bind fun t162 => (sakialaw02_small.j0 k a0 a1 a2 a3 t156 ((IntKind.u64.wrap (t161)) != t162))))) else (sakialaw02_small.j0 k a0 a1 a2 a3 t156 true)))))) = some r := h
  clear h
  replace H := Option.bind_eq_some_iff.mp H
  obtain ⟨t156, A50, H⟩ := H
  replace H : ((wide_Of_uint32.f a2).bind fun t157 => ((lap_Slot_uint32.f a0 t157).bind fun t158 => ((sakiaref02_Slot.f a0 t156).bind fun t159 => (if t158 = t159 then ((wide_Of_uint32.f a2).bind fun t160 => ((lap_Round_uint32.f k a0 t160).bind fun t161 => ((sakiaref02_Round.f a0 t156).bind fun t162 => (sakialaw02_small.j0 k a0 a1 a2 a3 t156 ((IntKind.u64.wrap (t161)) != t162))))) else (sakialaw02_small.j0 k a0 a1 a2 a3 t156 true))))) = some r := H
  have A5 := Aside0.mk A50
  clear A50
  have HC6 := Aside0.mk H
  clear H
  go_enter Try.func28, Try.ntmps28
  go_upto_region 2 with (first | ((with_reducible refine gate_callee (f := 31) rfl ?_); refine goesL_ (some 14) rfl rfl Try.func31 (by kernel_rfl) rfl #[.int .i64 32, .int .u64 a2] rfl (by (try simp only [List.map_toArray, List.map_cons, List.map_nil]); first | done | rfl | (simp only [List.length_drop, List.length_take]; rfl)) ?_; (with_reducible refine (sakiaref01_Cut.calls 32 a2 t156 _ A5.out).mono ?_); rintro e w' ⟨rfl, ⟨nd, rfl⟩⟩; refine ⟨_, rfl, ?_⟩))
  (try simp only [Act.put, List.setIfInBounds_toArray, List.set_cons_zero, List.set_cons_succ])
  go_cut [33] (fun v33 wc => ∃ (kq : Nat) (x33_5 : Bool), v33 = .bool x33_5 ∧ Aside0 (sakialaw02_small.j0 kq a0 a1 a2 a3 t156 x33_5 = some r) ∧ Aside0 (kq ≤ k) ∧ Drawn0 w wc)
  case first =>
    have H := HC6.out
    clear HC6
    replace H := Option.bind_eq_some_iff.mp H
    obtain ⟨t157, A70, H⟩ := H
    replace H : ((lap_Slot_uint32.f a0 t157).bind fun t158 => ((sakiaref02_Slot.f a0 t156).bind fun t159 => (if t158 = t159 then ((wide_Of_uint32.f a2).bind fun t160 => ((lap_Round_uint32.f k a0 t160).bind fun t161 => ((sakiaref02_Round.f a0 t156).bind fun t162 => (sakialaw02_small.j0 k a0 a1 a2 a3 t156 ((IntKind.u64.wrap (t161)) != t162))))) else (sakialaw02_small.j0 k a0 a1 a2 a3 t156 true)))) = some r := H
    have A7 := Aside0.mk A70
    clear A70
    replace H := Option.bind_eq_some_iff.mp H
    obtain ⟨t158, A80, H⟩ := H
    replace H : ((sakiaref02_Slot.f a0 t156).bind fun t159 => (if t158 = t159 then ((wide_Of_uint32.f a2).bind fun t160 => ((lap_Round_uint32.f k a0 t160).bind fun t161 => ((sakiaref02_Round.f a0 t156).bind fun t162 => (sakialaw02_small.j0 k a0 a1 a2 a3 t156 ((IntKind.u64.wrap (t161)) != t162))))) else (sakialaw02_small.j0 k a0 a1 a2 a3 t156 true))) = some r := H
    have A8 := Aside0.mk A80
    clear A80
    replace H := Option.bind_eq_some_iff.mp H
    obtain ⟨t159, A90, H⟩ := H
    replace H : (if t158 = t159 then ((wide_Of_uint32.f a2).bind fun t160 => ((lap_Round_uint32.f k a0 t160).bind fun t161 => ((sakiaref02_Round.f a0 t156).bind fun t162 => (sakialaw02_small.j0 k a0 a1 a2 a3 t156 ((IntKind.u64.wrap (t161)) != t162))))) else (sakialaw02_small.j0 k a0 a1 a2 a3 t156 true)) = some r := H
    have A9 := Aside0.mk A90
    clear A90
    by_cases c10 : t158 = t159
    · rw [if_pos c10] at H
      have c10b0 : (t158 == t159) = true := beq_iff_eq.mpr c10
      have c10b1 : (t158 != t159) = false := bne_eq_false_iff_eq.mpr c10
      clear c10
      (first | rw [c10b0] | (simp only [i64_w, i32_w]; rw [c10b0]) | skip)
      replace H := Option.bind_eq_some_iff.mp H
      obtain ⟨t160, A110, H⟩ := H
      replace H : ((lap_Round_uint32.f k a0 t160).bind fun t161 => ((sakiaref02_Round.f a0 t156).bind fun t162 => (sakialaw02_small.j0 k a0 a1 a2 a3 t156 ((IntKind.u64.wrap (t161)) != t162)))) = some r := H
      have A11 := Aside0.mk A110
      clear A110
      replace H := Option.bind_eq_some_iff.mp H
      obtain ⟨t161, A120, H⟩ := H
      replace H : ((sakiaref02_Round.f a0 t156).bind fun t162 => (sakialaw02_small.j0 k a0 a1 a2 a3 t156 ((IntKind.u64.wrap (t161)) != t162))) = some r := H
      have A12 := Aside0.mk A120
      clear A120
      replace H := Option.bind_eq_some_iff.mp H
      obtain ⟨t162, A130, H⟩ := H
      replace H : (sakialaw02_small.j0 k a0 a1 a2 a3 t156 ((IntKind.u64.wrap (t161)) != t162)) = some r := H
      have A13 := Aside0.mk A130
      clear A130
      have H' := Aside0.mk H
      clear H
      go_wp2_with (first | ((with_reducible refine gate_callee (f := 9) rfl ?_); refine goesL_ (some 17) rfl rfl Try.func9 (by kernel_rfl) rfl #[.int .u64 a2] rfl (by (try simp only [List.map_toArray, List.map_cons, List.map_nil]); first | done | rfl | (simp only [List.length_drop, List.length_take]; rfl)) ?_; (with_reducible refine (wide_Of_uint32.calls a2 t157 _ A7.out).mono ?_); rintro e w' ⟨rfl, ⟨nd, rfl⟩⟩; refine ⟨_, rfl, ?_⟩) | ((with_reducible refine gate_callee (f := 12) rfl ?_); refine goesL_ (some 18) rfl rfl Try.func12 (by kernel_rfl) rfl #[.int .i64 a0, .int .u32 t157] rfl (by (try simp only [List.map_toArray, List.map_cons, List.map_nil]); first | done | rfl | (simp only [List.length_drop, List.length_take]; rfl)) ?_; (with_reducible refine (lap_Slot_uint32.calls a0 t157 t158 _ A8.out).mono ?_); rintro e w' ⟨rfl, ⟨nd, rfl⟩⟩; refine ⟨_, rfl, ?_⟩) | ((with_reducible refine gate_callee (f := 20) rfl ?_); refine goesL_ (some 21) rfl rfl Try.func20 (by kernel_rfl) rfl #[.int .i64 a0, .int .u64 t156] rfl (by (try simp only [List.map_toArray, List.map_cons, List.map_nil]); first | done | rfl | (simp only [List.length_drop, List.length_take]; rfl)) ?_; (with_reducible refine (sakiaref02_Slot.calls a0 t156 t159 _ A9.out).mono ?_); rintro e w' ⟨rfl, ⟨nd, rfl⟩⟩; refine ⟨_, rfl, ?_⟩) | (go_at_call 9; (with_reducible refine (wide_Of_uint32.calls a2 t160 _ A11.out).mono ?_); rintro e w' ⟨rfl, ⟨nd, rfl⟩⟩) | (go_at_call 16; (with_reducible refine (lap_Round_uint32.calls k a0 t160 t161 _ A12.out).mono ?_); rintro e w' ⟨rfl, ⟨nd, rfl⟩⟩) | (go_at_call 35; (with_reducible refine (sakiaref02_Round.calls a0 t156 t162 _ A13.out).mono ?_); rintro e w' ⟨rfl, ⟨nd, rfl⟩⟩))
      go_meet
      case rel => exact ⟨_, (((IntKind.u64.wrap (t161)) != t162)), (by first | rfl | (simp; done) | (simp [*]; done)), H', ⟨by first | omega | exact Nat.le_refl _⟩, by repeat (first | exact Drawn0.refl _ | apply Drawn0.step)⟩
    · rw [if_neg c10] at H
      have c10b0 : (t158 == t159) = false := beq_eq_false_iff_ne.mpr c10
      have c10b1 : (t158 != t159) = true := bne_iff_ne.mpr c10
      (first | rw [c10b0] | (simp only [i64_w, i32_w]; rw [c10b0]) | skip)
      have H' := Aside0.mk H
      clear H
      go_wp2_with (first | ((with_reducible refine gate_callee (f := 9) rfl ?_); refine goesL_ (some 17) rfl rfl Try.func9 (by kernel_rfl) rfl #[.int .u64 a2] rfl (by (try simp only [List.map_toArray, List.map_cons, List.map_nil]); first | done | rfl | (simp only [List.length_drop, List.length_take]; rfl)) ?_; (with_reducible refine (wide_Of_uint32.calls a2 t157 _ A7.out).mono ?_); rintro e w' ⟨rfl, ⟨nd, rfl⟩⟩; refine ⟨_, rfl, ?_⟩) | ((with_reducible refine gate_callee (f := 12) rfl ?_); refine goesL_ (some 18) rfl rfl Try.func12 (by kernel_rfl) rfl #[.int .i64 a0, .int .u32 t157] rfl (by (try simp only [List.map_toArray, List.map_cons, List.map_nil]); first | done | rfl | (simp only [List.length_drop, List.length_take]; rfl)) ?_; (with_reducible refine (lap_Slot_uint32.calls a0 t157 t158 _ A8.out).mono ?_); rintro e w' ⟨rfl, ⟨nd, rfl⟩⟩; refine ⟨_, rfl, ?_⟩) | ((with_reducible refine gate_callee (f := 20) rfl ?_); refine goesL_ (some 21) rfl rfl Try.func20 (by kernel_rfl) rfl #[.int .i64 a0, .int .u64 t156] rfl (by (try simp only [List.map_toArray, List.map_cons, List.map_nil]); first | done | rfl | (simp only [List.length_drop, List.length_take]; rfl)) ?_; (with_reducible refine (sakiaref02_Slot.calls a0 t156 t159 _ A9.out).mono ?_); rintro e w' ⟨rfl, ⟨nd, rfl⟩⟩; refine ⟨_, rfl, ?_⟩))
      go_meet
      case rel => exact ⟨_, (true), (by first | rfl | (simp; done) | (simp [*]; done)), H', ⟨by first | omega | exact Nat.le_refl _⟩, by repeat (first | exact Drawn0.refl _ | apply Drawn0.step)⟩
  case rest =>
    clear HC6
    try clear c1
    try clear c2
    try clear p2
    try clear c3
    try clear c9
    try clear c10
    try clear c10b0
    try clear c10b1
    try clear c12
    obtain ⟨kq, x33_5, rfl, HA, HJ5, ⟨mc5, rfl⟩⟩ := hcut
    cases kq with
    | zero => exact absurd HA.out (by simp [sakialaw02_small.j0])
    | succ kj5 =>
      have H := HA.out
      clear HA
      simp only [sakialaw02_small.j0] at H
      by_cases c14 : x33_5 = true
      · subst c14
        have H1 : (some false) = some r := by rw [if_pos rfl] at H; exact H
        clear H
        have H := H1
        clear H1
        obtain rfl := Option.some.inj H
        go_wp2
        go_ret
        exact ⟨by first | rfl | (simp; done) | (simp [*]; done), by repeat (first | exact Drawn0.refl _ | apply Drawn0.step)⟩
      · replace c14 := Bool.eq_false_iff.mpr c14
        subst c14
        have H1 : ((wide_Of_uint32.f a2).bind fun t163 => ((lap_Next_uint32.f a0 t163).bind fun t164 => ((sakiaref01_Plus.f 32 a2 a0).bind fun t165 => (if (IntKind.u64.wrap (t164)) = t165 then ((wide_Of_uint32.f a3).bind fun t166 => ((lap_At_uint32.f kj5 a0 a1 t166).bind fun t167 => ((wide_Of_uint32.f a2).bind fun t168 => ((lap_First_uint32.f a0 a1 t168).bind fun t169 => ((wide_Of_uint32.f a2).bind fun t170 => ((lap_Ahead_uint32.f kj5 a0 a1 t170).bind fun t171 => (if a1 < 0 then (sakialaw02_small.j1 kj5 a0 a1 a3 t156 (IntKind.u64.wrap (t167)) (IntKind.u64.wrap (t169)) (IntKind.u64.wrap (t171)) true) else (sakialaw02_small.j1 kj5 a0 a1 a3 t156 (IntKind.u64.wrap (t167)) (IntKind.u64.wrap (t169)) (IntKind.u64.wrap (t171)) (decide (a1 ≥ a0)))))))))) else (some false))))) = some r := by rw [if_neg (show ¬ (false = true) by decide)] at H; exact H
        clear H
        have H := H1
        clear H1
        replace H := Option.bind_eq_some_iff.mp H
        obtain ⟨t163, A150, H⟩ := H
        replace H : ((lap_Next_uint32.f a0 t163).bind fun t164 => ((sakiaref01_Plus.f 32 a2 a0).bind fun t165 => (if (IntKind.u64.wrap (t164)) = t165 then ((wide_Of_uint32.f a3).bind fun t166 => ((lap_At_uint32.f kj5 a0 a1 t166).bind fun t167 => ((wide_Of_uint32.f a2).bind fun t168 => ((lap_First_uint32.f a0 a1 t168).bind fun t169 => ((wide_Of_uint32.f a2).bind fun t170 => ((lap_Ahead_uint32.f kj5 a0 a1 t170).bind fun t171 => (if a1 < 0 then (sakialaw02_small.j1 kj5 a0 a1 a3 t156 (IntKind.u64.wrap (t167)) (IntKind.u64.wrap (t169)) (IntKind.u64.wrap (t171)) true) else (sakialaw02_small.j1 kj5 a0 a1 a3 t156 (IntKind.u64.wrap (t167)) (IntKind.u64.wrap (t169)) (IntKind.u64.wrap (t171)) (decide (a1 ≥ a0)))))))))) else (some false)))) = some r := H
        have A15 := Aside0.mk A150
        clear A150
        replace H := Option.bind_eq_some_iff.mp H
        obtain ⟨t164, A160, H⟩ := H
        replace H : ((sakiaref01_Plus.f 32 a2 a0).bind fun t165 => (if (IntKind.u64.wrap (t164)) = t165 then ((wide_Of_uint32.f a3).bind fun t166 => ((lap_At_uint32.f kj5 a0 a1 t166).bind fun t167 => ((wide_Of_uint32.f a2).bind fun t168 => ((lap_First_uint32.f a0 a1 t168).bind fun t169 => ((wide_Of_uint32.f a2).bind fun t170 => ((lap_Ahead_uint32.f kj5 a0 a1 t170).bind fun t171 => (if a1 < 0 then (sakialaw02_small.j1 kj5 a0 a1 a3 t156 (IntKind.u64.wrap (t167)) (IntKind.u64.wrap (t169)) (IntKind.u64.wrap (t171)) true) else (sakialaw02_small.j1 kj5 a0 a1 a3 t156 (IntKind.u64.wrap (t167)) (IntKind.u64.wrap (t169)) (IntKind.u64.wrap (t171)) (decide (a1 ≥ a0)))))))))) else (some false))) = some r := H
        have A16 := Aside0.mk A160
        clear A160
        replace H := Option.bind_eq_some_iff.mp H
        obtain ⟨t165, A170, H⟩ := H
        replace H : (if (IntKind.u64.wrap (t164)) = t165 then ((wide_Of_uint32.f a3).bind fun t166 => ((lap_At_uint32.f kj5 a0 a1 t166).bind fun t167 => ((wide_Of_uint32.f a2).bind fun t168 => ((lap_First_uint32.f a0 a1 t168).bind fun t169 => ((wide_Of_uint32.f a2).bind fun t170 => ((lap_Ahead_uint32.f kj5 a0 a1 t170).bind fun t171 => (if a1 < 0 then (sakialaw02_small.j1 kj5 a0 a1 a3 t156 (IntKind.u64.wrap (t167)) (IntKind.u64.wrap (t169)) (IntKind.u64.wrap (t171)) true) else (sakialaw02_small.j1 kj5 a0 a1 a3 t156 (IntKind.u64.wrap (t167)) (IntKind.u64.wrap (t169)) (IntKind.u64.wrap (t171)) (decide (a1 ≥ a0)))))))))) else (some false)) = some r := H
        have A17 := Aside0.mk A170
        clear A170
        by_cases c18 : (IntKind.u64.wrap (t164)) = t165
        · rw [if_pos c18] at H
          have c18b0 : ((IntKind.u64.wrap (t164)) == t165) = true := beq_iff_eq.mpr c18
          have c18b1 : ((IntKind.u64.wrap (t164)) != t165) = false := bne_eq_false_iff_eq.mpr c18
          clear c18
          replace H := Option.bind_eq_some_iff.mp H
          obtain ⟨t166, A190, H⟩ := H
          replace H : ((lap_At_uint32.f kj5 a0 a1 t166).bind fun t167 => ((wide_Of_uint32.f a2).bind fun t168 => ((lap_First_uint32.f a0 a1 t168).bind fun t169 => ((wide_Of_uint32.f a2).bind fun t170 => ((lap_Ahead_uint32.f kj5 a0 a1 t170).bind fun t171 => (if a1 < 0 then (sakialaw02_small.j1 kj5 a0 a1 a3 t156 (IntKind.u64.wrap (t167)) (IntKind.u64.wrap (t169)) (IntKind.u64.wrap (t171)) true) else (sakialaw02_small.j1 kj5 a0 a1 a3 t156 (IntKind.u64.wrap (t167)) (IntKind.u64.wrap (t169)) (IntKind.u64.wrap (t171)) (decide (a1 ≥ a0))))))))) = some r := H
          have A19 := Aside0.mk A190
          clear A190
          replace H := Option.bind_eq_some_iff.mp H
          obtain ⟨t167, A200, H⟩ := H
          replace H : ((wide_Of_uint32.f a2).bind fun t168 => ((lap_First_uint32.f a0 a1 t168).bind fun t169 => ((wide_Of_uint32.f a2).bind fun t170 => ((lap_Ahead_uint32.f kj5 a0 a1 t170).bind fun t171 => (if a1 < 0 then (sakialaw02_small.j1 kj5 a0 a1 a3 t156 (IntKind.u64.wrap (t167)) (IntKind.u64.wrap (t169)) (IntKind.u64.wrap (t171)) true) else (sakialaw02_small.j1 kj5 a0 a1 a3 t156 (IntKind.u64.wrap (t167)) (IntKind.u64.wrap (t169)) (IntKind.u64.wrap (t171)) (decide (a1 ≥ a0)))))))) = some r := H
          have A20 := Aside0.mk A200
          clear A200
          replace H := Option.bind_eq_some_iff.mp H
          obtain ⟨t168, A210, H⟩ := H
          replace H : ((lap_First_uint32.f a0 a1 t168).bind fun t169 => ((wide_Of_uint32.f a2).bind fun t170 => ((lap_Ahead_uint32.f kj5 a0 a1 t170).bind fun t171 => (if a1 < 0 then (sakialaw02_small.j1 kj5 a0 a1 a3 t156 (IntKind.u64.wrap (t167)) (IntKind.u64.wrap (t169)) (IntKind.u64.wrap (t171)) true) else (sakialaw02_small.j1 kj5 a0 a1 a3 t156 (IntKind.u64.wrap (t167)) (IntKind.u64.wrap (t169)) (IntKind.u64.wrap (t171)) (decide (a1 ≥ a0))))))) = some r := H
          have A21 := Aside0.mk A210
          clear A210
          replace H := Option.bind_eq_some_iff.mp H
          obtain ⟨t169, A220, H⟩ := H
          replace H : ((wide_Of_uint32.f a2).bind fun t170 => ((lap_Ahead_uint32.f kj5 a0 a1 t170).bind fun t171 => (if a1 < 0 then (sakialaw02_small.j1 kj5 a0 a1 a3 t156 (IntKind.u64.wrap (t167)) (IntKind.u64.wrap (t169)) (IntKind.u64.wrap (t171)) true) else (sakialaw02_small.j1 kj5 a0 a1 a3 t156 (IntKind.u64.wrap (t167)) (IntKind.u64.wrap (t169)) (IntKind.u64.wrap (t171)) (decide (a1 ≥ a0)))))) = some r := H
          have A22 := Aside0.mk A220
          clear A220
          replace H := Option.bind_eq_some_iff.mp H
          obtain ⟨t170, A230, H⟩ := H
          replace H : ((lap_Ahead_uint32.f kj5 a0 a1 t170).bind fun t171 => (if a1 < 0 then (sakialaw02_small.j1 kj5 a0 a1 a3 t156 (IntKind.u64.wrap (t167)) (IntKind.u64.wrap (t169)) (IntKind.u64.wrap (t171)) true) else (sakialaw02_small.j1 kj5 a0 a1 a3 t156 (IntKind.u64.wrap (t167)) (IntKind.u64.wrap (t169)) (IntKind.u64.wrap (t171)) (decide (a1 ≥ a0))))) = some r := H
          have A23 := Aside0.mk A230
          clear A230
          replace H := Option.bind_eq_some_iff.mp H
          obtain ⟨t171, A240, H⟩ := H
          replace H : (if a1 < 0 then (sakialaw02_small.j1 kj5 a0 a1 a3 t156 (IntKind.u64.wrap (t167)) (IntKind.u64.wrap (t169)) (IntKind.u64.wrap (t171)) true) else (sakialaw02_small.j1 kj5 a0 a1 a3 t156 (IntKind.u64.wrap (t167)) (IntKind.u64.wrap (t169)) (IntKind.u64.wrap (t171)) (decide (a1 ≥ a0)))) = some r := H
          have A24 := Aside0.mk A240
          clear A240
          have HC25 := Aside0.mk H
          clear H
          go_upto_region 9 with (first | ((with_reducible refine gate_callee (f := 9) rfl ?_); refine goesL_ (some 36) rfl rfl Try.func9 (by kernel_rfl) rfl #[.int .u64 a2] rfl (by (try simp only [List.map_toArray, List.map_cons, List.map_nil]); first | done | rfl | (simp only [List.length_drop, List.length_take]; rfl)) ?_; (with_reducible refine (wide_Of_uint32.calls a2 t163 _ A15.out).mono ?_); rintro e w' ⟨rfl, ⟨nd, rfl⟩⟩; refine ⟨_, rfl, ?_⟩) | ((with_reducible refine gate_callee (f := 14) rfl ?_); refine goesL_ (some 37) rfl rfl Try.func14 (by kernel_rfl) rfl #[.int .i64 a0, .int .u32 t163] rfl (by (try simp only [List.map_toArray, List.map_cons, List.map_nil]); first | done | rfl | (simp only [List.length_drop, List.length_take]; rfl)) ?_; (with_reducible refine (lap_Next_uint32.calls a0 t163 t164 _ A16.out).mono ?_); rintro e w' ⟨rfl, ⟨nd, rfl⟩⟩; refine ⟨_, rfl, ?_⟩) | ((with_reducible refine gate_callee (f := 21) rfl ?_); refine goesL_ (some 41) rfl rfl Try.func21 (by kernel_rfl) rfl #[.int .i64 32, .int .u64 a2, .int .i64 a0] rfl (by (try simp only [List.map_toArray, List.map_cons, List.map_nil]); first | done | rfl | (simp only [List.length_drop, List.length_take]; rfl)) ?_; (with_reducible refine (sakiaref01_Plus.calls 32 a2 a0 t165 _ A17.out).mono ?_); rintro e w' ⟨rfl, ⟨nd, rfl⟩⟩; refine ⟨_, rfl, ?_⟩) | ((with_reducible refine gate_callee (f := 9) rfl ?_); refine goesL_ (some 46) rfl rfl Try.func9 (by kernel_rfl) rfl #[.int .u64 a3] rfl (by (try simp only [List.map_toArray, List.map_cons, List.map_nil]); first | done | rfl | (simp only [List.length_drop, List.length_take]; rfl)) ?_; (with_reducible refine (wide_Of_uint32.calls a3 t166 _ A19.out).mono ?_); rintro e w' ⟨rfl, ⟨nd, rfl⟩⟩; refine ⟨_, rfl, ?_⟩) | ((with_reducible refine gate_callee (f := 22) rfl ?_); refine goesL_ (some 47) rfl rfl Try.func22 (by kernel_rfl) rfl #[.int .i64 a0, .int .i64 a1, .int .u32 t166] rfl (by (try simp only [List.map_toArray, List.map_cons, List.map_nil]); first | done | rfl | (simp only [List.length_drop, List.length_take]; rfl)) ?_; (with_reducible refine (lap_At_uint32.calls kj5 a0 a1 t166 t167 _ A20.out).mono ?_); rintro e w' ⟨rfl, ⟨nd, rfl⟩⟩; refine ⟨_, rfl, ?_⟩) | ((with_reducible refine gate_callee (f := 9) rfl ?_); refine goesL_ (some 52) rfl rfl Try.func9 (by kernel_rfl) rfl #[.int .u64 a2] rfl (by (try simp only [List.map_toArray, List.map_cons, List.map_nil]); first | done | rfl | (simp only [List.length_drop, List.length_take]; rfl)) ?_; (with_reducible refine (wide_Of_uint32.calls a2 t168 _ A21.out).mono ?_); rintro e w' ⟨rfl, ⟨nd, rfl⟩⟩; refine ⟨_, rfl, ?_⟩) | ((with_reducible refine gate_callee (f := 33) rfl ?_); refine goesL_ (some 53) rfl rfl Try.func33 (by kernel_rfl) rfl #[.int .i64 a0, .int .i64 a1, .int .u32 t168] rfl (by (try simp only [List.map_toArray, List.map_cons, List.map_nil]); first | done | rfl | (simp only [List.length_drop, List.length_take]; rfl)) ?_; (with_reducible refine (lap_First_uint32.calls a0 a1 t168 t169 _ A22.out).mono ?_); rintro e w' ⟨rfl, ⟨nd, rfl⟩⟩; refine ⟨_, rfl, ?_⟩) | ((with_reducible refine gate_callee (f := 9) rfl ?_); refine goesL_ (some 58) rfl rfl Try.func9 (by kernel_rfl) rfl #[.int .u64 a2] rfl (by (try simp only [List.map_toArray, List.map_cons, List.map_nil]); first | done | rfl | (simp only [List.length_drop, List.length_take]; rfl)) ?_; (with_reducible refine (wide_Of_uint32.calls a2 t170 _ A23.out).mono ?_); rintro e w' ⟨rfl, ⟨nd, rfl⟩⟩; refine ⟨_, rfl, ?_⟩) | ((with_reducible refine gate_callee (f := 34) rfl ?_); refine goesL_ (some 59) rfl rfl Try.func34 (by kernel_rfl) rfl #[.int .i64 a0, .int .i64 a1, .int .u32 t170] rfl (by (try simp only [List.map_toArray, List.map_cons, List.map_nil]); first | done | rfl | (simp only [List.length_drop, List.length_take]; rfl)) ?_; (with_reducible refine (lap_Ahead_uint32.calls kj5 a0 a1 t170 t171 _ A24.out).mono ?_); rintro e w' ⟨rfl, ⟨nd, rfl⟩⟩; refine ⟨_, rfl, ?_⟩))
          (try simp only [Act.put, List.setIfInBounds_toArray, List.set_cons_zero, List.set_cons_succ])
          go_cut [67] (fun v67 wc => ∃ (kq : Nat) (x67_24 : Bool), v67 = .bool x67_24 ∧ Aside0 (sakialaw02_small.j1 kq a0 a1 a3 t156 (IntKind.u64.wrap (t167)) (IntKind.u64.wrap (t169)) (IntKind.u64.wrap (t171)) x67_24 = some r) ∧ Aside0 (kq ≤ kj5) ∧ Drawn0 w wc)
          case first =>
            have H := HC25.out
            clear HC25
            by_cases c26 : a1 < 0
            · rw [if_pos c26] at H
              have c26b0 : decide (a1 < 0) = true := decide_eq_true c26
              clear c26
              (first | rw [c26b0] | (simp only [i64_w, i32_w]; rw [c26b0]) | skip)
              have H' := Aside0.mk H
              clear H
              go_wp2
              go_meet
              case rel => exact ⟨_, (true), (by first | rfl | (simp; done) | (simp [*]; done)), H', ⟨by have := HJ5.out; first | omega | exact Nat.le_refl _⟩, by repeat (first | exact Drawn0.refl _ | apply Drawn0.step)⟩
            · rw [if_neg c26] at H
              have c26b0 : decide (a1 < 0) = false := decide_eq_false c26
              clear c26
              (first | rw [c26b0] | (simp only [i64_w, i32_w]; rw [c26b0]) | skip)
              have H' := Aside0.mk H
              clear H
              go_wp2
              go_meet
              case rel => exact ⟨_, (decide (a1 ≥ a0)), (by first | rfl | (simp; done) | (simp [*]; done)), H', ⟨by have := HJ5.out; first | omega | exact Nat.le_refl _⟩, by repeat (first | exact Drawn0.refl _ | apply Drawn0.step)⟩
          case rest =>
            clear HC25
            try clear c1
            try clear c2
            try clear p2
            try clear c3
            try clear c5
            try clear c9
            try clear c10
            try clear c10b0
            try clear c10b1
            try clear c12
            try clear c14
            try clear c18
            try clear c18b0
            try clear c18b1
            try clear c20
            try clear c21
            try clear c22
            try clear c26
            try clear c26b0
            try clear p2
            obtain ⟨kq, x67_24, rfl, HA, HJ24, ⟨mc24, rfl⟩⟩ := hcut
            cases kq with
            | zero => exact absurd HA.out (by simp [sakialaw02_small.j1])
            | succ kj24 =>
              have H := HA.out
              clear HA
              simp only [sakialaw02_small.j1] at H
              by_cases c27 : x67_24 = true
              · subst c27
                have H1 : (if (IntKind.u64.wrap (t167)) = 0 then (if (IntKind.u64.wrap (t169)) = 0 then (some ((IntKind.u64.wrap (t171)) == 0)) else (some false)) else (some false)) = some r := by rw [if_pos rfl] at H; exact H
                clear H
                have H := H1
                clear H1
                by_cases c28 : (IntKind.u64.wrap (t167)) = 0
                · rw [if_pos c28] at H
                  have c28b0 : ((IntKind.u64.wrap (t167)) == 0) = true := beq_iff_eq.mpr c28
                  have c28b1 : ((IntKind.u64.wrap (t167)) != 0) = false := bne_eq_false_iff_eq.mpr c28
                  clear c28
                  by_cases c29 : (IntKind.u64.wrap (t169)) = 0
                  · rw [if_pos c29] at H
                    have c29b0 : ((IntKind.u64.wrap (t169)) == 0) = true := beq_iff_eq.mpr c29
                    have c29b1 : ((IntKind.u64.wrap (t169)) != 0) = false := bne_eq_false_iff_eq.mpr c29
                    clear c29
                    obtain rfl := Option.some.inj H
                    go_wp2
                    go_ret
                    exact ⟨by first | rfl | (simp; done) | (simp [*]; done), by repeat (first | exact Drawn0.refl _ | apply Drawn0.step)⟩
                  · rw [if_neg c29] at H
                    have c29b0 : ((IntKind.u64.wrap (t169)) == 0) = false := beq_eq_false_iff_ne.mpr c29
                    have c29b1 : ((IntKind.u64.wrap (t169)) != 0) = true := bne_iff_ne.mpr c29
                    obtain rfl := Option.some.inj H
                    go_wp2
                    go_ret
                    exact ⟨by first | rfl | (simp; done) | (simp [*]; done), by repeat (first | exact Drawn0.refl _ | apply Drawn0.step)⟩
                · rw [if_neg c28] at H
                  have c28b0 : ((IntKind.u64.wrap (t167)) == 0) = false := beq_eq_false_iff_ne.mpr c28
                  have c28b1 : ((IntKind.u64.wrap (t167)) != 0) = true := bne_iff_ne.mpr c28
                  obtain rfl := Option.some.inj H
                  go_wp2
                  go_ret
                  exact ⟨by first | rfl | (simp; done) | (simp [*]; done), by repeat (first | exact Drawn0.refl _ | apply Drawn0.step)⟩
              · replace c27 := Bool.eq_false_iff.mpr c27
                subst c27
                have H1 : ((sakiaref02_At.f 32 a0 a1 a3).bind fun t172 => (if (IntKind.u64.wrap (t167)) = t172 then ((sakiaref02_First.f kj24 32 a0 a1 t156).bind fun t173 => (if (IntKind.u64.wrap (t169)) = t173 then ((sakiaref02_Ahead.f kj24 32 a0 a1 t156).bind fun t174 => (some ((IntKind.u64.wrap (t171)) == t174))) else (some false))) else (some false))) = some r := by rw [if_neg (show ¬ (false = true) by decide)] at H; exact H
                clear H
                have H := H1
                clear H1
                replace H := Option.bind_eq_some_iff.mp H
                obtain ⟨t172, A300, H⟩ := H
                replace H : (if (IntKind.u64.wrap (t167)) = t172 then ((sakiaref02_First.f kj24 32 a0 a1 t156).bind fun t173 => (if (IntKind.u64.wrap (t169)) = t173 then ((sakiaref02_Ahead.f kj24 32 a0 a1 t156).bind fun t174 => (some ((IntKind.u64.wrap (t171)) == t174))) else (some false))) else (some false)) = some r := H
                have A30 := Aside0.mk A300
                clear A300
                by_cases c31 : (IntKind.u64.wrap (t167)) = t172
                · rw [if_pos c31] at H
                  have c31b0 : ((IntKind.u64.wrap (t167)) == t172) = true := beq_iff_eq.mpr c31
                  have c31b1 : ((IntKind.u64.wrap (t167)) != t172) = false := bne_eq_false_iff_eq.mpr c31
                  clear c31
                  replace H := Option.bind_eq_some_iff.mp H
                  obtain ⟨t173, A320, H⟩ := H
                  replace H : (if (IntKind.u64.wrap (t169)) = t173 then ((sakiaref02_Ahead.f kj24 32 a0 a1 t156).bind fun t174 => (some ((IntKind.u64.wrap (t171)) == t174))) else (some false)) = some r := H
                  have A32 := Aside0.mk A320
                  clear A320
                  by_cases c33 : (IntKind.u64.wrap (t169)) = t173
                  · rw [if_pos c33] at H
                    have c33b0 : ((IntKind.u64.wrap (t169)) == t173) = true := beq_iff_eq.mpr c33
                    have c33b1 : ((IntKind.u64.wrap (t169)) != t173) = false := bne_eq_false_iff_eq.mpr c33
                    clear c33
                    replace H := Option.bind_eq_some_iff.mp H
                    obtain ⟨t174, A340, H⟩ := H
                    replace H : (some ((IntKind.u64.wrap (t171)) == t174)) = some r := H
                    have A34 := Aside0.mk A340
                    clear A340
                    obtain rfl := Option.some.inj H
                    go_wp2_with (first | ((with_reducible refine gate_callee (f := 36) rfl ?_); refine goesL_ (some 82) rfl rfl Try.func36 (by kernel_rfl) rfl #[.int .i64 32, .int .i64 a0, .int .i64 a1, .int .u64 a3] rfl (by (try simp only [List.map_toArray, List.map_cons, List.map_nil]); first | done | rfl | (simp only [List.length_drop, List.length_take]; rfl)) ?_; (with_reducible refine (sakiaref02_At.calls 32 a0 a1 a3 t172 _ A30.out).mono ?_); rintro e w' ⟨rfl, ⟨nd, rfl⟩⟩; refine ⟨_, rfl, ?_⟩) | (go_at_call 37; (with_reducible refine (sakiaref02_First.calls kj24 32 a0 a1 t156 t173 _ A32.out).mono ?_); rintro e w' ⟨rfl, ⟨nd, rfl⟩⟩) | (go_at_call 38; (with_reducible refine (sakiaref02_Ahead.calls kj24 32 a0 a1 t156 t174 _ A34.out).mono ?_); rintro e w' ⟨rfl, ⟨nd, rfl⟩⟩))
                    go_ret
                    exact ⟨by first | rfl | (simp; done) | (simp [*]; done), by repeat (first | exact Drawn0.refl _ | apply Drawn0.step)⟩
                  · rw [if_neg c33] at H
                    have c33b0 : ((IntKind.u64.wrap (t169)) == t173) = false := beq_eq_false_iff_ne.mpr c33
                    have c33b1 : ((IntKind.u64.wrap (t169)) != t173) = true := bne_iff_ne.mpr c33
                    obtain rfl := Option.some.inj H
                    go_wp2_with (first | ((with_reducible refine gate_callee (f := 36) rfl ?_); refine goesL_ (some 82) rfl rfl Try.func36 (by kernel_rfl) rfl #[.int .i64 32, .int .i64 a0, .int .i64 a1, .int .u64 a3] rfl (by (try simp only [List.map_toArray, List.map_cons, List.map_nil]); first | done | rfl | (simp only [List.length_drop, List.length_take]; rfl)) ?_; (with_reducible refine (sakiaref02_At.calls 32 a0 a1 a3 t172 _ A30.out).mono ?_); rintro e w' ⟨rfl, ⟨nd, rfl⟩⟩; refine ⟨_, rfl, ?_⟩) | (go_at_call 37; (with_reducible refine (sakiaref02_First.calls kj24 32 a0 a1 t156 t173 _ A32.out).mono ?_); rintro e w' ⟨rfl, ⟨nd, rfl⟩⟩))
                    go_ret
                    exact ⟨by first | rfl | (simp; done) | (simp [*]; done), by repeat (first | exact Drawn0.refl _ | apply Drawn0.step)⟩
                · rw [if_neg c31] at H
                  have c31b0 : ((IntKind.u64.wrap (t167)) == t172) = false := beq_eq_false_iff_ne.mpr c31
                  have c31b1 : ((IntKind.u64.wrap (t167)) != t172) = true := bne_iff_ne.mpr c31
                  obtain rfl := Option.some.inj H
                  go_wp2_with (first | ((with_reducible refine gate_callee (f := 36) rfl ?_); refine goesL_ (some 82) rfl rfl Try.func36 (by kernel_rfl) rfl #[.int .i64 32, .int .i64 a0, .int .i64 a1, .int .u64 a3] rfl (by (try simp only [List.map_toArray, List.map_cons, List.map_nil]); first | done | rfl | (simp only [List.length_drop, List.length_take]; rfl)) ?_; (with_reducible refine (sakiaref02_At.calls 32 a0 a1 a3 t172 _ A30.out).mono ?_); rintro e w' ⟨rfl, ⟨nd, rfl⟩⟩; refine ⟨_, rfl, ?_⟩))
                  go_ret
                  exact ⟨by first | rfl | (simp; done) | (simp [*]; done), by repeat (first | exact Drawn0.refl _ | apply Drawn0.step)⟩
        · rw [if_neg c18] at H
          have c18b0 : ((IntKind.u64.wrap (t164)) == t165) = false := beq_eq_false_iff_ne.mpr c18
          have c18b1 : ((IntKind.u64.wrap (t164)) != t165) = true := bne_iff_ne.mpr c18
          obtain rfl := Option.some.inj H
          go_wp2_with (first | ((with_reducible refine gate_callee (f := 9) rfl ?_); refine goesL_ (some 36) rfl rfl Try.func9 (by kernel_rfl) rfl #[.int .u64 a2] rfl (by (try simp only [List.map_toArray, List.map_cons, List.map_nil]); first | done | rfl | (simp only [List.length_drop, List.length_take]; rfl)) ?_; (with_reducible refine (wide_Of_uint32.calls a2 t163 _ A15.out).mono ?_); rintro e w' ⟨rfl, ⟨nd, rfl⟩⟩; refine ⟨_, rfl, ?_⟩) | ((with_reducible refine gate_callee (f := 14) rfl ?_); refine goesL_ (some 37) rfl rfl Try.func14 (by kernel_rfl) rfl #[.int .i64 a0, .int .u32 t163] rfl (by (try simp only [List.map_toArray, List.map_cons, List.map_nil]); first | done | rfl | (simp only [List.length_drop, List.length_take]; rfl)) ?_; (with_reducible refine (lap_Next_uint32.calls a0 t163 t164 _ A16.out).mono ?_); rintro e w' ⟨rfl, ⟨nd, rfl⟩⟩; refine ⟨_, rfl, ?_⟩) | ((with_reducible refine gate_callee (f := 21) rfl ?_); refine goesL_ (some 41) rfl rfl Try.func21 (by kernel_rfl) rfl #[.int .i64 32, .int .u64 a2, .int .i64 a0] rfl (by (try simp only [List.map_toArray, List.map_cons, List.map_nil]); first | done | rfl | (simp only [List.length_drop, List.length_take]; rfl)) ?_; (with_reducible refine (sakiaref01_Plus.calls 32 a2 a0 t165 _ A17.out).mono ?_); rintro e w' ⟨rfl, ⟨nd, rfl⟩⟩; refine ⟨_, rfl, ?_⟩))
          go_ret
          exact ⟨by first | rfl | (simp; done) | (simp [*]; done), by repeat (first | exact Drawn0.refl _ | apply Drawn0.step)⟩

/-! ### lap_First_uint64: function 39 -/
def lap_First_uint64.f (a0 : Int) (a1 : Int) (a2 : Int) : Option (Int) := (lap_there.f a0 a1).bind fun t175 => (if t175 = true then (some (IntKind.u64.wrap (a2 + (Go.bits .and .u64 (IntKind.u64.wrap ((IntKind.u64.wrap (a1)) - a2)) (IntKind.u64.wrap (wrap64 (a0 - 1))))))) else (some 0))
set_option maxHeartbeats 8000000 in
set_option maxRecDepth 100000 in
theorem lap_First_uint64.calls (a0 : Int) (a1 : Int) (a2 : Int) (r : Int) (w : World) (h : lap_First_uint64.f a0 a1 a2 = some r) :
    Calls Try.prog 39 #[.int .i64 a0, .int .i64 a1, .int .u64 a2] w fun e w' => e = .returned (.int .u64 r) ∧ Drawn0 w w' := by
  have H : ((lap_there.f a0 a1).bind fun t175 => (if t175 = true then (some (IntKind.u64.wrap (a2 + (Go.bits .and .u64 (IntKind.u64.wrap ((IntKind.u64.wrap (a1)) - a2)) (IntKind.u64.wrap (wrap64 (a0 - 1))))))) else (some 0))) = some r := h
  clear h
  replace H := Option.bind_eq_some_iff.mp H
  obtain ⟨t175, A40, H⟩ := H
  replace H : (if t175 = true then (some (IntKind.u64.wrap (a2 + (Go.bits .and .u64 (IntKind.u64.wrap ((IntKind.u64.wrap (a1)) - a2)) (IntKind.u64.wrap (wrap64 (a0 - 1))))))) else (some 0)) = some r := H
  have A4 := Aside0.mk A40
  clear A40
  by_cases c5 : t175 = true
  · subst c5
    have H1 : (some (IntKind.u64.wrap (a2 + (Go.bits .and .u64 (IntKind.u64.wrap ((IntKind.u64.wrap (a1)) - a2)) (IntKind.u64.wrap (wrap64 (a0 - 1))))))) = some r := by rw [if_pos rfl] at H; exact H
    clear H
    have H := H1
    clear H1
    obtain rfl := Option.some.inj H
    go_enter Try.func39, Try.ntmps39
    go_wp2_with (first | ((with_reducible refine gate_callee (f := 32) rfl ?_); refine goesL_ (some 9) rfl rfl Try.func32 (by kernel_rfl) rfl #[.int .i64 a0, .int .i64 a1] rfl (by (try simp only [List.map_toArray, List.map_cons, List.map_nil]); first | done | rfl | (simp only [List.length_drop, List.length_take]; rfl)) ?_; (with_reducible refine (lap_there.calls a0 a1 true _ A4.out).mono ?_); rintro e w' ⟨rfl, ⟨nd, rfl⟩⟩; refine ⟨_, rfl, ?_⟩))
    go_ret
    exact ⟨by first | rfl | (simp; done) | (simp [*]; done), by repeat (first | exact Drawn0.refl _ | apply Drawn0.step)⟩
  · replace c5 := Bool.eq_false_iff.mpr c5
    subst c5
    have H1 : (some 0) = some r := by rw [if_neg (show ¬ (false = true) by decide)] at H; exact H
    clear H
    have H := H1
    clear H1
    obtain rfl := Option.some.inj H
    go_enter Try.func39, Try.ntmps39
    go_wp2_with (first | ((with_reducible refine gate_callee (f := 32) rfl ?_); refine goesL_ (some 9) rfl rfl Try.func32 (by kernel_rfl) rfl #[.int .i64 a0, .int .i64 a1] rfl (by (try simp only [List.map_toArray, List.map_cons, List.map_nil]); first | done | rfl | (simp only [List.length_drop, List.length_take]; rfl)) ?_; (with_reducible refine (lap_there.calls a0 a1 false _ A4.out).mono ?_); rintro e w' ⟨rfl, ⟨nd, rfl⟩⟩; refine ⟨_, rfl, ?_⟩))
    go_ret
    exact ⟨by first | rfl | (simp; done) | (simp [*]; done), by repeat (first | exact Drawn0.refl _ | apply Drawn0.step)⟩

/-! ### lap_Ahead_uint64: function 40 -/
def lap_Ahead_uint64.f (k : Nat) (a0 : Int) (a1 : Int) (a2 : Int) : Option (Int) := (lap_there.f a0 a1).bind fun t176 => (if t176 = true then ((lap_First_uint64.f a0 a1 a2).bind fun t177 => ((lap_Round_uint64.f k a0 (IntKind.u64.wrap (t177 - (IntKind.u64.wrap (a0))))).bind fun t178 => (some t178))) else (some 0))
theorem lap_Ahead_uint64.mono : ∀ a0 a1 a2 k, LeO (lap_Ahead_uint64.f k a0 a1 a2) (lap_Ahead_uint64.f (k + 1) a0 a1 a2) := by
  intro a0 a1 a2 k
  unfold lap_Ahead_uint64.f
  repeat' first
      | (with_reducible exact lap_Round_uint64.mono _ _ _)
      | (with_reducible exact LeO.refl _)
      | (with_reducible exact LeO.none _)
      | (with_reducible refine LeO.ite ?_ ?_)
      | (with_reducible refine LeO.bind ?_ (fun _ => ?_))
      | exact lap_Round_uint64.mono _ _ _
      | exact LeO.none _
      | refine LeO.ite ?_ ?_
      | refine LeO.bind ?_ (fun _ => ?_)
set_option maxHeartbeats 8000000 in
set_option maxRecDepth 100000 in
theorem lap_Ahead_uint64.calls (k : Nat) (a0 : Int) (a1 : Int) (a2 : Int) (r : Int) (w : World) (h : lap_Ahead_uint64.f k a0 a1 a2 = some r) :
    Calls Try.prog 40 #[.int .i64 a0, .int .i64 a1, .int .u64 a2] w fun e w' => e = .returned (.int .u64 r) ∧ Drawn0 w w' := by
  have H : ((lap_there.f a0 a1).bind fun t176 => (if t176 = true then ((lap_First_uint64.f a0 a1 a2).bind fun t177 => ((lap_Round_uint64.f k a0 (IntKind.u64.wrap (t177 - (IntKind.u64.wrap (a0))))).bind fun t178 => (some t178))) else (some 0))) = some r := h
  clear h
  replace H := Option.bind_eq_some_iff.mp H
  obtain ⟨t176, A40, H⟩ := H
  replace H : (if t176 = true then ((lap_First_uint64.f a0 a1 a2).bind fun t177 => ((lap_Round_uint64.f k a0 (IntKind.u64.wrap (t177 - (IntKind.u64.wrap (a0))))).bind fun t178 => (some t178))) else (some 0)) = some r := H
  have A4 := Aside0.mk A40
  clear A40
  by_cases c5 : t176 = true
  · subst c5
    have H1 : ((lap_First_uint64.f a0 a1 a2).bind fun t177 => ((lap_Round_uint64.f k a0 (IntKind.u64.wrap (t177 - (IntKind.u64.wrap (a0))))).bind fun t178 => (some t178))) = some r := by rw [if_pos rfl] at H; exact H
    clear H
    have H := H1
    clear H1
    replace H := Option.bind_eq_some_iff.mp H
    obtain ⟨t177, A60, H⟩ := H
    replace H : ((lap_Round_uint64.f k a0 (IntKind.u64.wrap (t177 - (IntKind.u64.wrap (a0))))).bind fun t178 => (some t178)) = some r := H
    have A6 := Aside0.mk A60
    clear A60
    replace H := Option.bind_eq_some_iff.mp H
    obtain ⟨t178, A70, H⟩ := H
    replace H : (some t178) = some r := H
    have A7 := Aside0.mk A70
    clear A70
    obtain rfl := Option.some.inj H
    go_enter Try.func40, Try.ntmps40
    go_wp2_with (first | ((with_reducible refine gate_callee (f := 32) rfl ?_); refine goesL_ (some 9) rfl rfl Try.func32 (by kernel_rfl) rfl #[.int .i64 a0, .int .i64 a1] rfl (by (try simp only [List.map_toArray, List.map_cons, List.map_nil]); first | done | rfl | (simp only [List.length_drop, List.length_take]; rfl)) ?_; (with_reducible refine (lap_there.calls a0 a1 true _ A4.out).mono ?_); rintro e w' ⟨rfl, ⟨nd, rfl⟩⟩; refine ⟨_, rfl, ?_⟩) | ((with_reducible refine gate_callee (f := 39) rfl ?_); refine goesL_ (some 15) rfl rfl Try.func39 (by kernel_rfl) rfl #[.int .i64 a0, .int .i64 a1, .int .u64 a2] rfl (by (try simp only [List.map_toArray, List.map_cons, List.map_nil]); first | done | rfl | (simp only [List.length_drop, List.length_take]; rfl)) ?_; (with_reducible refine (lap_First_uint64.calls a0 a1 a2 t177 _ A6.out).mono ?_); rintro e w' ⟨rfl, ⟨nd, rfl⟩⟩; refine ⟨_, rfl, ?_⟩) | ((with_reducible refine gate_callee (f := 17) rfl ?_); refine goesL_ (some 19) rfl rfl Try.func17 (by kernel_rfl) rfl #[.int .i64 a0, .int .u64 (IntKind.u64.wrap (t177 - (IntKind.u64.wrap (a0))))] rfl (by (try simp only [List.map_toArray, List.map_cons, List.map_nil]); first | done | rfl | (simp only [List.length_drop, List.length_take]; rfl)) ?_; (with_reducible refine (lap_Round_uint64.calls k a0 (IntKind.u64.wrap (t177 - (IntKind.u64.wrap (a0)))) t178 _ A7.out).mono ?_); rintro e w' ⟨rfl, ⟨nd, rfl⟩⟩; refine ⟨_, rfl, ?_⟩))
    go_ret
    exact ⟨by first | rfl | (simp; done) | (simp [*]; done), by repeat (first | exact Drawn0.refl _ | apply Drawn0.step)⟩
  · replace c5 := Bool.eq_false_iff.mpr c5
    subst c5
    have H1 : (some 0) = some r := by rw [if_neg (show ¬ (false = true) by decide)] at H; exact H
    clear H
    have H := H1
    clear H1
    obtain rfl := Option.some.inj H
    go_enter Try.func40, Try.ntmps40
    go_wp2_with (first | ((with_reducible refine gate_callee (f := 32) rfl ?_); refine goesL_ (some 9) rfl rfl Try.func32 (by kernel_rfl) rfl #[.int .i64 a0, .int .i64 a1] rfl (by (try simp only [List.map_toArray, List.map_cons, List.map_nil]); first | done | rfl | (simp only [List.length_drop, List.length_take]; rfl)) ?_; (with_reducible refine (lap_there.calls a0 a1 false _ A4.out).mono ?_); rintro e w' ⟨rfl, ⟨nd, rfl⟩⟩; refine ⟨_, rfl, ?_⟩))
    go_ret
    exact ⟨by first | rfl | (simp; done) | (simp [*]; done), by repeat (first | exact Drawn0.refl _ | apply Drawn0.step)⟩

end Go.Proofs.Ytkkmpkgmkokjnaa.QLapTells
