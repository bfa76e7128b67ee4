-- Written for this claim by a program of this session.
import Derived.Test.YteahmcfinijmdaaQOrderClocksx0
import Derived.Test.YteahmcfinijmdaaQOrderClocksx7
import Derived.Test.YteahmcfinijmdaaQOrderClocksx8
import Derived.Test.YteahmcfinijmdaaQOrderClocksx9
namespace Go.Proofs.Yteahmcfinijmdaa.QOrderClocks
open Go.RowKit Go.Proofs.YteahmcfinijmdaaW.PrintWords Go.Proofs.YteahmcfinijmdaaW.PrintLast Go.Proofs.YteahmcfinijmdaaW.PrintMore
attribute [local go_sem] max2_int min2_int max_two min_two max_three min_three max_four min_four   -- for this text's walks alone
set_option linter.unusedVariables false
set_option linter.unusedSimpArgs false

/-! ### sakiaref13_Table: function 15 -/
mutual
def sakiaref13_Table.l0 : Nat → List (S33) → List (List Bool) → Int → Option ((List (List Bool)))
  | 0, _, _, _ => none
  | k + 1, x0, x3, x4 => if x4 < (x0.length : Int) then (if 0 ≤ (x0.length : Int) then (if ((x0.length : Int) : Int).toNat ≤ 281474976710656 then ((some (List.replicate ((x0.length : Int) : Int).toNat false : List Bool)).bind fun y196 => ((sakiaref13_ahead.f k x0 x4).bind fun t199 => (if 0 ≤ x4 then ((sakiaref13_Atomic.f ((rd_T33 x0 x4).f1)).bind fun t201 => (if t201 = true then ((sakiaref13_Source.f x0 x4).bind fun t202 => (sakiaref13_Table.j1 k x0 x3 x4 y196 t199 t202)) else (sakiaref13_Table.j1 k x0 x3 x4 y196 t199 (-1)))) else (none)))) else (none)) else (none)) else (some x3)
def sakiaref13_Table.j1 : Nat → List (S33) → List (List Bool) → Int → List Bool → Int → Int → Option ((List (List Bool)))
  | 0, _, _, _, _, _, _ => none
  | k + 1, x0, x3, x4, x5, x6, x7 => sakiaref13_Table.l1 k x0 x3 x4 x5 x6 x7 0
def sakiaref13_Table.l1 : Nat → List (S33) → List (List Bool) → Int → List Bool → Int → Int → Int → Option ((List (List Bool)))
  | 0, _, _, _, _, _, _, _ => none
  | k + 1, x0, x3, x4, x5, x6, x7, x8 => if x8 < x4 then (if x8 = x6 then (if 0 ≤ x8 then (if x8 < (x5.length : Int) then (sakiaref13_Table.l1 k x0 x3 x4 (x5.set (x8 : Int).toNat true) x6 x7 (wrap64 (x8 + 1))) else (none)) else (none)) else (if x8 = x7 then (if 0 ≤ x8 then (if x8 < (x5.length : Int) then (sakiaref13_Table.l1 k x0 x3 x4 (x5.set (x8 : Int).toNat true) x6 x7 (wrap64 (x8 + 1))) else (none)) else (none)) else (if x6 ≥ 0 then (if 0 ≤ x6 then (if x6 < (x3.length : Int) then (if 0 ≤ x8 then (if x8 < ((rd_L6 x3 x6).length : Int) then (if rdOf false (rd_L6 x3 x6) x8 = true then (if x8 < (x5.length : Int) then (sakiaref13_Table.l1 k x0 x3 x4 (x5.set (x8 : Int).toNat true) x6 x7 (wrap64 (x8 + 1))) else (none)) else (if x7 ≥ 0 then (if 0 ≤ x7 then (if x7 < (x3.length : Int) then (if x8 < ((rd_L6 x3 x7).length : Int) then (if x8 < (x5.length : Int) then (sakiaref13_Table.l1 k x0 x3 x4 (x5.set (x8 : Int).toNat (rdOf false (rd_L6 x3 x7) x8)) x6 x7 (wrap64 (x8 + 1))) else (none)) else (none)) else (none)) else (none)) else (if x8 < (x5.length : Int) then (sakiaref13_Table.l1 k x0 x3 x4 (x5.set (x8 : Int).toNat false) x6 x7 (wrap64 (x8 + 1))) else (none)))) else (none)) else (none)) else (none)) else (none)) else (if x7 ≥ 0 then (if 0 ≤ x7 then (if x7 < (x3.length : Int) then (if 0 ≤ x8 then (if x8 < ((rd_L6 x3 x7).length : Int) then (if x8 < (x5.length : Int) then (sakiaref13_Table.l1 k x0 x3 x4 (x5.set (x8 : Int).toNat (rdOf false (rd_L6 x3 x7) x8)) x6 x7 (wrap64 (x8 + 1))) else (none)) else (none)) else (none)) else (none)) else (none)) else (if 0 ≤ x8 then (if x8 < (x5.length : Int) then (sakiaref13_Table.l1 k x0 x3 x4 (x5.set (x8 : Int).toNat false) x6 x7 (wrap64 (x8 + 1))) else (none)) else (none)))))) else (if x3.length < 5864062014805 then (sakiaref13_Table.l0 k x0 (x3 ++ [x5]) (wrap64 (x4 + 1))) else (none))
end
def sakiaref13_Table.f (k : Nat) (l0 : List (S33)) : Option ((List (List Bool))) := sakiaref13_Table.l0 k l0 ([] : List (List Bool)) 0
theorem sakiaref13_Table.mono_l : ∀ k, (∀ y0 y1 y2, LeO (sakiaref13_Table.l0 k y0 y1 y2) (sakiaref13_Table.l0 (k + 1) y0 y1 y2)) ∧ (∀ y0 y1 y2 y3 y4 y5, LeO (sakiaref13_Table.j1 k y0 y1 y2 y3 y4 y5) (sakiaref13_Table.j1 (k + 1) y0 y1 y2 y3 y4 y5)) ∧ (∀ y0 y1 y2 y3 y4 y5 y6, LeO (sakiaref13_Table.l1 k y0 y1 y2 y3 y4 y5 y6) (sakiaref13_Table.l1 (k + 1) y0 y1 y2 y3 y4 y5 y6))
  | 0 => ⟨fun _ _ _ r h => by simp [sakiaref13_Table.l0] at h, fun _ _ _ _ _ _ r h => by simp [sakiaref13_Table.j1] at h, fun _ _ _ _ _ _ _ r h => by simp [sakiaref13_Table.l1] at h⟩
  | k + 1 => by
    obtain ⟨ih0, ih1, ih2⟩ := sakiaref13_Table.mono_l k
    refine ⟨?_, ?_, ?_⟩
    · intro y0 y1 y2
      unfold sakiaref13_Table.l0
      repeat' first
      | (with_reducible exact ih0 _ _ _)
      | (with_reducible exact ih1 _ _ _ _ _ _)
      | (with_reducible exact ih2 _ _ _ _ _ _ _)
      | (with_reducible exact sakiaref13_ahead.mono _ _ _)
      | (with_reducible exact LeO.refl _)
      | (with_reducible exact LeO.none _)
      | (with_reducible refine LeO.ite ?_ ?_)
      | (with_reducible refine LeO.bind ?_ (fun _ => ?_))
      | exact ih0 _ _ _
      | exact ih1 _ _ _ _ _ _
      | exact ih2 _ _ _ _ _ _ _
      | exact sakiaref13_ahead.mono _ _ _
      | exact LeO.none _
      | refine LeO.ite ?_ ?_
      | refine LeO.bind ?_ (fun _ => ?_)
    · intro y0 y1 y2 y3 y4 y5
      unfold sakiaref13_Table.j1
      repeat' first
      | (with_reducible exact ih0 _ _ _)
      | (with_reducible exact ih1 _ _ _ _ _ _)
      | (with_reducible exact ih2 _ _ _ _ _ _ _)
      | (with_reducible exact sakiaref13_ahead.mono _ _ _)
      | (with_reducible exact LeO.refl _)
      | (with_reducible exact LeO.none _)
      | (with_reducible refine LeO.ite ?_ ?_)
      | (with_reducible refine LeO.bind ?_ (fun _ => ?_))
      | exact ih0 _ _ _
      | exact ih1 _ _ _ _ _ _
      | exact ih2 _ _ _ _ _ _ _
      | exact sakiaref13_ahead.mono _ _ _
      | exact LeO.none _
      | refine LeO.ite ?_ ?_
      | refine LeO.bind ?_ (fun _ => ?_)
    · intro y0 y1 y2 y3 y4 y5 y6
      unfold sakiaref13_Table.l1
      repeat' first
      | (with_reducible exact ih0 _ _ _)
      | (with_reducible exact ih1 _ _ _ _ _ _)
      | (with_reducible exact ih2 _ _ _ _ _ _ _)
      | (with_reducible exact sakiaref13_ahead.mono _ _ _)
      | (with_reducible exact LeO.refl _)
      | (with_reducible exact LeO.none _)
      | (with_reducible refine LeO.ite ?_ ?_)
      | (with_reducible refine LeO.bind ?_ (fun _ => ?_))
      | exact ih0 _ _ _
      | exact ih1 _ _ _ _ _ _
      | exact ih2 _ _ _ _ _ _ _
      | exact sakiaref13_ahead.mono _ _ _
      | exact LeO.none _
      | refine LeO.ite ?_ ?_
      | refine LeO.bind ?_ (fun _ => ?_)
theorem sakiaref13_Table.mono : ∀ a0 k, LeO (sakiaref13_Table.f k a0) (sakiaref13_Table.f (k + 1) a0) := by
  intro a0 k
  obtain ⟨ih0, ih1, ih2⟩ := sakiaref13_Table.mono_l k
  unfold sakiaref13_Table.f
  repeat' first
      | (with_reducible exact ih0 _ _ _)
      | (with_reducible exact ih1 _ _ _ _ _ _)
      | (with_reducible exact ih2 _ _ _ _ _ _ _)
      | (with_reducible exact sakiaref13_ahead.mono _ _ _)
      | (with_reducible exact LeO.refl _)
      | (with_reducible exact LeO.none _)
      | (with_reducible refine LeO.ite ?_ ?_)
      | (with_reducible refine LeO.bind ?_ (fun _ => ?_))
      | exact ih0 _ _ _
      | exact ih1 _ _ _ _ _ _
      | exact ih2 _ _ _ _ _ _ _
      | exact sakiaref13_ahead.mono _ _ _
      | exact LeO.none _
      | refine LeO.ite ?_ ?_
      | refine LeO.bind ?_ (fun _ => ?_)
set_option maxHeartbeats 8000000 in
set_option maxRecDepth 100000 in
theorem sakiaref13_Table.calls (k : Nat) (A0 : Option Addr) (c0 : Nat) (l0 : List (S33)) (r : List (List Bool)) (w : World) (hr0 : Kd.C k33 w A0 l0.length l0) (hc0 : l0.length ≤ c0) (h : sakiaref13_Table.f k l0 = some r) :
    Calls Try.prog 15 #[.slice A0 l0.length c0] w fun e w' => ∃ v0_ : Value, e = .returned (v0_) ∧ Kd.S (Kd.slice 4 Kd.bool) 55 w' w.heap.size (fun _ => True) v0_ r ∧ Below w.heap.size w w' := by
  have HR0 := Aside0.mk hr0
  have HC0 := Aside0.mk hc0
  clear hr0 hc0
  have HB := Aside0.mk (Below.refl w.heap.size w)
  have H : (sakiaref13_Table.l0 k l0 ([] : List (List Bool)) 0) = some r := h
  clear h
  have H' := Aside0.mk H
  clear H
  go_enter Try.func15, Try.ntmps15
  go_wp2
  go_loopg [3, 4] k (fun kq v3 v4 w' => ∃ (x3_1 : List (List Bool)) (x4_1 : Int), v4 = .int .i64 x4_1 ∧ Aside0 (sakiaref13_Table.l0 kq l0 x3_1 x4_1 = some r) ∧ Aside0 (kq ≤ k) ∧ Aside0 (Kd.S (Kd.slice 4 Kd.bool) 55 w' w.heap.size (fun _ => True) v3 x3_1) ∧ Aside0 (Below w.heap.size w w'))
  case atStart => exact ⟨(([] : List (List Bool))), (0), (by first | rfl | (simp; done) | (simp [*]; done)), H', ⟨Nat.le_refl _⟩, ⟨by first | exact Kd.S_nil _ _ _ _ _ | exact Kd.N_nil _ _ _ _ _ | exact Kd.V_nil _ _ _ _ _ | exact Kd.Q_nil _ _ _ _ _ | exact Kd.R_nil _ _ _ _ _⟩, ⟨by repeat (first | (with_reducible first | exact HB.out | apply below_alloc | apply pw_below_drewN | apply below_drew1) | exact HB.out)⟩⟩
  case round =>
    clear H'
    try clear c1
    obtain ⟨x3_1, x4_1, rfl, HA, HK1, HO_3, HB⟩ := hrel
    cases gk with
    | zero => exact absurd HA.out (by simp [sakiaref13_Table.l0])
    | succ k1 =>
      have H := HA.out
      clear HA
      simp only [sakiaref13_Table.l0] at H
      by_cases c2 : x4_1 < (l0.length : Int)
      · rw [if_pos c2] at H
        have c2b0 : decide (x4_1 < (l0.length : Int)) = true := decide_eq_true c2
        clear c2
        by_cases c3 : 0 ≤ (l0.length : Int)
        rotate_left
        · rw [if_neg c3] at H
          exact absurd H (by simp)
        rw [if_pos c3] at H
        have c3b0 := eq_true c3
        have c3b1 : decide (0 ≤ (l0.length : Int)) = true := decide_eq_true c3
        clear c3
        by_cases c4 : ((l0.length : Int) : Int).toNat ≤ 281474976710656
        rotate_left
        · rw [if_neg c4] at H
          exact absurd H (by simp)
        rw [if_pos c4] at H
        have c4b0 := eq_true c4
        have c4b1 : decide (((l0.length : Int) : Int).toNat ≤ 281474976710656) = true := decide_eq_true c4
        clear c4
        obtain ⟨y196, hy196⟩ : ∃ y_ : List Bool, y_ = (List.replicate ((l0.length : Int) : Int).toNat false) := ⟨_, rfl⟩
        replace H : ((sakiaref13_ahead.f k1 l0 x4_1).bind fun t199 => (if 0 ≤ x4_1 then ((sakiaref13_Atomic.f ((rd_T33 l0 x4_1).f1)).bind fun t201 => (if t201 = true then ((sakiaref13_Source.f l0 x4_1).bind fun t202 => (sakiaref13_Table.j1 k1 l0 x3_1 x4_1 y196 t199 t202)) else (sakiaref13_Table.j1 k1 l0 x3_1 x4_1 y196 t199 (-1)))) else (none))) = some r := by first | (rw [hy196]; with_reducible exact H) | (have H2_ := (Option.bind_some _ _).symm.trans H; rw [hy196]; with_reducible exact H2_) | (have H2_ := (Option.bind_some _ _).symm.trans H; with_reducible exact H2_) | with_reducible exact H | (rw [hy196]; exact H) | exact H
        have Ny196 := Aside0.mk hy196
        clear hy196
        replace H := Option.bind_eq_some_iff.mp H
        obtain ⟨t199, A50, H⟩ := H
        replace H : (if 0 ≤ x4_1 then ((sakiaref13_Atomic.f ((rd_T33 l0 x4_1).f1)).bind fun t201 => (if t201 = true then ((sakiaref13_Source.f l0 x4_1).bind fun t202 => (sakiaref13_Table.j1 k1 l0 x3_1 x4_1 y196 t199 t202)) else (sakiaref13_Table.j1 k1 l0 x3_1 x4_1 y196 t199 (-1)))) else (none)) = some r := H
        have A5 := Aside0.mk A50
        clear A50
        by_cases c6 : 0 ≤ x4_1
        rotate_left
        · rw [if_neg c6] at H
          exact absurd H (by simp)
        rw [if_pos c6] at H
        have c6b0 : decide (0 ≤ x4_1) = true := decide_eq_true c6
        clear c6
        replace H := Option.bind_eq_some_iff.mp H
        obtain ⟨t201, A70, H⟩ := H
        replace H : (if t201 = true then ((sakiaref13_Source.f l0 x4_1).bind fun t202 => (sakiaref13_Table.j1 k1 l0 x3_1 x4_1 y196 t199 t202)) else (sakiaref13_Table.j1 k1 l0 x3_1 x4_1 y196 t199 (-1))) = some r := H
        have A7 := Aside0.mk A70
        clear A70
        have HC8 := Aside0.mk H
        clear H
        go_upto_if 26 with (first | ((with_reducible refine gate_dst (N := 17) rfl ?_); refine Kd.R_make Kd.bool _ 4 rfl (N := 17) rfl 55 _ _ rfl (l0.length : Int) rfl rfl Try.underlying55 (.bool false) 1 info4 rfl (by decide) (by omega) false (ok := fun _ => True) (okp := fun _ => True) rfl (fun _ hk => hk) trivial (of_decide_eq_true (by first | (with_reducible assumption) | assumption)) (Nat.le_trans (Nat.mul_le_mul_right _ (of_decide_eq_true (by first | (with_reducible assumption) | assumption) : (l0.length : Int).toNat ≤ 281474976710656)) (by omega)) (Below.refl _ _) (Nat.le_refl _) ?_; intro v197 w9 ho10 hb hg_ hnew_; clear hg_ hnew_; (first | rw [← Ny196.out] at ho10 | (simp only [Int.reduceToNat] at ho10; rw [← Ny196.out] at ho10)); have n0_ := Aside0.mk (Kd.S_elder' (by (with_reducible repeat (first | apply Kd.S_alloc | apply Kd.S_drewN | apply Kd.S_drew)); exact HO_3.out) (Kd.R_base ho10) hb); have n1_ := Aside0.mk (Kd.R_lower ho10 (below_size (by repeat (first | (with_reducible first | exact HB.out | apply below_alloc | apply pw_below_drewN | apply below_drew1) | exact HB.out)))); have n2_ := Aside0.mk (below_step (by repeat (first | (with_reducible first | exact HB.out | apply below_alloc | apply pw_below_drewN | apply below_drew1) | exact HB.out)) hb); clear HO_3; clear HB; have HO_3 := n0_; have HO198 := n1_; have HB := n2_; clear n0_ n1_ n2_; clear hb ho10) | ((with_reducible refine gate_callee (f := 41) rfl ?_); refine goesL_ (some 20) rfl rfl Try.func41 (by kernel_rfl) rfl #[.slice A0 l0.length c0, .int .i64 x4_1] rfl (by (try simp only [List.map_toArray, List.map_cons, List.map_nil]); first | done | rfl | (simp only [List.length_drop, List.length_take]; rfl)) ?_; (with_reducible refine (sakiaref13_ahead.calls k1 _ _ l0 x4_1 t199 _ ?side1 ?side2 A5.out).mono ?_); (case side1 => repeat (first | exact (Kd.C_below HR0.out HB.out) | (with_reducible refine Kd.C_alloc ?_ _) | (with_reducible refine Kd.C_drewN ?_ _) | (with_reducible refine Kd.C_drew ?_))); (case side2 => exact HC0.out); rintro e w' ⟨rfl, ⟨nd, rfl⟩⟩; refine ⟨_, rfl, ?_⟩; have p200 : 0 ≤ (x4_1 : Int) := of_decide_eq_true (by first | (with_reducible assumption) | assumption); have q200 : x4_1 < (l0.length : Int) := of_decide_eq_true (by first | (with_reducible assumption) | assumption); obtain ⟨ad200, e200, hx200_0, hx200_1, hx200_2, hx200_3, hx200_4⟩ := at_T33 HR0.out x4_1 p200 q200; cases e200; replace hx200_0 := (HB.out.cell (World.block_lt_of_cell? w _ hx200_0)).trans hx200_0; replace hx200_1 := (HB.out.cell (World.block_lt_of_cell? w _ hx200_1)).trans hx200_1; replace hx200_2 := (HB.out.cell (World.block_lt_of_cell? w _ hx200_2)).trans hx200_2; replace hx200_3 := (HB.out.cell (World.block_lt_of_cell? w _ hx200_3)).trans hx200_3; replace hx200_4 := (HB.out.cell (World.block_lt_of_cell? w _ hx200_4)).trans hx200_4; replace p200 := eq_true p200; replace q200 := eq_true q200) | ((with_reducible refine gate_callee (f := 42) rfl ?_); refine goesL_ (some 26) rfl rfl Try.func42 (by kernel_rfl) rfl #[.int .i64 ((rd_T33 l0 x4_1).f1)] rfl (by (try simp only [List.map_toArray, List.map_cons, List.map_nil]); first | done | rfl | (simp only [List.length_drop, List.length_take]; rfl)) ?_; (with_reducible refine (sakiaref13_Atomic.calls ((rd_T33 l0 x4_1).f1) t201 _ A7.out).mono ?_); rintro e w' ⟨rfl, ⟨nd, rfl⟩⟩; refine ⟨_, rfl, ?_⟩))
        (try simp only [Act.put, List.setIfInBounds_toArray, List.set_cons_zero, List.set_cons_succ])
        go_cut [7] (fun v7 wc => ∃ (kq : Nat) (x7_7 : Int), v7 = .int .i64 x7_7 ∧ Aside0 (sakiaref13_Table.j1 kq l0 x3_1 x4_1 y196 t199 x7_7 = some r) ∧ Aside0 (kq ≤ k1) ∧ Aside0 (Kd.S (Kd.slice 4 Kd.bool) 55 wc w.heap.size (fun k_ => some k_ ≠ (v197 : Value).ownBlock) u3 x3_1) ∧ Aside0 (Kd.R Kd.bool 4 wc w.heap.size (fun _ => True) v197 y196) ∧ Aside0 (Below w.heap.size w wc))
        case first =>
          have H := HC8.out
          clear HC8
          by_cases c11 : t201 = true
          · subst c11
            have H1 : ((sakiaref13_Source.f l0 x4_1).bind fun t202 => (sakiaref13_Table.j1 k1 l0 x3_1 x4_1 y196 t199 t202)) = some r := by rw [if_pos rfl] at H; exact H
            clear H
            have H := H1
            clear H1
            replace H := Option.bind_eq_some_iff.mp H
            obtain ⟨t202, A120, H⟩ := H
            replace H : (sakiaref13_Table.j1 k1 l0 x3_1 x4_1 y196 t199 t202) = some r := H
            have A12 := Aside0.mk A120
            clear A120
            have H' := Aside0.mk H
            clear H
            go_wp2_with (first | ((with_reducible refine gate_callee (f := 23) rfl ?_); refine goesL_ (some 29) rfl rfl Try.func23 (by kernel_rfl) rfl #[.slice (some ad200) l0.length c0, .int .i64 x4_1] rfl (by (try simp only [List.map_toArray, List.map_cons, List.map_nil]); first | done | rfl | (simp only [List.length_drop, List.length_take]; rfl)) ?_; (with_reducible refine (sakiaref13_Source.calls _ _ l0 x4_1 t202 _ ?side1 ?side2 A12.out).mono ?_); (case side1 => repeat (first | exact (Kd.C_below HR0.out HB.out) | (with_reducible refine Kd.C_alloc ?_ _) | (with_reducible refine Kd.C_drewN ?_ _) | (with_reducible refine Kd.C_drew ?_))); (case side2 => exact HC0.out); rintro e w' ⟨rfl, ⟨nd, rfl⟩⟩; refine ⟨_, rfl, ?_⟩))
            go_meet
            case rel => exact ⟨_, (t202), (by first | rfl | (simp; done) | (simp [*]; done)), H', ⟨by have := HK1.out; first | omega | exact Nat.le_refl _⟩, ⟨by (with_reducible repeat (first | apply Kd.S_alloc | apply Kd.S_drewN | apply Kd.S_drew)); exact Kd.S_mono HO_3.out (fun _ hk => hk.2)⟩, ⟨by (with_reducible repeat (first | apply Kd.R_alloc | apply Kd.R_drewN | apply Kd.R_drew)); exact HO198.out⟩, ⟨by repeat (first | (with_reducible first | exact HB.out | apply below_alloc | apply pw_below_drewN | apply below_drew1) | exact HB.out)⟩⟩
          · replace c11 := Bool.eq_false_iff.mpr c11
            subst c11
            have H1 : (sakiaref13_Table.j1 k1 l0 x3_1 x4_1 y196 t199 (-1)) = some r := by rw [if_neg (show ¬ (false = true) by decide)] at H; exact H
            clear H
            have H := H1
            clear H1
            have H' := Aside0.mk H
            clear H
            go_wp2
            go_meet
            case rel => exact ⟨_, ((-1)), (by first | rfl | (simp; done) | (simp [*]; done)), H', ⟨by have := HK1.out; first | omega | exact Nat.le_refl _⟩, ⟨by (with_reducible repeat (first | apply Kd.S_alloc | apply Kd.S_drewN | apply Kd.S_drew)); exact Kd.S_mono HO_3.out (fun _ hk => hk.2)⟩, ⟨by (with_reducible repeat (first | apply Kd.R_alloc | apply Kd.R_drewN | apply Kd.R_drew)); exact HO198.out⟩, ⟨by repeat (first | (with_reducible first | exact HB.out | apply below_alloc | apply pw_below_drewN | apply below_drew1) | exact HB.out)⟩⟩
        case rest =>
          clear HC8
          try clear c1
          try clear c2
          try clear c2b0
          try clear p2
          try clear q2
          try clear hx2
          try clear c3
          try clear c3b0
          try clear c3b1
          try clear c4
          try clear c4b0
          try clear c4b1
          try clear c6
          try clear c6b0
          try clear c11
          try clear hx200_0
          try clear hx200_1
          try clear hx200_2
          try clear hx200_3
          try clear hx200_4
          try clear p200
          try clear q200
          obtain ⟨kq, x7_7, rfl, HA, HJ7, HO_3, HO_5, HB⟩ := hcut
          cases kq with
          | zero => exact absurd HA.out (by simp [sakiaref13_Table.j1])
          | succ kj7 =>
            have H := HA.out
            clear HA
            simp only [sakiaref13_Table.j1] at H
            have H' := Aside0.mk H
            clear H
            go_wp2
            go_loopg [8] kj7 (fun kq v8 w' => ∃ (x5_3 : List Bool) (x8_3 : Int), v8 = .int .i64 x8_3 ∧ Aside0 (sakiaref13_Table.l1 kq l0 x3_1 x4_1 x5_3 t199 x7_7 x8_3 = some r) ∧ Aside0 (kq ≤ kj7) ∧ Aside0 (Kd.S (Kd.slice 4 Kd.bool) 55 w' w.heap.size (fun k_ => some k_ ≠ (v197 : Value).ownBlock) u3 x3_1) ∧ Aside0 (Kd.R Kd.bool 4 w' w.heap.size (fun _ => True) v197 x5_3) ∧ Aside0 (Below w.heap.size w w'))
            case atStart => exact ⟨(y196), (0), (by first | rfl | (simp; done) | (simp [*]; done)), H', ⟨Nat.le_refl _⟩, ⟨by (with_reducible repeat (first | apply Kd.S_alloc | apply Kd.S_drewN | apply Kd.S_drew)); exact HO_3.out⟩, ⟨by (with_reducible repeat (first | apply Kd.R_alloc | apply Kd.R_drewN | apply Kd.R_drew)); exact HO_5.out⟩, ⟨by repeat (first | (with_reducible first | exact HB.out | apply below_alloc | apply pw_below_drewN | apply below_drew1) | exact HB.out)⟩⟩
            case round =>
              clear H'
              try clear c1
              try clear c2
              try clear c2b0
              try clear p2
              try clear q2
              try clear hx2
              try clear c3
              try clear c3b0
              try clear c3b1
              try clear c4
              try clear c4b0
              try clear c4b1
              try clear c6
              try clear c6b0
              try clear c11
              try clear hx200_0
              try clear hx200_1
              try clear hx200_2
              try clear hx200_3
              try clear hx200_4
              try clear p2
              try clear p200
              try clear q2
              try clear q200
              obtain ⟨x5_3, x8_3, rfl, HA, HK3, HO_3, HO_5, HB⟩ := hrel
              cases gk with
              | zero => exact absurd HA.out (by simp [sakiaref13_Table.l1])
              | succ k3 =>
                have H := HA.out
                clear HA
                simp only [sakiaref13_Table.l1] at H
                by_cases c13 : x8_3 < x4_1
                · rw [if_pos c13] at H
                  have c13b0 : decide (x8_3 < x4_1) = true := decide_eq_true c13
                  clear c13
                  by_cases c14 : x8_3 = t199
                  · rw [if_pos c14] at H
                    have c14b0 : (x8_3 == t199) = true := beq_iff_eq.mpr c14
                    have c14b1 : (x8_3 != t199) = false := bne_eq_false_iff_eq.mpr c14
                    clear c14
                    by_cases c15 : 0 ≤ x8_3
                    rotate_left
                    · rw [if_neg c15] at H
                      exact absurd H (by simp)
                    rw [if_pos c15] at H
                    have c15b0 : decide (0 ≤ x8_3) = true := decide_eq_true c15
                    clear c15
                    by_cases c16 : x8_3 < (x5_3.length : Int)
                    rotate_left
                    · rw [if_neg c16] at H
                      exact absurd H (by simp)
                    rw [if_pos c16] at H
                    have c16b0 : decide (x8_3 < (x5_3.length : Int)) = true := decide_eq_true c16
                    clear c16
                    obtain ⟨y203, hy203⟩ : ∃ y_ : List Bool, y_ = (x5_3.set (x8_3 : Int).toNat true) := ⟨_, rfl⟩
                    replace H : (sakiaref13_Table.l1 k3 l0 x3_1 x4_1 y203 t199 x7_7 (wrap64 (x8_3 + 1))) = some r := by first | (rw [hy203]; with_reducible exact H) | (have H2_ := (Option.bind_some _ _).symm.trans H; rw [hy203]; with_reducible exact H2_) | (have H2_ := (Option.bind_some _ _).symm.trans H; with_reducible exact H2_) | with_reducible exact H | (rw [hy203]; exact H) | exact H
                    have Ny203 := Aside0.mk hy203
                    clear hy203
                    have H' := Aside0.mk H
                    clear H
                    have p17 : 0 ≤ (x8_3 : Int) := of_decide_eq_true (by first | (with_reducible assumption) | assumption)
                    have q17 : (x8_3 : Int) < ((x5_3.length : Int) : Int) := of_decide_eq_true (by first | (with_reducible assumption) | assumption)
                    obtain ⟨go17, co17, eo17, gb17, gl17, cl17, HG17⟩ := Kd.R_form HO_5.out (by omega)
                    (first | cases eo17 | (injection eo17 with ea_ en_ ec_; (first | subst ea_ | (injection ea_ with ea_; subst ea_)); subst ec_; clear en_))
                    have GB17 := Aside0.mk gb17
                    have GG17 := Aside0.mk HG17
                    clear gb17 gl17 HG17
                    obtain ⟨hx17_0, hf17_0⟩ := Kd.R_celln false HO_5.out (x8_3 : Int) p17 q17
                    replace p17 := eq_true p17
                    replace q17 := eq_true q17
                    have HP18 := Kd.R_putg HO_5.out (x8_3 : Int) true
                    go_wp2_with (first | ((with_reducible refine gate_store (t := 4) (p := 71) rfl ?_); refine store_event (t := 4) (p := 71) (v := ?vo_w19) (w1 := (wr.setCell ⟨go17, (x8_3 : Int).toNat, none⟩ (.bool true))) ?hg ?ho ?hn ?hr ?_; (case ho => rfl); (case hg => rfl); (case hn => rfl); (case hr => first | (go_simp; done) | (go_simp; rfl)); intro w19 hw; have hg : wr.grownBy w19 (some go17) := (by rw [hw]; exact HP18.2); have hp_ : Kd.R Kd.bool 4 w19 w.heap.size (fun _ => True) (.slice (some ⟨go17, 0, none⟩) x5_3.length co17) y203 := (by rw [hw, Ny203.out]; exact HP18.1); clear HP18; have n0_ := Aside0.mk (Kd.S_after (v := (.slice (some ⟨go17, 0, none⟩) x5_3.length co17)) (v1 := (.slice (some ⟨go17, 0, none⟩) x5_3.length co17)) (ok := (fun _ => True)) (by (with_reducible repeat (first | apply Kd.S_alloc | apply Kd.S_drewN | apply Kd.S_drew)); exact Kd.S_mono HO_3.out (fun _ hk => ⟨trivial, hk⟩)) hg (.inl rfl)); have n1_ := Aside0.mk (hp_); have n2_ := Aside0.mk ((by rw [hw]; exact below_set (HB.out) GB17.out : Below w.heap.size w w19)); clear HO_3; clear HO_5; clear HB; have HO_3 := n0_; have HO_5 := n1_; have HB := n2_; clear n0_ n1_ n2_; clear hg hw hp_))
                    go_roundg k3
                    case measure => have := HK1.out; have := HJ7.out; have := HK3.out; omega
                    case rel => exact ⟨(y203), (wrap64 (x8_3 + 1)), (by first | rfl | (simp; done) | (simp [*]; done)), H', ⟨by have := HK1.out; have := HJ7.out; have := HK3.out; omega⟩, ⟨by (with_reducible repeat (first | apply Kd.S_alloc | apply Kd.S_drewN | apply Kd.S_drew)); exact Kd.S_mono HO_3.out (fun _ hk => hk.2)⟩, ⟨by (with_reducible repeat (first | apply Kd.R_alloc | apply Kd.R_drewN | apply Kd.R_drew)); exact HO_5.out⟩, ⟨by repeat (first | (with_reducible first | exact HB.out | apply below_alloc | apply pw_below_drewN | apply below_drew1) | exact HB.out)⟩⟩
                  · rw [if_neg c14] at H
                    have c14b0 : (x8_3 == t199) = false := beq_eq_false_iff_ne.mpr c14
                    have c14b1 : (x8_3 != t199) = true := bne_iff_ne.mpr c14
                    by_cases c20 : x8_3 = x7_7
                    · rw [if_pos c20] at H
                      have c20b0 : (x8_3 == x7_7) = true := beq_iff_eq.mpr c20
                      have c20b1 : (x8_3 != x7_7) = false := bne_eq_false_iff_eq.mpr c20
                      clear c20
                      by_cases c21 : 0 ≤ x8_3
                      rotate_left
                      · rw [if_neg c21] at H
                        exact absurd H (by simp)
                      rw [if_pos c21] at H
                      have c21b0 : decide (0 ≤ x8_3) = true := decide_eq_true c21
                      clear c21
                      by_cases c22 : x8_3 < (x5_3.length : Int)
                      rotate_left
                      · rw [if_neg c22] at H
                        exact absurd H (by simp)
                      rw [if_pos c22] at H
                      have c22b0 : decide (x8_3 < (x5_3.length : Int)) = true := decide_eq_true c22
                      clear c22
                      obtain ⟨y204, hy204⟩ : ∃ y_ : List Bool, y_ = (x5_3.set (x8_3 : Int).toNat true) := ⟨_, rfl⟩
                      replace H : (sakiaref13_Table.l1 k3 l0 x3_1 x4_1 y204 t199 x7_7 (wrap64 (x8_3 + 1))) = some r := by first | (rw [hy204]; with_reducible exact H) | (have H2_ := (Option.bind_some _ _).symm.trans H; rw [hy204]; with_reducible exact H2_) | (have H2_ := (Option.bind_some _ _).symm.trans H; with_reducible exact H2_) | with_reducible exact H | (rw [hy204]; exact H) | exact H
                      have Ny204 := Aside0.mk hy204
                      clear hy204
                      have H' := Aside0.mk H
                      clear H
                      have p23 : 0 ≤ (x8_3 : Int) := of_decide_eq_true (by first | (with_reducible assumption) | assumption)
                      have q23 : (x8_3 : Int) < ((x5_3.length : Int) : Int) := of_decide_eq_true (by first | (with_reducible assumption) | assumption)
                      obtain ⟨go23, co23, eo23, gb23, gl23, cl23, HG23⟩ := Kd.R_form HO_5.out (by omega)
                      (first | cases eo23 | (injection eo23 with ea_ en_ ec_; (first | subst ea_ | (injection ea_ with ea_; subst ea_)); subst ec_; clear en_))
                      have GB23 := Aside0.mk gb23
                      have GG23 := Aside0.mk HG23
                      clear gb23 gl23 HG23
                      obtain ⟨hx23_0, hf23_0⟩ := Kd.R_celln false HO_5.out (x8_3 : Int) p23 q23
                      replace p23 := eq_true p23
                      replace q23 := eq_true q23
                      have HP24 := Kd.R_putg HO_5.out (x8_3 : Int) true
                      go_wp2_with (first | ((with_reducible refine gate_store (t := 4) (p := 71) rfl ?_); refine store_event (t := 4) (p := 71) (v := ?vo_w25) (w1 := (wr.setCell ⟨go23, (x8_3 : Int).toNat, none⟩ (.bool true))) ?hg ?ho ?hn ?hr ?_; (case ho => rfl); (case hg => rfl); (case hn => rfl); (case hr => first | (go_simp; done) | (go_simp; rfl)); intro w25 hw; have hg : wr.grownBy w25 (some go23) := (by rw [hw]; exact HP24.2); have hp_ : Kd.R Kd.bool 4 w25 w.heap.size (fun _ => True) (.slice (some ⟨go23, 0, none⟩) x5_3.length co23) y204 := (by rw [hw, Ny204.out]; exact HP24.1); clear HP24; have n0_ := Aside0.mk (Kd.S_after (v := (.slice (some ⟨go23, 0, none⟩) x5_3.length co23)) (v1 := (.slice (some ⟨go23, 0, none⟩) x5_3.length co23)) (ok := (fun _ => True)) (by (with_reducible repeat (first | apply Kd.S_alloc | apply Kd.S_drewN | apply Kd.S_drew)); exact Kd.S_mono HO_3.out (fun _ hk => ⟨trivial, hk⟩)) hg (.inl rfl)); have n1_ := Aside0.mk (hp_); have n2_ := Aside0.mk ((by rw [hw]; exact below_set (HB.out) GB23.out : Below w.heap.size w w25)); clear HO_3; clear HO_5; clear HB; have HO_3 := n0_; have HO_5 := n1_; have HB := n2_; clear n0_ n1_ n2_; clear hg hw hp_))
                      go_roundg k3
                      case measure => have := HK1.out; have := HJ7.out; have := HK3.out; omega
                      case rel => exact ⟨(y204), (wrap64 (x8_3 + 1)), (by first | rfl | (simp; done) | (simp [*]; done)), H', ⟨by have := HK1.out; have := HJ7.out; have := HK3.out; omega⟩, ⟨by (with_reducible repeat (first | apply Kd.S_alloc | apply Kd.S_drewN | apply Kd.S_drew)); exact Kd.S_mono HO_3.out (fun _ hk => hk.2)⟩, ⟨by (with_reducible repeat (first | apply Kd.R_alloc | apply Kd.R_drewN | apply Kd.R_drew)); exact HO_5.out⟩, ⟨by repeat (first | (with_reducible first | exact HB.out | apply below_alloc | apply pw_below_drewN | apply below_drew1) | exact HB.out)⟩⟩
                    · rw [if_neg c20] at H
                      have c20b0 : (x8_3 == x7_7) = false := beq_eq_false_iff_ne.mpr c20
                      have c20b1 : (x8_3 != x7_7) = true := bne_iff_ne.mpr c20
                      by_cases c26 : t199 ≥ 0
                      · rw [if_pos c26] at H
                        have c26b0 : decide (0 ≤ t199) = true := decide_eq_true c26
                        clear c26
                        by_cases c27 : 0 ≤ t199
                        rotate_left
                        · rw [if_neg c27] at H
                          exact absurd H (by simp)
                        rw [if_pos c27] at H
                        have c27b0 : decide (0 ≤ t199) = true := decide_eq_true c27
                        clear c27
                        by_cases c28 : t199 < (x3_1.length : Int)
                        rotate_left
                        · rw [if_neg c28] at H
                          exact absurd H (by simp)
                        rw [if_pos c28] at H
                        have c28b0 : decide (t199 < (x3_1.length : Int)) = true := decide_eq_true c28
                        clear c28
                        by_cases c29 : 0 ≤ x8_3
                        rotate_left
                        · rw [if_neg c29] at H
                          exact absurd H (by simp)
                        rw [if_pos c29] at H
                        have c29b0 : decide (0 ≤ x8_3) = true := decide_eq_true c29
                        clear c29
                        by_cases c30 : x8_3 < ((rd_L6 x3_1 t199).length : Int)
                        rotate_left
                        · rw [if_neg c30] at H
                          exact absurd H (by simp)
                        rw [if_pos c30] at H
                        have c30b0 : decide (x8_3 < ((rd_L6 x3_1 t199).length : Int)) = true := decide_eq_true c30
                        clear c30
                        obtain ⟨bq31, hbq31⟩ : ∃ b_ : Bool, b_ = (rdOf false (rd_L6 x3_1 t199) x8_3) := ⟨_, rfl⟩
                        replace H : (if bq31 = true then (if x8_3 < (x5_3.length : Int) then (sakiaref13_Table.l1 k3 l0 x3_1 x4_1 (x5_3.set (x8_3 : Int).toNat true) t199 x7_7 (wrap64 (x8_3 + 1))) else (none)) else (if x7_7 ≥ 0 then (if 0 ≤ x7_7 then (if x7_7 < (x3_1.length : Int) then (if x8_3 < ((rd_L6 x3_1 x7_7).length : Int) then (if x8_3 < (x5_3.length : Int) then (sakiaref13_Table.l1 k3 l0 x3_1 x4_1 (x5_3.set (x8_3 : Int).toNat (rdOf false (rd_L6 x3_1 x7_7) x8_3)) t199 x7_7 (wrap64 (x8_3 + 1))) else (none)) else (none)) else (none)) else (none)) else (if x8_3 < (x5_3.length : Int) then (sakiaref13_Table.l1 k3 l0 x3_1 x4_1 (x5_3.set (x8_3 : Int).toNat false) t199 x7_7 (wrap64 (x8_3 + 1))) else (none)))) = some r := by rw [← hbq31] at H; exact H
                        have Nbq31 := Aside0.mk hbq31
                        clear hbq31
                        by_cases c32 : bq31 = true
                        · subst c32
                          have H1 : (if x8_3 < (x5_3.length : Int) then (sakiaref13_Table.l1 k3 l0 x3_1 x4_1 (x5_3.set (x8_3 : Int).toNat true) t199 x7_7 (wrap64 (x8_3 + 1))) else (none)) = some r := by rw [if_pos rfl] at H; exact H
                          clear H
                          have H := H1
                          clear H1
                          by_cases c33 : x8_3 < (x5_3.length : Int)
                          rotate_left
                          · rw [if_neg c33] at H
                            exact absurd H (by simp)
                          rw [if_pos c33] at H
                          have c33b0 : decide (x8_3 < (x5_3.length : Int)) = true := decide_eq_true c33
                          clear c33
                          obtain ⟨y207, hy207⟩ : ∃ y_ : List Bool, y_ = (x5_3.set (x8_3 : Int).toNat true) := ⟨_, rfl⟩
                          replace H : (sakiaref13_Table.l1 k3 l0 x3_1 x4_1 y207 t199 x7_7 (wrap64 (x8_3 + 1))) = some r := by first | (rw [hy207]; with_reducible exact H) | (have H2_ := (Option.bind_some _ _).symm.trans H; rw [hy207]; with_reducible exact H2_) | (have H2_ := (Option.bind_some _ _).symm.trans H; with_reducible exact H2_) | with_reducible exact H | (rw [hy207]; exact H) | exact H
                          have Ny207 := Aside0.mk hy207
                          clear hy207
                          have H' := Aside0.mk H
                          clear H
                          obtain ⟨Ao35, co35, eo35⟩ := Kd.S_slice HO_3.out
                          subst eo35
                          have p205 : 0 ≤ (t199 : Int) := of_decide_eq_true (by first | (with_reducible assumption) | assumption)
                          have q205 : t199 < (x3_1.length : Int) := of_decide_eq_true (by first | (with_reducible assumption) | assumption)
                          obtain ⟨ad205, A205_0, c205_0, e205, hx205_0, hl205_0, hi205_0⟩ := at_L6 (Kd.S_reads' HO_3.out).2.2 t199 p205 q205
                          cases e205
                          obtain ⟨ce205, hce205, hMe205, hcc205⟩ := Kd.S_get HO_3.out [] t199 p205 (by first | exact q205 | exact of_decide_eq_true (by first | (with_reducible assumption) | assumption) | (have e_ := (Kd.S_reads' HO_3.out).1; omega))
                          obtain ⟨ve205_0, rfl, ge205_0⟩ := hMe205
                          have hv205_0 := hcc205 0 _ rfl
                          rw [Nat.add_zero, show ((Kd.slice 4 Kd.bool)).sz = 1 from rfl, Nat.mul_one] at hv205_0
                          replace hv205_0 := Option.some.inj (hv205_0.symm.trans hx205_0)
                          rw [hv205_0] at ge205_0
                          have HL205_0 := Aside0.mk (show Kd.R Kd.bool 4 _ _ _ _ (rd_L6 x3_1 t199) from ge205_0)
                          clear hv205_0 ge205_0
                          clear hcc205 hce205
                          have HR205_0 := Aside0.mk hi205_0
                          have HC205_0 := Aside0.mk hl205_0
                          clear hi205_0 hl205_0
                          replace p205 := eq_true p205
                          replace q205 := eq_true q205
                          have p206 : 0 ≤ (x8_3 : Int) := of_decide_eq_true (by first | (with_reducible assumption) | assumption)
                          have q206 : x8_3 < ((rd_L6 x3_1 t199).length : Int) := of_decide_eq_true (by first | (with_reducible assumption) | assumption)
                          obtain ⟨ad206, e206, hx206_0⟩ := Kd.at_bool (by repeat (first | (with_reducible exact HR205_0.out) | (with_reducible refine Kd.C_alloc ?_ _) | (with_reducible refine Kd.C_drewN ?_ _) | (with_reducible refine Kd.C_drew ?_) | exact HR205_0.out)) x8_3 p206 q206
                          (try rw [← Nbq31.out] at hx206_0)
                          cases e206
                          replace p206 := eq_true p206
                          replace q206 := eq_true q206
                          have p34 : 0 ≤ (x8_3 : Int) := of_decide_eq_true (by first | (with_reducible assumption) | assumption)
                          have q34 : (x8_3 : Int) < ((x5_3.length : Int) : Int) := of_decide_eq_true (by first | (with_reducible assumption) | assumption)
                          obtain ⟨go34, co34, eo34, gb34, gl34, cl34, HG34⟩ := Kd.R_form HO_5.out (by omega)
                          (first | cases eo34 | (injection eo34 with ea_ en_ ec_; (first | subst ea_ | (injection ea_ with ea_; subst ea_)); subst ec_; clear en_))
                          have GB34 := Aside0.mk gb34
                          have GG34 := Aside0.mk HG34
                          clear gb34 gl34 HG34
                          obtain ⟨hx34_0, hf34_0⟩ := Kd.R_celln false HO_5.out (x8_3 : Int) p34 q34
                          replace p34 := eq_true p34
                          replace q34 := eq_true q34
                          have HP36 := Kd.R_putg HO_5.out (x8_3 : Int) true
                          go_wp2_with (first | ((with_reducible refine gate_store (t := 4) (p := 71) rfl ?_); refine store_event (t := 4) (p := 71) (v := ?vo_w37) (w1 := (wr.setCell ⟨go34, (x8_3 : Int).toNat, none⟩ (.bool true))) ?hg ?ho ?hn ?hr ?_; (case ho => rfl); (case hg => rfl); (case hn => rfl); (case hr => first | (go_simp; done) | (go_simp; rfl)); intro w37 hw; have hg : wr.grownBy w37 (some go34) := (by rw [hw]; exact HP36.2); have hp_ : Kd.R Kd.bool 4 w37 w.heap.size (fun _ => True) (.slice (some ⟨go34, 0, none⟩) x5_3.length co34) y207 := (by rw [hw, Ny207.out]; exact HP36.1); clear HP36; have n0_ := Aside0.mk (Kd.S_after (v := (.slice (some ⟨go34, 0, none⟩) x5_3.length co34)) (v1 := (.slice (some ⟨go34, 0, none⟩) x5_3.length co34)) (ok := (fun _ => True)) (by (with_reducible repeat (first | apply Kd.S_alloc | apply Kd.S_drewN | apply Kd.S_drew)); exact Kd.S_mono HO_3.out (fun _ hk => ⟨trivial, hk⟩)) hg (.inl rfl)); have n1_ := Aside0.mk (hp_); have n2_ := Aside0.mk (Kd.R_after (v := (.slice (some ⟨go34, 0, none⟩) x5_3.length co34)) (v1 := (.slice (some ⟨go34, 0, none⟩) x5_3.length co34)) (ok := (fun k_ => some k_ ≠ (.slice (some ad205) x3_1.length co35 : Value).ownBlock)) (by (with_reducible repeat (first | apply Kd.R_alloc | apply Kd.R_drewN | apply Kd.R_drew)); exact Kd.R_mono HL205_0.out (fun _ hk => ⟨hk.2, hk.1⟩)) hg (.inl rfl)); have n3_ := Aside0.mk ((by rw [hw]; exact below_set (HB.out) GB34.out : Below w.heap.size w w37)); clear HO_3; clear HO_5; clear HL205_0; clear HB; have HO_3 := n0_; have HO_5 := n1_; have HL205_0 := n2_; have HB := n3_; clear n0_ n1_ n2_ n3_; clear hg hw hp_))
                          go_roundg k3
                          case measure => have := HK1.out; have := HJ7.out; have := HK3.out; omega
                          case rel => exact ⟨(y207), (wrap64 (x8_3 + 1)), (by first | rfl | (simp; done) | (simp [*]; done)), H', ⟨by have := HK1.out; have := HJ7.out; have := HK3.out; omega⟩, ⟨by (with_reducible repeat (first | apply Kd.S_alloc | apply Kd.S_drewN | apply Kd.S_drew)); exact Kd.S_mono HO_3.out (fun _ hk => hk.2)⟩, ⟨by (with_reducible repeat (first | apply Kd.R_alloc | apply Kd.R_drewN | apply Kd.R_drew)); exact HO_5.out⟩, ⟨by repeat (first | (with_reducible first | exact HB.out | apply below_alloc | apply pw_below_drewN | apply below_drew1) | exact HB.out)⟩⟩
                        · replace c32 := Bool.eq_false_iff.mpr c32
                          subst c32
                          have H1 : (if x7_7 ≥ 0 then (if 0 ≤ x7_7 then (if x7_7 < (x3_1.length : Int) then (if x8_3 < ((rd_L6 x3_1 x7_7).length : Int) then (if x8_3 < (x5_3.length : Int) then (sakiaref13_Table.l1 k3 l0 x3_1 x4_1 (x5_3.set (x8_3 : Int).toNat (rdOf false (rd_L6 x3_1 x7_7) x8_3)) t199 x7_7 (wrap64 (x8_3 + 1))) else (none)) else (none)) else (none)) else (none)) else (if x8_3 < (x5_3.length : Int) then (sakiaref13_Table.l1 k3 l0 x3_1 x4_1 (x5_3.set (x8_3 : Int).toNat false) t199 x7_7 (wrap64 (x8_3 + 1))) else (none))) = some r := by rw [if_neg (show ¬ (false = true) by decide)] at H; exact H
                          clear H
                          have H := H1
                          clear H1
                          by_cases c38 : x7_7 ≥ 0
                          · rw [if_pos c38] at H
                            have c38b0 : decide (0 ≤ x7_7) = true := decide_eq_true c38
                            clear c38
                            by_cases c39 : 0 ≤ x7_7
                            rotate_left
                            · rw [if_neg c39] at H
                              exact absurd H (by simp)
                            rw [if_pos c39] at H
                            have c39b0 : decide (0 ≤ x7_7) = true := decide_eq_true c39
                            clear c39
                            by_cases c40 : x7_7 < (x3_1.length : Int)
                            rotate_left
                            · rw [if_neg c40] at H
                              exact absurd H (by simp)
                            rw [if_pos c40] at H
                            have c40b0 : decide (x7_7 < (x3_1.length : Int)) = true := decide_eq_true c40
                            clear c40
                            by_cases c41 : x8_3 < ((rd_L6 x3_1 x7_7).length : Int)
                            rotate_left
                            · rw [if_neg c41] at H
                              exact absurd H (by simp)
                            rw [if_pos c41] at H
                            have c41b0 : decide (x8_3 < ((rd_L6 x3_1 x7_7).length : Int)) = true := decide_eq_true c41
                            clear c41
                            by_cases c42 : x8_3 < (x5_3.length : Int)
                            rotate_left
                            · rw [if_neg c42] at H
                              exact absurd H (by simp)
                            rw [if_pos c42] at H
                            have c42b0 : decide (x8_3 < (x5_3.length : Int)) = true := decide_eq_true c42
                            clear c42
                            obtain ⟨y210, hy210⟩ : ∃ y_ : List Bool, y_ = (x5_3.set (x8_3 : Int).toNat (rdOf false (rd_L6 x3_1 x7_7) x8_3)) := ⟨_, rfl⟩
                            replace H : (sakiaref13_Table.l1 k3 l0 x3_1 x4_1 y210 t199 x7_7 (wrap64 (x8_3 + 1))) = some r := by first | (rw [hy210]; with_reducible exact H) | (have H2_ := (Option.bind_some _ _).symm.trans H; rw [hy210]; with_reducible exact H2_) | (have H2_ := (Option.bind_some _ _).symm.trans H; with_reducible exact H2_) | with_reducible exact H | (rw [hy210]; exact H) | exact H
                            have Ny210 := Aside0.mk hy210
                            clear hy210
                            have H' := Aside0.mk H
                            clear H
                            obtain ⟨Ao44, co44, eo44⟩ := Kd.S_slice HO_3.out
                            subst eo44
                            have p205 : 0 ≤ (t199 : Int) := of_decide_eq_true (by first | (with_reducible assumption) | assumption)
                            have q205 : t199 < (x3_1.length : Int) := of_decide_eq_true (by first | (with_reducible assumption) | assumption)
                            obtain ⟨ad205, A205_0, c205_0, e205, hx205_0, hl205_0, hi205_0⟩ := at_L6 (Kd.S_reads' HO_3.out).2.2 t199 p205 q205
                            cases e205
                            obtain ⟨ce205, hce205, hMe205, hcc205⟩ := Kd.S_get HO_3.out [] t199 p205 (by first | exact q205 | exact of_decide_eq_true (by first | (with_reducible assumption) | assumption) | (have e_ := (Kd.S_reads' HO_3.out).1; omega))
                            obtain ⟨ve205_0, rfl, ge205_0⟩ := hMe205
                            have hv205_0 := hcc205 0 _ rfl
                            rw [Nat.add_zero, show ((Kd.slice 4 Kd.bool)).sz = 1 from rfl, Nat.mul_one] at hv205_0
                            replace hv205_0 := Option.some.inj (hv205_0.symm.trans hx205_0)
                            rw [hv205_0] at ge205_0
                            have HL205_0 := Aside0.mk (show Kd.R Kd.bool 4 _ _ _ _ (rd_L6 x3_1 t199) from ge205_0)
                            clear hv205_0 ge205_0
                            clear hcc205 hce205
                            have HR205_0 := Aside0.mk hi205_0
                            have HC205_0 := Aside0.mk hl205_0
                            clear hi205_0 hl205_0
                            replace p205 := eq_true p205
                            replace q205 := eq_true q205
                            have p206 : 0 ≤ (x8_3 : Int) := of_decide_eq_true (by first | (with_reducible assumption) | assumption)
                            have q206 : x8_3 < ((rd_L6 x3_1 t199).length : Int) := of_decide_eq_true (by first | (with_reducible assumption) | assumption)
                            obtain ⟨ad206, e206, hx206_0⟩ := Kd.at_bool (by repeat (first | (with_reducible exact HR205_0.out) | (with_reducible refine Kd.C_alloc ?_ _) | (with_reducible refine Kd.C_drewN ?_ _) | (with_reducible refine Kd.C_drew ?_) | exact HR205_0.out)) x8_3 p206 q206
                            (try rw [← Nbq31.out] at hx206_0)
                            cases e206
                            replace p206 := eq_true p206
                            replace q206 := eq_true q206
                            have p208 : 0 ≤ (x7_7 : Int) := of_decide_eq_true (by first | (with_reducible assumption) | assumption)
                            have q208 : x7_7 < (x3_1.length : Int) := of_decide_eq_true (by first | (with_reducible assumption) | assumption)
                            obtain ⟨ad208, A208_0, c208_0, e208, hx208_0, hl208_0, hi208_0⟩ := at_L6 (Kd.S_reads' HO_3.out).2.2 x7_7 p208 q208
                            obtain rfl : ad205 = ad208 := (by injection e208)
                            obtain ⟨ce208, hce208, hMe208, hcc208⟩ := Kd.S_get HO_3.out [] x7_7 p208 (by first | exact q208 | exact of_decide_eq_true (by first | (with_reducible assumption) | assumption) | (have e_ := (Kd.S_reads' HO_3.out).1; omega))
                            obtain ⟨ve208_0, rfl, ge208_0⟩ := hMe208
                            have hv208_0 := hcc208 0 _ rfl
                            rw [Nat.add_zero, show ((Kd.slice 4 Kd.bool)).sz = 1 from rfl, Nat.mul_one] at hv208_0
                            replace hv208_0 := Option.some.inj (hv208_0.symm.trans hx208_0)
                            rw [hv208_0] at ge208_0
                            have HL208_0 := Aside0.mk (show Kd.R Kd.bool 4 _ _ _ _ (rd_L6 x3_1 x7_7) from ge208_0)
                            clear hv208_0 ge208_0
                            clear hcc208 hce208
                            have HR208_0 := Aside0.mk hi208_0
                            have HC208_0 := Aside0.mk hl208_0
                            clear hi208_0 hl208_0
                            replace p208 := eq_true p208
                            replace q208 := eq_true q208
                            have p209 : 0 ≤ (x8_3 : Int) := of_decide_eq_true (by first | (with_reducible assumption) | assumption)
                            have q209 : x8_3 < ((rd_L6 x3_1 x7_7).length : Int) := of_decide_eq_true (by first | (with_reducible assumption) | assumption)
                            obtain ⟨ad209, e209, hx209_0⟩ := Kd.at_bool (by repeat (first | (with_reducible exact HR208_0.out) | (with_reducible refine Kd.C_alloc ?_ _) | (with_reducible refine Kd.C_drewN ?_ _) | (with_reducible refine Kd.C_drew ?_) | exact HR208_0.out)) x8_3 p209 q209
                            (try rw [← Nbq31.out] at hx209_0)
                            cases e209
                            replace p209 := eq_true p209
                            replace q209 := eq_true q209
                            have p43 : 0 ≤ (x8_3 : Int) := of_decide_eq_true (by first | (with_reducible assumption) | assumption)
                            have q43 : (x8_3 : Int) < ((x5_3.length : Int) : Int) := of_decide_eq_true (by first | (with_reducible assumption) | assumption)
                            obtain ⟨go43, co43, eo43, gb43, gl43, cl43, HG43⟩ := Kd.R_form HO_5.out (by omega)
                            (first | cases eo43 | (injection eo43 with ea_ en_ ec_; (first | subst ea_ | (injection ea_ with ea_; subst ea_)); subst ec_; clear en_))
                            have GB43 := Aside0.mk gb43
                            have GG43 := Aside0.mk HG43
                            clear gb43 gl43 HG43
                            obtain ⟨hx43_0, hf43_0⟩ := Kd.R_celln false HO_5.out (x8_3 : Int) p43 q43
                            replace p43 := eq_true p43
                            replace q43 := eq_true q43
                            have HP45 := Kd.R_putg HO_5.out (x8_3 : Int) (rdOf false (rd_L6 x3_1 x7_7) x8_3)
                            go_wp2_with (first | ((with_reducible refine gate_store (t := 4) (p := 71) rfl ?_); refine store_event (t := 4) (p := 71) (v := ?vo_w46) (w1 := (wr.setCell ⟨go43, (x8_3 : Int).toNat, none⟩ (.bool (rdOf false (rd_L6 x3_1 x7_7) x8_3)))) ?hg ?ho ?hn ?hr ?_; (case ho => rfl); (case hg => rfl); (case hn => rfl); (case hr => first | (go_simp; done) | (go_simp; rfl)); intro w46 hw; have hg : wr.grownBy w46 (some go43) := (by rw [hw]; exact HP45.2); have hp_ : Kd.R Kd.bool 4 w46 w.heap.size (fun _ => True) (.slice (some ⟨go43, 0, none⟩) x5_3.length co43) y210 := (by rw [hw, Ny210.out]; exact HP45.1); clear HP45; have n0_ := Aside0.mk (Kd.S_after (v := (.slice (some ⟨go43, 0, none⟩) x5_3.length co43)) (v1 := (.slice (some ⟨go43, 0, none⟩) x5_3.length co43)) (ok := (fun _ => True)) (by (with_reducible repeat (first | apply Kd.S_alloc | apply Kd.S_drewN | apply Kd.S_drew)); exact Kd.S_mono HO_3.out (fun _ hk => ⟨trivial, hk⟩)) hg (.inl rfl)); have n1_ := Aside0.mk (hp_); have n2_ := Aside0.mk (Kd.R_after (v := (.slice (some ⟨go43, 0, none⟩) x5_3.length co43)) (v1 := (.slice (some ⟨go43, 0, none⟩) x5_3.length co43)) (ok := (fun k_ => some k_ ≠ (.slice (some ad205) x3_1.length co44 : Value).ownBlock)) (by (with_reducible repeat (first | apply Kd.R_alloc | apply Kd.R_drewN | apply Kd.R_drew)); exact Kd.R_mono HL205_0.out (fun _ hk => ⟨hk.2, hk.1⟩)) hg (.inl rfl)); have n3_ := Aside0.mk (Kd.R_after (v := (.slice (some ⟨go43, 0, none⟩) x5_3.length co43)) (v1 := (.slice (some ⟨go43, 0, none⟩) x5_3.length co43)) (ok := (fun k_ => some k_ ≠ (.slice (some ad205) x3_1.length co44 : Value).ownBlock)) (by (with_reducible repeat (first | apply Kd.R_alloc | apply Kd.R_drewN | apply Kd.R_drew)); exact Kd.R_mono HL208_0.out (fun _ hk => ⟨hk.2, hk.1⟩)) hg (.inl rfl)); have n4_ := Aside0.mk ((by rw [hw]; exact below_set (HB.out) GB43.out : Below w.heap.size w w46)); clear HO_3; clear HO_5; clear HL205_0; clear HL208_0; clear HB; have HO_3 := n0_; have HO_5 := n1_; have HL205_0 := n2_; have HL208_0 := n3_; have HB := n4_; clear n0_ n1_ n2_ n3_ n4_; clear hg hw hp_))
                            go_roundg k3
                            case measure => have := HK1.out; have := HJ7.out; have := HK3.out; omega
                            case rel => exact ⟨(y210), (wrap64 (x8_3 + 1)), (by first | rfl | (simp; done) | (simp [*]; done)), H', ⟨by have := HK1.out; have := HJ7.out; have := HK3.out; omega⟩, ⟨by (with_reducible repeat (first | apply Kd.S_alloc | apply Kd.S_drewN | apply Kd.S_drew)); exact Kd.S_mono HO_3.out (fun _ hk => hk.2)⟩, ⟨by (with_reducible repeat (first | apply Kd.R_alloc | apply Kd.R_drewN | apply Kd.R_drew)); exact HO_5.out⟩, ⟨by repeat (first | (with_reducible first | exact HB.out | apply below_alloc | apply pw_below_drewN | apply below_drew1) | exact HB.out)⟩⟩
                          · rw [if_neg c38] at H
                            have c38b0 : decide (0 ≤ x7_7) = false := decide_eq_false c38
                            clear c38
                            by_cases c47 : x8_3 < (x5_3.length : Int)
                            rotate_left
                            · rw [if_neg c47] at H
                              exact absurd H (by simp)
                            rw [if_pos c47] at H
                            have c47b0 : decide (x8_3 < (x5_3.length : Int)) = true := decide_eq_true c47
                            clear c47
                            obtain ⟨y211, hy211⟩ : ∃ y_ : List Bool, y_ = (x5_3.set (x8_3 : Int).toNat false) := ⟨_, rfl⟩
                            replace H : (sakiaref13_Table.l1 k3 l0 x3_1 x4_1 y211 t199 x7_7 (wrap64 (x8_3 + 1))) = some r := by first | (rw [hy211]; with_reducible exact H) | (have H2_ := (Option.bind_some _ _).symm.trans H; rw [hy211]; with_reducible exact H2_) | (have H2_ := (Option.bind_some _ _).symm.trans H; with_reducible exact H2_) | with_reducible exact H | (rw [hy211]; exact H) | exact H
                            have Ny211 := Aside0.mk hy211
                            clear hy211
                            have H' := Aside0.mk H
                            clear H
                            obtain ⟨Ao49, co49, eo49⟩ := Kd.S_slice HO_3.out
                            subst eo49
                            have p205 : 0 ≤ (t199 : Int) := of_decide_eq_true (by first | (with_reducible assumption) | assumption)
                            have q205 : t199 < (x3_1.length : Int) := of_decide_eq_true (by first | (with_reducible assumption) | assumption)
                            obtain ⟨ad205, A205_0, c205_0, e205, hx205_0, hl205_0, hi205_0⟩ := at_L6 (Kd.S_reads' HO_3.out).2.2 t199 p205 q205
                            cases e205
                            obtain ⟨ce205, hce205, hMe205, hcc205⟩ := Kd.S_get HO_3.out [] t199 p205 (by first | exact q205 | exact of_decide_eq_true (by first | (with_reducible assumption) | assumption) | (have e_ := (Kd.S_reads' HO_3.out).1; omega))
                            obtain ⟨ve205_0, rfl, ge205_0⟩ := hMe205
                            have hv205_0 := hcc205 0 _ rfl
                            rw [Nat.add_zero, show ((Kd.slice 4 Kd.bool)).sz = 1 from rfl, Nat.mul_one] at hv205_0
                            replace hv205_0 := Option.some.inj (hv205_0.symm.trans hx205_0)
                            rw [hv205_0] at ge205_0
                            have HL205_0 := Aside0.mk (show Kd.R Kd.bool 4 _ _ _ _ (rd_L6 x3_1 t199) from ge205_0)
                            clear hv205_0 ge205_0
                            clear hcc205 hce205
                            have HR205_0 := Aside0.mk hi205_0
                            have HC205_0 := Aside0.mk hl205_0
                            clear hi205_0 hl205_0
                            replace p205 := eq_true p205
                            replace q205 := eq_true q205
                            have p206 : 0 ≤ (x8_3 : Int) := of_decide_eq_true (by first | (with_reducible assumption) | assumption)
                            have q206 : x8_3 < ((rd_L6 x3_1 t199).length : Int) := of_decide_eq_true (by first | (with_reducible assumption) | assumption)
                            obtain ⟨ad206, e206, hx206_0⟩ := Kd.at_bool (by repeat (first | (with_reducible exact HR205_0.out) | (with_reducible refine Kd.C_alloc ?_ _) | (with_reducible refine Kd.C_drewN ?_ _) | (with_reducible refine Kd.C_drew ?_) | exact HR205_0.out)) x8_3 p206 q206
                            (try rw [← Nbq31.out] at hx206_0)
                            cases e206
                            replace p206 := eq_true p206
                            replace q206 := eq_true q206
                            have p48 : 0 ≤ (x8_3 : Int) := of_decide_eq_true (by first | (with_reducible assumption) | assumption)
                            have q48 : (x8_3 : Int) < ((x5_3.length : Int) : Int) := of_decide_eq_true (by first | (with_reducible assumption) | assumption)
                            obtain ⟨go48, co48, eo48, gb48, gl48, cl48, HG48⟩ := Kd.R_form HO_5.out (by omega)
                            (first | cases eo48 | (injection eo48 with ea_ en_ ec_; (first | subst ea_ | (injection ea_ with ea_; subst ea_)); subst ec_; clear en_))
                            have GB48 := Aside0.mk gb48
                            have GG48 := Aside0.mk HG48
                            clear gb48 gl48 HG48
                            obtain ⟨hx48_0, hf48_0⟩ := Kd.R_celln false HO_5.out (x8_3 : Int) p48 q48
                            replace p48 := eq_true p48
                            replace q48 := eq_true q48
                            have HP50 := Kd.R_putg HO_5.out (x8_3 : Int) false
                            go_wp2_with (first | ((with_reducible refine gate_store (t := 4) (p := 71) rfl ?_); refine store_event (t := 4) (p := 71) (v := ?vo_w51) (w1 := (wr.setCell ⟨go48, (x8_3 : Int).toNat, none⟩ (.bool false))) ?hg ?ho ?hn ?hr ?_; (case ho => rfl); (case hg => rfl); (case hn => rfl); (case hr => first | (go_simp; done) | (go_simp; rfl)); intro w51 hw; have hg : wr.grownBy w51 (some go48) := (by rw [hw]; exact HP50.2); have hp_ : Kd.R Kd.bool 4 w51 w.heap.size (fun _ => True) (.slice (some ⟨go48, 0, none⟩) x5_3.length co48) y211 := (by rw [hw, Ny211.out]; exact HP50.1); clear HP50; have n0_ := Aside0.mk (Kd.S_after (v := (.slice (some ⟨go48, 0, none⟩) x5_3.length co48)) (v1 := (.slice (some ⟨go48, 0, none⟩) x5_3.length co48)) (ok := (fun _ => True)) (by (with_reducible repeat (first | apply Kd.S_alloc | apply Kd.S_drewN | apply Kd.S_drew)); exact Kd.S_mono HO_3.out (fun _ hk => ⟨trivial, hk⟩)) hg (.inl rfl)); have n1_ := Aside0.mk (hp_); have n2_ := Aside0.mk (Kd.R_after (v := (.slice (some ⟨go48, 0, none⟩) x5_3.length co48)) (v1 := (.slice (some ⟨go48, 0, none⟩) x5_3.length co48)) (ok := (fun k_ => some k_ ≠ (.slice (some ad205) x3_1.length co49 : Value).ownBlock)) (by (with_reducible repeat (first | apply Kd.R_alloc | apply Kd.R_drewN | apply Kd.R_drew)); exact Kd.R_mono HL205_0.out (fun _ hk => ⟨hk.2, hk.1⟩)) hg (.inl rfl)); have n3_ := Aside0.mk ((by rw [hw]; exact below_set (HB.out) GB48.out : Below w.heap.size w w51)); clear HO_3; clear HO_5; clear HL205_0; clear HB; have HO_3 := n0_; have HO_5 := n1_; have HL205_0 := n2_; have HB := n3_; clear n0_ n1_ n2_ n3_; clear hg hw hp_))
                            go_roundg k3
                            case measure => have := HK1.out; have := HJ7.out; have := HK3.out; omega
                            case rel => exact ⟨(y211), (wrap64 (x8_3 + 1)), (by first | rfl | (simp; done) | (simp [*]; done)), H', ⟨by have := HK1.out; have := HJ7.out; have := HK3.out; omega⟩, ⟨by (with_reducible repeat (first | apply Kd.S_alloc | apply Kd.S_drewN | apply Kd.S_drew)); exact Kd.S_mono HO_3.out (fun _ hk => hk.2)⟩, ⟨by (with_reducible repeat (first | apply Kd.R_alloc | apply Kd.R_drewN | apply Kd.R_drew)); exact HO_5.out⟩, ⟨by repeat (first | (with_reducible first | exact HB.out | apply below_alloc | apply pw_below_drewN | apply below_drew1) | exact HB.out)⟩⟩
                      · rw [if_neg c26] at H
                        have c26b0 : decide (0 ≤ t199) = false := decide_eq_false c26
                        clear c26
                        by_cases c52 : x7_7 ≥ 0
                        · rw [if_pos c52] at H
                          have c52b0 : decide (0 ≤ x7_7) = true := decide_eq_true c52
                          clear c52
                          by_cases c53 : 0 ≤ x7_7
                          rotate_left
                          · rw [if_neg c53] at H
                            exact absurd H (by simp)
                          rw [if_pos c53] at H
                          have c53b0 : decide (0 ≤ x7_7) = true := decide_eq_true c53
                          clear c53
                          by_cases c54 : x7_7 < (x3_1.length : Int)
                          rotate_left
                          · rw [if_neg c54] at H
                            exact absurd H (by simp)
                          rw [if_pos c54] at H
                          have c54b0 : decide (x7_7 < (x3_1.length : Int)) = true := decide_eq_true c54
                          clear c54
                          by_cases c55 : 0 ≤ x8_3
                          rotate_left
                          · rw [if_neg c55] at H
                            exact absurd H (by simp)
                          rw [if_pos c55] at H
                          have c55b0 : decide (0 ≤ x8_3) = true := decide_eq_true c55
                          clear c55
                          by_cases c56 : x8_3 < ((rd_L6 x3_1 x7_7).length : Int)
                          rotate_left
                          · rw [if_neg c56] at H
                            exact absurd H (by simp)
                          rw [if_pos c56] at H
                          have c56b0 : decide (x8_3 < ((rd_L6 x3_1 x7_7).length : Int)) = true := decide_eq_true c56
                          clear c56
                          by_cases c57 : x8_3 < (x5_3.length : Int)
                          rotate_left
                          · rw [if_neg c57] at H
                            exact absurd H (by simp)
                          rw [if_pos c57] at H
                          have c57b0 : decide (x8_3 < (x5_3.length : Int)) = true := decide_eq_true c57
                          clear c57
                          obtain ⟨y214, hy214⟩ : ∃ y_ : List Bool, y_ = (x5_3.set (x8_3 : Int).toNat (rdOf false (rd_L6 x3_1 x7_7) x8_3)) := ⟨_, rfl⟩
                          replace H : (sakiaref13_Table.l1 k3 l0 x3_1 x4_1 y214 t199 x7_7 (wrap64 (x8_3 + 1))) = some r := by first | (rw [hy214]; with_reducible exact H) | (have H2_ := (Option.bind_some _ _).symm.trans H; rw [hy214]; with_reducible exact H2_) | (have H2_ := (Option.bind_some _ _).symm.trans H; with_reducible exact H2_) | with_reducible exact H | (rw [hy214]; exact H) | exact H
                          have Ny214 := Aside0.mk hy214
                          clear hy214
                          have H' := Aside0.mk H
                          clear H
                          obtain ⟨Ao59, co59, eo59⟩ := Kd.S_slice HO_3.out
                          subst eo59
                          have p212 : 0 ≤ (x7_7 : Int) := of_decide_eq_true (by first | (with_reducible assumption) | assumption)
                          have q212 : x7_7 < (x3_1.length : Int) := of_decide_eq_true (by first | (with_reducible assumption) | assumption)
                          obtain ⟨ad212, A212_0, c212_0, e212, hx212_0, hl212_0, hi212_0⟩ := at_L6 (Kd.S_reads' HO_3.out).2.2 x7_7 p212 q212
                          cases e212
                          obtain ⟨ce212, hce212, hMe212, hcc212⟩ := Kd.S_get HO_3.out [] x7_7 p212 (by first | exact q212 | exact of_decide_eq_true (by first | (with_reducible assumption) | assumption) | (have e_ := (Kd.S_reads' HO_3.out).1; omega))
                          obtain ⟨ve212_0, rfl, ge212_0⟩ := hMe212
                          have hv212_0 := hcc212 0 _ rfl
                          rw [Nat.add_zero, show ((Kd.slice 4 Kd.bool)).sz = 1 from rfl, Nat.mul_one] at hv212_0
                          replace hv212_0 := Option.some.inj (hv212_0.symm.trans hx212_0)
                          rw [hv212_0] at ge212_0
                          have HL212_0 := Aside0.mk (show Kd.R Kd.bool 4 _ _ _ _ (rd_L6 x3_1 x7_7) from ge212_0)
                          clear hv212_0 ge212_0
                          clear hcc212 hce212
                          have HR212_0 := Aside0.mk hi212_0
                          have HC212_0 := Aside0.mk hl212_0
                          clear hi212_0 hl212_0
                          replace p212 := eq_true p212
                          replace q212 := eq_true q212
                          have p213 : 0 ≤ (x8_3 : Int) := of_decide_eq_true (by first | (with_reducible assumption) | assumption)
                          have q213 : x8_3 < ((rd_L6 x3_1 x7_7).length : Int) := of_decide_eq_true (by first | (with_reducible assumption) | assumption)
                          obtain ⟨ad213, e213, hx213_0⟩ := Kd.at_bool (by repeat (first | (with_reducible exact HR212_0.out) | (with_reducible refine Kd.C_alloc ?_ _) | (with_reducible refine Kd.C_drewN ?_ _) | (with_reducible refine Kd.C_drew ?_) | exact HR212_0.out)) x8_3 p213 q213
                          cases e213
                          replace p213 := eq_true p213
                          replace q213 := eq_true q213
                          have p58 : 0 ≤ (x8_3 : Int) := of_decide_eq_true (by first | (with_reducible assumption) | assumption)
                          have q58 : (x8_3 : Int) < ((x5_3.length : Int) : Int) := of_decide_eq_true (by first | (with_reducible assumption) | assumption)
                          obtain ⟨go58, co58, eo58, gb58, gl58, cl58, HG58⟩ := Kd.R_form HO_5.out (by omega)
                          (first | cases eo58 | (injection eo58 with ea_ en_ ec_; (first | subst ea_ | (injection ea_ with ea_; subst ea_)); subst ec_; clear en_))
                          have GB58 := Aside0.mk gb58
                          have GG58 := Aside0.mk HG58
                          clear gb58 gl58 HG58
                          obtain ⟨hx58_0, hf58_0⟩ := Kd.R_celln false HO_5.out (x8_3 : Int) p58 q58
                          replace p58 := eq_true p58
                          replace q58 := eq_true q58
                          have HP60 := Kd.R_putg HO_5.out (x8_3 : Int) (rdOf false (rd_L6 x3_1 x7_7) x8_3)
                          go_wp2_with (first | ((with_reducible refine gate_store (t := 4) (p := 71) rfl ?_); refine store_event (t := 4) (p := 71) (v := ?vo_w61) (w1 := (wr.setCell ⟨go58, (x8_3 : Int).toNat, none⟩ (.bool (rdOf false (rd_L6 x3_1 x7_7) x8_3)))) ?hg ?ho ?hn ?hr ?_; (case ho => rfl); (case hg => rfl); (case hn => rfl); (case hr => first | (go_simp; done) | (go_simp; rfl)); intro w61 hw; have hg : wr.grownBy w61 (some go58) := (by rw [hw]; exact HP60.2); have hp_ : Kd.R Kd.bool 4 w61 w.heap.size (fun _ => True) (.slice (some ⟨go58, 0, none⟩) x5_3.length co58) y214 := (by rw [hw, Ny214.out]; exact HP60.1); clear HP60; have n0_ := Aside0.mk (Kd.S_after (v := (.slice (some ⟨go58, 0, none⟩) x5_3.length co58)) (v1 := (.slice (some ⟨go58, 0, none⟩) x5_3.length co58)) (ok := (fun _ => True)) (by (with_reducible repeat (first | apply Kd.S_alloc | apply Kd.S_drewN | apply Kd.S_drew)); exact Kd.S_mono HO_3.out (fun _ hk => ⟨trivial, hk⟩)) hg (.inl rfl)); have n1_ := Aside0.mk (hp_); have n2_ := Aside0.mk (Kd.R_after (v := (.slice (some ⟨go58, 0, none⟩) x5_3.length co58)) (v1 := (.slice (some ⟨go58, 0, none⟩) x5_3.length co58)) (ok := (fun k_ => some k_ ≠ (.slice (some ad212) x3_1.length co59 : Value).ownBlock)) (by (with_reducible repeat (first | apply Kd.R_alloc | apply Kd.R_drewN | apply Kd.R_drew)); exact Kd.R_mono HL212_0.out (fun _ hk => ⟨hk.2, hk.1⟩)) hg (.inl rfl)); have n3_ := Aside0.mk ((by rw [hw]; exact below_set (HB.out) GB58.out : Below w.heap.size w w61)); clear HO_3; clear HO_5; clear HL212_0; clear HB; have HO_3 := n0_; have HO_5 := n1_; have HL212_0 := n2_; have HB := n3_; clear n0_ n1_ n2_ n3_; clear hg hw hp_))
                          go_roundg k3
                          case measure => have := HK1.out; have := HJ7.out; have := HK3.out; omega
                          case rel => exact ⟨(y214), (wrap64 (x8_3 + 1)), (by first | rfl | (simp; done) | (simp [*]; done)), H', ⟨by have := HK1.out; have := HJ7.out; have := HK3.out; omega⟩, ⟨by (with_reducible repeat (first | apply Kd.S_alloc | apply Kd.S_drewN | apply Kd.S_drew)); exact Kd.S_mono HO_3.out (fun _ hk => hk.2)⟩, ⟨by (with_reducible repeat (first | apply Kd.R_alloc | apply Kd.R_drewN | apply Kd.R_drew)); exact HO_5.out⟩, ⟨by repeat (first | (with_reducible first | exact HB.out | apply below_alloc | apply pw_below_drewN | apply below_drew1) | exact HB.out)⟩⟩
                        · rw [if_neg c52] at H
                          have c52b0 : decide (0 ≤ x7_7) = false := decide_eq_false c52
                          clear c52
                          by_cases c62 : 0 ≤ x8_3
                          rotate_left
                          · rw [if_neg c62] at H
                            exact absurd H (by simp)
                          rw [if_pos c62] at H
                          have c62b0 : decide (0 ≤ x8_3) = true := decide_eq_true c62
                          clear c62
                          by_cases c63 : x8_3 < (x5_3.length : Int)
                          rotate_left
                          · rw [if_neg c63] at H
                            exact absurd H (by simp)
                          rw [if_pos c63] at H
                          have c63b0 : decide (x8_3 < (x5_3.length : Int)) = true := decide_eq_true c63
                          clear c63
                          obtain ⟨y215, hy215⟩ : ∃ y_ : List Bool, y_ = (x5_3.set (x8_3 : Int).toNat false) := ⟨_, rfl⟩
                          replace H : (sakiaref13_Table.l1 k3 l0 x3_1 x4_1 y215 t199 x7_7 (wrap64 (x8_3 + 1))) = some r := by first | (rw [hy215]; with_reducible exact H) | (have H2_ := (Option.bind_some _ _).symm.trans H; rw [hy215]; with_reducible exact H2_) | (have H2_ := (Option.bind_some _ _).symm.trans H; with_reducible exact H2_) | with_reducible exact H | (rw [hy215]; exact H) | exact H
                          have Ny215 := Aside0.mk hy215
                          clear hy215
                          have H' := Aside0.mk H
                          clear H
                          have p64 : 0 ≤ (x8_3 : Int) := of_decide_eq_true (by first | (with_reducible assumption) | assumption)
                          have q64 : (x8_3 : Int) < ((x5_3.length : Int) : Int) := of_decide_eq_true (by first | (with_reducible assumption) | assumption)
                          obtain ⟨go64, co64, eo64, gb64, gl64, cl64, HG64⟩ := Kd.R_form HO_5.out (by omega)
                          (first | cases eo64 | (injection eo64 with ea_ en_ ec_; (first | subst ea_ | (injection ea_ with ea_; subst ea_)); subst ec_; clear en_))
                          have GB64 := Aside0.mk gb64
                          have GG64 := Aside0.mk HG64
                          clear gb64 gl64 HG64
                          obtain ⟨hx64_0, hf64_0⟩ := Kd.R_celln false HO_5.out (x8_3 : Int) p64 q64
                          replace p64 := eq_true p64
                          replace q64 := eq_true q64
                          have HP65 := Kd.R_putg HO_5.out (x8_3 : Int) false
                          go_wp2_with (first | ((with_reducible refine gate_store (t := 4) (p := 71) rfl ?_); refine store_event (t := 4) (p := 71) (v := ?vo_w66) (w1 := (wr.setCell ⟨go64, (x8_3 : Int).toNat, none⟩ (.bool false))) ?hg ?ho ?hn ?hr ?_; (case ho => rfl); (case hg => rfl); (case hn => rfl); (case hr => first | (go_simp; done) | (go_simp; rfl)); intro w66 hw; have hg : wr.grownBy w66 (some go64) := (by rw [hw]; exact HP65.2); have hp_ : Kd.R Kd.bool 4 w66 w.heap.size (fun _ => True) (.slice (some ⟨go64, 0, none⟩) x5_3.length co64) y215 := (by rw [hw, Ny215.out]; exact HP65.1); clear HP65; have n0_ := Aside0.mk (Kd.S_after (v := (.slice (some ⟨go64, 0, none⟩) x5_3.length co64)) (v1 := (.slice (some ⟨go64, 0, none⟩) x5_3.length co64)) (ok := (fun _ => True)) (by (with_reducible repeat (first | apply Kd.S_alloc | apply Kd.S_drewN | apply Kd.S_drew)); exact Kd.S_mono HO_3.out (fun _ hk => ⟨trivial, hk⟩)) hg (.inl rfl)); have n1_ := Aside0.mk (hp_); have n2_ := Aside0.mk ((by rw [hw]; exact below_set (HB.out) GB64.out : Below w.heap.size w w66)); clear HO_3; clear HO_5; clear HB; have HO_3 := n0_; have HO_5 := n1_; have HB := n2_; clear n0_ n1_ n2_; clear hg hw hp_))
                          go_roundg k3
                          case measure => have := HK1.out; have := HJ7.out; have := HK3.out; omega
                          case rel => exact ⟨(y215), (wrap64 (x8_3 + 1)), (by first | rfl | (simp; done) | (simp [*]; done)), H', ⟨by have := HK1.out; have := HJ7.out; have := HK3.out; omega⟩, ⟨by (with_reducible repeat (first | apply Kd.S_alloc | apply Kd.S_drewN | apply Kd.S_drew)); exact Kd.S_mono HO_3.out (fun _ hk => hk.2)⟩, ⟨by (with_reducible repeat (first | apply Kd.R_alloc | apply Kd.R_drewN | apply Kd.R_drew)); exact HO_5.out⟩, ⟨by repeat (first | (with_reducible first | exact HB.out | apply below_alloc | apply pw_below_drewN | apply below_drew1) | exact HB.out)⟩⟩
                · rw [if_neg c13] at H
                  have c13b0 : decide (x8_3 < x4_1) = false := decide_eq_false c13
                  clear c13
                  by_cases c67 : x3_1.length < 5864062014805
                  rotate_left
                  · rw [if_neg c67] at H
                    exact absurd H (by simp)
                  rw [if_pos c67] at H
                  have LMc67 := Aside0.mk c67
                  clear c67
                  obtain ⟨y216, hy216⟩ : ∃ y_ : List (List Bool), y_ = (x3_1 ++ [x5_3]) := ⟨_, rfl⟩
                  replace H : (sakiaref13_Table.l0 k3 l0 y216 (wrap64 (x4_1 + 1))) = some r := by first | (rw [hy216]; with_reducible exact H) | (have H2_ := (Option.bind_some _ _).symm.trans H; rw [hy216]; with_reducible exact H2_) | (have H2_ := (Option.bind_some _ _).symm.trans H; with_reducible exact H2_) | with_reducible exact H | (rw [hy216]; exact H) | exact H
                  have Ny216 := Aside0.mk hy216
                  clear hy216
                  have H' := Aside0.mk H
                  clear H
                  obtain ⟨Ao69, co69, eo69⟩ := Kd.R_slice HO_5.out
                  subst eo69
                  go_wp2_with (first | ((with_reducible refine gate_builtin (b := .append) (xs := #[.tmp 72, .tmp 74]) rfl ?_); at_builtin; refine Kd.S_append (Kd.slice 4 Kd.bool) (w0 := w) w.heap.size rfl (.tmp 72) (.tmp 74) 41 55 (.slice none 0 0) 24 rfl Try.underlying41 info55 rfl (by decide) (by omega) u3 x3_1 x5_3 [.slice Ao69 x5_3.length co69] (fun _ => True) (fun k_ => some k_ = (.slice Ao69 x5_3.length co69 : Value).ownBlock) rfl rfl ?aP (fun k_ hk_ => ((Kd.R_mono (ok' := fun k_ => ((fun _ => True)) k_ ∧ some k_ ≠ (u3 : Value).ownBlock) (Kd.R_apart' (HO_5.out) (Kd.S_typed HO_3.out) (by decide)) (fun k_ hk => ⟨trivial, hk.2⟩))).1 k_ hk_.symm) ?aF ?aO ?aB ?aS ?aL ?_; (case aP => exact Kd.M_row (Kd.R_mono (Kd.R_tight rfl (Kd.R_mono (ok' := fun k_ => ((fun _ => True)) k_ ∧ some k_ ≠ (u3 : Value).ownBlock) (Kd.R_apart' (HO_5.out) (Kd.S_typed HO_3.out) (by decide)) (fun k_ hk => ⟨trivial, hk.2⟩))) (fun _ h_ => h_))); (case aB => exact (by repeat (first | (with_reducible first | exact HB.out | apply below_alloc | apply pw_below_drewN | apply below_drew1) | exact HB.out))); (case aF => exact (fun _ _ => trivial)); (case aO => exact (by (with_reducible repeat (first | apply Kd.S_alloc | apply Kd.S_drewN | apply Kd.S_drew)); exact Kd.S_mono HO_3.out (fun k_ hk => ⟨trivial, fun e_ => hk e_⟩))); (case aS => exact (below_size (by repeat (first | (with_reducible first | exact HB.out | apply below_alloc | apply pw_below_drewN | apply below_drew1) | exact HB.out)))); (case aL => have := LMc67.out; omega); intro v217 w68 ho hb hg hat; rw [← Ny216.out] at ho; have n0_ := Aside0.mk (hb); have n1_ := Aside0.mk (ho); clear HB; clear HO_3; clear HO_5; have HB := n0_; have HO218 := n1_; clear n0_ n1_; clear ho hb hg hat))
                  go_roundg k3
                  case measure => have := HK1.out; have := HJ7.out; have := HK3.out; omega
                  case rel => exact ⟨(y216), (wrap64 (x4_1 + 1)), (by first | rfl | (simp; done) | (simp [*]; done)), H', ⟨by have := HK1.out; have := HJ7.out; have := HK3.out; omega⟩, ⟨by (with_reducible repeat (first | apply Kd.S_alloc | apply Kd.S_drewN | apply Kd.S_drew)); exact HO218.out⟩, ⟨by repeat (first | (with_reducible first | exact HB.out | apply below_alloc | apply pw_below_drewN | apply below_drew1) | exact HB.out)⟩⟩
      · rw [if_neg c2] at H
        have c2b0 : decide (x4_1 < (l0.length : Int)) = false := decide_eq_false c2
        clear c2
        obtain rfl := Option.some.inj H
        go_wp2
        go_ret
        exact ⟨_, by first | rfl | (simp [errW_none, errW_some] <;> rfl) | (simp [*, errW_none, errW_some] <;> rfl), by (with_reducible repeat (first | apply Kd.S_alloc | apply Kd.S_drewN | apply Kd.S_drew)); exact HO_3.out, by repeat (first | (with_reducible first | exact HB.out | apply below_alloc | apply pw_below_drewN | apply below_drew1) | exact HB.out)⟩

end Go.Proofs.Yteahmcfinijmdaa.QOrderClocks
