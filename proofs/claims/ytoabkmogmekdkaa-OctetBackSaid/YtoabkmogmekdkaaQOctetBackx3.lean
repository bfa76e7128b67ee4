-- Written for this claim by a program of this session.
import Derived.Test.YtoabkmogmekdkaaQOctetBackx0
import Derived.Test.YtoabkmogmekdkaaQOctetBackx1
import Derived.Test.YtoabkmogmekdkaaQOctetBackx2
namespace Go.Proofs.Ytoabkmogmekdkaa.QOctetBack
open Go.RowKit Go.Proofs.YtoabkmogmekdkaaW.PrintWords Go.Proofs.YtoabkmogmekdkaaW.PrintLast Go.Proofs.YtoabkmogmekdkaaW.PrintMore
attribute [local go_sem] max2_int min2_int max_two min_two max_three min_three max_four min_four   -- for this text's walks alone
set_option linter.unusedVariables false
set_option linter.unusedSimpArgs false

/-! ### sakialaw07_OctetBack: function 6 -/
def sakialaw07_OctetBack.j0 : Nat → Int → List Int → List Int → Bool → Option (Bool)
  | 0, _, _, _, _ => none
  | k + 1, x0, x1, x2, x20 => if x20 = true then ((sakialaw07_live.f k).bind fun t181 => (some t181)) else ((octet_Put.f k ([] : List Int) x0).bind fun t182 => (if t182.length + x2.length < 140737488355328 then ((octet_Get.f k (t182 ++ x2)).bind fun bt188 => ((octet_PutList.f k ([] : List Int) x1).bind fun t191 => (if t191.length + x2.length < 140737488355328 then ((octet_GetList.f k (t191 ++ x2) 300).bind fun bt197 => (if bt188.2.2 = 0 then (if bt197.2.2 = 0 then (if bt188.1 = x0 then ((octet_Len.f k x0).bind fun t202 => (if bt188.2.1 = t202 then ((sakiaref07_List.f k x1).bind fun t203 => (if bt197.2.1 = (t203.length : Int) then ((sakiaref05_Same.f k bt197.1 x1).bind fun t206 => (if t206 = true then ((sakiaref07_Zag.f x0).bind fun t207 => ((octet_Zig.f t207).bind fun t208 => ((octet_Zag.f t208).bind fun t209 => (if t209 = t207 then ((octet_Zag.f x0).bind fun t210 => ((octet_Zig.f t210).bind fun t211 => (if t211 = x0 then ((sakialaw07_live.f k).bind fun t212 => (some t212)) else (none)))) else (none))))) else (none))) else (none))) else (none))) else (none)) else (none)) else (none))) else (none)))) else (none)))
def sakialaw07_OctetBack.f (k : Nat) (a0 : Int) (l1 : List Int) (l2 : List Int) : Option (Bool) := if (l1.length : Int) > 300 then (sakialaw07_OctetBack.j0 k a0 l1 l2 true) else (sakialaw07_OctetBack.j0 k a0 l1 l2 (decide ((l2.length : Int) > 1000)))
theorem sakialaw07_OctetBack.mono_l : ∀ k, (∀ y0 y1 y2 y3, LeO (sakialaw07_OctetBack.j0 k y0 y1 y2 y3) (sakialaw07_OctetBack.j0 (k + 1) y0 y1 y2 y3))
  | 0 => fun _ _ _ _ r h => by simp [sakialaw07_OctetBack.j0] at h
  | k + 1 => by
    have ih0 := sakialaw07_OctetBack.mono_l k
    · intro y0 y1 y2 y3
      unfold sakialaw07_OctetBack.j0
      repeat' first
      | (with_reducible exact ih0 _ _ _ _)
      | (with_reducible exact octet_Get.mono _ _)
      | (with_reducible exact octet_GetList.mono _ _ _)
      | (with_reducible exact octet_Len.mono _ _)
      | (with_reducible exact octet_Put.mono _ _ _)
      | (with_reducible exact octet_PutList.mono _ _ _)
      | (with_reducible exact sakialaw07_live.mono _)
      | (with_reducible exact sakiaref05_Same.mono _ _ _)
      | (with_reducible exact sakiaref07_List.mono _ _)
      | (with_reducible exact LeO.refl _)
      | (with_reducible exact LeO.none _)
      | (with_reducible refine LeO.ite ?_ ?_)
      | (with_reducible refine LeO.bind ?_ (fun _ => ?_))
      | exact ih0 _ _ _ _
      | exact octet_Get.mono _ _
      | exact octet_GetList.mono _ _ _
      | exact octet_Len.mono _ _
      | exact octet_Put.mono _ _ _
      | exact octet_PutList.mono _ _ _
      | exact sakialaw07_live.mono _
      | exact sakiaref05_Same.mono _ _ _
      | exact sakiaref07_List.mono _ _
      | exact LeO.none _
      | refine LeO.ite ?_ ?_
      | refine LeO.bind ?_ (fun _ => ?_)
theorem sakialaw07_OctetBack.mono : ∀ a0 a1 a2 k, LeO (sakialaw07_OctetBack.f k a0 a1 a2) (sakialaw07_OctetBack.f (k + 1) a0 a1 a2) := by
  intro a0 a1 a2 k
  have ih0 := sakialaw07_OctetBack.mono_l k
  unfold sakialaw07_OctetBack.f
  repeat' first
      | (with_reducible exact ih0 _ _ _ _)
      | (with_reducible exact octet_Get.mono _ _)
      | (with_reducible exact octet_GetList.mono _ _ _)
      | (with_reducible exact octet_Len.mono _ _)
      | (with_reducible exact octet_Put.mono _ _ _)
      | (with_reducible exact octet_PutList.mono _ _ _)
      | (with_reducible exact sakialaw07_live.mono _)
      | (with_reducible exact sakiaref05_Same.mono _ _ _)
      | (with_reducible exact sakiaref07_List.mono _ _)
      | (with_reducible exact LeO.refl _)
      | (with_reducible exact LeO.none _)
      | (with_reducible refine LeO.ite ?_ ?_)
      | (with_reducible refine LeO.bind ?_ (fun _ => ?_))
      | exact ih0 _ _ _ _
      | exact octet_Get.mono _ _
      | exact octet_GetList.mono _ _ _
      | exact octet_Len.mono _ _
      | exact octet_Put.mono _ _ _
      | exact octet_PutList.mono _ _ _
      | exact sakialaw07_live.mono _
      | exact sakiaref05_Same.mono _ _ _
      | exact sakiaref07_List.mono _ _
      | exact LeO.none _
      | refine LeO.ite ?_ ?_
      | refine LeO.bind ?_ (fun _ => ?_)
set_option maxHeartbeats 8000000 in
set_option maxRecDepth 100000 in
theorem sakialaw07_OctetBack.calls (k : Nat) (a0 : Int) (A1 : Option Addr) (c1 : Nat) (l1 : List Int) (A2 : Option Addr) (c2 : Nat) (l2 : List Int) (r : Bool) (w : World) (hr1 : Kd.C (Kd.int .i64) w A1 l1.length l1) (hc1 : l1.length ≤ c1) (hr2 : Kd.C (Kd.int .u8) w A2 l2.length l2) (hc2 : l2.length ≤ c2) (h : sakialaw07_OctetBack.f k a0 l1 l2 = some r) :
    Calls Try.prog 6 #[.int .u64 a0, .slice A1 l1.length c1, .slice A2 l2.length c2] w fun e w' => e = .returned (.bool r) ∧ Below w.heap.size w w' := by
  have HR1 := Aside0.mk hr1
  have HC1 := Aside0.mk hc1
  clear hr1 hc1
  have HR2 := Aside0.mk hr2
  have HC2 := Aside0.mk hc2
  clear hr2 hc2
  have HB := Aside0.mk (Below.refl w.heap.size w)
  have H : (if (l1.length : Int) > 300 then (sakialaw07_OctetBack.j0 k a0 l1 l2 true) else (sakialaw07_OctetBack.j0 k a0 l1 l2 (decide ((l2.length : Int) > 1000)))) = some r := h
  clear h
  have HC4 := Aside0.mk H
  clear H
  go_enter Try.func6, Try.ntmps6
  go_upto_region 1 with (fail)
  go_cut [20] (fun v20 wc => ∃ (kq : Nat) (x20_3 : Bool), v20 = .bool x20_3 ∧ Aside0 (sakialaw07_OctetBack.j0 kq a0 l1 l2 x20_3 = some r) ∧ Aside0 (kq ≤ k) ∧ Aside0 (Below w.heap.size w wc))
  case first =>
    have H := HC4.out
    clear HC4
    by_cases c5 : (l1.length : Int) > 300
    · rw [if_pos c5] at H
      have c5b0 : decide (300 < (l1.length : Int)) = true := decide_eq_true c5
      have c5b1 : decide (300 < l1.length) = true := decide_eq_true (by omega)
      clear c5
      (first | rw [c5b0] | (simp only [i64_w, i32_w]; rw [c5b0]) | skip)
      have H' := Aside0.mk H
      clear H
      go_wp2
      go_meet
      case rel => exact ⟨_, (true), (by first | rfl | (simp; done) | (simp [*]; done)), H', ⟨by first | omega | exact Nat.le_refl _⟩, ⟨by repeat (first | (with_reducible first | exact HB.out | apply below_alloc | apply pw_below_drewN | apply below_drew1) | exact HB.out)⟩⟩
    · rw [if_neg c5] at H
      have c5b0 : decide (300 < (l1.length : Int)) = false := decide_eq_false c5
      have c5b1 : decide (300 < l1.length) = false := decide_eq_false (by omega)
      clear c5
      (first | rw [c5b0] | (simp only [i64_w, i32_w]; rw [c5b0]) | skip)
      have H' := Aside0.mk H
      clear H
      go_wp2
      go_meet
      case rel => exact ⟨_, (decide ((l2.length : Int) > 1000)), (by first | rfl | (simp; done) | (simp [*]; done)), H', ⟨by first | omega | exact Nat.le_refl _⟩, ⟨by repeat (first | (with_reducible first | exact HB.out | apply below_alloc | apply pw_below_drewN | apply below_drew1) | exact HB.out)⟩⟩
  case rest =>
    clear HC4
    try clear c1
    try clear c2
    try clear p2
    try clear c5
    try clear c5b0
    try clear c5b1
    obtain ⟨kq, x20_3, rfl, HA, HJ3, HB⟩ := hcut
    cases kq with
    | zero => exact absurd HA.out (by simp [sakialaw07_OctetBack.j0])
    | succ kj3 =>
      have H := HA.out
      clear HA
      simp only [sakialaw07_OctetBack.j0] at H
      by_cases c6 : x20_3 = true
      · subst c6
        have H1 : ((sakialaw07_live.f kj3).bind fun t181 => (some t181)) = some r := by rw [if_pos rfl] at H; exact H
        clear H
        have H := H1
        clear H1
        replace H := Option.bind_eq_some_iff.mp H
        obtain ⟨t181, A70, H⟩ := H
        replace H : (some t181) = some r := H
        have A7 := Aside0.mk A70
        clear A70
        obtain rfl := Option.some.inj H
        go_wp2_with (first | ((with_reducible refine gate_callee (f := 7) rfl ?_); refine goesL_ (some 21) rfl rfl Try.func7 (by kernel_rfl) rfl #[] rfl (by (try simp only [List.map_toArray, List.map_cons, List.map_nil]); first | done | rfl | (simp only [List.length_drop, List.length_take]; rfl)) ?_; (with_reducible refine (sakialaw07_live.calls kj3  t181 _ A7.out).mono ?_); rintro e w8 ⟨rfl, hb⟩; refine ⟨_, rfl, ?_⟩; have n0_ := Aside0.mk (below_step (by repeat (first | (with_reducible first | exact HB.out | apply below_alloc | apply pw_below_drewN | apply below_drew1) | exact HB.out)) hb); clear HB; have HB := n0_; clear n0_; (try clear hb); (try clear hb2); (try clear hk); (try clear hi)))
        go_ret
        exact ⟨by first | rfl | (simp [errW_none, errW_some] <;> rfl) | (simp [*, errW_none, errW_some] <;> rfl), by repeat (first | (with_reducible first | exact HB.out | apply below_alloc | apply pw_below_drewN | apply below_drew1) | exact HB.out)⟩
      · replace c6 := Bool.eq_false_iff.mpr c6
        subst c6
        have H1 : ((octet_Put.f kj3 ([] : List Int) a0).bind fun t182 => (if t182.length + l2.length < 140737488355328 then ((octet_Get.f kj3 (t182 ++ l2)).bind fun bt188 => ((octet_PutList.f kj3 ([] : List Int) l1).bind fun t191 => (if t191.length + l2.length < 140737488355328 then ((octet_GetList.f kj3 (t191 ++ l2) 300).bind fun bt197 => (if bt188.2.2 = 0 then (if bt197.2.2 = 0 then (if bt188.1 = a0 then ((octet_Len.f kj3 a0).bind fun t202 => (if bt188.2.1 = t202 then ((sakiaref07_List.f kj3 l1).bind fun t203 => (if bt197.2.1 = (t203.length : Int) then ((sakiaref05_Same.f kj3 bt197.1 l1).bind fun t206 => (if t206 = true then ((sakiaref07_Zag.f a0).bind fun t207 => ((octet_Zig.f t207).bind fun t208 => ((octet_Zag.f t208).bind fun t209 => (if t209 = t207 then ((octet_Zag.f a0).bind fun t210 => ((octet_Zig.f t210).bind fun t211 => (if t211 = a0 then ((sakialaw07_live.f kj3).bind fun t212 => (some t212)) else (none)))) else (none))))) else (none))) else (none))) else (none))) else (none)) else (none)) else (none))) else (none)))) else (none))) = some r := by rw [if_neg (show ¬ (false = true) by decide)] at H; exact H
        clear H
        have H := H1
        clear H1
        replace H := Option.bind_eq_some_iff.mp H
        obtain ⟨t182, A90, H⟩ := H
        replace H : (if t182.length + l2.length < 140737488355328 then ((octet_Get.f kj3 (t182 ++ l2)).bind fun bt188 => ((octet_PutList.f kj3 ([] : List Int) l1).bind fun t191 => (if t191.length + l2.length < 140737488355328 then ((octet_GetList.f kj3 (t191 ++ l2) 300).bind fun bt197 => (if bt188.2.2 = 0 then (if bt197.2.2 = 0 then (if bt188.1 = a0 then ((octet_Len.f kj3 a0).bind fun t202 => (if bt188.2.1 = t202 then ((sakiaref07_List.f kj3 l1).bind fun t203 => (if bt197.2.1 = (t203.length : Int) then ((sakiaref05_Same.f kj3 bt197.1 l1).bind fun t206 => (if t206 = true then ((sakiaref07_Zag.f a0).bind fun t207 => ((octet_Zig.f t207).bind fun t208 => ((octet_Zag.f t208).bind fun t209 => (if t209 = t207 then ((octet_Zag.f a0).bind fun t210 => ((octet_Zig.f t210).bind fun t211 => (if t211 = a0 then ((sakialaw07_live.f kj3).bind fun t212 => (some t212)) else (none)))) else (none))))) else (none))) else (none))) else (none))) else (none)) else (none)) else (none))) else (none)))) else (none)) = some r := H
        have A9 := Aside0.mk A90
        clear A90
        by_cases c10 : t182.length + l2.length < 140737488355328
        · rw [if_pos c10] at H
          have LMc10 := Aside0.mk c10
          clear c10
          obtain ⟨y185, hy185⟩ : ∃ y_ : List Int, y_ = (t182 ++ l2) := ⟨_, rfl⟩
          replace H : ((octet_Get.f kj3 y185).bind fun bt188 => ((octet_PutList.f kj3 ([] : List Int) l1).bind fun t191 => (if t191.length + l2.length < 140737488355328 then ((octet_GetList.f kj3 (t191 ++ l2) 300).bind fun bt197 => (if bt188.2.2 = 0 then (if bt197.2.2 = 0 then (if bt188.1 = a0 then ((octet_Len.f kj3 a0).bind fun t202 => (if bt188.2.1 = t202 then ((sakiaref07_List.f kj3 l1).bind fun t203 => (if bt197.2.1 = (t203.length : Int) then ((sakiaref05_Same.f kj3 bt197.1 l1).bind fun t206 => (if t206 = true then ((sakiaref07_Zag.f a0).bind fun t207 => ((octet_Zig.f t207).bind fun t208 => ((octet_Zag.f t208).bind fun t209 => (if t209 = t207 then ((octet_Zag.f a0).bind fun t210 => ((octet_Zig.f t210).bind fun t211 => (if t211 = a0 then ((sakialaw07_live.f kj3).bind fun t212 => (some t212)) else (none)))) else (none))))) else (none))) else (none))) else (none))) else (none)) else (none)) else (none))) else (none)))) = some r := by first | (rw [hy185]; with_reducible exact H) | (have H2_ := (Option.bind_some _ _).symm.trans H; rw [hy185]; with_reducible exact H2_) | (have H2_ := (Option.bind_some _ _).symm.trans H; with_reducible exact H2_) | with_reducible exact H | (rw [hy185]; exact H) | exact H
          have Ny185 := Aside0.mk hy185
          clear hy185
          replace H := Option.bind_eq_some_iff.mp H
          obtain ⟨⟨t188, t189, t190⟩, A110, H⟩ := H
          replace H : ((octet_PutList.f kj3 ([] : List Int) l1).bind fun t191 => (if t191.length + l2.length < 140737488355328 then ((octet_GetList.f kj3 (t191 ++ l2) 300).bind fun bt197 => (if t190 = 0 then (if bt197.2.2 = 0 then (if t188 = a0 then ((octet_Len.f kj3 a0).bind fun t202 => (if t189 = t202 then ((sakiaref07_List.f kj3 l1).bind fun t203 => (if bt197.2.1 = (t203.length : Int) then ((sakiaref05_Same.f kj3 bt197.1 l1).bind fun t206 => (if t206 = true then ((sakiaref07_Zag.f a0).bind fun t207 => ((octet_Zig.f t207).bind fun t208 => ((octet_Zag.f t208).bind fun t209 => (if t209 = t207 then ((octet_Zag.f a0).bind fun t210 => ((octet_Zig.f t210).bind fun t211 => (if t211 = a0 then ((sakialaw07_live.f kj3).bind fun t212 => (some t212)) else (none)))) else (none))))) else (none))) else (none))) else (none))) else (none)) else (none)) else (none))) else (none))) = some r := H
          have A11 := Aside0.mk A110
          clear A110
          replace H := Option.bind_eq_some_iff.mp H
          obtain ⟨t191, A120, H⟩ := H
          replace H : (if t191.length + l2.length < 140737488355328 then ((octet_GetList.f kj3 (t191 ++ l2) 300).bind fun bt197 => (if t190 = 0 then (if bt197.2.2 = 0 then (if t188 = a0 then ((octet_Len.f kj3 a0).bind fun t202 => (if t189 = t202 then ((sakiaref07_List.f kj3 l1).bind fun t203 => (if bt197.2.1 = (t203.length : Int) then ((sakiaref05_Same.f kj3 bt197.1 l1).bind fun t206 => (if t206 = true then ((sakiaref07_Zag.f a0).bind fun t207 => ((octet_Zig.f t207).bind fun t208 => ((octet_Zag.f t208).bind fun t209 => (if t209 = t207 then ((octet_Zag.f a0).bind fun t210 => ((octet_Zig.f t210).bind fun t211 => (if t211 = a0 then ((sakialaw07_live.f kj3).bind fun t212 => (some t212)) else (none)))) else (none))))) else (none))) else (none))) else (none))) else (none)) else (none)) else (none))) else (none)) = some r := H
          have A12 := Aside0.mk A120
          clear A120
          by_cases c13 : t191.length + l2.length < 140737488355328
          · rw [if_pos c13] at H
            have LMc13 := Aside0.mk c13
            clear c13
            obtain ⟨y194, hy194⟩ : ∃ y_ : List Int, y_ = (t191 ++ l2) := ⟨_, rfl⟩
            replace H : ((octet_GetList.f kj3 y194 300).bind fun bt197 => (if t190 = 0 then (if bt197.2.2 = 0 then (if t188 = a0 then ((octet_Len.f kj3 a0).bind fun t202 => (if t189 = t202 then ((sakiaref07_List.f kj3 l1).bind fun t203 => (if bt197.2.1 = (t203.length : Int) then ((sakiaref05_Same.f kj3 bt197.1 l1).bind fun t206 => (if t206 = true then ((sakiaref07_Zag.f a0).bind fun t207 => ((octet_Zig.f t207).bind fun t208 => ((octet_Zag.f t208).bind fun t209 => (if t209 = t207 then ((octet_Zag.f a0).bind fun t210 => ((octet_Zig.f t210).bind fun t211 => (if t211 = a0 then ((sakialaw07_live.f kj3).bind fun t212 => (some t212)) else (none)))) else (none))))) else (none))) else (none))) else (none))) else (none)) else (none)) else (none))) = some r := by first | (rw [hy194]; with_reducible exact H) | (have H2_ := (Option.bind_some _ _).symm.trans H; rw [hy194]; with_reducible exact H2_) | (have H2_ := (Option.bind_some _ _).symm.trans H; with_reducible exact H2_) | with_reducible exact H | (rw [hy194]; exact H) | exact H
            have Ny194 := Aside0.mk hy194
            clear hy194
            replace H := Option.bind_eq_some_iff.mp H
            obtain ⟨⟨t197, t198, t199⟩, A140, H⟩ := H
            replace H : (if t190 = 0 then (if t199 = 0 then (if t188 = a0 then ((octet_Len.f kj3 a0).bind fun t202 => (if t189 = t202 then ((sakiaref07_List.f kj3 l1).bind fun t203 => (if t198 = (t203.length : Int) then ((sakiaref05_Same.f kj3 t197 l1).bind fun t206 => (if t206 = true then ((sakiaref07_Zag.f a0).bind fun t207 => ((octet_Zig.f t207).bind fun t208 => ((octet_Zag.f t208).bind fun t209 => (if t209 = t207 then ((octet_Zag.f a0).bind fun t210 => ((octet_Zig.f t210).bind fun t211 => (if t211 = a0 then ((sakialaw07_live.f kj3).bind fun t212 => (some t212)) else (none)))) else (none))))) else (none))) else (none))) else (none))) else (none)) else (none)) else (none)) = some r := H
            have A14 := Aside0.mk A140
            clear A140
            by_cases c15 : t190 = 0
            · rw [if_pos c15] at H
              have c15b0 : (t190 == 0) = true := beq_iff_eq.mpr c15
              have c15b1 : (t190 != 0) = false := bne_eq_false_iff_eq.mpr c15
              clear c15
              by_cases c16 : t199 = 0
              · rw [if_pos c16] at H
                have c16b0 : (t199 == 0) = true := beq_iff_eq.mpr c16
                have c16b1 : (t199 != 0) = false := bne_eq_false_iff_eq.mpr c16
                clear c16
                by_cases c17 : t188 = a0
                · rw [if_pos c17] at H
                  have c17b0 : (t188 == a0) = true := beq_iff_eq.mpr c17
                  have c17b1 : (t188 != a0) = false := bne_eq_false_iff_eq.mpr c17
                  clear c17
                  replace H := Option.bind_eq_some_iff.mp H
                  obtain ⟨t202, A180, H⟩ := H
                  replace H : (if t189 = t202 then ((sakiaref07_List.f kj3 l1).bind fun t203 => (if t198 = (t203.length : Int) then ((sakiaref05_Same.f kj3 t197 l1).bind fun t206 => (if t206 = true then ((sakiaref07_Zag.f a0).bind fun t207 => ((octet_Zig.f t207).bind fun t208 => ((octet_Zag.f t208).bind fun t209 => (if t209 = t207 then ((octet_Zag.f a0).bind fun t210 => ((octet_Zig.f t210).bind fun t211 => (if t211 = a0 then ((sakialaw07_live.f kj3).bind fun t212 => (some t212)) else (none)))) else (none))))) else (none))) else (none))) else (none)) = some r := H
                  have A18 := Aside0.mk A180
                  clear A180
                  by_cases c19 : t189 = t202
                  · rw [if_pos c19] at H
                    have c19b0 : (t189 == t202) = true := beq_iff_eq.mpr c19
                    have c19b1 : (t189 != t202) = false := bne_eq_false_iff_eq.mpr c19
                    clear c19
                    replace H := Option.bind_eq_some_iff.mp H
                    obtain ⟨t203, A200, H⟩ := H
                    replace H : (if t198 = (t203.length : Int) then ((sakiaref05_Same.f kj3 t197 l1).bind fun t206 => (if t206 = true then ((sakiaref07_Zag.f a0).bind fun t207 => ((octet_Zig.f t207).bind fun t208 => ((octet_Zag.f t208).bind fun t209 => (if t209 = t207 then ((octet_Zag.f a0).bind fun t210 => ((octet_Zig.f t210).bind fun t211 => (if t211 = a0 then ((sakialaw07_live.f kj3).bind fun t212 => (some t212)) else (none)))) else (none))))) else (none))) else (none)) = some r := H
                    have A20 := Aside0.mk A200
                    clear A200
                    by_cases c21 : t198 = (t203.length : Int)
                    · rw [if_pos c21] at H
                      have c21b0 : (t198 == (t203.length : Int)) = true := beq_iff_eq.mpr c21
                      have c21b1 : (t198 != (t203.length : Int)) = false := bne_eq_false_iff_eq.mpr c21
                      clear c21
                      replace H := Option.bind_eq_some_iff.mp H
                      obtain ⟨t206, A220, H⟩ := H
                      replace H : (if t206 = true then ((sakiaref07_Zag.f a0).bind fun t207 => ((octet_Zig.f t207).bind fun t208 => ((octet_Zag.f t208).bind fun t209 => (if t209 = t207 then ((octet_Zag.f a0).bind fun t210 => ((octet_Zig.f t210).bind fun t211 => (if t211 = a0 then ((sakialaw07_live.f kj3).bind fun t212 => (some t212)) else (none)))) else (none))))) else (none)) = some r := H
                      have A22 := Aside0.mk A220
                      clear A220
                      by_cases c23 : t206 = true
                      · subst c23
                        have H1 : ((sakiaref07_Zag.f a0).bind fun t207 => ((octet_Zig.f t207).bind fun t208 => ((octet_Zag.f t208).bind fun t209 => (if t209 = t207 then ((octet_Zag.f a0).bind fun t210 => ((octet_Zig.f t210).bind fun t211 => (if t211 = a0 then ((sakialaw07_live.f kj3).bind fun t212 => (some t212)) else (none)))) else (none))))) = some r := by rw [if_pos rfl] at H; exact H
                        clear H
                        have H := H1
                        clear H1
                        replace H := Option.bind_eq_some_iff.mp H
                        obtain ⟨t207, A240, H⟩ := H
                        replace H : ((octet_Zig.f t207).bind fun t208 => ((octet_Zag.f t208).bind fun t209 => (if t209 = t207 then ((octet_Zag.f a0).bind fun t210 => ((octet_Zig.f t210).bind fun t211 => (if t211 = a0 then ((sakialaw07_live.f kj3).bind fun t212 => (some t212)) else (none)))) else (none)))) = some r := H
                        have A24 := Aside0.mk A240
                        clear A240
                        replace H := Option.bind_eq_some_iff.mp H
                        obtain ⟨t208, A250, H⟩ := H
                        replace H : ((octet_Zag.f t208).bind fun t209 => (if t209 = t207 then ((octet_Zag.f a0).bind fun t210 => ((octet_Zig.f t210).bind fun t211 => (if t211 = a0 then ((sakialaw07_live.f kj3).bind fun t212 => (some t212)) else (none)))) else (none))) = some r := H
                        have A25 := Aside0.mk A250
                        clear A250
                        replace H := Option.bind_eq_some_iff.mp H
                        obtain ⟨t209, A260, H⟩ := H
                        replace H : (if t209 = t207 then ((octet_Zag.f a0).bind fun t210 => ((octet_Zig.f t210).bind fun t211 => (if t211 = a0 then ((sakialaw07_live.f kj3).bind fun t212 => (some t212)) else (none)))) else (none)) = some r := H
                        have A26 := Aside0.mk A260
                        clear A260
                        by_cases c27 : t209 = t207
                        · rw [if_pos c27] at H
                          have c27b0 : (t209 == t207) = true := beq_iff_eq.mpr c27
                          have c27b1 : (t209 != t207) = false := bne_eq_false_iff_eq.mpr c27
                          clear c27
                          replace H := Option.bind_eq_some_iff.mp H
                          obtain ⟨t210, A280, H⟩ := H
                          replace H : ((octet_Zig.f t210).bind fun t211 => (if t211 = a0 then ((sakialaw07_live.f kj3).bind fun t212 => (some t212)) else (none))) = some r := H
                          have A28 := Aside0.mk A280
                          clear A280
                          replace H := Option.bind_eq_some_iff.mp H
                          obtain ⟨t211, A290, H⟩ := H
                          replace H : (if t211 = a0 then ((sakialaw07_live.f kj3).bind fun t212 => (some t212)) else (none)) = some r := H
                          have A29 := Aside0.mk A290
                          clear A290
                          by_cases c30 : t211 = a0
                          · rw [if_pos c30] at H
                            have c30b0 : (t211 == a0) = true := beq_iff_eq.mpr c30
                            have c30b1 : (t211 != a0) = false := bne_eq_false_iff_eq.mpr c30
                            clear c30
                            replace H := Option.bind_eq_some_iff.mp H
                            obtain ⟨t212, A310, H⟩ := H
                            replace H : (some t212) = some r := H
                            have A31 := Aside0.mk A310
                            clear A310
                            obtain rfl := Option.some.inj H
                            go_wp2_with (first | ((with_reducible refine gate_callee (f := 8) rfl ?_); refine goesL_ (some 24) rfl rfl Try.func8 (by kernel_rfl) rfl #[.slice none 0 0, .int .u64 a0] rfl (by (try simp only [List.map_toArray, List.map_cons, List.map_nil]); first | done | rfl | (simp only [List.length_drop, List.length_take]; rfl)) ?_; (refine (octet_Put.calls kj3 _ _ ([] : List Int) a0 t182 _ ?side1 ?side2 A9.out).mono ?_); (case side1 => exact Kd.C_nil _ _); (case side2 => exact Nat.le_refl _); rintro e w32 ⟨v183, rfl, ho0, hb⟩; refine ⟨_, rfl, ?_⟩; have n0_ := Aside0.mk (Kd.R_lower ho0 (below_size (by repeat (first | (with_reducible first | exact HB.out | apply below_alloc | apply pw_below_drewN | apply below_drew1) | exact HB.out)))); have n1_ := Aside0.mk (below_step (by repeat (first | (with_reducible first | exact HB.out | apply below_alloc | apply pw_below_drewN | apply below_drew1) | exact HB.out)) hb); clear HB; have HO184 := n0_; have HB := n1_; clear n0_ n1_; (try clear hb); (try clear hb2); (try clear hk); (try clear hi); (try clear ho0)) | ((with_reducible refine gate_builtin (b := .append) (xs := #[.tmp 24, .tmp 25]) rfl ?_); (try (refine gate_guard (by rfl) ?_; dsimp only)); at_builtin; refine Kd.R_append_rows (Kd.int .u8) (w0 := w) w.heap.size rfl (.tmp 24) (.tmp 25) 24 5 (.int .u8 0) 1 rfl Try.underlying24 info5 rfl (by decide) (by omega) v183 t182 l2 _ _ _ (fun _ => True) (fun _ => False) rfl rfl ?aO ?aR (fun _ _ h => h) (fun _ h => h.elim) ?aF ?aB ?aS ?aL ?_; (case aR => repeat (first | exact (Kd.C_below HR2.out HB.out) | (with_reducible refine Kd.C_alloc ?_ _) | (with_reducible refine Kd.C_drewN ?_ _) | (with_reducible refine Kd.C_drew ?_))); (case aB => exact (by repeat (first | (with_reducible first | exact HB.out | apply below_alloc | apply pw_below_drewN | apply below_drew1) | exact HB.out))); (case aF => exact (fun _ _ => trivial)); (case aO => exact (by (with_reducible repeat (first | apply Kd.R_alloc | apply Kd.R_drewN | apply Kd.R_drew)); exact HO184.out)); (case aS => exact (below_size (by repeat (first | (with_reducible first | exact HB.out | apply below_alloc | apply pw_below_drewN | apply below_drew1) | exact HB.out)))); (case aL => have := LMc10.out; omega); intro v186 w33 ho hb hg hat; rw [← Ny185.out] at ho; have n0_ := Aside0.mk (hb); have n1_ := Aside0.mk (ho); clear HB; clear HO184; have HB := n0_; have HO187 := n1_; clear n0_ n1_; clear ho hb hg hat; obtain ⟨Ao34, co34, eo34⟩ := Kd.R_slice HO187.out; subst eo34) | ((with_reducible refine gate_callee (f := 18) rfl ?_); refine goesL_ (some 27) rfl rfl Try.func18 (by kernel_rfl) rfl #[.slice Ao34 y185.length co34] rfl (by (try simp only [List.map_toArray, List.map_cons, List.map_nil]); first | done | rfl | (simp only [List.length_drop, List.length_take]; rfl)) ?_; (with_reducible refine (octet_Get.calls kj3 _ _ y185 t188 t189 t190 _ ?side1 ?side2 A11.out).mono ?_); (case side1 => repeat (first | exact (Kd.R_reads' HO187.out).2.2 | (with_reducible refine Kd.C_alloc ?_ _) | (with_reducible refine Kd.C_drewN ?_ _) | (with_reducible refine Kd.C_drew ?_))); (case side2 => exact (Kd.R_reads' HO187.out).2.1); rintro e w' ⟨rfl, ⟨nd, rfl⟩⟩; refine ⟨_, rfl, ?_⟩) | ((with_reducible refine gate_callee (f := 16) rfl ?_); refine goesL_ (some 33) rfl rfl Try.func16 (by kernel_rfl) rfl #[.slice none 0 0, .slice A1 l1.length c1] rfl (by (try simp only [List.map_toArray, List.map_cons, List.map_nil]); first | done | rfl | (simp only [List.length_drop, List.length_take]; rfl)) ?_; (refine (octet_PutList.calls kj3 _ _ ([] : List Int) _ _ l1 t191 _ ?side1 ?side2 ?side3 ?side4 A12.out).mono ?_); (case side1 => exact Kd.C_nil _ _); (case side2 => exact Nat.le_refl _); (case side3 => repeat (first | exact (Kd.C_below HR1.out (by repeat (first | (with_reducible first | exact HB.out | apply below_alloc | apply pw_below_drewN | apply below_drew1) | exact HB.out))) | (with_reducible refine Kd.C_alloc ?_ _) | (with_reducible refine Kd.C_drewN ?_ _) | (with_reducible refine Kd.C_drew ?_))); (case side4 => exact HC1.out); rintro e w35 ⟨v192, rfl, ho0, hb⟩; refine ⟨_, rfl, ?_⟩; have n0_ := Aside0.mk (Kd.R_elder' (by (with_reducible repeat (first | apply Kd.R_alloc | apply Kd.R_drewN | apply Kd.R_drew)); exact HO187.out) (Kd.R_base ho0) hb); have n1_ := Aside0.mk (Kd.R_lower (Kd.R_new' ho0 (Kd.R_lt (by (with_reducible repeat (first | apply Kd.R_alloc | apply Kd.R_drewN | apply Kd.R_drew)); exact HO187.out))) (below_size (by repeat (first | (with_reducible first | exact HB.out | apply below_alloc | apply pw_below_drewN | apply below_drew1) | exact HB.out)))); have n2_ := Aside0.mk (below_step (by repeat (first | (with_reducible first | exact HB.out | apply below_alloc | apply pw_below_drewN | apply below_drew1) | exact HB.out)) hb); clear HO187; clear HB; have HO187 := n0_; have HO193 := n1_; have HB := n2_; clear n0_ n1_ n2_; (try clear hb); (try clear hb2); (try clear hk); (try clear hi); (try clear ho0)) | ((with_reducible refine gate_builtin (b := .append) (xs := #[.tmp 33, .tmp 34]) rfl ?_); (try (refine gate_guard (by rfl) ?_; dsimp only)); at_builtin; refine Kd.R_append_rows (Kd.int .u8) (w0 := w) w.heap.size rfl (.tmp 33) (.tmp 34) 24 5 (.int .u8 0) 1 rfl Try.underlying24 info5 rfl (by decide) (by omega) v192 t191 l2 _ _ _ (fun k_ => some k_ ≠ (.slice Ao34 y185.length co34 : Value).ownBlock) (fun _ => False) rfl rfl ?aO ?aR (fun _ _ h => h) (fun _ h => h.elim) ?aF ?aB ?aS ?aL ?_; (case aR => repeat (first | exact (Kd.C_below HR2.out HB.out) | (with_reducible refine Kd.C_alloc ?_ _) | (with_reducible refine Kd.C_drewN ?_ _) | (with_reducible refine Kd.C_drew ?_))); (case aB => exact (by repeat (first | (with_reducible first | exact HB.out | apply below_alloc | apply pw_below_drewN | apply below_drew1) | exact HB.out))); (case aF => exact (fun k_ hk => Kd.fresh' (Kd.R_lt (by (with_reducible repeat (first | apply Kd.R_alloc | apply Kd.R_drewN | apply Kd.R_drew)); exact HO187.out)) k_ hk)); (case aO => exact (by (with_reducible repeat (first | apply Kd.R_alloc | apply Kd.R_drewN | apply Kd.R_drew)); exact Kd.R_mono HO193.out (fun _ hk => hk.2))); (case aS => exact (below_size (by repeat (first | (with_reducible first | exact HB.out | apply below_alloc | apply pw_below_drewN | apply below_drew1) | exact HB.out)))); (case aL => have := LMc13.out; omega); intro v195 w36 ho hb hg hat; rw [← Ny194.out] at ho; have n0_ := Aside0.mk (Kd.R_after (ok := (fun _ => True)) (by (with_reducible repeat (first | apply Kd.R_alloc | apply Kd.R_drewN | apply Kd.R_drew)); exact HO187.out) hg hat); have n1_ := Aside0.mk (hb); have n2_ := Aside0.mk (ho); clear HO187; clear HB; clear HO193; have HO187 := n0_; have HB := n1_; have HO196 := n2_; clear n0_ n1_ n2_; clear ho hb hg hat; obtain ⟨Ao37, co37, eo37⟩ := Kd.R_slice HO196.out; subst eo37) | ((with_reducible refine gate_callee (f := 21) rfl ?_); refine goesL_ (some 36) rfl rfl Try.func21 (by kernel_rfl) rfl #[.slice Ao37 y194.length co37, .int .i64 300] rfl (by (try simp only [List.map_toArray, List.map_cons, List.map_nil]); first | done | rfl | (simp only [List.length_drop, List.length_take]; rfl)) ?_; (with_reducible refine (octet_GetList.calls kj3 _ _ y194 300 t197 t198 t199 _ ?side1 ?side2 A14.out).mono ?_); (case side1 => repeat (first | exact (Kd.R_reads' HO196.out).2.2 | (with_reducible refine Kd.C_alloc ?_ _) | (with_reducible refine Kd.C_drewN ?_ _) | (with_reducible refine Kd.C_drew ?_))); (case side2 => exact (Kd.R_reads' HO196.out).2.1); rintro e w38 ⟨v200, rfl, ho0, hb⟩; refine ⟨_, rfl, ?_⟩; have n0_ := Aside0.mk (Kd.R_below (by (with_reducible repeat (first | apply Kd.R_alloc | apply Kd.R_drewN | apply Kd.R_drew)); exact HO187.out) hb); have n1_ := Aside0.mk (Kd.R_below (by (with_reducible repeat (first | apply Kd.R_alloc | apply Kd.R_drewN | apply Kd.R_drew)); exact HO196.out) hb); have n2_ := Aside0.mk (Kd.R_lower ho0 (below_size (by repeat (first | (with_reducible first | exact HB.out | apply below_alloc | apply pw_below_drewN | apply below_drew1) | exact HB.out)))); have n3_ := Aside0.mk (below_step (by repeat (first | (with_reducible first | exact HB.out | apply below_alloc | apply pw_below_drewN | apply below_drew1) | exact HB.out)) hb); clear HO187; clear HO196; clear HB; have HO187 := n0_; have HO196 := n1_; have HO201 := n2_; have HB := n3_; clear n0_ n1_ n2_ n3_; (try clear hb); (try clear hb2); (try clear hk); (try clear hi); (try clear ho0)) | (go_at_call 10; (with_reducible refine (octet_Len.calls kj3 a0 t202 _ A18.out).mono ?_); rintro e w' ⟨rfl, ⟨nd, rfl⟩⟩) | (go_at_call 17; (with_reducible refine (sakiaref07_List.calls kj3 _ _ l1 t203 _ ?side1 ?side2 A20.out).mono ?_); (case side1 => repeat (first | exact (Kd.C_below HR1.out (by repeat (first | (with_reducible first | exact HB.out | apply below_alloc | apply pw_below_drewN | apply below_drew1) | exact HB.out))) | (with_reducible refine Kd.C_alloc ?_ _) | (with_reducible refine Kd.C_drewN ?_ _) | (with_reducible refine Kd.C_drew ?_))); (case side2 => exact HC1.out); rintro e w39 ⟨v204, rfl, ho0, hb⟩; have n0_ := Aside0.mk (Kd.R_elder' (by (with_reducible repeat (first | apply Kd.R_alloc | apply Kd.R_drewN | apply Kd.R_drew)); exact HO187.out) (Kd.R_base ho0) hb); have n1_ := Aside0.mk (Kd.R_elder' (by (with_reducible repeat (first | apply Kd.R_alloc | apply Kd.R_drewN | apply Kd.R_drew)); exact HO196.out) (Kd.R_base ho0) hb); have n2_ := Aside0.mk (Kd.R_below (by (with_reducible repeat (first | apply Kd.R_alloc | apply Kd.R_drewN | apply Kd.R_drew)); exact HO201.out) hb); have n3_ := Aside0.mk (Kd.R_lower (Kd.R_new' (Kd.R_new' ho0 (Kd.R_lt (by (with_reducible repeat (first | apply Kd.R_alloc | apply Kd.R_drewN | apply Kd.R_drew)); exact HO187.out))) (Kd.R_lt (by (with_reducible repeat (first | apply Kd.R_alloc | apply Kd.R_drewN | apply Kd.R_drew)); exact HO196.out))) (below_size (by repeat (first | (with_reducible first | exact HB.out | apply below_alloc | apply pw_below_drewN | apply below_drew1) | exact HB.out)))); have n4_ := Aside0.mk (below_step (by repeat (first | (with_reducible first | exact HB.out | apply below_alloc | apply pw_below_drewN | apply below_drew1) | exact HB.out)) hb); clear HO187; clear HO196; clear HO201; clear HB; have HO187 := n0_; have HO196 := n1_; have HO201 := n2_; have HO205 := n3_; have HB := n4_; clear n0_ n1_ n2_ n3_ n4_; (try clear hb); (try clear hb2); (try clear hk); (try clear hi); (try clear ho0); obtain ⟨Ao40, co40, eo40⟩ := Kd.R_slice HO205.out; subst eo40; obtain ⟨Ao41, co41, eo41⟩ := Kd.R_slice HO201.out; subst eo41) | ((with_reducible refine gate_callee (f := 23) rfl ?_); refine goesL_ (some 66) rfl rfl Try.func23 (by kernel_rfl) rfl #[.slice Ao41 t197.length co41, .slice A1 l1.length c1] rfl (by (try simp only [List.map_toArray, List.map_cons, List.map_nil]); first | done | rfl | (simp only [List.length_drop, List.length_take]; rfl)) ?_; (with_reducible refine (sakiaref05_Same.calls kj3 _ _ t197 _ _ l1 true _ ?side1 ?side2 ?side3 ?side4 A22.out).mono ?_); (case side1 => repeat (first | exact (Kd.R_reads' HO201.out).2.2 | (with_reducible refine Kd.C_alloc ?_ _) | (with_reducible refine Kd.C_drewN ?_ _) | (with_reducible refine Kd.C_drew ?_))); (case side2 => exact (Kd.R_reads' HO201.out).2.1); (case side3 => repeat (first | exact (Kd.C_below HR1.out HB.out) | (with_reducible refine Kd.C_alloc ?_ _) | (with_reducible refine Kd.C_drewN ?_ _) | (with_reducible refine Kd.C_drew ?_))); (case side4 => exact HC1.out); rintro e w' ⟨rfl, ⟨nd, rfl⟩⟩; refine ⟨_, rfl, ?_⟩) | (go_at_call 14; (with_reducible refine (sakiaref07_Zag.calls a0 t207 _ A24.out).mono ?_); rintro e w' ⟨rfl, ⟨nd, rfl⟩⟩) | (go_at_call 11; (with_reducible refine (octet_Zig.calls t207 t208 _ A25.out).mono ?_); rintro e w' ⟨rfl, ⟨nd, rfl⟩⟩) | (go_at_call 13; (with_reducible refine (octet_Zag.calls t208 t209 _ A26.out).mono ?_); rintro e w' ⟨rfl, ⟨nd, rfl⟩⟩) | (go_at_call 13; (with_reducible refine (octet_Zag.calls a0 t210 _ A28.out).mono ?_); rintro e w' ⟨rfl, ⟨nd, rfl⟩⟩) | (go_at_call 11; (with_reducible refine (octet_Zig.calls t210 t211 _ A29.out).mono ?_); rintro e w' ⟨rfl, ⟨nd, rfl⟩⟩) | (go_at_call 7; (with_reducible refine (sakialaw07_live.calls kj3  t212 _ A31.out).mono ?_); rintro e w42 ⟨rfl, hb⟩; have n0_ := Aside0.mk (Kd.R_below (by (with_reducible repeat (first | apply Kd.R_alloc | apply Kd.R_drewN | apply Kd.R_drew)); exact HO187.out) hb); have n1_ := Aside0.mk (Kd.R_below (by (with_reducible repeat (first | apply Kd.R_alloc | apply Kd.R_drewN | apply Kd.R_drew)); exact HO196.out) hb); have n2_ := Aside0.mk (Kd.R_below (by (with_reducible repeat (first | apply Kd.R_alloc | apply Kd.R_drewN | apply Kd.R_drew)); exact HO201.out) hb); have n3_ := Aside0.mk (Kd.R_below (by (with_reducible repeat (first | apply Kd.R_alloc | apply Kd.R_drewN | apply Kd.R_drew)); exact HO205.out) hb); have n4_ := Aside0.mk (below_step (by repeat (first | (with_reducible first | exact HB.out | apply below_alloc | apply pw_below_drewN | apply below_drew1) | exact HB.out)) hb); clear HO187; clear HO196; clear HO201; clear HO205; clear HB; have HO187 := n0_; have HO196 := n1_; have HO201 := n2_; have HO205 := n3_; have HB := n4_; clear n0_ n1_ n2_ n3_ n4_; (try clear hb); (try clear hb2); (try clear hk); (try clear hi)))
                            go_ret
                            exact ⟨by first | rfl | (simp [errW_none, errW_some] <;> rfl) | (simp [*, errW_none, errW_some] <;> rfl), by repeat (first | (with_reducible first | exact HB.out | apply below_alloc | apply pw_below_drewN | apply below_drew1) | exact HB.out)⟩
                          · rw [if_neg c30] at H
                            exact absurd H (by simp)
                        · rw [if_neg c27] at H
                          exact absurd H (by simp)
                      · replace c23 := Bool.eq_false_iff.mpr c23
                        subst c23
                        have H1 : (none) = some r := by rw [if_neg (show ¬ (false = true) by decide)] at H; exact H
                        clear H
                        have H := H1
                        clear H1
                        exact absurd H (by simp)
                    · rw [if_neg c21] at H
                      exact absurd H (by simp)
                  · rw [if_neg c19] at H
                    exact absurd H (by simp)
                · rw [if_neg c17] at H
                  exact absurd H (by simp)
              · rw [if_neg c16] at H
                exact absurd H (by simp)
            · rw [if_neg c15] at H
              exact absurd H (by simp)
          · rw [if_neg c13] at H
            exact absurd H (by simp)
        · rw [if_neg c10] at H
          exact absurd H (by simp)

/-- THE ONE PURE STATEMENT of sakialaw07_OctetBack: yours. -/
def sakialaw07_OctetBack.Pure : Prop := ∀ (a0 : Int) (l1 : List Int) (l2 : List Int), (Lit.int .u64 a0).wf = true → l1.length ≤ maxLen → l1.length * 8 ≤ 140737488351232 → (∀ x ∈ l1, (Lit.int .i64 x).wf = true) → l2.length ≤ maxLen → l2.length * 1 ≤ 140737488351232 → (∀ x ∈ l2, (Lit.int .u8 x).wf = true) → ∃ k, sakialaw07_OctetBack.f k a0 l1 l2 = some true
theorem sakialaw07_OctetBack.walk (P : sakialaw07_OctetBack.Pure) (a0 : Int) (a1 : Option Addr) (len1 cap1 : Nat) (z1 : List Int) (a2 : Option Addr) (len2 cap2 : Nat) (z2 : List Int) (w : World) (w0 : (Lit.int .u64 a0).wf = true) (w1 : (a1 = none ∧ len1 = 0 ∧ cap1 = 0 ∧ z1 = []) ∨ ∃ x, a1 = some x ∧ len1 ≤ cap1 ∧ cap1 ≤ maxLen ∧ z1.length = cap1 ∧ (∀ i, i < z1.length → w.cell? (x.add i) = some (.int .i64 (z1.getD i 0))) ∧ ∀ n ∈ z1, (Lit.int .i64 n).wf = true) (y1 : len1 * 8 ≤ 140737488351232) (w2 : (a2 = none ∧ len2 = 0 ∧ cap2 = 0 ∧ z2 = []) ∨ ∃ x, a2 = some x ∧ len2 ≤ cap2 ∧ cap2 ≤ maxLen ∧ z2.length = cap2 ∧ (∀ i, i < z2.length → w.cell? (x.add i) = some (.int .u8 (z2.getD i 0))) ∧ ∀ n ∈ z2, (Lit.int .u8 n).wf = true) (y2 : len2 * 1 ≤ 140737488351232) :
    Calls Try.prog 6 #[.int .u64 a0, .slice a1 len1 cap1, .slice a2 len2 cap2] w fun e w' => e = .returned (.bool true) ∧ Below w.heap.size w w' := by
  obtain ⟨l1, rfl, hr1, hm1, hw1, hc1⟩ := ReadsInt.ofRowC w1
  obtain ⟨l2, rfl, hr2, hm2, hw2, hc2⟩ := ReadsInt.ofRowC w2
  obtain ⟨k, h⟩ := P a0 l1 l2 w0 hm1 y1 hw1 hm2 y2 hw2
  refine (sakialaw07_OctetBack.calls k a0 _ _ l1 _ _ l2 true w (Kd.C_of_reads (d := (0 : Int)) (h1 := fun _ => rfl) hr1) hc1 (Kd.C_of_reads (d := (0 : Int)) (h1 := fun _ => rfl) hr2) hc2 h).mono ?_
  rintro e w' ⟨rfl, hd⟩
  exact ⟨rfl, hd⟩

end Go.Proofs.Ytoabkmogmekdkaa.QOctetBack
