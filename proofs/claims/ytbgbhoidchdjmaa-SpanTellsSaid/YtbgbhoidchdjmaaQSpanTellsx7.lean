-- Written for this claim by a program of this session.
import Derived.Test.YtbgbhoidchdjmaaQSpanTellsx0
import Derived.Test.YtbgbhoidchdjmaaQSpanTellsx2
import Derived.Test.YtbgbhoidchdjmaaQSpanTellsx4
import Derived.Test.YtbgbhoidchdjmaaQSpanTellsx5
import Derived.Test.YtbgbhoidchdjmaaQSpanTellsx6
namespace Go.Proofs.Ytbgbhoidchdjmaa.QSpanTells
open Go.RowKit Go.Proofs.YtbgbhoidchdjmaaW.PrintWords Go.Proofs.YtbgbhoidchdjmaaW.PrintLast Go.Proofs.YtbgbhoidchdjmaaW.PrintMore
attribute [local go_sem] max2_int min2_int max_two min_two max_three min_three max_four min_four   -- for this text's walks alone
set_option linter.unusedVariables false
set_option linter.unusedSimpArgs false

/-! ### sakialaw03_SpanTells: function 6 -/
mutual
def sakialaw03_SpanTells.j0 : Nat → Int → Int → Int → Int → Bool → Int → Bool → Bool → Int → Int → Int → Int → Option (Bool)
  | 0, _, _, _, _, _, _, _, _, _, _, _, _ => none
  | k + 1, x0, x1, x7, x19, x20, x21, x22, x23, x201000, x201001, x202000, x202001 => if (x20 != x23) = true then (none) else (if (x22 != x23) = true then (none) else (if x23 = true then ((sakiaref01_Plus.f 32 x7 x1).bind fun t221 => (if (IntKind.u64.wrap (x19)) = t221 then ((sakiaref01_Plus.f 64 x7 x1).bind fun t222 => (if x21 = t222 then (sakialaw03_SpanTells.j1 k x0 x7 false x201000 x201001 x202000 x202001) else (none))) else (none))) else (if x19 = 0 then (sakialaw03_SpanTells.j1 k x0 x7 (x21 != 0) x201000 x201001 x202000 x202001) else (none))))
def sakialaw03_SpanTells.j1 : Nat → Int → Int → Bool → Int → Int → Int → Int → Option (Bool)
  | 0, _, _, _, _, _, _, _ => none
  | k + 1, x0, x7, x173, x201000, x201001, x202000, x202001 => if x173 = true then (none) else ((span_Span_uint32_End.f x201000 x201001).bind fun t223 => ((sakiaref01_Plus.f 32 x7 x0).bind fun t224 => (if (IntKind.u64.wrap (t223)) = t224 then ((span_Span_uint64_End.f x202000 x202001).bind fun t225 => ((sakiaref01_Plus.f 64 x7 x0).bind fun t226 => (if t225 = t226 then ((sakialaw03_live.f).bind fun t227 => (some t227)) else (none)))) else (none))))
end
def sakialaw03_SpanTells.f (k : Nat) (a0 : Int) (a1 : Int) (a2_0 : Int) (a2_1 : Int) : Option (Bool) := (sakiaref03_Right.f a0).bind fun t192 => (if t192 = true then (if a0 > 200 then ((sakialaw03_live.f).bind fun t195 => (some t195)) else ((sakialaw03_small.f a2_0 a0).bind fun bt196 => ((sakialaw03_great.f a2_0 a0).bind fun bt198 => ((sakiaref01_Cut.f 32 a2_0).bind fun t202 => ((wide_Of_uint32.f a2_1).bind fun t205 => ((span_Span_uint32_Place.f bt196.1 bt196.2 t205).bind fun bt206 => ((span_Span_uint64_Place.f bt198.1 bt198.2 a2_1).bind fun bt208 => ((sakiaref01_Cut.f 32 a2_1).bind fun t210 => ((sakiaref03_Place.f k 32 t202 a0 t210).bind fun t211 => ((sakiaref03_Place.f k 64 a2_0 a0 a2_1).bind fun t212 => ((span_Span_uint32_Right.f bt196.1 bt196.2).bind fun t213 => (if t213 = true then (if (bt206.2 != (decide (t211 ≥ 0))) = true then (none) else (if (bt208.2 != (decide (t212 ≥ 0))) = true then (none) else (if bt206.1 = (mx t211 0) then (if bt208.1 = (mx t212 0) then ((wide_Of_uint32.f a2_1).bind fun t214 => ((span_Span_uint32_Has.f bt196.1 bt196.2 t214).bind fun t215 => (if (t215 != bt206.2) = true then (none) else ((span_Span_uint64_Has.f bt198.1 bt198.2 a2_1).bind fun t216 => (if (t216 != bt208.2) = true then (none) else ((span_Span_uint32_At.f bt196.1 bt196.2 a1).bind fun bt217 => ((span_Span_uint64_At.f bt198.1 bt198.2 a1).bind fun bt219 => (if a1 ≥ 0 then (sakialaw03_SpanTells.j0 k a0 a1 a2_0 bt217.1 bt217.2 bt219.1 bt219.2 (decide (a1 < a0)) bt196.1 bt196.2 bt198.1 bt198.2) else (sakialaw03_SpanTells.j0 k a0 a1 a2_0 bt217.1 bt217.2 bt219.1 bt219.2 false bt196.1 bt196.2 bt198.1 bt198.2))))))))) else (none)) else (none)))) else (none))))))))))))) else ((sakialaw03_none.f a0 a2_0 a2_1 a1).bind fun t193 => (if t193 = true then ((sakialaw03_live.f).bind fun t194 => (some t194)) else (none))))
theorem sakialaw03_SpanTells.mono_l : ∀ k, (∀ y0 y1 y2 y3 y4 y5 y6 y7 y8 y9 y10 y11, LeO (sakialaw03_SpanTells.j0 k y0 y1 y2 y3 y4 y5 y6 y7 y8 y9 y10 y11) (sakialaw03_SpanTells.j0 (k + 1) y0 y1 y2 y3 y4 y5 y6 y7 y8 y9 y10 y11)) ∧ (∀ y0 y1 y2 y3 y4 y5 y6, LeO (sakialaw03_SpanTells.j1 k y0 y1 y2 y3 y4 y5 y6) (sakialaw03_SpanTells.j1 (k + 1) y0 y1 y2 y3 y4 y5 y6))
  | 0 => ⟨fun _ _ _ _ _ _ _ _ _ _ _ _ r h => by simp [sakialaw03_SpanTells.j0] at h, fun _ _ _ _ _ _ _ r h => by simp [sakialaw03_SpanTells.j1] at h⟩
  | k + 1 => by
    obtain ⟨ih0, ih1⟩ := sakialaw03_SpanTells.mono_l k
    refine ⟨?_, ?_⟩
    · intro y0 y1 y2 y3 y4 y5 y6 y7 y8 y9 y10 y11
      unfold sakialaw03_SpanTells.j0
      repeat' first
      | (with_reducible exact ih0 _ _ _ _ _ _ _ _ _ _ _ _)
      | (with_reducible exact ih1 _ _ _ _ _ _ _)
      | (with_reducible exact sakiaref03_Place.mono _ _ _ _ _)
      | (with_reducible exact LeO.refl _)
      | (with_reducible exact LeO.none _)
      | (with_reducible refine LeO.ite ?_ ?_)
      | (with_reducible refine LeO.bind ?_ (fun _ => ?_))
      | exact ih0 _ _ _ _ _ _ _ _ _ _ _ _
      | exact ih1 _ _ _ _ _ _ _
      | exact sakiaref03_Place.mono _ _ _ _ _
      | exact LeO.none _
      | refine LeO.ite ?_ ?_
      | refine LeO.bind ?_ (fun _ => ?_)
    · intro y0 y1 y2 y3 y4 y5 y6
      unfold sakialaw03_SpanTells.j1
      repeat' first
      | (with_reducible exact ih0 _ _ _ _ _ _ _ _ _ _ _ _)
      | (with_reducible exact ih1 _ _ _ _ _ _ _)
      | (with_reducible exact sakiaref03_Place.mono _ _ _ _ _)
      | (with_reducible exact LeO.refl _)
      | (with_reducible exact LeO.none _)
      | (with_reducible refine LeO.ite ?_ ?_)
      | (with_reducible refine LeO.bind ?_ (fun _ => ?_))
      | exact ih0 _ _ _ _ _ _ _ _ _ _ _ _
      | exact ih1 _ _ _ _ _ _ _
      | exact sakiaref03_Place.mono _ _ _ _ _
      | exact LeO.none _
      | refine LeO.ite ?_ ?_
      | refine LeO.bind ?_ (fun _ => ?_)
theorem sakialaw03_SpanTells.mono : ∀ a0 a1 a2 a3 k, LeO (sakialaw03_SpanTells.f k a0 a1 a2 a3) (sakialaw03_SpanTells.f (k + 1) a0 a1 a2 a3) := by
  intro a0 a1 a2 a3 k
  obtain ⟨ih0, ih1⟩ := sakialaw03_SpanTells.mono_l k
  unfold sakialaw03_SpanTells.f
  repeat' first
      | (with_reducible exact ih0 _ _ _ _ _ _ _ _ _ _ _ _)
      | (with_reducible exact ih1 _ _ _ _ _ _ _)
      | (with_reducible exact sakiaref03_Place.mono _ _ _ _ _)
      | (with_reducible exact LeO.refl _)
      | (with_reducible exact LeO.none _)
      | (with_reducible refine LeO.ite ?_ ?_)
      | (with_reducible refine LeO.bind ?_ (fun _ => ?_))
      | exact ih0 _ _ _ _ _ _ _ _ _ _ _ _
      | exact ih1 _ _ _ _ _ _ _
      | exact sakiaref03_Place.mono _ _ _ _ _
      | exact LeO.none _
      | refine LeO.ite ?_ ?_
      | refine LeO.bind ?_ (fun _ => ?_)
def sakialaw03_SpanTells.T8 : Bool × List (List Nat × List Nat) := (true, [([], []), ([], []), ([1], [1]), ([0, 2, 2], [0, 2]), ([3], [3]), ([4], [4]), ([4], [4]), ([5, 3, 0, 1, 2, 3, 4, 5], [5]), ([6, 7, 0, 1, 2, 3, 4, 5, 6, 7], [6])])
def sakialaw03_SpanTells.B8 : List Nat := [0, 0, 2, 7, 15, 31, 31, 63, 255]
theorem sakialaw03_SpanTells.tab8 : rtab .any (opsOf Try.f6 8) = sakialaw03_SpanTells.T8 := by kernel_rfl
theorem sakialaw03_SpanTells.bits8 : waitsOk sakialaw03_SpanTells.T8.2 sakialaw03_SpanTells.B8 = true := by kernel_rfl
def sakialaw03_SpanTells.T10 : Bool × List (List Nat × List Nat) := (true, [([], []), ([], []), ([1], [1]), ([0, 2, 2], [0, 2]), ([], []), ([], []), ([4, 5, 3], [4, 5]), ([3, 6, 0, 1, 2, 3], [3]), ([6, 7, 0, 1, 2, 3, 4, 5, 6, 7], [6])])
def sakialaw03_SpanTells.B10 : List Nat := [0, 0, 2, 7, 0, 0, 63, 127, 255]
theorem sakialaw03_SpanTells.tab10 : rtab .any (opsOf Try.f6 10) = sakialaw03_SpanTells.T10 := by kernel_rfl
theorem sakialaw03_SpanTells.bits10 : waitsOk sakialaw03_SpanTells.T10.2 sakialaw03_SpanTells.B10 = true := by kernel_rfl
def sakialaw03_SpanTells.T11 : Bool × List (List Nat × List Nat) := (true, [([], []), ([0], [0]), ([1], [1]), ([2, 1], [2]), ([3], [3]), ([3], [3]), ([5, 3], [3, 5]), ([4, 6, 3], [3, 4, 6]), ([3, 7], [3, 7]), ([8, 3], [8]), ([9], [9]), ([9], [9]), ([11, 9], [9, 11]), ([10, 12, 9], [9, 10, 12]), ([9, 13], [9, 13]), ([14, 9], [14]), ([15], [15]), ([15], [15]), ([17, 15], [15, 17]), ([16, 18, 15], [15, 16, 18]), ([15, 19], [15, 19]), ([20, 15], [20]), ([21], [21]), ([21], [21]), ([23, 21], [21, 23]), ([22, 24, 21], [21, 22, 24]), ([21, 25], [21, 25]), ([26, 21], [26]), ([27], [27]), ([27], [27]), ([29, 27, 27], [27, 29]), ([28, 30, 30, 27], [27, 28, 30]), ([27], [27]), ([31, 32, 27], [27, 31, 32]), ([27, 33], [27, 33]), ([34, 31], [34]), ([35], [35]), ([35], [35]), ([36, 37, 35, 35], [35, 36, 37]), ([35], [35]), ([38, 39, 35], [35, 38, 39]), ([35, 40], [35, 40])])
def sakialaw03_SpanTells.B11 : List Nat := [0, 1, 3, 7, 15, 15, 47, 127, 255, 511, 1023, 1023, 3071, 8191, 16383, 32767, 65535, 65535, 196607, 524287, 1048575, 2097151, 4194303, 4194303, 12582911, 33554431, 67108863, 134217727, 268435455, 268435455, 805306367, 2147483647, 268435455, 8589934591, 17179869183, 34359738367, 68719476735, 68719476735, 274877906943, 68719476735, 1099511627775, 2199023255551]
theorem sakialaw03_SpanTells.tab11 : rtab .any (opsOf Try.f6 11) = sakialaw03_SpanTells.T11 := by kernel_rfl
theorem sakialaw03_SpanTells.bits11 : waitsOk sakialaw03_SpanTells.T11.2 sakialaw03_SpanTells.B11 = true := by kernel_rfl
set_option maxHeartbeats 8000000 in
set_option maxRecDepth 100000 in
theorem sakialaw03_SpanTells.calls (k : Nat) (a0 : Int) (a1 : Int) (a2_0 : Int) (a2_1 : Int) (r : Bool) (w : World) (h : sakialaw03_SpanTells.f k a0 a1 a2_0 a2_1 = some r) :
    Calls Try.prog 6 #[.int .i64 a0, .int .i64 a1, .agg #[.int .u64 a2_0, .int .u64 a2_1]] w fun e w' => e = .returned (.bool r) ∧ Below w.heap.size w w' := by
  have hu48 := Try.underlying48
  have hu27 := Try.underlying27
  have hu31 := Try.underlying31
  have hu37 := Try.underlying37
  have HB := Aside0.mk (Below.refl w.heap.size w)
  have H : ((sakiaref03_Right.f a0).bind fun t192 => (if t192 = true then (if a0 > 200 then ((sakialaw03_live.f).bind fun t195 => (some t195)) else ((sakialaw03_small.f a2_0 a0).bind fun bt196 => ((sakialaw03_great.f a2_0 a0).bind fun bt198 => ((sakiaref01_Cut.f 32 a2_0).bind fun t202 => ((wide_Of_uint32.f a2_1).bind fun t205 => ((span_Span_uint32_Place.f bt196.1 bt196.2 t205).bind fun bt206 => ((span_Span_uint64_Place.f bt198.1 bt198.2 a2_1).bind fun bt208 => ((sakiaref01_Cut.f 32 a2_1).bind fun t210 => ((sakiaref03_Place.f k 32 t202 a0 t210).bind fun t211 => ((sakiaref03_Place.f k 64 a2_0 a0 a2_1).bind fun t212 => ((span_Span_uint32_Right.f bt196.1 bt196.2).bind fun t213 => (if t213 = true then (if (bt206.2 != (decide (t211 ≥ 0))) = true then (none) else (if (bt208.2 != (decide (t212 ≥ 0))) = true then (none) else (if bt206.1 = (mx t211 0) then (if bt208.1 = (mx t212 0) then ((wide_Of_uint32.f a2_1).bind fun t214 => ((span_Span_uint32_Has.f bt196.1 bt196.2 t214).bind fun t215 => (if (t215 != bt206.2) = true then (none) else ((span_Span_uint64_Has.f bt198.1 bt198.2 a2_1).bind fun t216 => (if (t216 != bt208.2) = true then (none) else ((span_Span_uint32_At.f bt196.1 bt196.2 a1).bind fun bt217 => ((span_Span_uint64_At.f bt198.1 bt198.2 a1).bind fun bt219 => (if a1 ≥ 0 then (sakialaw03_SpanTells.j0 k a0 a1 a2_0 bt217.1 bt217.2 bt219.1 bt219.2 (decide (a1 < a0)) bt196.1 bt196.2 bt198.1 bt198.2) else (sakialaw03_SpanTells.j0 k a0 a1 a2_0 bt217.1 bt217.2 bt219.1 bt219.2 false bt196.1 bt196.2 bt198.1 bt198.2))))))))) else (none)) else (none)))) else (none))))))))))))) else ((sakialaw03_none.f a0 a2_0 a2_1 a1).bind fun t193 => (if t193 = true then ((sakialaw03_live.f).bind fun t194 => (some t194)) else (none))))) = some r := h
  clear h
  replace H := Option.bind_eq_some_iff.mp H
  obtain ⟨t192, A40, H⟩ := H
  replace H : (if t192 = true then (if a0 > 200 then ((sakialaw03_live.f).bind fun t195 => (some t195)) else ((sakialaw03_small.f a2_0 a0).bind fun bt196 => ((sakialaw03_great.f a2_0 a0).bind fun bt198 => ((sakiaref01_Cut.f 32 a2_0).bind fun t202 => ((wide_Of_uint32.f a2_1).bind fun t205 => ((span_Span_uint32_Place.f bt196.1 bt196.2 t205).bind fun bt206 => ((span_Span_uint64_Place.f bt198.1 bt198.2 a2_1).bind fun bt208 => ((sakiaref01_Cut.f 32 a2_1).bind fun t210 => ((sakiaref03_Place.f k 32 t202 a0 t210).bind fun t211 => ((sakiaref03_Place.f k 64 a2_0 a0 a2_1).bind fun t212 => ((span_Span_uint32_Right.f bt196.1 bt196.2).bind fun t213 => (if t213 = true then (if (bt206.2 != (decide (t211 ≥ 0))) = true then (none) else (if (bt208.2 != (decide (t212 ≥ 0))) = true then (none) else (if bt206.1 = (mx t211 0) then (if bt208.1 = (mx t212 0) then ((wide_Of_uint32.f a2_1).bind fun t214 => ((span_Span_uint32_Has.f bt196.1 bt196.2 t214).bind fun t215 => (if (t215 != bt206.2) = true then (none) else ((span_Span_uint64_Has.f bt198.1 bt198.2 a2_1).bind fun t216 => (if (t216 != bt208.2) = true then (none) else ((span_Span_uint32_At.f bt196.1 bt196.2 a1).bind fun bt217 => ((span_Span_uint64_At.f bt198.1 bt198.2 a1).bind fun bt219 => (if a1 ≥ 0 then (sakialaw03_SpanTells.j0 k a0 a1 a2_0 bt217.1 bt217.2 bt219.1 bt219.2 (decide (a1 < a0)) bt196.1 bt196.2 bt198.1 bt198.2) else (sakialaw03_SpanTells.j0 k a0 a1 a2_0 bt217.1 bt217.2 bt219.1 bt219.2 false bt196.1 bt196.2 bt198.1 bt198.2))))))))) else (none)) else (none)))) else (none))))))))))))) else ((sakialaw03_none.f a0 a2_0 a2_1 a1).bind fun t193 => (if t193 = true then ((sakialaw03_live.f).bind fun t194 => (some t194)) else (none)))) = some r := H
  have A4 := Aside0.mk A40
  clear A40
  by_cases c5 : t192 = true
  · subst c5
    have H1 : (if a0 > 200 then ((sakialaw03_live.f).bind fun t195 => (some t195)) else ((sakialaw03_small.f a2_0 a0).bind fun bt196 => ((sakialaw03_great.f a2_0 a0).bind fun bt198 => ((sakiaref01_Cut.f 32 a2_0).bind fun t202 => ((wide_Of_uint32.f a2_1).bind fun t205 => ((span_Span_uint32_Place.f bt196.1 bt196.2 t205).bind fun bt206 => ((span_Span_uint64_Place.f bt198.1 bt198.2 a2_1).bind fun bt208 => ((sakiaref01_Cut.f 32 a2_1).bind fun t210 => ((sakiaref03_Place.f k 32 t202 a0 t210).bind fun t211 => ((sakiaref03_Place.f k 64 a2_0 a0 a2_1).bind fun t212 => ((span_Span_uint32_Right.f bt196.1 bt196.2).bind fun t213 => (if t213 = true then (if (bt206.2 != (decide (t211 ≥ 0))) = true then (none) else (if (bt208.2 != (decide (t212 ≥ 0))) = true then (none) else (if bt206.1 = (mx t211 0) then (if bt208.1 = (mx t212 0) then ((wide_Of_uint32.f a2_1).bind fun t214 => ((span_Span_uint32_Has.f bt196.1 bt196.2 t214).bind fun t215 => (if (t215 != bt206.2) = true then (none) else ((span_Span_uint64_Has.f bt198.1 bt198.2 a2_1).bind fun t216 => (if (t216 != bt208.2) = true then (none) else ((span_Span_uint32_At.f bt196.1 bt196.2 a1).bind fun bt217 => ((span_Span_uint64_At.f bt198.1 bt198.2 a1).bind fun bt219 => (if a1 ≥ 0 then (sakialaw03_SpanTells.j0 k a0 a1 a2_0 bt217.1 bt217.2 bt219.1 bt219.2 (decide (a1 < a0)) bt196.1 bt196.2 bt198.1 bt198.2) else (sakialaw03_SpanTells.j0 k a0 a1 a2_0 bt217.1 bt217.2 bt219.1 bt219.2 false bt196.1 bt196.2 bt198.1 bt198.2))))))))) else (none)) else (none)))) else (none))))))))))))) = some r := by rw [if_pos rfl] at H; exact H
    clear H
    have H := H1
    clear H1
    by_cases c6 : a0 > 200
    · rw [if_pos c6] at H
      have c6b0 : decide (200 < a0) = true := decide_eq_true c6
      clear c6
      replace H := Option.bind_eq_some_iff.mp H
      obtain ⟨t195, A70, H⟩ := H
      replace H : (some t195) = some r := H
      have A7 := Aside0.mk A70
      clear A70
      obtain rfl := Option.some.inj H
      go_enter Try.func6, Try.ntmps6
      try go_wp2_with (first | ((with_reducible refine gate_dst (N := 5) rfl ?_); (try (refine gate_guard (by rfl) ?_; dsimp only)); refine box_event ?hg (N := 5) ?hd (cs := #[.int .u64 a2_0, .int .u64 a2_1]) (t := 48) ?hr ?_; (case hd => rfl); (case hg => rfl); (case hr => first | (go_simp; done) | (go_simp; rfl)); intro gb191 hg w8 hbox hb; have n0_ := Aside0.mk (below_step (by repeat (first | (with_reducible first | exact HB.out | apply below_alloc | apply pw_below_drewN | apply below_drew1) | exact HB.out)) hb); have n1_ := Aside0.mk (hbox); have n2_ := Aside0.mk ((by rw [hg]; exact (below_size (by repeat (first | (with_reducible first | exact HB.out | apply below_alloc | apply pw_below_drewN | apply below_drew1) | exact HB.out))) : w.heap.size ≤ gb191)); have n3_ := Aside0.mk ((by rw [hg]; exact (below_size (by repeat (first | (with_reducible first | exact HB.out | apply below_alloc | apply pw_below_drewN | apply below_drew1) | exact HB.out))) : w.heap.size ≤ gb191)); clear HB; have HB := n0_; have BK191 := n1_; have GW191 := n2_; have GE191 := n3_; clear n0_ n1_ n2_ n3_; clear hb hbox hg))
      have n0_ := Aside0.mk (blk_drew BK191.out)
      have n1_ := Aside0.mk (below_drew1 HB.out)
      clear BK191
      clear HB
      have BK191 := n0_
      have HB := n1_
      clear n0_ n1_
      refine start_ (n := 6) (S := fun w' => w'.cell? ⟨gb191, 0, none⟩ = some (.int .u64 a2_0) ∧ w'.cell? ⟨gb191, 1, none⟩ = some (.int .u64 a2_1)) (ds := []) #[false, false, false, false, false, false] (by kernel_rfl) rfl rfl ⟨(blk_cell BK191.out 0).trans rfl, (blk_cell BK191.out 1).trans rfl⟩ (fun hHeld => ?_)
      generalize w8.drew = w9 at BK191 HB hHeld ⊢
      refine pure_ (i := 0) (N := some 24) (v := ?_) (a' := ?_) #[true, false, false, false, false, false] rfl rfl (by kernel_rfl) (fun _ _ _ h => h) (Or.inl ⟨by rfl, ?_⟩) ?_ ?_
      rotate_left
      · intro w'
        go_simp
        with_reducible rfl
      rotate_left
      · simp only [Act.put, List.setIfInBounds_toArray, List.set_cons_zero, List.set_cons_succ, i64_w, i32_w]
        rfl
      refine pure_ (i := 2) (N := some 26) (v := ?_) (a' := ?_) #[true, false, true, false, false, false] rfl rfl (by kernel_rfl) (fun _ _ _ h => h) (Or.inl ⟨by rfl, ?_⟩) ?_ ?_
      rotate_left
      · intro w'
        go_simp
        with_reducible rfl
      rotate_left
      · simp only [Act.put, List.setIfInBounds_toArray, List.set_cons_zero, List.set_cons_succ, i64_w, i32_w]
        rfl
      refine take_ (i := 1) (N := some 25) (v := ?_) (a' := ?_) #[true, true, true, false, false, false] rfl rfl (by kernel_rfl) (fun _ _ _ h => h) (Or.inl ⟨by rfl, ?_⟩) hHeld ?_ ?_
      rotate_left
      · rintro w' ⟨s0, s1⟩
        go_simp
        with_reducible rfl
      rotate_left
      · simp only [Act.put, List.setIfInBounds_toArray, List.set_cons_zero, List.set_cons_succ, i64_w, i32_w]
        rfl
      refine pure_ (i := 4) (N := some 7) (v := ?_) (a' := ?_) #[true, true, true, false, true, false] rfl rfl (by kernel_rfl) (fun _ _ _ h => h) (Or.inl ⟨by rfl, ?_⟩) ?_ ?_
      rotate_left
      · intro w'
        go_simp
        with_reducible rfl
      rotate_left
      · simp only [Act.put, List.setIfInBounds_toArray, List.set_cons_zero, List.set_cons_succ, i64_w, i32_w]
        rfl
      refine take_ (i := 3) (N := some 27) (v := ?_) (a' := ?_) #[true, true, true, true, true, false] rfl rfl (by kernel_rfl) (fun _ _ _ h => h) (Or.inl ⟨by rfl, ?_⟩) hHeld ?_ ?_
      rotate_left
      · rintro w' ⟨s0, s1⟩
        go_simp
        with_reducible rfl
      rotate_left
      · simp only [Act.put, List.setIfInBounds_toArray, List.set_cons_zero, List.set_cons_succ, i64_w, i32_w]
        rfl
      refine pure_ (i := 5) (N := some 8) (v := ?_) (a' := ?_) #[true, true, true, true, true, true] rfl rfl (by kernel_rfl) (fun _ _ _ h => h) (Or.inl ⟨by rfl, ?_⟩) ?_ ?_
      rotate_left
      · intro w'
        go_simp
        with_reducible rfl
      rotate_left
      · simp only [Act.put, List.setIfInBounds_toArray, List.set_cons_zero, List.set_cons_succ, i64_w, i32_w]
        rfl
      refine done_ (by kernel_rfl) ?_
      try go_wp2_with (first | ((with_reducible refine gate_callee (f := 17) rfl ?_); refine goesL_ (some 29) rfl rfl Try.func17 (by kernel_rfl) rfl #[.int .i64 a0] rfl (by (try simp only [List.map_toArray, List.map_cons, List.map_nil]); first | done | rfl | (simp only [List.length_drop, List.length_take]; rfl)) ?_; (with_reducible refine (sakiaref03_Right.calls a0 true _ A4.out).mono ?_); rintro e w' ⟨rfl, ⟨nd, rfl⟩⟩; refine ⟨_, rfl, ?_⟩) | ((with_reducible refine gate_callee (f := 7) rfl ?_); refine goesL_ (some 41) rfl rfl Try.func7 (by kernel_rfl) rfl #[] rfl (by (try simp only [List.map_toArray, List.map_cons, List.map_nil]); first | done | rfl | (simp only [List.length_drop, List.length_take]; rfl)) ?_; (with_reducible refine (sakialaw03_live.calls  t195 _ A7.out).mono ?_); rintro e w10 ⟨rfl, hb⟩; refine ⟨_, rfl, ?_⟩; have n0_ := Aside0.mk (blk_below (g := gb191) (o := .cells #[.int .u64 a2_0, .int .u64 a2_1] 48 (0, 0)) (by (with_reducible repeat (first | refine blk_drewN ?_ _ | refine blk_drew ?_ | refine blk_alloc ?_ _)); exact BK191.out) hb); have n1_ := Aside0.mk (below_step (by repeat (first | (with_reducible first | exact HB.out | apply below_alloc | apply pw_below_drewN | apply below_drew1 | refine below_set ?_ GE191.out) | exact HB.out)) hb); clear BK191; clear HB; have BK191 := n0_; have HB := n1_; clear n0_ n1_; (try clear hb); (try clear hb2); (try clear hk); (try clear hi)))
      go_ret
      exact ⟨by first | rfl | (simp [errW_none, errW_some] <;> rfl) | (simp [*, errW_none, errW_some] <;> rfl), by repeat (first | (with_reducible first | exact HB.out | apply below_alloc | apply pw_below_drewN | apply below_drew1 | refine below_set ?_ GE191.out) | exact HB.out)⟩
    · rw [if_neg c6] at H
      have c6b0 : decide (200 < a0) = false := decide_eq_false c6
      clear c6
      replace H := Option.bind_eq_some_iff.mp H
      obtain ⟨⟨t196, t197⟩, A110, H⟩ := H
      replace H : ((sakialaw03_great.f a2_0 a0).bind fun bt198 => ((sakiaref01_Cut.f 32 a2_0).bind fun t202 => ((wide_Of_uint32.f a2_1).bind fun t205 => ((span_Span_uint32_Place.f t196 t197 t205).bind fun bt206 => ((span_Span_uint64_Place.f bt198.1 bt198.2 a2_1).bind fun bt208 => ((sakiaref01_Cut.f 32 a2_1).bind fun t210 => ((sakiaref03_Place.f k 32 t202 a0 t210).bind fun t211 => ((sakiaref03_Place.f k 64 a2_0 a0 a2_1).bind fun t212 => ((span_Span_uint32_Right.f t196 t197).bind fun t213 => (if t213 = true then (if (bt206.2 != (decide (t211 ≥ 0))) = true then (none) else (if (bt208.2 != (decide (t212 ≥ 0))) = true then (none) else (if bt206.1 = (mx t211 0) then (if bt208.1 = (mx t212 0) then ((wide_Of_uint32.f a2_1).bind fun t214 => ((span_Span_uint32_Has.f t196 t197 t214).bind fun t215 => (if (t215 != bt206.2) = true then (none) else ((span_Span_uint64_Has.f bt198.1 bt198.2 a2_1).bind fun t216 => (if (t216 != bt208.2) = true then (none) else ((span_Span_uint32_At.f t196 t197 a1).bind fun bt217 => ((span_Span_uint64_At.f bt198.1 bt198.2 a1).bind fun bt219 => (if a1 ≥ 0 then (sakialaw03_SpanTells.j0 k a0 a1 a2_0 bt217.1 bt217.2 bt219.1 bt219.2 (decide (a1 < a0)) t196 t197 bt198.1 bt198.2) else (sakialaw03_SpanTells.j0 k a0 a1 a2_0 bt217.1 bt217.2 bt219.1 bt219.2 false t196 t197 bt198.1 bt198.2))))))))) else (none)) else (none)))) else (none))))))))))) = some r := H
      have A11 := Aside0.mk A110
      clear A110
      replace H := Option.bind_eq_some_iff.mp H
      obtain ⟨⟨t198, t199⟩, A120, H⟩ := H
      replace H : ((sakiaref01_Cut.f 32 a2_0).bind fun t202 => ((wide_Of_uint32.f a2_1).bind fun t205 => ((span_Span_uint32_Place.f t196 t197 t205).bind fun bt206 => ((span_Span_uint64_Place.f t198 t199 a2_1).bind fun bt208 => ((sakiaref01_Cut.f 32 a2_1).bind fun t210 => ((sakiaref03_Place.f k 32 t202 a0 t210).bind fun t211 => ((sakiaref03_Place.f k 64 a2_0 a0 a2_1).bind fun t212 => ((span_Span_uint32_Right.f t196 t197).bind fun t213 => (if t213 = true then (if (bt206.2 != (decide (t211 ≥ 0))) = true then (none) else (if (bt208.2 != (decide (t212 ≥ 0))) = true then (none) else (if bt206.1 = (mx t211 0) then (if bt208.1 = (mx t212 0) then ((wide_Of_uint32.f a2_1).bind fun t214 => ((span_Span_uint32_Has.f t196 t197 t214).bind fun t215 => (if (t215 != bt206.2) = true then (none) else ((span_Span_uint64_Has.f t198 t199 a2_1).bind fun t216 => (if (t216 != bt208.2) = true then (none) else ((span_Span_uint32_At.f t196 t197 a1).bind fun bt217 => ((span_Span_uint64_At.f t198 t199 a1).bind fun bt219 => (if a1 ≥ 0 then (sakialaw03_SpanTells.j0 k a0 a1 a2_0 bt217.1 bt217.2 bt219.1 bt219.2 (decide (a1 < a0)) t196 t197 t198 t199) else (sakialaw03_SpanTells.j0 k a0 a1 a2_0 bt217.1 bt217.2 bt219.1 bt219.2 false t196 t197 t198 t199))))))))) else (none)) else (none)))) else (none)))))))))) = some r := H
      have A12 := Aside0.mk A120
      clear A120
      replace H := Option.bind_eq_some_iff.mp H
      obtain ⟨t202, A130, H⟩ := H
      replace H : ((wide_Of_uint32.f a2_1).bind fun t205 => ((span_Span_uint32_Place.f t196 t197 t205).bind fun bt206 => ((span_Span_uint64_Place.f t198 t199 a2_1).bind fun bt208 => ((sakiaref01_Cut.f 32 a2_1).bind fun t210 => ((sakiaref03_Place.f k 32 t202 a0 t210).bind fun t211 => ((sakiaref03_Place.f k 64 a2_0 a0 a2_1).bind fun t212 => ((span_Span_uint32_Right.f t196 t197).bind fun t213 => (if t213 = true then (if (bt206.2 != (decide (t211 ≥ 0))) = true then (none) else (if (bt208.2 != (decide (t212 ≥ 0))) = true then (none) else (if bt206.1 = (mx t211 0) then (if bt208.1 = (mx t212 0) then ((wide_Of_uint32.f a2_1).bind fun t214 => ((span_Span_uint32_Has.f t196 t197 t214).bind fun t215 => (if (t215 != bt206.2) = true then (none) else ((span_Span_uint64_Has.f t198 t199 a2_1).bind fun t216 => (if (t216 != bt208.2) = true then (none) else ((span_Span_uint32_At.f t196 t197 a1).bind fun bt217 => ((span_Span_uint64_At.f t198 t199 a1).bind fun bt219 => (if a1 ≥ 0 then (sakialaw03_SpanTells.j0 k a0 a1 a2_0 bt217.1 bt217.2 bt219.1 bt219.2 (decide (a1 < a0)) t196 t197 t198 t199) else (sakialaw03_SpanTells.j0 k a0 a1 a2_0 bt217.1 bt217.2 bt219.1 bt219.2 false t196 t197 t198 t199))))))))) else (none)) else (none)))) else (none))))))))) = some r := H
      have A13 := Aside0.mk A130
      clear A130
      replace H := Option.bind_eq_some_iff.mp H
      obtain ⟨t205, A140, H⟩ := H
      replace H : ((span_Span_uint32_Place.f t196 t197 t205).bind fun bt206 => ((span_Span_uint64_Place.f t198 t199 a2_1).bind fun bt208 => ((sakiaref01_Cut.f 32 a2_1).bind fun t210 => ((sakiaref03_Place.f k 32 t202 a0 t210).bind fun t211 => ((sakiaref03_Place.f k 64 a2_0 a0 a2_1).bind fun t212 => ((span_Span_uint32_Right.f t196 t197).bind fun t213 => (if t213 = true then (if (bt206.2 != (decide (t211 ≥ 0))) = true then (none) else (if (bt208.2 != (decide (t212 ≥ 0))) = true then (none) else (if bt206.1 = (mx t211 0) then (if bt208.1 = (mx t212 0) then ((wide_Of_uint32.f a2_1).bind fun t214 => ((span_Span_uint32_Has.f t196 t197 t214).bind fun t215 => (if (t215 != bt206.2) = true then (none) else ((span_Span_uint64_Has.f t198 t199 a2_1).bind fun t216 => (if (t216 != bt208.2) = true then (none) else ((span_Span_uint32_At.f t196 t197 a1).bind fun bt217 => ((span_Span_uint64_At.f t198 t199 a1).bind fun bt219 => (if a1 ≥ 0 then (sakialaw03_SpanTells.j0 k a0 a1 a2_0 bt217.1 bt217.2 bt219.1 bt219.2 (decide (a1 < a0)) t196 t197 t198 t199) else (sakialaw03_SpanTells.j0 k a0 a1 a2_0 bt217.1 bt217.2 bt219.1 bt219.2 false t196 t197 t198 t199))))))))) else (none)) else (none)))) else (none)))))))) = some r := H
      have A14 := Aside0.mk A140
      clear A140
      replace H := Option.bind_eq_some_iff.mp H
      obtain ⟨⟨t206, t207⟩, A150, H⟩ := H
      replace H : ((span_Span_uint64_Place.f t198 t199 a2_1).bind fun bt208 => ((sakiaref01_Cut.f 32 a2_1).bind fun t210 => ((sakiaref03_Place.f k 32 t202 a0 t210).bind fun t211 => ((sakiaref03_Place.f k 64 a2_0 a0 a2_1).bind fun t212 => ((span_Span_uint32_Right.f t196 t197).bind fun t213 => (if t213 = true then (if (t207 != (decide (t211 ≥ 0))) = true then (none) else (if (bt208.2 != (decide (t212 ≥ 0))) = true then (none) else (if t206 = (mx t211 0) then (if bt208.1 = (mx t212 0) then ((wide_Of_uint32.f a2_1).bind fun t214 => ((span_Span_uint32_Has.f t196 t197 t214).bind fun t215 => (if (t215 != t207) = true then (none) else ((span_Span_uint64_Has.f t198 t199 a2_1).bind fun t216 => (if (t216 != bt208.2) = true then (none) else ((span_Span_uint32_At.f t196 t197 a1).bind fun bt217 => ((span_Span_uint64_At.f t198 t199 a1).bind fun bt219 => (if a1 ≥ 0 then (sakialaw03_SpanTells.j0 k a0 a1 a2_0 bt217.1 bt217.2 bt219.1 bt219.2 (decide (a1 < a0)) t196 t197 t198 t199) else (sakialaw03_SpanTells.j0 k a0 a1 a2_0 bt217.1 bt217.2 bt219.1 bt219.2 false t196 t197 t198 t199))))))))) else (none)) else (none)))) else (none))))))) = some r := H
      have A15 := Aside0.mk A150
      clear A150
      replace H := Option.bind_eq_some_iff.mp H
      obtain ⟨⟨t208, t209⟩, A160, H⟩ := H
      replace H : ((sakiaref01_Cut.f 32 a2_1).bind fun t210 => ((sakiaref03_Place.f k 32 t202 a0 t210).bind fun t211 => ((sakiaref03_Place.f k 64 a2_0 a0 a2_1).bind fun t212 => ((span_Span_uint32_Right.f t196 t197).bind fun t213 => (if t213 = true then (if (t207 != (decide (t211 ≥ 0))) = true then (none) else (if (t209 != (decide (t212 ≥ 0))) = true then (none) else (if t206 = (mx t211 0) then (if t208 = (mx t212 0) then ((wide_Of_uint32.f a2_1).bind fun t214 => ((span_Span_uint32_Has.f t196 t197 t214).bind fun t215 => (if (t215 != t207) = true then (none) else ((span_Span_uint64_Has.f t198 t199 a2_1).bind fun t216 => (if (t216 != t209) = true then (none) else ((span_Span_uint32_At.f t196 t197 a1).bind fun bt217 => ((span_Span_uint64_At.f t198 t199 a1).bind fun bt219 => (if a1 ≥ 0 then (sakialaw03_SpanTells.j0 k a0 a1 a2_0 bt217.1 bt217.2 bt219.1 bt219.2 (decide (a1 < a0)) t196 t197 t198 t199) else (sakialaw03_SpanTells.j0 k a0 a1 a2_0 bt217.1 bt217.2 bt219.1 bt219.2 false t196 t197 t198 t199))))))))) else (none)) else (none)))) else (none)))))) = some r := H
      have A16 := Aside0.mk A160
      clear A160
      replace H := Option.bind_eq_some_iff.mp H
      obtain ⟨t210, A170, H⟩ := H
      replace H : ((sakiaref03_Place.f k 32 t202 a0 t210).bind fun t211 => ((sakiaref03_Place.f k 64 a2_0 a0 a2_1).bind fun t212 => ((span_Span_uint32_Right.f t196 t197).bind fun t213 => (if t213 = true then (if (t207 != (decide (t211 ≥ 0))) = true then (none) else (if (t209 != (decide (t212 ≥ 0))) = true then (none) else (if t206 = (mx t211 0) then (if t208 = (mx t212 0) then ((wide_Of_uint32.f a2_1).bind fun t214 => ((span_Span_uint32_Has.f t196 t197 t214).bind fun t215 => (if (t215 != t207) = true then (none) else ((span_Span_uint64_Has.f t198 t199 a2_1).bind fun t216 => (if (t216 != t209) = true then (none) else ((span_Span_uint32_At.f t196 t197 a1).bind fun bt217 => ((span_Span_uint64_At.f t198 t199 a1).bind fun bt219 => (if a1 ≥ 0 then (sakialaw03_SpanTells.j0 k a0 a1 a2_0 bt217.1 bt217.2 bt219.1 bt219.2 (decide (a1 < a0)) t196 t197 t198 t199) else (sakialaw03_SpanTells.j0 k a0 a1 a2_0 bt217.1 bt217.2 bt219.1 bt219.2 false t196 t197 t198 t199))))))))) else (none)) else (none)))) else (none))))) = some r := H
      have A17 := Aside0.mk A170
      clear A170
      replace H := Option.bind_eq_some_iff.mp H
      obtain ⟨t211, A180, H⟩ := H
      replace H : ((sakiaref03_Place.f k 64 a2_0 a0 a2_1).bind fun t212 => ((span_Span_uint32_Right.f t196 t197).bind fun t213 => (if t213 = true then (if (t207 != (decide (t211 ≥ 0))) = true then (none) else (if (t209 != (decide (t212 ≥ 0))) = true then (none) else (if t206 = (mx t211 0) then (if t208 = (mx t212 0) then ((wide_Of_uint32.f a2_1).bind fun t214 => ((span_Span_uint32_Has.f t196 t197 t214).bind fun t215 => (if (t215 != t207) = true then (none) else ((span_Span_uint64_Has.f t198 t199 a2_1).bind fun t216 => (if (t216 != t209) = true then (none) else ((span_Span_uint32_At.f t196 t197 a1).bind fun bt217 => ((span_Span_uint64_At.f t198 t199 a1).bind fun bt219 => (if a1 ≥ 0 then (sakialaw03_SpanTells.j0 k a0 a1 a2_0 bt217.1 bt217.2 bt219.1 bt219.2 (decide (a1 < a0)) t196 t197 t198 t199) else (sakialaw03_SpanTells.j0 k a0 a1 a2_0 bt217.1 bt217.2 bt219.1 bt219.2 false t196 t197 t198 t199))))))))) else (none)) else (none)))) else (none)))) = some r := H
      have A18 := Aside0.mk A180
      clear A180
      replace H := Option.bind_eq_some_iff.mp H
      obtain ⟨t212, A190, H⟩ := H
      replace H : ((span_Span_uint32_Right.f t196 t197).bind fun t213 => (if t213 = true then (if (t207 != (decide (t211 ≥ 0))) = true then (none) else (if (t209 != (decide (t212 ≥ 0))) = true then (none) else (if t206 = (mx t211 0) then (if t208 = (mx t212 0) then ((wide_Of_uint32.f a2_1).bind fun t214 => ((span_Span_uint32_Has.f t196 t197 t214).bind fun t215 => (if (t215 != t207) = true then (none) else ((span_Span_uint64_Has.f t198 t199 a2_1).bind fun t216 => (if (t216 != t209) = true then (none) else ((span_Span_uint32_At.f t196 t197 a1).bind fun bt217 => ((span_Span_uint64_At.f t198 t199 a1).bind fun bt219 => (if a1 ≥ 0 then (sakialaw03_SpanTells.j0 k a0 a1 a2_0 bt217.1 bt217.2 bt219.1 bt219.2 (decide (a1 < a0)) t196 t197 t198 t199) else (sakialaw03_SpanTells.j0 k a0 a1 a2_0 bt217.1 bt217.2 bt219.1 bt219.2 false t196 t197 t198 t199))))))))) else (none)) else (none)))) else (none))) = some r := H
      have A19 := Aside0.mk A190
      clear A190
      replace H := Option.bind_eq_some_iff.mp H
      obtain ⟨t213, A200, H⟩ := H
      replace H : (if t213 = true then (if (t207 != (decide (t211 ≥ 0))) = true then (none) else (if (t209 != (decide (t212 ≥ 0))) = true then (none) else (if t206 = (mx t211 0) then (if t208 = (mx t212 0) then ((wide_Of_uint32.f a2_1).bind fun t214 => ((span_Span_uint32_Has.f t196 t197 t214).bind fun t215 => (if (t215 != t207) = true then (none) else ((span_Span_uint64_Has.f t198 t199 a2_1).bind fun t216 => (if (t216 != t209) = true then (none) else ((span_Span_uint32_At.f t196 t197 a1).bind fun bt217 => ((span_Span_uint64_At.f t198 t199 a1).bind fun bt219 => (if a1 ≥ 0 then (sakialaw03_SpanTells.j0 k a0 a1 a2_0 bt217.1 bt217.2 bt219.1 bt219.2 (decide (a1 < a0)) t196 t197 t198 t199) else (sakialaw03_SpanTells.j0 k a0 a1 a2_0 bt217.1 bt217.2 bt219.1 bt219.2 false t196 t197 t198 t199))))))))) else (none)) else (none)))) else (none)) = some r := H
      have A20 := Aside0.mk A200
      clear A200
      by_cases c21 : t213 = true
      · subst c21
        have H1 : (if (t207 != (decide (t211 ≥ 0))) = true then (none) else (if (t209 != (decide (t212 ≥ 0))) = true then (none) else (if t206 = (mx t211 0) then (if t208 = (mx t212 0) then ((wide_Of_uint32.f a2_1).bind fun t214 => ((span_Span_uint32_Has.f t196 t197 t214).bind fun t215 => (if (t215 != t207) = true then (none) else ((span_Span_uint64_Has.f t198 t199 a2_1).bind fun t216 => (if (t216 != t209) = true then (none) else ((span_Span_uint32_At.f t196 t197 a1).bind fun bt217 => ((span_Span_uint64_At.f t198 t199 a1).bind fun bt219 => (if a1 ≥ 0 then (sakialaw03_SpanTells.j0 k a0 a1 a2_0 bt217.1 bt217.2 bt219.1 bt219.2 (decide (a1 < a0)) t196 t197 t198 t199) else (sakialaw03_SpanTells.j0 k a0 a1 a2_0 bt217.1 bt217.2 bt219.1 bt219.2 false t196 t197 t198 t199))))))))) else (none)) else (none)))) = some r := by rw [if_pos rfl] at H; exact H
        clear H
        have H := H1
        clear H1
        by_cases c22 : (t207 != (decide (t211 ≥ 0))) = true
        · rw [if_pos c22] at H
          exact absurd H (by simp)
        rw [if_neg c22] at H
        have c22b0 : (t207 != (decide (t211 ≥ 0))) = false := by simpa using c22
        (try (have c22b1 : decide (t207 = (decide (t211 ≥ 0))) = true := by simpa using c22))
        (try (have c22b2 : (t207 == (decide (t211 ≥ 0))) = true := by simpa using c22))
        clear c22
        by_cases c23 : (t209 != (decide (t212 ≥ 0))) = true
        · rw [if_pos c23] at H
          exact absurd H (by simp)
        rw [if_neg c23] at H
        have c23b0 : (t209 != (decide (t212 ≥ 0))) = false := by simpa using c23
        (try (have c23b1 : decide (t209 = (decide (t212 ≥ 0))) = true := by simpa using c23))
        (try (have c23b2 : (t209 == (decide (t212 ≥ 0))) = true := by simpa using c23))
        clear c23
        obtain ⟨ji24, hji24⟩ : ∃ j_ : Int, (mx t211 0) = j_ := ⟨_, rfl⟩
        replace H : (if t206 = (ji24) then (if t208 = (mx t212 0) then ((wide_Of_uint32.f a2_1).bind fun t214 => ((span_Span_uint32_Has.f t196 t197 t214).bind fun t215 => (if (t215 != t207) = true then (none) else ((span_Span_uint64_Has.f t198 t199 a2_1).bind fun t216 => (if (t216 != t209) = true then (none) else ((span_Span_uint32_At.f t196 t197 a1).bind fun bt217 => ((span_Span_uint64_At.f t198 t199 a1).bind fun bt219 => (if a1 ≥ 0 then (sakialaw03_SpanTells.j0 k a0 a1 a2_0 bt217.1 bt217.2 bt219.1 bt219.2 (decide (a1 < a0)) t196 t197 t198 t199) else (sakialaw03_SpanTells.j0 k a0 a1 a2_0 bt217.1 bt217.2 bt219.1 bt219.2 false t196 t197 t198 t199))))))))) else (none)) else (none)) = some r := by first | (rw [hji24] at H; exact H) | (simp only [hji24] at H ⊢; exact H)
        (try rw [hji24] at A4)
        (try rw [hji24] at A11)
        (try rw [hji24] at A12)
        (try rw [hji24] at A13)
        (try rw [hji24] at A14)
        (try rw [hji24] at A15)
        (try rw [hji24] at A16)
        (try rw [hji24] at A17)
        (try rw [hji24] at A18)
        (try rw [hji24] at A19)
        (try rw [hji24] at A20)
        (try (have hji24l : 0 ≤ ji24 := by (rw [← hji24]; unfold mx; (repeat' split) <;> omega)))
        (try (have hji24m : 0 ≤ ji24 := by omega))
        have hji24_ : (if t211 < 0 then 0 else t211) = ji24 := hji24
        by_cases c25 : t206 = (ji24)
        rotate_left
        · rw [if_neg c25] at H
          exact absurd H (by simp)
        rw [if_pos c25] at H
        have c25b0 : (t206 == (ji24)) = true := beq_iff_eq.mpr c25
        have c25b1 : (t206 != (ji24)) = false := bne_eq_false_iff_eq.mpr c25
        clear c25
        obtain ⟨ji26, hji26⟩ : ∃ j_ : Int, (mx t212 0) = j_ := ⟨_, rfl⟩
        replace H : (if t208 = (ji26) then ((wide_Of_uint32.f a2_1).bind fun t214 => ((span_Span_uint32_Has.f t196 t197 t214).bind fun t215 => (if (t215 != t207) = true then (none) else ((span_Span_uint64_Has.f t198 t199 a2_1).bind fun t216 => (if (t216 != t209) = true then (none) else ((span_Span_uint32_At.f t196 t197 a1).bind fun bt217 => ((span_Span_uint64_At.f t198 t199 a1).bind fun bt219 => (if a1 ≥ 0 then (sakialaw03_SpanTells.j0 k a0 a1 a2_0 bt217.1 bt217.2 bt219.1 bt219.2 (decide (a1 < a0)) t196 t197 t198 t199) else (sakialaw03_SpanTells.j0 k a0 a1 a2_0 bt217.1 bt217.2 bt219.1 bt219.2 false t196 t197 t198 t199))))))))) else (none)) = some r := by first | (rw [hji26] at H; exact H) | (simp only [hji26] at H ⊢; exact H)
        (try rw [hji26] at A4)
        (try rw [hji26] at A11)
        (try rw [hji26] at A12)
        (try rw [hji26] at A13)
        (try rw [hji26] at A14)
        (try rw [hji26] at A15)
        (try rw [hji26] at A16)
        (try rw [hji26] at A17)
        (try rw [hji26] at A18)
        (try rw [hji26] at A19)
        (try rw [hji26] at A20)
        (try (have hji26l : 0 ≤ ji26 := by (rw [← hji26]; unfold mx; (repeat' split) <;> omega)))
        (try (have hji26m : 0 ≤ ji26 := by omega))
        have hji26_ : (if t212 < 0 then 0 else t212) = ji26 := hji26
        by_cases c27 : t208 = (ji26)
        rotate_left
        · rw [if_neg c27] at H
          exact absurd H (by simp)
        rw [if_pos c27] at H
        have c27b0 : (t208 == (ji26)) = true := beq_iff_eq.mpr c27
        have c27b1 : (t208 != (ji26)) = false := bne_eq_false_iff_eq.mpr c27
        clear c27
        replace H := Option.bind_eq_some_iff.mp H
        obtain ⟨t214, A280, H⟩ := H
        replace H : ((span_Span_uint32_Has.f t196 t197 t214).bind fun t215 => (if (t215 != t207) = true then (none) else ((span_Span_uint64_Has.f t198 t199 a2_1).bind fun t216 => (if (t216 != t209) = true then (none) else ((span_Span_uint32_At.f t196 t197 a1).bind fun bt217 => ((span_Span_uint64_At.f t198 t199 a1).bind fun bt219 => (if a1 ≥ 0 then (sakialaw03_SpanTells.j0 k a0 a1 a2_0 bt217.1 bt217.2 bt219.1 bt219.2 (decide (a1 < a0)) t196 t197 t198 t199) else (sakialaw03_SpanTells.j0 k a0 a1 a2_0 bt217.1 bt217.2 bt219.1 bt219.2 false t196 t197 t198 t199)))))))) = some r := H
        have A28 := Aside0.mk A280
        clear A280
        replace H := Option.bind_eq_some_iff.mp H
        obtain ⟨t215, A290, H⟩ := H
        replace H : (if (t215 != t207) = true then (none) else ((span_Span_uint64_Has.f t198 t199 a2_1).bind fun t216 => (if (t216 != t209) = true then (none) else ((span_Span_uint32_At.f t196 t197 a1).bind fun bt217 => ((span_Span_uint64_At.f t198 t199 a1).bind fun bt219 => (if a1 ≥ 0 then (sakialaw03_SpanTells.j0 k a0 a1 a2_0 bt217.1 bt217.2 bt219.1 bt219.2 (decide (a1 < a0)) t196 t197 t198 t199) else (sakialaw03_SpanTells.j0 k a0 a1 a2_0 bt217.1 bt217.2 bt219.1 bt219.2 false t196 t197 t198 t199))))))) = some r := H
        have A29 := Aside0.mk A290
        clear A290
        by_cases c30 : (t215 != t207) = true
        · rw [if_pos c30] at H
          exact absurd H (by simp)
        rw [if_neg c30] at H
        have c30b0 : (t215 != t207) = false := by simpa using c30
        (try (have c30b1 : decide (t215 = t207) = true := by simpa using c30))
        (try (have c30b2 : (t215 == t207) = true := by simpa using c30))
        clear c30
        replace H := Option.bind_eq_some_iff.mp H
        obtain ⟨t216, A310, H⟩ := H
        replace H : (if (t216 != t209) = true then (none) else ((span_Span_uint32_At.f t196 t197 a1).bind fun bt217 => ((span_Span_uint64_At.f t198 t199 a1).bind fun bt219 => (if a1 ≥ 0 then (sakialaw03_SpanTells.j0 k a0 a1 a2_0 bt217.1 bt217.2 bt219.1 bt219.2 (decide (a1 < a0)) t196 t197 t198 t199) else (sakialaw03_SpanTells.j0 k a0 a1 a2_0 bt217.1 bt217.2 bt219.1 bt219.2 false t196 t197 t198 t199))))) = some r := H
        have A31 := Aside0.mk A310
        clear A310
        by_cases c32 : (t216 != t209) = true
        · rw [if_pos c32] at H
          exact absurd H (by simp)
        rw [if_neg c32] at H
        have c32b0 : (t216 != t209) = false := by simpa using c32
        (try (have c32b1 : decide (t216 = t209) = true := by simpa using c32))
        (try (have c32b2 : (t216 == t209) = true := by simpa using c32))
        clear c32
        replace H := Option.bind_eq_some_iff.mp H
        obtain ⟨⟨t217, t218⟩, A330, H⟩ := H
        replace H : ((span_Span_uint64_At.f t198 t199 a1).bind fun bt219 => (if a1 ≥ 0 then (sakialaw03_SpanTells.j0 k a0 a1 a2_0 t217 t218 bt219.1 bt219.2 (decide (a1 < a0)) t196 t197 t198 t199) else (sakialaw03_SpanTells.j0 k a0 a1 a2_0 t217 t218 bt219.1 bt219.2 false t196 t197 t198 t199))) = some r := H
        have A33 := Aside0.mk A330
        clear A330
        replace H := Option.bind_eq_some_iff.mp H
        obtain ⟨⟨t219, t220⟩, A340, H⟩ := H
        replace H : (if a1 ≥ 0 then (sakialaw03_SpanTells.j0 k a0 a1 a2_0 t217 t218 t219 t220 (decide (a1 < a0)) t196 t197 t198 t199) else (sakialaw03_SpanTells.j0 k a0 a1 a2_0 t217 t218 t219 t220 false t196 t197 t198 t199)) = some r := H
        have A34 := Aside0.mk A340
        clear A340
        have HC35 := Aside0.mk H
        clear H
        go_enter Try.func6, Try.ntmps6
        try go_wp2_with (first | ((with_reducible refine gate_dst (N := 5) rfl ?_); (try (refine gate_guard (by rfl) ?_; dsimp only)); refine box_event ?hg (N := 5) ?hd (cs := #[.int .u64 a2_0, .int .u64 a2_1]) (t := 48) ?hr ?_; (case hd => rfl); (case hg => rfl); (case hr => first | (go_simp; done) | (go_simp; rfl)); intro gb191 hg w36 hbox hb; have n0_ := Aside0.mk (below_step (by repeat (first | (with_reducible first | exact HB.out | apply below_alloc | apply pw_below_drewN | apply below_drew1) | exact HB.out)) hb); have n1_ := Aside0.mk (hbox); have n2_ := Aside0.mk ((by rw [hg]; exact (below_size (by repeat (first | (with_reducible first | exact HB.out | apply below_alloc | apply pw_below_drewN | apply below_drew1) | exact HB.out))) : w.heap.size ≤ gb191)); have n3_ := Aside0.mk ((by rw [hg]; exact (below_size (by repeat (first | (with_reducible first | exact HB.out | apply below_alloc | apply pw_below_drewN | apply below_drew1) | exact HB.out))) : w.heap.size ≤ gb191)); clear HB; have HB := n0_; have BK191 := n1_; have GW191 := n2_; have GE191 := n3_; clear n0_ n1_ n2_ n3_; clear hb hbox hg))
        have n0_ := Aside0.mk (blk_drew BK191.out)
        have n1_ := Aside0.mk (below_drew1 HB.out)
        clear BK191
        clear HB
        have BK191 := n0_
        have HB := n1_
        clear n0_ n1_
        refine start_ (n := 6) (S := fun w' => w'.cell? ⟨gb191, 0, none⟩ = some (.int .u64 a2_0) ∧ w'.cell? ⟨gb191, 1, none⟩ = some (.int .u64 a2_1)) (ds := []) #[false, false, false, false, false, false] (by kernel_rfl) rfl rfl ⟨(blk_cell BK191.out 0).trans rfl, (blk_cell BK191.out 1).trans rfl⟩ (fun hHeld => ?_)
        generalize w36.drew = w37 at BK191 HB hHeld ⊢
        refine pure_ (i := 0) (N := some 24) (v := ?_) (a' := ?_) #[true, false, false, false, false, false] rfl rfl (by kernel_rfl) (fun _ _ _ h => h) (Or.inl ⟨by rfl, ?_⟩) ?_ ?_
        rotate_left
        · intro w'
          go_simp
          with_reducible rfl
        rotate_left
        · simp only [Act.put, List.setIfInBounds_toArray, List.set_cons_zero, List.set_cons_succ, i64_w, i32_w]
          rfl
        refine pure_ (i := 2) (N := some 26) (v := ?_) (a' := ?_) #[true, false, true, false, false, false] rfl rfl (by kernel_rfl) (fun _ _ _ h => h) (Or.inl ⟨by rfl, ?_⟩) ?_ ?_
        rotate_left
        · intro w'
          go_simp
          with_reducible rfl
        rotate_left
        · simp only [Act.put, List.setIfInBounds_toArray, List.set_cons_zero, List.set_cons_succ, i64_w, i32_w]
          rfl
        refine take_ (i := 1) (N := some 25) (v := ?_) (a' := ?_) #[true, true, true, false, false, false] rfl rfl (by kernel_rfl) (fun _ _ _ h => h) (Or.inl ⟨by rfl, ?_⟩) hHeld ?_ ?_
        rotate_left
        · rintro w' ⟨s0, s1⟩
          go_simp
          with_reducible rfl
        rotate_left
        · simp only [Act.put, List.setIfInBounds_toArray, List.set_cons_zero, List.set_cons_succ, i64_w, i32_w]
          rfl
        refine pure_ (i := 4) (N := some 7) (v := ?_) (a' := ?_) #[true, true, true, false, true, false] rfl rfl (by kernel_rfl) (fun _ _ _ h => h) (Or.inl ⟨by rfl, ?_⟩) ?_ ?_
        rotate_left
        · intro w'
          go_simp
          with_reducible rfl
        rotate_left
        · simp only [Act.put, List.setIfInBounds_toArray, List.set_cons_zero, List.set_cons_succ, i64_w, i32_w]
          rfl
        refine take_ (i := 3) (N := some 27) (v := ?_) (a' := ?_) #[true, true, true, true, true, false] rfl rfl (by kernel_rfl) (fun _ _ _ h => h) (Or.inl ⟨by rfl, ?_⟩) hHeld ?_ ?_
        rotate_left
        · rintro w' ⟨s0, s1⟩
          go_simp
          with_reducible rfl
        rotate_left
        · simp only [Act.put, List.setIfInBounds_toArray, List.set_cons_zero, List.set_cons_succ, i64_w, i32_w]
          rfl
        refine pure_ (i := 5) (N := some 8) (v := ?_) (a' := ?_) #[true, true, true, true, true, true] rfl rfl (by kernel_rfl) (fun _ _ _ h => h) (Or.inl ⟨by rfl, ?_⟩) ?_ ?_
        rotate_left
        · intro w'
          go_simp
          with_reducible rfl
        rotate_left
        · simp only [Act.put, List.setIfInBounds_toArray, List.set_cons_zero, List.set_cons_succ, i64_w, i32_w]
          rfl
        refine done_ (by kernel_rfl) ?_
        try go_wp2_with (first | ((with_reducible refine gate_callee (f := 17) rfl ?_); refine goesL_ (some 29) rfl rfl Try.func17 (by kernel_rfl) rfl #[.int .i64 a0] rfl (by (try simp only [List.map_toArray, List.map_cons, List.map_nil]); first | done | rfl | (simp only [List.length_drop, List.length_take]; rfl)) ?_; (with_reducible refine (sakiaref03_Right.calls a0 true _ A4.out).mono ?_); rintro e w' ⟨rfl, ⟨nd, rfl⟩⟩; refine ⟨_, rfl, ?_⟩; (try (rw [drewN_self w37]; generalize hq_ : World.drewN w37 _ = w37; have n0_ : Aside0 (w37.heap[gb191]? = some (.cells #[.int .u64 a2_0, .int .u64 a2_1] 48 (0, 0))) := ⟨by rw [← hq_]; exact (by (with_reducible repeat (first | refine blk_drewN ?_ _ | refine blk_drew ?_ | refine blk_alloc ?_ _)); exact BK191.out)⟩; have n1_ : Aside0 (Below w.heap.size w w37) := ⟨by rw [← hq_]; exact (by repeat (first | (with_reducible first | exact HB.out | apply below_alloc | apply pw_below_drewN | apply below_drew1 | refine below_set ?_ GE191.out) | exact HB.out))⟩; clear BK191 HB hq_; have BK191 := n0_; have HB := n1_; clear n0_ n1_))) | ((with_reducible refine gate_callee (f := 8) rfl ?_); refine goesL_ (some 44) rfl rfl Try.func8 (by kernel_rfl) rfl #[.int .u64 a2_0, .int .i64 a0] rfl (by (try simp only [List.map_toArray, List.map_cons, List.map_nil]); first | done | rfl | (simp only [List.length_drop, List.length_take]; rfl)) ?_; (with_reducible refine (sakialaw03_small.calls a2_0 a0 t196 t197 _ A11.out).mono ?_); rintro e w38 ⟨rfl, hb⟩; refine ⟨_, rfl, ?_⟩; have n0_ := Aside0.mk (blk_below (g := gb191) (o := .cells #[.int .u64 a2_0, .int .u64 a2_1] 48 (0, 0)) (by (with_reducible repeat (first | refine blk_drewN ?_ _ | refine blk_drew ?_ | refine blk_alloc ?_ _)); exact BK191.out) hb); have n1_ := Aside0.mk (below_step (by repeat (first | (with_reducible first | exact HB.out | apply below_alloc | apply pw_below_drewN | apply below_drew1 | refine below_set ?_ GE191.out) | exact HB.out)) hb); clear BK191; clear HB; have BK191 := n0_; have HB := n1_; clear n0_ n1_; (try clear hb); (try clear hb2); (try clear hk); (try clear hi)) | ((with_reducible refine gate_callee (f := 10) rfl ?_); refine goesL_ (some 47) rfl rfl Try.func10 (by kernel_rfl) rfl #[.int .u64 a2_0, .int .i64 a0] rfl (by (try simp only [List.map_toArray, List.map_cons, List.map_nil]); first | done | rfl | (simp only [List.length_drop, List.length_take]; rfl)) ?_; (with_reducible refine (sakialaw03_great.calls a2_0 a0 t198 t199 _ A12.out).mono ?_); rintro e w39 ⟨rfl, hb⟩; refine ⟨_, rfl, ?_⟩; have n0_ := Aside0.mk (blk_below (g := gb191) (o := .cells #[.int .u64 a2_0, .int .u64 a2_1] 48 (0, 0)) (by (with_reducible repeat (first | refine blk_drewN ?_ _ | refine blk_drew ?_ | refine blk_alloc ?_ _)); exact BK191.out) hb); have n1_ := Aside0.mk (below_step (by repeat (first | (with_reducible first | exact HB.out | apply below_alloc | apply pw_below_drewN | apply below_drew1 | refine below_set ?_ GE191.out) | exact HB.out)) hb); clear BK191; clear HB; have BK191 := n0_; have HB := n1_; clear n0_ n1_; (try clear hb); (try clear hb2); (try clear hk); (try clear hi)) | ((with_reducible refine gate_dst (N := 9) rfl ?_); (try (refine gate_guard (by rfl) ?_; dsimp only)); refine box_event ?hg (N := 9) ?hd (cs := #[.int .u32 0, .int .i64 0]) (t := 27) ?hr ?_; (case hd => rfl); (case hg => rfl); (case hr => first | (go_simp; done) | (go_simp; rfl)); intro gb200 hg w40 hbox hb; have n0_ := Aside0.mk (blk_below (g := gb191) (o := .cells #[.int .u64 a2_0, .int .u64 a2_1] 48 (0, 0)) (by (with_reducible repeat (first | refine blk_drewN ?_ _ | refine blk_drew ?_ | refine blk_alloc ?_ _)); exact BK191.out) hb); have n1_ := Aside0.mk (below_step (by repeat (first | (with_reducible first | exact HB.out | apply below_alloc | apply pw_below_drewN | apply below_drew1 | refine below_set ?_ GE191.out) | exact HB.out)) hb); have n2_ := Aside0.mk (hbox); have n3_ := Aside0.mk ((by rw [hg]; exact (below_size (by repeat (first | (with_reducible first | exact HB.out | apply below_alloc | apply pw_below_drewN | apply below_drew1 | refine below_set ?_ GE191.out) | exact HB.out))) : w.heap.size ≤ gb200)); have n4_ := Aside0.mk ((by rw [hg]; exact (below_size (by repeat (first | (with_reducible first | exact HB.out | apply below_alloc | apply pw_below_drewN | apply below_drew1 | refine below_set ?_ GE191.out) | exact HB.out))) : w.heap.size ≤ gb200)); have n5_ := Aside0.mk ((by rw [hg]; exact Nat.ne_of_lt (blk_lt (g := gb191) (o := .cells #[.int .u64 a2_0, .int .u64 a2_1] 48 (0, 0)) (by (with_reducible repeat (first | refine blk_drewN ?_ _ | refine blk_drew ?_ | refine blk_alloc ?_ _)); exact BK191.out)) : gb191 ≠ gb200)); have n6_ := Aside0.mk ((by rw [hg]; exact Nat.ne_of_gt (blk_lt (g := gb191) (o := .cells #[.int .u64 a2_0, .int .u64 a2_1] 48 (0, 0)) (by (with_reducible repeat (first | refine blk_drewN ?_ _ | refine blk_drew ?_ | refine blk_alloc ?_ _)); exact BK191.out)) : gb200 ≠ gb191)); clear BK191; clear HB; have BK191 := n0_; have HB := n1_; have BK200 := n2_; have GW200 := n3_; have GE200 := n4_; have NB191_200 := n5_; have NB200_191 := n6_; clear n0_ n1_ n2_ n3_ n4_ n5_ n6_; clear hb hbox hg) | ((with_reducible refine gate_dst (N := 10) rfl ?_); (try (refine gate_guard (by rfl) ?_; dsimp only)); refine box_event ?hg (N := 10) ?hd (cs := #[.int .u64 0, .int .i64 0]) (t := 31) ?hr ?_; (case hd => rfl); (case hg => rfl); (case hr => first | (go_simp; done) | (go_simp; rfl)); intro gb201 hg w41 hbox hb; have n0_ := Aside0.mk (blk_below (g := gb191) (o := .cells #[.int .u64 a2_0, .int .u64 a2_1] 48 (0, 0)) (by (with_reducible repeat (first | refine blk_drewN ?_ _ | refine blk_drew ?_ | refine blk_alloc ?_ _)); exact BK191.out) hb); have n1_ := Aside0.mk (blk_below (g := gb200) (o := .cells #[.int .u32 0, .int .i64 0] 27 (0, 0)) (by (with_reducible repeat (first | refine blk_drewN ?_ _ | refine blk_drew ?_ | refine blk_alloc ?_ _)); exact BK200.out) hb); have n2_ := Aside0.mk (below_step (by repeat (first | (with_reducible first | exact HB.out | apply below_alloc | apply pw_below_drewN | apply below_drew1 | refine below_set ?_ GE191.out | refine below_set ?_ GE200.out) | exact HB.out)) hb); have n3_ := Aside0.mk (hbox); have n4_ := Aside0.mk ((by rw [hg]; exact (below_size (by repeat (first | (with_reducible first | exact HB.out | apply below_alloc | apply pw_below_drewN | apply below_drew1 | refine below_set ?_ GE191.out | refine below_set ?_ GE200.out) | exact HB.out))) : w.heap.size ≤ gb201)); have n5_ := Aside0.mk ((by rw [hg]; exact (below_size (by repeat (first | (with_reducible first | exact HB.out | apply below_alloc | apply pw_below_drewN | apply below_drew1 | refine below_set ?_ GE191.out | refine below_set ?_ GE200.out) | exact HB.out))) : w.heap.size ≤ gb201)); have n6_ := Aside0.mk ((by rw [hg]; exact Nat.ne_of_lt (blk_lt (g := gb191) (o := .cells #[.int .u64 a2_0, .int .u64 a2_1] 48 (0, 0)) (by (with_reducible repeat (first | refine blk_drewN ?_ _ | refine blk_drew ?_ | refine blk_alloc ?_ _)); exact BK191.out)) : gb191 ≠ gb201)); have n7_ := Aside0.mk ((by rw [hg]; exact Nat.ne_of_gt (blk_lt (g := gb191) (o := .cells #[.int .u64 a2_0, .int .u64 a2_1] 48 (0, 0)) (by (with_reducible repeat (first | refine blk_drewN ?_ _ | refine blk_drew ?_ | refine blk_alloc ?_ _)); exact BK191.out)) : gb201 ≠ gb191)); have n8_ := Aside0.mk ((by rw [hg]; exact Nat.ne_of_lt (blk_lt (g := gb200) (o := .cells #[.int .u32 0, .int .i64 0] 27 (0, 0)) (by (with_reducible repeat (first | refine blk_drewN ?_ _ | refine blk_drew ?_ | refine blk_alloc ?_ _)); exact BK200.out)) : gb200 ≠ gb201)); have n9_ := Aside0.mk ((by rw [hg]; exact Nat.ne_of_gt (blk_lt (g := gb200) (o := .cells #[.int .u32 0, .int .i64 0] 27 (0, 0)) (by (with_reducible repeat (first | refine blk_drewN ?_ _ | refine blk_drew ?_ | refine blk_alloc ?_ _)); exact BK200.out)) : gb201 ≠ gb200)); clear BK191; clear BK200; clear HB; have BK191 := n0_; have BK200 := n1_; have HB := n2_; have BK201 := n3_; have GW201 := n4_; have GE201 := n5_; have NB191_201 := n6_; have NB201_191 := n7_; have NB200_201 := n8_; have NB201_200 := n9_; clear n0_ n1_ n2_ n3_ n4_ n5_ n6_ n7_ n8_ n9_; clear hb hbox hg; have hnb42 := NB200_191.out; have hnc42 := NB191_200.out; have hnb43 := NB200_201.out; have hnc43 := NB201_200.out; have hcz44_0 : w41.cell? ⟨gb200, 0, none⟩ = some (.int .u32 0) := (blk_cell BK200.out 0).trans rfl; have hcz44_1 : w41.cell? ⟨gb200, 1, none⟩ = some (.int .i64 0) := (blk_cell BK200.out 1).trans rfl; have hfz44_0 := blk_frozen BK200.out 0; have hfz44_1 := blk_frozen BK200.out 1; have hnb45 := NB201_191.out; have hnc45 := NB191_201.out; have hcz46_0 : w41.cell? ⟨gb201, 0, none⟩ = some (.int .u64 0) := (blk_cell BK201.out 0).trans rfl; have hcz46_1 : w41.cell? ⟨gb201, 1, none⟩ = some (.int .i64 0) := (blk_cell BK201.out 1).trans rfl; have hfz46_0 := blk_frozen BK201.out 0; have hfz46_1 := blk_frozen BK201.out 1) | ((with_reducible refine gate_callee (f := 14) rfl ?_); refine goesL_ (some 49) rfl rfl Try.func14 (by kernel_rfl) rfl #[.int .i64 32, .int .u64 a2_0] rfl (by (try simp only [List.map_toArray, List.map_cons, List.map_nil]); first | done | rfl | (simp only [List.length_drop, List.length_take]; rfl)) ?_; (with_reducible refine (sakiaref01_Cut.calls 32 a2_0 t202 _ A13.out).mono ?_); rintro e w' ⟨rfl, ⟨nd, rfl⟩⟩; refine ⟨_, rfl, ?_⟩) | ((with_reducible refine gate_dst (N := 11) rfl ?_); (try (refine gate_guard (by rfl) ?_; dsimp only)); refine box_event ?hg (N := 11) ?hd (cs := #[.int .i64 0, .int .u64 0, .int .i64 0]) (t := 37) ?hr ?_; (case hd => rfl); (case hg => rfl); (case hr => first | (go_simp; done) | (go_simp; rfl)); intro gb203 hg w47 hbox hb; have n0_ := Aside0.mk (blk_below (g := gb191) (o := .cells #[.int .u64 a2_0, .int .u64 a2_1] 48 (0, 0)) (by (with_reducible repeat (first | refine blk_drewN ?_ _ | refine blk_drew ?_ | refine blk_alloc ?_ _)); refine blk_far ?_ NB191_201.out _; (with_reducible repeat (first | refine blk_drewN ?_ _ | refine blk_drew ?_ | refine blk_alloc ?_ _)); refine blk_far ?_ NB191_201.out _; (with_reducible repeat (first | refine blk_drewN ?_ _ | refine blk_drew ?_ | refine blk_alloc ?_ _)); refine blk_far ?_ NB191_200.out _; (with_reducible repeat (first | refine blk_drewN ?_ _ | refine blk_drew ?_ | refine blk_alloc ?_ _)); refine blk_far ?_ NB191_200.out _; (with_reducible repeat (first | refine blk_drewN ?_ _ | refine blk_drew ?_ | refine blk_alloc ?_ _)); exact BK191.out) hb); have n1_ := Aside0.mk (blk_below (g := gb200) (o := .cells #[.int .u32 t196, .int .i64 t197] 27 (0, 0)) (by (with_reducible repeat (first | refine blk_drewN ?_ _ | refine blk_drew ?_ | refine blk_alloc ?_ _)); refine blk_far ?_ NB200_201.out _; (with_reducible repeat (first | refine blk_drewN ?_ _ | refine blk_drew ?_ | refine blk_alloc ?_ _)); refine blk_far ?_ NB200_201.out _; (with_reducible repeat (first | refine blk_drewN ?_ _ | refine blk_drew ?_ | refine blk_alloc ?_ _)); refine blk_put (cs := #[.int .u32 t196, .int .i64 0]) ?_ 1 _ rfl; (with_reducible repeat (first | refine blk_drewN ?_ _ | refine blk_drew ?_ | refine blk_alloc ?_ _)); refine blk_put (cs := #[.int .u32 0, .int .i64 0]) ?_ 0 _ rfl; (with_reducible repeat (first | refine blk_drewN ?_ _ | refine blk_drew ?_ | refine blk_alloc ?_ _)); exact BK200.out) hb); have n2_ := Aside0.mk (blk_below (g := gb201) (o := .cells #[.int .u64 t198, .int .i64 t199] 31 (0, 0)) (by (with_reducible repeat (first | refine blk_drewN ?_ _ | refine blk_drew ?_ | refine blk_alloc ?_ _)); refine blk_put (cs := #[.int .u64 t198, .int .i64 0]) ?_ 1 _ rfl; (with_reducible repeat (first | refine blk_drewN ?_ _ | refine blk_drew ?_ | refine blk_alloc ?_ _)); refine blk_put (cs := #[.int .u64 0, .int .i64 0]) ?_ 0 _ rfl; (with_reducible repeat (first | refine blk_drewN ?_ _ | refine blk_drew ?_ | refine blk_alloc ?_ _)); refine blk_far ?_ NB201_200.out _; (with_reducible repeat (first | refine blk_drewN ?_ _ | refine blk_drew ?_ | refine blk_alloc ?_ _)); refine blk_far ?_ NB201_200.out _; (with_reducible repeat (first | refine blk_drewN ?_ _ | refine blk_drew ?_ | refine blk_alloc ?_ _)); exact BK201.out) hb); have n3_ := Aside0.mk (below_step (by repeat (first | (with_reducible first | exact HB.out | apply below_alloc | apply pw_below_drewN | apply below_drew1 | refine below_set ?_ GE191.out | refine below_set ?_ GE200.out | refine below_set ?_ GE201.out) | exact HB.out)) hb); have n4_ := Aside0.mk (hbox); have n5_ := Aside0.mk ((by rw [hg]; exact (below_size (by repeat (first | (with_reducible first | exact HB.out | apply below_alloc | apply pw_below_drewN | apply below_drew1 | refine below_set ?_ GE191.out | refine below_set ?_ GE200.out | refine below_set ?_ GE201.out) | exact HB.out))) : w.heap.size ≤ gb203)); have n6_ := Aside0.mk ((by rw [hg]; exact (below_size (by repeat (first | (with_reducible first | exact HB.out | apply below_alloc | apply pw_below_drewN | apply below_drew1 | refine below_set ?_ GE191.out | refine below_set ?_ GE200.out | refine below_set ?_ GE201.out) | exact HB.out))) : w.heap.size ≤ gb203)); have n7_ := Aside0.mk ((by rw [hg]; exact Nat.ne_of_lt (blk_lt (g := gb191) (o := .cells #[.int .u64 a2_0, .int .u64 a2_1] 48 (0, 0)) (by (with_reducible repeat (first | refine blk_drewN ?_ _ | refine blk_drew ?_ | refine blk_alloc ?_ _)); refine blk_far ?_ NB191_201.out _; (with_reducible repeat (first | refine blk_drewN ?_ _ | refine blk_drew ?_ | refine blk_alloc ?_ _)); refine blk_far ?_ NB191_201.out _; (with_reducible repeat (first | refine blk_drewN ?_ _ | refine blk_drew ?_ | refine blk_alloc ?_ _)); refine blk_far ?_ NB191_200.out _; (with_reducible repeat (first | refine blk_drewN ?_ _ | refine blk_drew ?_ | refine blk_alloc ?_ _)); refine blk_far ?_ NB191_200.out _; (with_reducible repeat (first | refine blk_drewN ?_ _ | refine blk_drew ?_ | refine blk_alloc ?_ _)); exact BK191.out)) : gb191 ≠ gb203)); have n8_ := Aside0.mk ((by rw [hg]; exact Nat.ne_of_gt (blk_lt (g := gb191) (o := .cells #[.int .u64 a2_0, .int .u64 a2_1] 48 (0, 0)) (by (with_reducible repeat (first | refine blk_drewN ?_ _ | refine blk_drew ?_ | refine blk_alloc ?_ _)); refine blk_far ?_ NB191_201.out _; (with_reducible repeat (first | refine blk_drewN ?_ _ | refine blk_drew ?_ | refine blk_alloc ?_ _)); refine blk_far ?_ NB191_201.out _; (with_reducible repeat (first | refine blk_drewN ?_ _ | refine blk_drew ?_ | refine blk_alloc ?_ _)); refine blk_far ?_ NB191_200.out _; (with_reducible repeat (first | refine blk_drewN ?_ _ | refine blk_drew ?_ | refine blk_alloc ?_ _)); refine blk_far ?_ NB191_200.out _; (with_reducible repeat (first | refine blk_drewN ?_ _ | refine blk_drew ?_ | refine blk_alloc ?_ _)); exact BK191.out)) : gb203 ≠ gb191)); have n9_ := Aside0.mk ((by rw [hg]; exact Nat.ne_of_lt (blk_lt (g := gb200) (o := .cells #[.int .u32 t196, .int .i64 t197] 27 (0, 0)) (by (with_reducible repeat (first | refine blk_drewN ?_ _ | refine blk_drew ?_ | refine blk_alloc ?_ _)); refine blk_far ?_ NB200_201.out _; (with_reducible repeat (first | refine blk_drewN ?_ _ | refine blk_drew ?_ | refine blk_alloc ?_ _)); refine blk_far ?_ NB200_201.out _; (with_reducible repeat (first | refine blk_drewN ?_ _ | refine blk_drew ?_ | refine blk_alloc ?_ _)); refine blk_put (cs := #[.int .u32 t196, .int .i64 0]) ?_ 1 _ rfl; (with_reducible repeat (first | refine blk_drewN ?_ _ | refine blk_drew ?_ | refine blk_alloc ?_ _)); refine blk_put (cs := #[.int .u32 0, .int .i64 0]) ?_ 0 _ rfl; (with_reducible repeat (first | refine blk_drewN ?_ _ | refine blk_drew ?_ | refine blk_alloc ?_ _)); exact BK200.out)) : gb200 ≠ gb203)); have n10_ := Aside0.mk ((by rw [hg]; exact Nat.ne_of_gt (blk_lt (g := gb200) (o := .cells #[.int .u32 t196, .int .i64 t197] 27 (0, 0)) (by (with_reducible repeat (first | refine blk_drewN ?_ _ | refine blk_drew ?_ | refine blk_alloc ?_ _)); refine blk_far ?_ NB200_201.out _; (with_reducible repeat (first | refine blk_drewN ?_ _ | refine blk_drew ?_ | refine blk_alloc ?_ _)); refine blk_far ?_ NB200_201.out _; (with_reducible repeat (first | refine blk_drewN ?_ _ | refine blk_drew ?_ | refine blk_alloc ?_ _)); refine blk_put (cs := #[.int .u32 t196, .int .i64 0]) ?_ 1 _ rfl; (with_reducible repeat (first | refine blk_drewN ?_ _ | refine blk_drew ?_ | refine blk_alloc ?_ _)); refine blk_put (cs := #[.int .u32 0, .int .i64 0]) ?_ 0 _ rfl; (with_reducible repeat (first | refine blk_drewN ?_ _ | refine blk_drew ?_ | refine blk_alloc ?_ _)); exact BK200.out)) : gb203 ≠ gb200)); have n11_ := Aside0.mk ((by rw [hg]; exact Nat.ne_of_lt (blk_lt (g := gb201) (o := .cells #[.int .u64 t198, .int .i64 t199] 31 (0, 0)) (by (with_reducible repeat (first | refine blk_drewN ?_ _ | refine blk_drew ?_ | refine blk_alloc ?_ _)); refine blk_put (cs := #[.int .u64 t198, .int .i64 0]) ?_ 1 _ rfl; (with_reducible repeat (first | refine blk_drewN ?_ _ | refine blk_drew ?_ | refine blk_alloc ?_ _)); refine blk_put (cs := #[.int .u64 0, .int .i64 0]) ?_ 0 _ rfl; (with_reducible repeat (first | refine blk_drewN ?_ _ | refine blk_drew ?_ | refine blk_alloc ?_ _)); refine blk_far ?_ NB201_200.out _; (with_reducible repeat (first | refine blk_drewN ?_ _ | refine blk_drew ?_ | refine blk_alloc ?_ _)); refine blk_far ?_ NB201_200.out _; (with_reducible repeat (first | refine blk_drewN ?_ _ | refine blk_drew ?_ | refine blk_alloc ?_ _)); exact BK201.out)) : gb201 ≠ gb203)); have n12_ := Aside0.mk ((by rw [hg]; exact Nat.ne_of_gt (blk_lt (g := gb201) (o := .cells #[.int .u64 t198, .int .i64 t199] 31 (0, 0)) (by (with_reducible repeat (first | refine blk_drewN ?_ _ | refine blk_drew ?_ | refine blk_alloc ?_ _)); refine blk_put (cs := #[.int .u64 t198, .int .i64 0]) ?_ 1 _ rfl; (with_reducible repeat (first | refine blk_drewN ?_ _ | refine blk_drew ?_ | refine blk_alloc ?_ _)); refine blk_put (cs := #[.int .u64 0, .int .i64 0]) ?_ 0 _ rfl; (with_reducible repeat (first | refine blk_drewN ?_ _ | refine blk_drew ?_ | refine blk_alloc ?_ _)); refine blk_far ?_ NB201_200.out _; (with_reducible repeat (first | refine blk_drewN ?_ _ | refine blk_drew ?_ | refine blk_alloc ?_ _)); refine blk_far ?_ NB201_200.out _; (with_reducible repeat (first | refine blk_drewN ?_ _ | refine blk_drew ?_ | refine blk_alloc ?_ _)); exact BK201.out)) : gb203 ≠ gb201)); clear BK191; clear BK200; clear BK201; clear HB; have BK191 := n0_; have BK200 := n1_; have BK201 := n2_; have HB := n3_; have BK203 := n4_; have GW203 := n5_; have GE203 := n6_; have NB191_203 := n7_; have NB203_191 := n8_; have NB200_203 := n9_; have NB203_200 := n10_; have NB201_203 := n11_; have NB203_201 := n12_; clear n0_ n1_ n2_ n3_ n4_ n5_ n6_ n7_ n8_ n9_ n10_ n11_ n12_; clear hb hbox hg) | ((with_reducible refine gate_dst (N := 12) rfl ?_); (try (refine gate_guard (by rfl) ?_; dsimp only)); refine box_event ?hg (N := 12) ?hd (cs := #[.int .i64 0, .int .u64 0, .int .i64 0]) (t := 37) ?hr ?_; (case hd => rfl); (case hg => rfl); (case hr => first | (go_simp; done) | (go_simp; rfl)); intro gb204 hg w48 hbox hb; have n0_ := Aside0.mk (blk_below (g := gb191) (o := .cells #[.int .u64 a2_0, .int .u64 a2_1] 48 (0, 0)) (by (with_reducible repeat (first | refine blk_drewN ?_ _ | refine blk_drew ?_ | refine blk_alloc ?_ _)); exact BK191.out) hb); have n1_ := Aside0.mk (blk_below (g := gb200) (o := .cells #[.int .u32 t196, .int .i64 t197] 27 (0, 0)) (by (with_reducible repeat (first | refine blk_drewN ?_ _ | refine blk_drew ?_ | refine blk_alloc ?_ _)); exact BK200.out) hb); have n2_ := Aside0.mk (blk_below (g := gb201) (o := .cells #[.int .u64 t198, .int .i64 t199] 31 (0, 0)) (by (with_reducible repeat (first | refine blk_drewN ?_ _ | refine blk_drew ?_ | refine blk_alloc ?_ _)); exact BK201.out) hb); have n3_ := Aside0.mk (blk_below (g := gb203) (o := .cells #[.int .i64 0, .int .u64 0, .int .i64 0] 37 (0, 0)) (by (with_reducible repeat (first | refine blk_drewN ?_ _ | refine blk_drew ?_ | refine blk_alloc ?_ _)); exact BK203.out) hb); have n4_ := Aside0.mk (below_step (by repeat (first | (with_reducible first | exact HB.out | apply below_alloc | apply pw_below_drewN | apply below_drew1 | refine below_set ?_ GE191.out | refine below_set ?_ GE200.out | refine below_set ?_ GE201.out | refine below_set ?_ GE203.out) | exact HB.out)) hb); have n5_ := Aside0.mk (hbox); have n6_ := Aside0.mk ((by rw [hg]; exact (below_size (by repeat (first | (with_reducible first | exact HB.out | apply below_alloc | apply pw_below_drewN | apply below_drew1 | refine below_set ?_ GE191.out | refine below_set ?_ GE200.out | refine below_set ?_ GE201.out | refine below_set ?_ GE203.out) | exact HB.out))) : w.heap.size ≤ gb204)); have n7_ := Aside0.mk ((by rw [hg]; exact (below_size (by repeat (first | (with_reducible first | exact HB.out | apply below_alloc | apply pw_below_drewN | apply below_drew1 | refine below_set ?_ GE191.out | refine below_set ?_ GE200.out | refine below_set ?_ GE201.out | refine below_set ?_ GE203.out) | exact HB.out))) : w.heap.size ≤ gb204)); have n8_ := Aside0.mk ((by rw [hg]; exact Nat.ne_of_lt (blk_lt (g := gb191) (o := .cells #[.int .u64 a2_0, .int .u64 a2_1] 48 (0, 0)) (by (with_reducible repeat (first | refine blk_drewN ?_ _ | refine blk_drew ?_ | refine blk_alloc ?_ _)); exact BK191.out)) : gb191 ≠ gb204)); have n9_ := Aside0.mk ((by rw [hg]; exact Nat.ne_of_gt (blk_lt (g := gb191) (o := .cells #[.int .u64 a2_0, .int .u64 a2_1] 48 (0, 0)) (by (with_reducible repeat (first | refine blk_drewN ?_ _ | refine blk_drew ?_ | refine blk_alloc ?_ _)); exact BK191.out)) : gb204 ≠ gb191)); have n10_ := Aside0.mk ((by rw [hg]; exact Nat.ne_of_lt (blk_lt (g := gb200) (o := .cells #[.int .u32 t196, .int .i64 t197] 27 (0, 0)) (by (with_reducible repeat (first | refine blk_drewN ?_ _ | refine blk_drew ?_ | refine blk_alloc ?_ _)); exact BK200.out)) : gb200 ≠ gb204)); have n11_ := Aside0.mk ((by rw [hg]; exact Nat.ne_of_gt (blk_lt (g := gb200) (o := .cells #[.int .u32 t196, .int .i64 t197] 27 (0, 0)) (by (with_reducible repeat (first | refine blk_drewN ?_ _ | refine blk_drew ?_ | refine blk_alloc ?_ _)); exact BK200.out)) : gb204 ≠ gb200)); have n12_ := Aside0.mk ((by rw [hg]; exact Nat.ne_of_lt (blk_lt (g := gb201) (o := .cells #[.int .u64 t198, .int .i64 t199] 31 (0, 0)) (by (with_reducible repeat (first | refine blk_drewN ?_ _ | refine blk_drew ?_ | refine blk_alloc ?_ _)); exact BK201.out)) : gb201 ≠ gb204)); have n13_ := Aside0.mk ((by rw [hg]; exact Nat.ne_of_gt (blk_lt (g := gb201) (o := .cells #[.int .u64 t198, .int .i64 t199] 31 (0, 0)) (by (with_reducible repeat (first | refine blk_drewN ?_ _ | refine blk_drew ?_ | refine blk_alloc ?_ _)); exact BK201.out)) : gb204 ≠ gb201)); have n14_ := Aside0.mk ((by rw [hg]; exact Nat.ne_of_lt (blk_lt (g := gb203) (o := .cells #[.int .i64 0, .int .u64 0, .int .i64 0] 37 (0, 0)) (by (with_reducible repeat (first | refine blk_drewN ?_ _ | refine blk_drew ?_ | refine blk_alloc ?_ _)); exact BK203.out)) : gb203 ≠ gb204)); have n15_ := Aside0.mk ((by rw [hg]; exact Nat.ne_of_gt (blk_lt (g := gb203) (o := .cells #[.int .i64 0, .int .u64 0, .int .i64 0] 37 (0, 0)) (by (with_reducible repeat (first | refine blk_drewN ?_ _ | refine blk_drew ?_ | refine blk_alloc ?_ _)); exact BK203.out)) : gb204 ≠ gb203)); clear BK191; clear BK200; clear BK201; clear BK203; clear HB; have BK191 := n0_; have BK200 := n1_; have BK201 := n2_; have BK203 := n3_; have HB := n4_; have BK204 := n5_; have GW204 := n6_; have GE204 := n7_; have NB191_204 := n8_; have NB204_191 := n9_; have NB200_204 := n10_; have NB204_200 := n11_; have NB201_204 := n12_; have NB204_201 := n13_; have NB203_204 := n14_; have NB204_203 := n15_; clear n0_ n1_ n2_ n3_ n4_ n5_ n6_ n7_ n8_ n9_ n10_ n11_ n12_ n13_ n14_ n15_; clear hb hbox hg; have hnb49 := NB203_191.out; have hnc49 := NB191_203.out; have hnb50 := NB203_200.out; have hnc50 := NB200_203.out; have hnb51 := NB203_201.out; have hnc51 := NB201_203.out; have hnb52 := NB203_204.out; have hnc52 := NB204_203.out; have hcz53_0 : w48.cell? ⟨gb203, 0, none⟩ = some (.int .i64 0) := (blk_cell BK203.out 0).trans rfl; have hcz53_1 : w48.cell? ⟨gb203, 1, none⟩ = some (.int .u64 0) := (blk_cell BK203.out 1).trans rfl; have hcz53_2 : w48.cell? ⟨gb203, 2, none⟩ = some (.int .i64 0) := (blk_cell BK203.out 2).trans rfl; have hfz53_0 := blk_frozen BK203.out 0; have hfz53_1 := blk_frozen BK203.out 1; have hfz53_2 := blk_frozen BK203.out 2; have hnb54 := NB204_191.out; have hnc54 := NB191_204.out; have hnb55 := NB204_200.out; have hnc55 := NB200_204.out; have hnb56 := NB204_201.out; have hnc56 := NB201_204.out; have hcz57_0 : w48.cell? ⟨gb204, 0, none⟩ = some (.int .i64 0) := (blk_cell BK204.out 0).trans rfl; have hcz57_1 : w48.cell? ⟨gb204, 1, none⟩ = some (.int .u64 0) := (blk_cell BK204.out 1).trans rfl; have hcz57_2 : w48.cell? ⟨gb204, 2, none⟩ = some (.int .i64 0) := (blk_cell BK204.out 2).trans rfl; have hfz57_0 := blk_frozen BK204.out 0; have hfz57_1 := blk_frozen BK204.out 1; have hfz57_2 := blk_frozen BK204.out 2))
        have n0_ : Aside0 (((((((w48.setCell ⟨gb203, 0, none⟩ (.int .i64 32)).setCell ⟨gb203, 1, none⟩ (.int .u64 t202)).setCell ⟨gb203, 2, none⟩ (.int .i64 a0)).setCell ⟨gb204, 0, none⟩ (.int .i64 64)).setCell ⟨gb204, 1, none⟩ (.int .u64 a2_0)).setCell ⟨gb204, 2, none⟩ (.int .i64 a0)).heap[gb191]? = some (.cells #[.int .u64 a2_0, .int .u64 a2_1] 48 (0, 0))) := ⟨by (with_reducible repeat (first | refine blk_drewN ?_ _ | refine blk_drew ?_ | refine blk_alloc ?_ _)); refine blk_far ?_ NB191_204.out _; (with_reducible repeat (first | refine blk_drewN ?_ _ | refine blk_drew ?_ | refine blk_alloc ?_ _)); refine blk_far ?_ NB191_204.out _; (with_reducible repeat (first | refine blk_drewN ?_ _ | refine blk_drew ?_ | refine blk_alloc ?_ _)); refine blk_far ?_ NB191_204.out _; (with_reducible repeat (first | refine blk_drewN ?_ _ | refine blk_drew ?_ | refine blk_alloc ?_ _)); refine blk_far ?_ NB191_203.out _; (with_reducible repeat (first | refine blk_drewN ?_ _ | refine blk_drew ?_ | refine blk_alloc ?_ _)); refine blk_far ?_ NB191_203.out _; (with_reducible repeat (first | refine blk_drewN ?_ _ | refine blk_drew ?_ | refine blk_alloc ?_ _)); refine blk_far ?_ NB191_203.out _; (with_reducible repeat (first | refine blk_drewN ?_ _ | refine blk_drew ?_ | refine blk_alloc ?_ _)); exact BK191.out⟩
        have n1_ : Aside0 (((((((w48.setCell ⟨gb203, 0, none⟩ (.int .i64 32)).setCell ⟨gb203, 1, none⟩ (.int .u64 t202)).setCell ⟨gb203, 2, none⟩ (.int .i64 a0)).setCell ⟨gb204, 0, none⟩ (.int .i64 64)).setCell ⟨gb204, 1, none⟩ (.int .u64 a2_0)).setCell ⟨gb204, 2, none⟩ (.int .i64 a0)).heap[gb200]? = some (.cells #[.int .u32 t196, .int .i64 t197] 27 (0, 0))) := ⟨by (with_reducible repeat (first | refine blk_drewN ?_ _ | refine blk_drew ?_ | refine blk_alloc ?_ _)); refine blk_far ?_ NB200_204.out _; (with_reducible repeat (first | refine blk_drewN ?_ _ | refine blk_drew ?_ | refine blk_alloc ?_ _)); refine blk_far ?_ NB200_204.out _; (with_reducible repeat (first | refine blk_drewN ?_ _ | refine blk_drew ?_ | refine blk_alloc ?_ _)); refine blk_far ?_ NB200_204.out _; (with_reducible repeat (first | refine blk_drewN ?_ _ | refine blk_drew ?_ | refine blk_alloc ?_ _)); refine blk_far ?_ NB200_203.out _; (with_reducible repeat (first | refine blk_drewN ?_ _ | refine blk_drew ?_ | refine blk_alloc ?_ _)); refine blk_far ?_ NB200_203.out _; (with_reducible repeat (first | refine blk_drewN ?_ _ | refine blk_drew ?_ | refine blk_alloc ?_ _)); refine blk_far ?_ NB200_203.out _; (with_reducible repeat (first | refine blk_drewN ?_ _ | refine blk_drew ?_ | refine blk_alloc ?_ _)); exact BK200.out⟩
        have n2_ : Aside0 (((((((w48.setCell ⟨gb203, 0, none⟩ (.int .i64 32)).setCell ⟨gb203, 1, none⟩ (.int .u64 t202)).setCell ⟨gb203, 2, none⟩ (.int .i64 a0)).setCell ⟨gb204, 0, none⟩ (.int .i64 64)).setCell ⟨gb204, 1, none⟩ (.int .u64 a2_0)).setCell ⟨gb204, 2, none⟩ (.int .i64 a0)).heap[gb201]? = some (.cells #[.int .u64 t198, .int .i64 t199] 31 (0, 0))) := ⟨by (with_reducible repeat (first | refine blk_drewN ?_ _ | refine blk_drew ?_ | refine blk_alloc ?_ _)); refine blk_far ?_ NB201_204.out _; (with_reducible repeat (first | refine blk_drewN ?_ _ | refine blk_drew ?_ | refine blk_alloc ?_ _)); refine blk_far ?_ NB201_204.out _; (with_reducible repeat (first | refine blk_drewN ?_ _ | refine blk_drew ?_ | refine blk_alloc ?_ _)); refine blk_far ?_ NB201_204.out _; (with_reducible repeat (first | refine blk_drewN ?_ _ | refine blk_drew ?_ | refine blk_alloc ?_ _)); refine blk_far ?_ NB201_203.out _; (with_reducible repeat (first | refine blk_drewN ?_ _ | refine blk_drew ?_ | refine blk_alloc ?_ _)); refine blk_far ?_ NB201_203.out _; (with_reducible repeat (first | refine blk_drewN ?_ _ | refine blk_drew ?_ | refine blk_alloc ?_ _)); refine blk_far ?_ NB201_203.out _; (with_reducible repeat (first | refine blk_drewN ?_ _ | refine blk_drew ?_ | refine blk_alloc ?_ _)); exact BK201.out⟩
        have n3_ : Aside0 (((((((w48.setCell ⟨gb203, 0, none⟩ (.int .i64 32)).setCell ⟨gb203, 1, none⟩ (.int .u64 t202)).setCell ⟨gb203, 2, none⟩ (.int .i64 a0)).setCell ⟨gb204, 0, none⟩ (.int .i64 64)).setCell ⟨gb204, 1, none⟩ (.int .u64 a2_0)).setCell ⟨gb204, 2, none⟩ (.int .i64 a0)).heap[gb203]? = some (.cells #[.int .i64 32, .int .u64 t202, .int .i64 a0] 37 (0, 0))) := ⟨by (with_reducible repeat (first | refine blk_drewN ?_ _ | refine blk_drew ?_ | refine blk_alloc ?_ _)); refine blk_far ?_ NB203_204.out _; (with_reducible repeat (first | refine blk_drewN ?_ _ | refine blk_drew ?_ | refine blk_alloc ?_ _)); refine blk_far ?_ NB203_204.out _; (with_reducible repeat (first | refine blk_drewN ?_ _ | refine blk_drew ?_ | refine blk_alloc ?_ _)); refine blk_far ?_ NB203_204.out _; (with_reducible repeat (first | refine blk_drewN ?_ _ | refine blk_drew ?_ | refine blk_alloc ?_ _)); refine blk_put (cs := #[.int .i64 32, .int .u64 t202, .int .i64 0]) ?_ 2 _ rfl; (with_reducible repeat (first | refine blk_drewN ?_ _ | refine blk_drew ?_ | refine blk_alloc ?_ _)); refine blk_put (cs := #[.int .i64 32, .int .u64 0, .int .i64 0]) ?_ 1 _ rfl; (with_reducible repeat (first | refine blk_drewN ?_ _ | refine blk_drew ?_ | refine blk_alloc ?_ _)); refine blk_put (cs := #[.int .i64 0, .int .u64 0, .int .i64 0]) ?_ 0 _ rfl; (with_reducible repeat (first | refine blk_drewN ?_ _ | refine blk_drew ?_ | refine blk_alloc ?_ _)); exact BK203.out⟩
        have n4_ : Aside0 (((((((w48.setCell ⟨gb203, 0, none⟩ (.int .i64 32)).setCell ⟨gb203, 1, none⟩ (.int .u64 t202)).setCell ⟨gb203, 2, none⟩ (.int .i64 a0)).setCell ⟨gb204, 0, none⟩ (.int .i64 64)).setCell ⟨gb204, 1, none⟩ (.int .u64 a2_0)).setCell ⟨gb204, 2, none⟩ (.int .i64 a0)).heap[gb204]? = some (.cells #[.int .i64 64, .int .u64 a2_0, .int .i64 a0] 37 (0, 0))) := ⟨by (with_reducible repeat (first | refine blk_drewN ?_ _ | refine blk_drew ?_ | refine blk_alloc ?_ _)); refine blk_put (cs := #[.int .i64 64, .int .u64 a2_0, .int .i64 0]) ?_ 2 _ rfl; (with_reducible repeat (first | refine blk_drewN ?_ _ | refine blk_drew ?_ | refine blk_alloc ?_ _)); refine blk_put (cs := #[.int .i64 64, .int .u64 0, .int .i64 0]) ?_ 1 _ rfl; (with_reducible repeat (first | refine blk_drewN ?_ _ | refine blk_drew ?_ | refine blk_alloc ?_ _)); refine blk_put (cs := #[.int .i64 0, .int .u64 0, .int .i64 0]) ?_ 0 _ rfl; (with_reducible repeat (first | refine blk_drewN ?_ _ | refine blk_drew ?_ | refine blk_alloc ?_ _)); refine blk_far ?_ NB204_203.out _; (with_reducible repeat (first | refine blk_drewN ?_ _ | refine blk_drew ?_ | refine blk_alloc ?_ _)); refine blk_far ?_ NB204_203.out _; (with_reducible repeat (first | refine blk_drewN ?_ _ | refine blk_drew ?_ | refine blk_alloc ?_ _)); refine blk_far ?_ NB204_203.out _; (with_reducible repeat (first | refine blk_drewN ?_ _ | refine blk_drew ?_ | refine blk_alloc ?_ _)); exact BK204.out⟩
        have n5_ : Aside0 (Below w.heap.size w ((((((w48.setCell ⟨gb203, 0, none⟩ (.int .i64 32)).setCell ⟨gb203, 1, none⟩ (.int .u64 t202)).setCell ⟨gb203, 2, none⟩ (.int .i64 a0)).setCell ⟨gb204, 0, none⟩ (.int .i64 64)).setCell ⟨gb204, 1, none⟩ (.int .u64 a2_0)).setCell ⟨gb204, 2, none⟩ (.int .i64 a0))) := ⟨by repeat (first | (with_reducible first | exact HB.out | apply below_alloc | apply pw_below_drewN | apply below_drew1 | refine below_set ?_ GE191.out | refine below_set ?_ GE200.out | refine below_set ?_ GE201.out | refine below_set ?_ GE203.out | refine below_set ?_ GE204.out) | exact HB.out)⟩
        (try clear BK191)
        (try clear BK200)
        (try clear BK201)
        (try clear BK203)
        (try clear BK204)
        (try clear HB)
        generalize ((((((w48.setCell ⟨gb203, 0, none⟩ (.int .i64 32)).setCell ⟨gb203, 1, none⟩ (.int .u64 t202)).setCell ⟨gb203, 2, none⟩ (.int .i64 a0)).setCell ⟨gb204, 0, none⟩ (.int .i64 64)).setCell ⟨gb204, 1, none⟩ (.int .u64 a2_0)).setCell ⟨gb204, 2, none⟩ (.int .i64 a0)) = w58 at n0_ n1_ n2_ n3_ n4_ n5_ ⊢
        have BK191 := n0_
        have BK200 := n1_
        have BK201 := n2_
        have BK203 := n3_
        have BK204 := n4_
        have HB := n5_
        clear n0_ n1_ n2_ n3_ n4_ n5_
        have n0_ := Aside0.mk (blk_drew BK191.out)
        have n1_ := Aside0.mk (blk_drew BK200.out)
        have n2_ := Aside0.mk (blk_drew BK201.out)
        have n3_ := Aside0.mk (blk_drew BK203.out)
        have n4_ := Aside0.mk (blk_drew BK204.out)
        have n5_ := Aside0.mk (below_drew1 HB.out)
        clear BK191
        clear BK200
        clear BK201
        clear BK203
        clear BK204
        clear HB
        have BK191 := n0_
        have BK200 := n1_
        have BK201 := n2_
        have BK203 := n3_
        have BK204 := n4_
        have HB := n5_
        clear n0_ n1_ n2_ n3_ n4_ n5_
        refine start_ (n := 9) (S := fun w' => w'.cell? ⟨gb200, 0, none⟩ = some (.int .u32 t196) ∧ w'.cell? ⟨gb200, 1, none⟩ = some (.int .i64 t197)) (ds := []) #[false, false, false, false, false, false, false, false, false] (by kernel_rfl) rfl rfl ⟨(blk_cell BK200.out 0).trans rfl, (blk_cell BK200.out 1).trans rfl⟩ (fun hHeld => ?_); refine with_tabW sakialaw03_SpanTells.tab8 sakialaw03_SpanTells.bits8 (fun HT_ HW_ => ?_)
        generalize w58.drew = w59 at BK191 BK200 BK201 BK203 BK204 HB hHeld ⊢
        refine pure_ (i := 1) (N := some 57) (v := ?_) (a' := ?_) #[false, true, false, false, false, false, false, false, false] rfl rfl (any_of HT_.out (by kernel_rfl)) (fun _ _ _ h => h) (Or.inl ⟨by rfl, ?_⟩) ?_ ?_
        rotate_left
        · intro w'
          go_simp
          with_reducible rfl
        rotate_left
        · simp only [Act.put, List.setIfInBounds_toArray, List.set_cons_zero, List.set_cons_succ, i64_w, i32_w]
          rfl
        refine take_ (i := 0) (N := some 56) (v := ?_) (a' := ?_) #[true, true, false, false, false, false, false, false, false] rfl rfl (take_ofW HT_.out HW_.out (by kernel_rfl)) (fun _ _ _ h => h) (Or.inl ⟨by rfl, ?_⟩) hHeld ?_ ?_
        rotate_left
        · rintro w' ⟨s0, s1⟩
          go_simp
          with_reducible rfl
        rotate_left
        · simp only [Act.put, List.setIfInBounds_toArray, List.set_cons_zero, List.set_cons_succ, i64_w, i32_w]
          rfl
        refine one_ (i := 2) (N := some 58) #[true, true, true, false, false, false, false, false, false] rfl rfl (one_of HT_.out (by kernel_rfl)) (by decide) (fun K hK => ?_)
        refine goes_ Try.func26 (by kernel_rfl) rfl #[.int .u64 a2_1] (by rfl) rfl rfl (by (try simp only [List.map_toArray, List.map_cons, List.map_nil]); first | done | rfl | (simp only [List.length_drop, List.length_take]; rfl)) ?_
        with_reducible refine (wide_Of_uint32.calls a2_1 t205 _ A14.out).mono ?_
        rintro e w' ⟨rfl, ⟨nd, rfl⟩⟩
        refine ⟨_, rfl, ?_⟩
        refine hK.out _ _ ⟨(blk_cell BK200.out 0).trans rfl, (blk_cell BK200.out 1).trans rfl⟩ (fun hHeld => ?_)
        clear hK K
        refine norm_ (a' := ?_) ?_ ?_
        rotate_left
        · show Act.put _ (some 58) _ = _
          simp only [Act.put, List.setIfInBounds_toArray, List.set_cons_zero, List.set_cons_succ, i64_w, i32_w]
          rfl
        refine one_ (i := 3) (N := some 59) #[true, true, true, true, false, false, false, false, false] rfl rfl (one_of HT_.out (by kernel_rfl)) (by decide) (fun K hK => ?_)
        refine goes_ Try.func25 (by kernel_rfl) rfl #[.agg #[.int .u32 t196, .int .i64 t197], .int .u32 t205] (by rfl) rfl rfl (by (try simp only [List.map_toArray, List.map_cons, List.map_nil]); first | done | rfl | (simp only [List.length_drop, List.length_take]; rfl)) ?_
        with_reducible refine (span_Span_uint32_Place.calls t196 t197 t205 t206 t207 _ A15.out).mono ?_
        rintro e w60 ⟨rfl, hb⟩
        refine ⟨_, rfl, ?_⟩
        have n0_ := Aside0.mk (blk_below (g := gb191) (o := .cells #[.int .u64 a2_0, .int .u64 a2_1] 48 (0, 0)) (by (with_reducible repeat (first | refine blk_drewN ?_ _ | refine blk_drew ?_ | refine blk_alloc ?_ _)); exact BK191.out) hb)
        have n1_ := Aside0.mk (blk_below (g := gb200) (o := .cells #[.int .u32 t196, .int .i64 t197] 27 (0, 0)) (by (with_reducible repeat (first | refine blk_drewN ?_ _ | refine blk_drew ?_ | refine blk_alloc ?_ _)); exact BK200.out) hb)
        have n2_ := Aside0.mk (blk_below (g := gb201) (o := .cells #[.int .u64 t198, .int .i64 t199] 31 (0, 0)) (by (with_reducible repeat (first | refine blk_drewN ?_ _ | refine blk_drew ?_ | refine blk_alloc ?_ _)); exact BK201.out) hb)
        have n3_ := Aside0.mk (blk_below (g := gb203) (o := .cells #[.int .i64 32, .int .u64 t202, .int .i64 a0] 37 (0, 0)) (by (with_reducible repeat (first | refine blk_drewN ?_ _ | refine blk_drew ?_ | refine blk_alloc ?_ _)); exact BK203.out) hb)
        have n4_ := Aside0.mk (blk_below (g := gb204) (o := .cells #[.int .i64 64, .int .u64 a2_0, .int .i64 a0] 37 (0, 0)) (by (with_reducible repeat (first | refine blk_drewN ?_ _ | refine blk_drew ?_ | refine blk_alloc ?_ _)); exact BK204.out) hb)
        have n5_ := Aside0.mk (below_step (by repeat (first | (with_reducible first | exact HB.out | apply below_alloc | apply pw_below_drewN | apply below_drew1 | refine below_set ?_ GE191.out | refine below_set ?_ GE200.out | refine below_set ?_ GE201.out | refine below_set ?_ GE203.out | refine below_set ?_ GE204.out) | exact HB.out)) hb)
        clear BK191
        clear BK200
        clear BK201
        clear BK203
        clear BK204
        clear HB
        have BK191 := n0_
        have BK200 := n1_
        have BK201 := n2_
        have BK203 := n3_
        have BK204 := n4_
        have HB := n5_
        clear n0_ n1_ n2_ n3_ n4_ n5_
        (try clear hb)
        (try clear hb2)
        (try clear hk)
        (try clear hi)
        refine hK.out _ _ ⟨(blk_cell BK200.out 0).trans rfl, (blk_cell BK200.out 1).trans rfl⟩ (fun hHeld => ?_)
        clear hK K
        refine norm_ (a' := ?_) ?_ ?_
        rotate_left
        · show Act.put _ (some 59) _ = _
          simp only [Act.put, List.setIfInBounds_toArray, List.set_cons_zero, List.set_cons_succ, i64_w, i32_w]
          rfl
        refine pure_ (i := 4) (N := some 55) (v := ?_) (a' := ?_) #[true, true, true, true, true, false, false, false, false] rfl rfl (any_of HT_.out (by kernel_rfl)) (fun _ _ _ h => h) (Or.inl ⟨by rfl, ?_⟩) ?_ ?_
        rotate_left
        · intro w'
          go_simp
          with_reducible rfl
        rotate_left
        · simp only [Act.put, List.setIfInBounds_toArray, List.set_cons_zero, List.set_cons_succ, i64_w, i32_w]
          rfl
        refine pure_ (i := 5) (N := some 60) (v := ?_) (a' := ?_) #[true, true, true, true, true, true, false, false, false] rfl rfl (any_of HT_.out (by kernel_rfl)) (fun _ _ _ h => h) (Or.inl ⟨by rfl, ?_⟩) ?_ ?_
        rotate_left
        · intro w'
          go_simp
          with_reducible rfl
        rotate_left
        · simp only [Act.put, List.setIfInBounds_toArray, List.set_cons_zero, List.set_cons_succ, i64_w, i32_w]
          rfl
        refine pure_ (i := 6) (N := some 61) (v := ?_) (a' := ?_) #[true, true, true, true, true, true, true, false, false] rfl rfl (any_of HT_.out (by kernel_rfl)) (fun _ _ _ h => h) (Or.inl ⟨by rfl, ?_⟩) ?_ ?_
        rotate_left
        · intro w'
          go_simp
          with_reducible rfl
        rotate_left
        · simp only [Act.put, List.setIfInBounds_toArray, List.set_cons_zero, List.set_cons_succ, i64_w, i32_w]
          rfl
        refine pure_ (i := 7) (N := some 13) (v := ?_) (a' := ?_) #[true, true, true, true, true, true, true, true, false] rfl rfl (any_of HT_.out (by kernel_rfl)) (fun _ _ _ h => h) (Or.inl ⟨by rfl, ?_⟩) ?_ ?_
        rotate_left
        · intro w'
          go_simp
          with_reducible rfl
        rotate_left
        · simp only [Act.put, List.setIfInBounds_toArray, List.set_cons_zero, List.set_cons_succ, i64_w, i32_w]
          rfl
        refine pure_ (i := 8) (N := some 14) (v := ?_) (a' := ?_) #[true, true, true, true, true, true, true, true, true] rfl rfl (any_of HT_.out (by kernel_rfl)) (fun _ _ _ h => h) (Or.inl ⟨by rfl, ?_⟩) ?_ ?_
        rotate_left
        · intro w'
          go_simp
          with_reducible rfl
        rotate_left
        · simp only [Act.put, List.setIfInBounds_toArray, List.set_cons_zero, List.set_cons_succ, i64_w, i32_w]
          rfl
        refine done_ (done_of HT_.out (by kernel_rfl)) ?_
        have hcz61_0 : w60.cell? ⟨gb201, 0, none⟩ = some (.int .u64 t198) := (blk_cell BK201.out 0).trans rfl
        have hcz61_1 : w60.cell? ⟨gb201, 1, none⟩ = some (.int .i64 t199) := (blk_cell BK201.out 1).trans rfl
        have hfz61_0 := blk_frozen BK201.out 0
        have hfz61_1 := blk_frozen BK201.out 1
        try go_wp2_with (first | ((with_reducible refine gate_callee (f := 27) rfl ?_); refine goesL_ (some 65) rfl rfl Try.func27 (by kernel_rfl) rfl #[.agg #[.int .u64 t198, .int .i64 t199], .int .u64 a2_1] rfl (by (try simp only [List.map_toArray, List.map_cons, List.map_nil]); first | done | rfl | (simp only [List.length_drop, List.length_take]; rfl)) ?_; (with_reducible refine (span_Span_uint64_Place.calls t198 t199 a2_1 t208 t209 _ A16.out).mono ?_); rintro e w62 ⟨rfl, hb⟩; refine ⟨_, rfl, ?_⟩; have n0_ := Aside0.mk (blk_below (g := gb191) (o := .cells #[.int .u64 a2_0, .int .u64 a2_1] 48 (0, 0)) (by (with_reducible repeat (first | refine blk_drewN ?_ _ | refine blk_drew ?_ | refine blk_alloc ?_ _)); exact BK191.out) hb); have n1_ := Aside0.mk (blk_below (g := gb200) (o := .cells #[.int .u32 t196, .int .i64 t197] 27 (0, 0)) (by (with_reducible repeat (first | refine blk_drewN ?_ _ | refine blk_drew ?_ | refine blk_alloc ?_ _)); exact BK200.out) hb); have n2_ := Aside0.mk (blk_below (g := gb201) (o := .cells #[.int .u64 t198, .int .i64 t199] 31 (0, 0)) (by (with_reducible repeat (first | refine blk_drewN ?_ _ | refine blk_drew ?_ | refine blk_alloc ?_ _)); exact BK201.out) hb); have n3_ := Aside0.mk (blk_below (g := gb203) (o := .cells #[.int .i64 32, .int .u64 t202, .int .i64 a0] 37 (0, 0)) (by (with_reducible repeat (first | refine blk_drewN ?_ _ | refine blk_drew ?_ | refine blk_alloc ?_ _)); exact BK203.out) hb); have n4_ := Aside0.mk (blk_below (g := gb204) (o := .cells #[.int .i64 64, .int .u64 a2_0, .int .i64 a0] 37 (0, 0)) (by (with_reducible repeat (first | refine blk_drewN ?_ _ | refine blk_drew ?_ | refine blk_alloc ?_ _)); exact BK204.out) hb); have n5_ := Aside0.mk (below_step (by repeat (first | (with_reducible first | exact HB.out | apply below_alloc | apply pw_below_drewN | apply below_drew1 | refine below_set ?_ GE191.out | refine below_set ?_ GE200.out | refine below_set ?_ GE201.out | refine below_set ?_ GE203.out | refine below_set ?_ GE204.out) | exact HB.out)) hb); clear BK191; clear BK200; clear BK201; clear BK203; clear BK204; clear HB; have BK191 := n0_; have BK200 := n1_; have BK201 := n2_; have BK203 := n3_; have BK204 := n4_; have HB := n5_; clear n0_ n1_ n2_ n3_ n4_ n5_; (try clear hb); (try clear hb2); (try clear hk); (try clear hi)))
        have n0_ := Aside0.mk (blk_drew BK191.out)
        have n1_ := Aside0.mk (blk_drew BK200.out)
        have n2_ := Aside0.mk (blk_drew BK201.out)
        have n3_ := Aside0.mk (blk_drew BK203.out)
        have n4_ := Aside0.mk (blk_drew BK204.out)
        have n5_ := Aside0.mk (below_drew1 HB.out)
        clear BK191
        clear BK200
        clear BK201
        clear BK203
        clear BK204
        clear HB
        have BK191 := n0_
        have BK200 := n1_
        have BK201 := n2_
        have BK203 := n3_
        have BK204 := n4_
        have HB := n5_
        clear n0_ n1_ n2_ n3_ n4_ n5_
        refine start_ (n := 9) (S := fun w' => w'.cell? ⟨gb203, 0, none⟩ = some (.int .i64 32) ∧ w'.cell? ⟨gb203, 1, none⟩ = some (.int .u64 t202) ∧ w'.cell? ⟨gb203, 2, none⟩ = some (.int .i64 a0) ∧ w'.cell? ⟨gb204, 0, none⟩ = some (.int .i64 64) ∧ w'.cell? ⟨gb204, 1, none⟩ = some (.int .u64 a2_0) ∧ w'.cell? ⟨gb204, 2, none⟩ = some (.int .i64 a0)) (ds := []) #[false, false, false, false, false, false, false, false, false] (by kernel_rfl) rfl rfl ⟨(blk_cell BK203.out 0).trans rfl, (blk_cell BK203.out 1).trans rfl, (blk_cell BK203.out 2).trans rfl, (blk_cell BK204.out 0).trans rfl, (blk_cell BK204.out 1).trans rfl, (blk_cell BK204.out 2).trans rfl⟩ (fun hHeld => ?_); refine with_tabW sakialaw03_SpanTells.tab10 sakialaw03_SpanTells.bits10 (fun HT_ HW_ => ?_)
        generalize w62.drew = w63 at BK191 BK200 BK201 BK203 BK204 HB hHeld ⊢
        refine pure_ (i := 1) (N := some 69) (v := ?_) (a' := ?_) #[false, true, false, false, false, false, false, false, false] rfl rfl (any_of HT_.out (by kernel_rfl)) (fun _ _ _ h => h) (Or.inl ⟨by rfl, ?_⟩) ?_ ?_
        rotate_left
        · intro w'
          go_simp
          with_reducible rfl
        rotate_left
        · simp only [Act.put, List.setIfInBounds_toArray, List.set_cons_zero, List.set_cons_succ, i64_w, i32_w]
          rfl
        refine pure_ (i := 5) (N := some 73) (v := ?_) (a' := ?_) #[false, true, false, false, false, true, false, false, false] rfl rfl (any_of HT_.out (by kernel_rfl)) (fun _ _ _ h => h) (Or.inl ⟨by rfl, ?_⟩) ?_ ?_
        rotate_left
        · intro w'
          go_simp
          with_reducible rfl
        rotate_left
        · simp only [Act.put, List.setIfInBounds_toArray, List.set_cons_zero, List.set_cons_succ, i64_w, i32_w]
          rfl
        refine take_ (i := 0) (N := some 68) (v := ?_) (a' := ?_) #[true, true, false, false, false, true, false, false, false] rfl rfl (take_ofW HT_.out HW_.out (by kernel_rfl)) (fun _ _ _ h => h) (Or.inl ⟨by rfl, ?_⟩) hHeld ?_ ?_
        rotate_left
        · rintro w' ⟨s0, s1, s2, s3, s4, s5⟩
          go_simp
          with_reducible rfl
        rotate_left
        · simp only [Act.put, List.setIfInBounds_toArray, List.set_cons_zero, List.set_cons_succ, i64_w, i32_w]
          rfl
        refine take_ (i := 4) (N := some 72) (v := ?_) (a' := ?_) #[true, true, false, false, true, true, false, false, false] rfl rfl (take_ofW HT_.out HW_.out (by kernel_rfl)) (fun _ _ _ h => h) (Or.inl ⟨by rfl, ?_⟩) hHeld ?_ ?_
        rotate_left
        · rintro w' ⟨s0, s1, s2, s3, s4, s5⟩
          go_simp
          with_reducible rfl
        rotate_left
        · simp only [Act.put, List.setIfInBounds_toArray, List.set_cons_zero, List.set_cons_succ, i64_w, i32_w]
          rfl
        refine one_ (i := 2) (N := some 70) #[true, true, true, false, true, true, false, false, false] rfl rfl (one_of HT_.out (by kernel_rfl)) (by decide) (fun K hK => ?_)
        refine goes_ Try.func14 (by kernel_rfl) rfl #[.int .i64 32, .int .u64 a2_1] (by rfl) rfl rfl (by (try simp only [List.map_toArray, List.map_cons, List.map_nil]); first | done | rfl | (simp only [List.length_drop, List.length_take]; rfl)) ?_
        with_reducible refine (sakiaref01_Cut.calls 32 a2_1 t210 _ A17.out).mono ?_
        rintro e w' ⟨rfl, ⟨nd, rfl⟩⟩
        refine ⟨_, rfl, ?_⟩
        refine hK.out _ _ ⟨(blk_cell BK203.out 0).trans rfl, (blk_cell BK203.out 1).trans rfl, (blk_cell BK203.out 2).trans rfl, (blk_cell BK204.out 0).trans rfl, (blk_cell BK204.out 1).trans rfl, (blk_cell BK204.out 2).trans rfl⟩ (fun hHeld => ?_)
        clear hK K
        refine norm_ (a' := ?_) ?_ ?_
        rotate_left
        · show Act.put _ (some 70) _ = _
          simp only [Act.put, List.setIfInBounds_toArray, List.set_cons_zero, List.set_cons_succ, i64_w, i32_w]
          rfl
        refine one_ (i := 3) (N := some 71) #[true, true, true, true, true, true, false, false, false] rfl rfl (one_of HT_.out (by kernel_rfl)) (by decide) (fun K hK => ?_)
        refine goes_ Try.func28 (by kernel_rfl) rfl #[.agg #[.int .i64 32, .int .u64 t202, .int .i64 a0], .int .u64 t210] (by rfl) rfl rfl (by (try simp only [List.map_toArray, List.map_cons, List.map_nil]); first | done | rfl | (simp only [List.length_drop, List.length_take]; rfl)) ?_
        with_reducible refine (sakiaref03_Place.calls k 32 t202 a0 t210 t211 _ A18.out).mono ?_
        rintro e w64 ⟨rfl, hb⟩
        refine ⟨_, rfl, ?_⟩
        have n0_ := Aside0.mk (blk_below (g := gb191) (o := .cells #[.int .u64 a2_0, .int .u64 a2_1] 48 (0, 0)) (by (with_reducible repeat (first | refine blk_drewN ?_ _ | refine blk_drew ?_ | refine blk_alloc ?_ _)); exact BK191.out) hb)
        have n1_ := Aside0.mk (blk_below (g := gb200) (o := .cells #[.int .u32 t196, .int .i64 t197] 27 (0, 0)) (by (with_reducible repeat (first | refine blk_drewN ?_ _ | refine blk_drew ?_ | refine blk_alloc ?_ _)); exact BK200.out) hb)
        have n2_ := Aside0.mk (blk_below (g := gb201) (o := .cells #[.int .u64 t198, .int .i64 t199] 31 (0, 0)) (by (with_reducible repeat (first | refine blk_drewN ?_ _ | refine blk_drew ?_ | refine blk_alloc ?_ _)); exact BK201.out) hb)
        have n3_ := Aside0.mk (blk_below (g := gb203) (o := .cells #[.int .i64 32, .int .u64 t202, .int .i64 a0] 37 (0, 0)) (by (with_reducible repeat (first | refine blk_drewN ?_ _ | refine blk_drew ?_ | refine blk_alloc ?_ _)); exact BK203.out) hb)
        have n4_ := Aside0.mk (blk_below (g := gb204) (o := .cells #[.int .i64 64, .int .u64 a2_0, .int .i64 a0] 37 (0, 0)) (by (with_reducible repeat (first | refine blk_drewN ?_ _ | refine blk_drew ?_ | refine blk_alloc ?_ _)); exact BK204.out) hb)
        have n5_ := Aside0.mk (below_step (by repeat (first | (with_reducible first | exact HB.out | apply below_alloc | apply pw_below_drewN | apply below_drew1 | refine below_set ?_ GE191.out | refine below_set ?_ GE200.out | refine below_set ?_ GE201.out | refine below_set ?_ GE203.out | refine below_set ?_ GE204.out) | exact HB.out)) hb)
        clear BK191
        clear BK200
        clear BK201
        clear BK203
        clear BK204
        clear HB
        have BK191 := n0_
        have BK200 := n1_
        have BK201 := n2_
        have BK203 := n3_
        have BK204 := n4_
        have HB := n5_
        clear n0_ n1_ n2_ n3_ n4_ n5_
        (try clear hb)
        (try clear hb2)
        (try clear hk)
        (try clear hi)
        refine hK.out _ _ ⟨(blk_cell BK203.out 0).trans rfl, (blk_cell BK203.out 1).trans rfl, (blk_cell BK203.out 2).trans rfl, (blk_cell BK204.out 0).trans rfl, (blk_cell BK204.out 1).trans rfl, (blk_cell BK204.out 2).trans rfl⟩ (fun hHeld => ?_)
        clear hK K
        refine norm_ (a' := ?_) ?_ ?_
        rotate_left
        · show Act.put _ (some 71) _ = _
          simp only [Act.put, List.setIfInBounds_toArray, List.set_cons_zero, List.set_cons_succ, i64_w, i32_w]
          rfl
        refine one_ (i := 6) (N := some 74) #[true, true, true, true, true, true, true, false, false] rfl rfl (one_of HT_.out (by kernel_rfl)) (by decide) (fun K hK => ?_)
        refine goes_ Try.func28 (by kernel_rfl) rfl #[.agg #[.int .i64 64, .int .u64 a2_0, .int .i64 a0], .int .u64 a2_1] (by rfl) rfl rfl (by (try simp only [List.map_toArray, List.map_cons, List.map_nil]); first | done | rfl | (simp only [List.length_drop, List.length_take]; rfl)) ?_
        with_reducible refine (sakiaref03_Place.calls k 64 a2_0 a0 a2_1 t212 _ A19.out).mono ?_
        rintro e w65 ⟨rfl, hb⟩
        refine ⟨_, rfl, ?_⟩
        have n0_ := Aside0.mk (blk_below (g := gb191) (o := .cells #[.int .u64 a2_0, .int .u64 a2_1] 48 (0, 0)) (by (with_reducible repeat (first | refine blk_drewN ?_ _ | refine blk_drew ?_ | refine blk_alloc ?_ _)); exact BK191.out) hb)
        have n1_ := Aside0.mk (blk_below (g := gb200) (o := .cells #[.int .u32 t196, .int .i64 t197] 27 (0, 0)) (by (with_reducible repeat (first | refine blk_drewN ?_ _ | refine blk_drew ?_ | refine blk_alloc ?_ _)); exact BK200.out) hb)
        have n2_ := Aside0.mk (blk_below (g := gb201) (o := .cells #[.int .u64 t198, .int .i64 t199] 31 (0, 0)) (by (with_reducible repeat (first | refine blk_drewN ?_ _ | refine blk_drew ?_ | refine blk_alloc ?_ _)); exact BK201.out) hb)
        have n3_ := Aside0.mk (blk_below (g := gb203) (o := .cells #[.int .i64 32, .int .u64 t202, .int .i64 a0] 37 (0, 0)) (by (with_reducible repeat (first | refine blk_drewN ?_ _ | refine blk_drew ?_ | refine blk_alloc ?_ _)); exact BK203.out) hb)
        have n4_ := Aside0.mk (blk_below (g := gb204) (o := .cells #[.int .i64 64, .int .u64 a2_0, .int .i64 a0] 37 (0, 0)) (by (with_reducible repeat (first | refine blk_drewN ?_ _ | refine blk_drew ?_ | refine blk_alloc ?_ _)); exact BK204.out) hb)
        have n5_ := Aside0.mk (below_step (by repeat (first | (with_reducible first | exact HB.out | apply below_alloc | apply pw_below_drewN | apply below_drew1 | refine below_set ?_ GE191.out | refine below_set ?_ GE200.out | refine below_set ?_ GE201.out | refine below_set ?_ GE203.out | refine below_set ?_ GE204.out) | exact HB.out)) hb)
        clear BK191
        clear BK200
        clear BK201
        clear BK203
        clear BK204
        clear HB
        have BK191 := n0_
        have BK200 := n1_
        have BK201 := n2_
        have BK203 := n3_
        have BK204 := n4_
        have HB := n5_
        clear n0_ n1_ n2_ n3_ n4_ n5_
        (try clear hb)
        (try clear hb2)
        (try clear hk)
        (try clear hi)
        refine hK.out _ _ ⟨(blk_cell BK203.out 0).trans rfl, (blk_cell BK203.out 1).trans rfl, (blk_cell BK203.out 2).trans rfl, (blk_cell BK204.out 0).trans rfl, (blk_cell BK204.out 1).trans rfl, (blk_cell BK204.out 2).trans rfl⟩ (fun hHeld => ?_)
        clear hK K
        refine norm_ (a' := ?_) ?_ ?_
        rotate_left
        · show Act.put _ (some 74) _ = _
          simp only [Act.put, List.setIfInBounds_toArray, List.set_cons_zero, List.set_cons_succ, i64_w, i32_w]
          rfl
        refine pure_ (i := 7) (N := some 17) (v := ?_) (a' := ?_) #[true, true, true, true, true, true, true, true, false] rfl rfl (any_of HT_.out (by kernel_rfl)) (fun _ _ _ h => h) (Or.inl ⟨by rfl, ?_⟩) ?_ ?_
        rotate_left
        · intro w'
          go_simp
          with_reducible rfl
        rotate_left
        · simp only [Act.put, List.setIfInBounds_toArray, List.set_cons_zero, List.set_cons_succ, i64_w, i32_w]
          rfl
        refine pure_ (i := 8) (N := some 18) (v := ?_) (a' := ?_) #[true, true, true, true, true, true, true, true, true] rfl rfl (any_of HT_.out (by kernel_rfl)) (fun _ _ _ h => h) (Or.inl ⟨by rfl, ?_⟩) ?_ ?_
        rotate_left
        · intro w'
          go_simp
          with_reducible rfl
        rotate_left
        · simp only [Act.put, List.setIfInBounds_toArray, List.set_cons_zero, List.set_cons_succ, i64_w, i32_w]
          rfl
        refine done_ (done_of HT_.out (by kernel_rfl)) ?_
        try go_wp2
        have n0_ := Aside0.mk (blk_drew BK191.out)
        have n1_ := Aside0.mk (blk_drew BK200.out)
        have n2_ := Aside0.mk (blk_drew BK201.out)
        have n3_ := Aside0.mk (blk_drew BK203.out)
        have n4_ := Aside0.mk (blk_drew BK204.out)
        have n5_ := Aside0.mk (below_drew1 HB.out)
        clear BK191
        clear BK200
        clear BK201
        clear BK203
        clear BK204
        clear HB
        have BK191 := n0_
        have BK200 := n1_
        have BK201 := n2_
        have BK203 := n3_
        have BK204 := n4_
        have HB := n5_
        clear n0_ n1_ n2_ n3_ n4_ n5_
        refine start_ (n := 42) (S := fun w' => w'.cell? ⟨gb200, 0, none⟩ = some (.int .u32 t196) ∧ w'.cell? ⟨gb200, 1, none⟩ = some (.int .i64 t197) ∧ w'.cell? ⟨gb201, 0, none⟩ = some (.int .u64 t198) ∧ w'.cell? ⟨gb201, 1, none⟩ = some (.int .i64 t199)) (ds := []) #[false, false, false, false, false, false, false, false, false, false, false, false, false, false, false, false, false, false, false, false, false, false, false, false, false, false, false, false, false, false, false, false, false, false, false, false, false, false, false, false, false, false] (by kernel_rfl) rfl rfl ⟨(blk_cell BK200.out 0).trans rfl, (blk_cell BK200.out 1).trans rfl, (blk_cell BK201.out 0).trans rfl, (blk_cell BK201.out 1).trans rfl⟩ (fun hHeld => ?_); refine with_tabW sakialaw03_SpanTells.tab11 sakialaw03_SpanTells.bits11 (fun HT_ HW_ => ?_)
        generalize w65.drew = w66 at BK191 BK200 BK201 BK203 BK204 HB hHeld ⊢
        refine take_ (i := 0) (N := some 75) (v := ?_) (a' := ?_) #[true, false, false, false, false, false, false, false, false, false, false, false, false, false, false, false, false, false, false, false, false, false, false, false, false, false, false, false, false, false, false, false, false, false, false, false, false, false, false, false, false, false] rfl rfl (take_ofW HT_.out HW_.out (by kernel_rfl)) (fun _ _ _ h => h) (Or.inl ⟨by rfl, ?_⟩) hHeld ?_ ?_
        rotate_left
        · rintro w' ⟨s0, s1, s2, s3⟩
          go_simp
          with_reducible rfl
        rotate_left
        · simp only [Act.put, List.setIfInBounds_toArray, List.set_cons_zero, List.set_cons_succ, i64_w, i32_w]
          rfl
        refine one_ (i := 1) (N := some 76) #[true, true, false, false, false, false, false, false, false, false, false, false, false, false, false, false, false, false, false, false, false, false, false, false, false, false, false, false, false, false, false, false, false, false, false, false, false, false, false, false, false, false] rfl rfl (one_of HT_.out (by kernel_rfl)) (by decide) (fun K hK => ?_)
        refine goes_ Try.func29 (by kernel_rfl) rfl #[.agg #[.int .u32 t196, .int .i64 t197]] (by rfl) rfl rfl (by (try simp only [List.map_toArray, List.map_cons, List.map_nil]); first | done | rfl | (simp only [List.length_drop, List.length_take]; rfl)) ?_
        with_reducible refine (span_Span_uint32_Right.calls t196 t197 true _ A20.out).mono ?_
        rintro e w67 ⟨rfl, hb⟩
        refine ⟨_, rfl, ?_⟩
        have n0_ := Aside0.mk (blk_below (g := gb191) (o := .cells #[.int .u64 a2_0, .int .u64 a2_1] 48 (0, 0)) (by (with_reducible repeat (first | refine blk_drewN ?_ _ | refine blk_drew ?_ | refine blk_alloc ?_ _)); exact BK191.out) hb)
        have n1_ := Aside0.mk (blk_below (g := gb200) (o := .cells #[.int .u32 t196, .int .i64 t197] 27 (0, 0)) (by (with_reducible repeat (first | refine blk_drewN ?_ _ | refine blk_drew ?_ | refine blk_alloc ?_ _)); exact BK200.out) hb)
        have n2_ := Aside0.mk (blk_below (g := gb201) (o := .cells #[.int .u64 t198, .int .i64 t199] 31 (0, 0)) (by (with_reducible repeat (first | refine blk_drewN ?_ _ | refine blk_drew ?_ | refine blk_alloc ?_ _)); exact BK201.out) hb)
        have n3_ := Aside0.mk (blk_below (g := gb203) (o := .cells #[.int .i64 32, .int .u64 t202, .int .i64 a0] 37 (0, 0)) (by (with_reducible repeat (first | refine blk_drewN ?_ _ | refine blk_drew ?_ | refine blk_alloc ?_ _)); exact BK203.out) hb)
        have n4_ := Aside0.mk (blk_below (g := gb204) (o := .cells #[.int .i64 64, .int .u64 a2_0, .int .i64 a0] 37 (0, 0)) (by (with_reducible repeat (first | refine blk_drewN ?_ _ | refine blk_drew ?_ | refine blk_alloc ?_ _)); exact BK204.out) hb)
        have n5_ := Aside0.mk (below_step (by repeat (first | (with_reducible first | exact HB.out | apply below_alloc | apply pw_below_drewN | apply below_drew1 | refine below_set ?_ GE191.out | refine below_set ?_ GE200.out | refine below_set ?_ GE201.out | refine below_set ?_ GE203.out | refine below_set ?_ GE204.out) | exact HB.out)) hb)
        clear BK191
        clear BK200
        clear BK201
        clear BK203
        clear BK204
        clear HB
        have BK191 := n0_
        have BK200 := n1_
        have BK201 := n2_
        have BK203 := n3_
        have BK204 := n4_
        have HB := n5_
        clear n0_ n1_ n2_ n3_ n4_ n5_
        (try clear hb)
        (try clear hb2)
        (try clear hk)
        (try clear hi)
        refine hK.out _ _ ⟨(blk_cell BK200.out 0).trans rfl, (blk_cell BK200.out 1).trans rfl, (blk_cell BK201.out 0).trans rfl, (blk_cell BK201.out 1).trans rfl⟩ (fun hHeld => ?_)
        clear hK K
        refine norm_ (a' := ?_) ?_ ?_
        rotate_left
        · show Act.put _ (some 76) _ = _
          simp only [Act.put, List.setIfInBounds_toArray, List.set_cons_zero, List.set_cons_succ, i64_w, i32_w]
          rfl
        refine pure_ (i := 2) (N := some 77) (v := ?_) (a' := ?_) #[true, true, true, false, false, false, false, false, false, false, false, false, false, false, false, false, false, false, false, false, false, false, false, false, false, false, false, false, false, false, false, false, false, false, false, false, false, false, false, false, false, false] rfl rfl (any_of HT_.out (by kernel_rfl)) (fun _ _ _ h => h) (Or.inl ⟨by rfl, ?_⟩) ?_ ?_
        rotate_left
        · intro w'
          go_simp
          with_reducible rfl
        rotate_left
        · simp only [Act.put, List.setIfInBounds_toArray, List.set_cons_zero, List.set_cons_succ, i64_w, i32_w]
          rfl
        refine pure_ (i := 3) (N := some 78) (v := ?_) (a' := ?_) #[true, true, true, true, false, false, false, false, false, false, false, false, false, false, false, false, false, false, false, false, false, false, false, false, false, false, false, false, false, false, false, false, false, false, false, false, false, false, false, false, false, false] rfl rfl (any_of HT_.out (by kernel_rfl)) (fun _ _ _ h => h) (Or.inl ⟨by rfl, ?_⟩) ?_ ?_
        rotate_left
        · intro w'
          go_simp
          with_reducible rfl
        rotate_left
        · simp only [Act.put, List.setIfInBounds_toArray, List.set_cons_zero, List.set_cons_succ, i64_w, i32_w]
          rfl
        refine pure_ (i := 4) (N := some 79) (v := ?_) (a' := ?_) #[true, true, true, true, true, false, false, false, false, false, false, false, false, false, false, false, false, false, false, false, false, false, false, false, false, false, false, false, false, false, false, false, false, false, false, false, false, false, false, false, false, false] rfl rfl (any_of HT_.out (by kernel_rfl)) (fun _ _ _ h => h) (Or.inl ⟨by rfl, ?_⟩) ?_ ?_
        rotate_left
        · intro w'
          go_simp
          with_reducible rfl
        rotate_left
        · simp only [Act.put, List.setIfInBounds_toArray, List.set_cons_zero, List.set_cons_succ, i64_w, i32_w]
          rfl
        refine pure_ (i := 5) (N := some 80) (v := ?_) (a' := ?_) #[true, true, true, true, true, true, false, false, false, false, false, false, false, false, false, false, false, false, false, false, false, false, false, false, false, false, false, false, false, false, false, false, false, false, false, false, false, false, false, false, false, false] rfl rfl (any_of HT_.out (by kernel_rfl)) (fun _ _ _ h => h) (Or.inl ⟨by rfl, ?_⟩) ?_ ?_
        rotate_left
        · intro w'
          go_simp
          with_reducible rfl
        rotate_left
        · simp only [Act.put, List.setIfInBounds_toArray, List.set_cons_zero, List.set_cons_succ, i64_w, i32_w]
          rfl
        refine pure_ (i := 6) (N := some 81) (v := ?_) (a' := ?_) #[true, true, true, true, true, true, true, false, false, false, false, false, false, false, false, false, false, false, false, false, false, false, false, false, false, false, false, false, false, false, false, false, false, false, false, false, false, false, false, false, false, false] rfl rfl (any_of HT_.out (by kernel_rfl)) (fun _ _ _ h => h) (Or.inl ⟨by rfl, ?_⟩) ?_ ?_
        rotate_left
        · intro w'
          go_simp
          with_reducible rfl
        rotate_left
        · simp only [Act.put, List.setIfInBounds_toArray, List.set_cons_zero, List.set_cons_succ, i64_w, i32_w]
          rfl
        refine pure_ (i := 7) (N := some 82) (v := ?_) (a' := ?_) #[true, true, true, true, true, true, true, true, false, false, false, false, false, false, false, false, false, false, false, false, false, false, false, false, false, false, false, false, false, false, false, false, false, false, false, false, false, false, false, false, false, false] rfl rfl (any_of HT_.out (by kernel_rfl)) (fun _ _ _ h => h) (Or.inl ⟨by rfl, ?_⟩) ?_ ?_
        rotate_left
        · intro w'
          go_simp
          with_reducible rfl
        rotate_left
        · simp only [Act.put, List.setIfInBounds_toArray, List.set_cons_zero, List.set_cons_succ, i64_w, i32_w]
          rfl
        refine pure_ (i := 8) (N := some 83) (v := ?_) (a' := ?_) #[true, true, true, true, true, true, true, true, true, false, false, false, false, false, false, false, false, false, false, false, false, false, false, false, false, false, false, false, false, false, false, false, false, false, false, false, false, false, false, false, false, false] rfl rfl (any_of HT_.out (by kernel_rfl)) (fun _ _ _ h => h) (Or.inl ⟨by rfl, ?_⟩) ?_ ?_
        rotate_left
        · intro w'
          go_simp
          with_reducible rfl
        rotate_left
        · simp only [Act.put, List.setIfInBounds_toArray, List.set_cons_zero, List.set_cons_succ, i64_w, i32_w]
          rfl
        refine pure_ (i := 9) (N := some 84) (v := ?_) (a' := ?_) #[true, true, true, true, true, true, true, true, true, true, false, false, false, false, false, false, false, false, false, false, false, false, false, false, false, false, false, false, false, false, false, false, false, false, false, false, false, false, false, false, false, false] rfl rfl (any_of HT_.out (by kernel_rfl)) (fun _ _ _ h => h) (Or.inl ⟨by rfl, ?_⟩) ?_ ?_
        rotate_left
        · intro w'
          go_simp
          with_reducible rfl
        rotate_left
        · simp only [Act.put, List.setIfInBounds_toArray, List.set_cons_zero, List.set_cons_succ, i64_w, i32_w]
          rfl
        refine pure_ (i := 10) (N := some 85) (v := ?_) (a' := ?_) #[true, true, true, true, true, true, true, true, true, true, true, false, false, false, false, false, false, false, false, false, false, false, false, false, false, false, false, false, false, false, false, false, false, false, false, false, false, false, false, false, false, false] rfl rfl (any_of HT_.out (by kernel_rfl)) (fun _ _ _ h => h) (Or.inl ⟨by rfl, ?_⟩) ?_ ?_
        rotate_left
        · intro w'
          go_simp
          with_reducible rfl
        rotate_left
        · simp only [Act.put, List.setIfInBounds_toArray, List.set_cons_zero, List.set_cons_succ, i64_w, i32_w]
          rfl
        refine pure_ (i := 11) (N := some 86) (v := ?_) (a' := ?_) #[true, true, true, true, true, true, true, true, true, true, true, true, false, false, false, false, false, false, false, false, false, false, false, false, false, false, false, false, false, false, false, false, false, false, false, false, false, false, false, false, false, false] rfl rfl (any_of HT_.out (by kernel_rfl)) (fun _ _ _ h => h) (Or.inl ⟨by rfl, ?_⟩) ?_ ?_
        rotate_left
        · intro w'
          go_simp
          with_reducible rfl
        rotate_left
        · simp only [Act.put, List.setIfInBounds_toArray, List.set_cons_zero, List.set_cons_succ, i64_w, i32_w]
          rfl
        refine pure_ (i := 12) (N := some 87) (v := ?_) (a' := ?_) #[true, true, true, true, true, true, true, true, true, true, true, true, true, false, false, false, false, false, false, false, false, false, false, false, false, false, false, false, false, false, false, false, false, false, false, false, false, false, false, false, false, false] rfl rfl (any_of HT_.out (by kernel_rfl)) (fun _ _ _ h => h) (Or.inl ⟨by rfl, ?_⟩) ?_ ?_
        rotate_left
        · intro w'
          go_simp
          with_reducible rfl
        rotate_left
        · simp only [Act.put, List.setIfInBounds_toArray, List.set_cons_zero, List.set_cons_succ, i64_w, i32_w]
          rfl
        refine pure_ (i := 13) (N := some 88) (v := ?_) (a' := ?_) #[true, true, true, true, true, true, true, true, true, true, true, true, true, true, false, false, false, false, false, false, false, false, false, false, false, false, false, false, false, false, false, false, false, false, false, false, false, false, false, false, false, false] rfl rfl (any_of HT_.out (by kernel_rfl)) (fun _ _ _ h => h) (Or.inl ⟨by rfl, ?_⟩) ?_ ?_
        rotate_left
        · intro w'
          go_simp
          with_reducible rfl
        rotate_left
        · simp only [Act.put, List.setIfInBounds_toArray, List.set_cons_zero, List.set_cons_succ, i64_w, i32_w]
          rfl
        refine pure_ (i := 14) (N := some 89) (v := ?_) (a' := ?_) #[true, true, true, true, true, true, true, true, true, true, true, true, true, true, true, false, false, false, false, false, false, false, false, false, false, false, false, false, false, false, false, false, false, false, false, false, false, false, false, false, false, false] rfl rfl (any_of HT_.out (by kernel_rfl)) (fun _ _ _ h => h) (Or.inl ⟨by rfl, ?_⟩) ?_ ?_
        rotate_left
        · intro w'
          go_simp
          with_reducible rfl
        rotate_left
        · simp only [Act.put, List.setIfInBounds_toArray, List.set_cons_zero, List.set_cons_succ, i64_w, i32_w]
          rfl
        refine pure_ (i := 15) (N := some 90) (v := ?_) (a' := ?_) #[true, true, true, true, true, true, true, true, true, true, true, true, true, true, true, true, false, false, false, false, false, false, false, false, false, false, false, false, false, false, false, false, false, false, false, false, false, false, false, false, false, false] rfl rfl (any_of HT_.out (by kernel_rfl)) (fun _ _ _ h => h) (Or.inl ⟨by rfl, ?_⟩) ?_ ?_
        rotate_left
        · intro w'
          go_simp
          with_reducible rfl
        rotate_left
        · simp only [Act.put, List.setIfInBounds_toArray, List.set_cons_zero, List.set_cons_succ, i64_w, i32_w]
          rfl
        refine pure_ (i := 16) (N := some 91) (v := ?_) (a' := ?_) #[true, true, true, true, true, true, true, true, true, true, true, true, true, true, true, true, true, false, false, false, false, false, false, false, false, false, false, false, false, false, false, false, false, false, false, false, false, false, false, false, false, false] rfl rfl (any_of HT_.out (by kernel_rfl)) (fun _ _ _ h => h) (Or.inl ⟨by rfl, ?_⟩) ?_ ?_
        rotate_left
        · intro w'
          go_simp
          with_reducible rfl
        rotate_left
        · simp only [Act.put, List.setIfInBounds_toArray, List.set_cons_zero, List.set_cons_succ, i64_w, i32_w]
          rfl
        refine pure_ (i := 17) (N := some 92) (v := ?_) (a' := ?_) #[true, true, true, true, true, true, true, true, true, true, true, true, true, true, true, true, true, true, false, false, false, false, false, false, false, false, false, false, false, false, false, false, false, false, false, false, false, false, false, false, false, false] rfl rfl (any_of HT_.out (by kernel_rfl)) (fun _ _ _ h => h) (Or.inl ⟨by rfl, ?_⟩) ?_ ?_
        rotate_left
        · intro w'
          go_simp
          with_reducible rfl
        rotate_left
        · simp only [Act.put, List.setIfInBounds_toArray, List.set_cons_zero, List.set_cons_succ, i64_w, i32_w]
          rfl
        refine pure_ (i := 18) (N := some 93) (v := ?_) (a' := ?_) #[true, true, true, true, true, true, true, true, true, true, true, true, true, true, true, true, true, true, true, false, false, false, false, false, false, false, false, false, false, false, false, false, false, false, false, false, false, false, false, false, false, false] rfl rfl (any_of HT_.out (by kernel_rfl)) (fun _ _ _ h => h) (Or.inl ⟨by rfl, ?_⟩) ?_ ?_
        rotate_left
        · intro w'
          go_simp
          with_reducible rfl
        rotate_left
        · simp only [Act.put, List.setIfInBounds_toArray, List.set_cons_zero, List.set_cons_succ, i64_w, i32_w]
          rfl
        refine pure_ (i := 19) (N := some 94) (v := ?_) (a' := ?_) #[true, true, true, true, true, true, true, true, true, true, true, true, true, true, true, true, true, true, true, true, false, false, false, false, false, false, false, false, false, false, false, false, false, false, false, false, false, false, false, false, false, false] rfl rfl (any_of HT_.out (by kernel_rfl)) (fun _ _ _ h => h) (Or.inl ⟨by rfl, ?_⟩) ?_ ?_
        rotate_left
        · intro w'
          go_simp
          with_reducible rfl
        rotate_left
        · simp only [Act.put, List.setIfInBounds_toArray, List.set_cons_zero, List.set_cons_succ, i64_w, i32_w]
          rfl
        refine pure_ (i := 20) (N := some 95) (v := ?_) (a' := ?_) #[true, true, true, true, true, true, true, true, true, true, true, true, true, true, true, true, true, true, true, true, true, false, false, false, false, false, false, false, false, false, false, false, false, false, false, false, false, false, false, false, false, false] rfl rfl (any_of HT_.out (by kernel_rfl)) (fun _ _ _ h => h) (Or.inl ⟨by rfl, ?_⟩) ?_ ?_
        rotate_left
        · intro w'
          go_simp
          with_reducible rfl
        rotate_left
        · simp only [Act.put, List.setIfInBounds_toArray, List.set_cons_zero, List.set_cons_succ, i64_w, i32_w]
          rfl
        refine pure_ (i := 21) (N := some 96) (v := ?_) (a' := ?_) #[true, true, true, true, true, true, true, true, true, true, true, true, true, true, true, true, true, true, true, true, true, true, false, false, false, false, false, false, false, false, false, false, false, false, false, false, false, false, false, false, false, false] rfl rfl (any_of HT_.out (by kernel_rfl)) (fun _ _ _ h => h) (Or.inl ⟨by rfl, ?_⟩) ?_ ?_
        rotate_left
        · intro w'
          go_simp
          with_reducible rfl
        rotate_left
        · simp only [Act.put, List.setIfInBounds_toArray, List.set_cons_zero, List.set_cons_succ, i64_w, i32_w]
          rfl
        refine pure_ (i := 22) (N := some 97) (v := ?_) (a' := ?_) #[true, true, true, true, true, true, true, true, true, true, true, true, true, true, true, true, true, true, true, true, true, true, true, false, false, false, false, false, false, false, false, false, false, false, false, false, false, false, false, false, false, false] rfl rfl (any_of HT_.out (by kernel_rfl)) (fun _ _ _ h => h) (Or.inl ⟨by rfl, ?_⟩) ?_ ?_
        rotate_left
        · intro w'
          go_simp
          with_reducible rfl
        rotate_left
        · simp only [Act.put, List.setIfInBounds_toArray, List.set_cons_zero, List.set_cons_succ, i64_w, i32_w]
          rfl
        refine pure_ (i := 23) (N := some 98) (v := ?_) (a' := ?_) #[true, true, true, true, true, true, true, true, true, true, true, true, true, true, true, true, true, true, true, true, true, true, true, true, false, false, false, false, false, false, false, false, false, false, false, false, false, false, false, false, false, false] rfl rfl (any_of HT_.out (by kernel_rfl)) (fun _ _ _ h => h) (Or.inl ⟨by rfl, ?_⟩) ?_ ?_
        rotate_left
        · intro w'
          go_simp
          with_reducible rfl
        rotate_left
        · simp only [Act.put, List.setIfInBounds_toArray, List.set_cons_zero, List.set_cons_succ, i64_w, i32_w]
          rfl
        refine pure_ (i := 24) (N := some 99) (v := ?_) (a' := ?_) #[true, true, true, true, true, true, true, true, true, true, true, true, true, true, true, true, true, true, true, true, true, true, true, true, true, false, false, false, false, false, false, false, false, false, false, false, false, false, false, false, false, false] rfl rfl (any_of HT_.out (by kernel_rfl)) (fun _ _ _ h => h) (Or.inl ⟨by rfl, ?_⟩) ?_ ?_
        rotate_left
        · intro w'
          go_simp
          with_reducible rfl
        rotate_left
        · simp only [Act.put, List.setIfInBounds_toArray, List.set_cons_zero, List.set_cons_succ, i64_w, i32_w]
          rfl
        refine pure_ (i := 25) (N := some 100) (v := ?_) (a' := ?_) #[true, true, true, true, true, true, true, true, true, true, true, true, true, true, true, true, true, true, true, true, true, true, true, true, true, true, false, false, false, false, false, false, false, false, false, false, false, false, false, false, false, false] rfl rfl (any_of HT_.out (by kernel_rfl)) (fun _ _ _ h => h) (Or.inl ⟨by rfl, ?_⟩) ?_ ?_
        rotate_left
        · intro w'
          go_simp
          with_reducible rfl
        rotate_left
        · simp only [Act.put, List.setIfInBounds_toArray, List.set_cons_zero, List.set_cons_succ, i64_w, i32_w]
          rfl
        refine pure_ (i := 26) (N := some 101) (v := ?_) (a' := ?_) #[true, true, true, true, true, true, true, true, true, true, true, true, true, true, true, true, true, true, true, true, true, true, true, true, true, true, true, false, false, false, false, false, false, false, false, false, false, false, false, false, false, false] rfl rfl (any_of HT_.out (by kernel_rfl)) (fun _ _ _ h => h) (Or.inl ⟨by rfl, ?_⟩) ?_ ?_
        rotate_left
        · intro w'
          go_simp
          with_reducible rfl
        rotate_left
        · simp only [Act.put, List.setIfInBounds_toArray, List.set_cons_zero, List.set_cons_succ, i64_w, i32_w]
          rfl
        refine pure_ (i := 27) (N := some 102) (v := ?_) (a' := ?_) #[true, true, true, true, true, true, true, true, true, true, true, true, true, true, true, true, true, true, true, true, true, true, true, true, true, true, true, true, false, false, false, false, false, false, false, false, false, false, false, false, false, false] rfl rfl (any_of HT_.out (by kernel_rfl)) (fun _ _ _ h => h) (Or.inl ⟨by rfl, ?_⟩) ?_ ?_
        rotate_left
        · intro w'
          go_simp
          with_reducible rfl
        rotate_left
        · simp only [Act.put, List.setIfInBounds_toArray, List.set_cons_zero, List.set_cons_succ, i64_w, i32_w]
          rfl
        refine pure_ (i := 29) (N := some 104) (v := ?_) (a' := ?_) #[true, true, true, true, true, true, true, true, true, true, true, true, true, true, true, true, true, true, true, true, true, true, true, true, true, true, true, true, false, true, false, false, false, false, false, false, false, false, false, false, false, false] rfl rfl (any_of HT_.out (by kernel_rfl)) (fun _ _ _ h => h) (Or.inl ⟨by rfl, ?_⟩) ?_ ?_
        rotate_left
        · intro w'
          go_simp
          with_reducible rfl
        rotate_left
        · simp only [Act.put, List.setIfInBounds_toArray, List.set_cons_zero, List.set_cons_succ, i64_w, i32_w]
          rfl
        refine pure_ (i := 32) (N := some 107) (v := ?_) (a' := ?_) #[true, true, true, true, true, true, true, true, true, true, true, true, true, true, true, true, true, true, true, true, true, true, true, true, true, true, true, true, false, true, false, false, true, false, false, false, false, false, false, false, false, false] rfl rfl (any_of HT_.out (by kernel_rfl)) (fun _ _ _ h => h) (Or.inl ⟨by rfl, ?_⟩) ?_ ?_
        rotate_left
        · intro w'
          go_simp
          with_reducible rfl
        rotate_left
        · simp only [Act.put, List.setIfInBounds_toArray, List.set_cons_zero, List.set_cons_succ, i64_w, i32_w]
          rfl
        refine take_ (i := 28) (N := some 103) (v := ?_) (a' := ?_) #[true, true, true, true, true, true, true, true, true, true, true, true, true, true, true, true, true, true, true, true, true, true, true, true, true, true, true, true, true, true, false, false, true, false, false, false, false, false, false, false, false, false] rfl rfl (take_ofW HT_.out HW_.out (by kernel_rfl)) (fun _ _ _ h => h) (Or.inl ⟨by rfl, ?_⟩) hHeld ?_ ?_
        rotate_left
        · rintro w' ⟨s0, s1, s2, s3⟩
          go_simp
          with_reducible rfl
        rotate_left
        · simp only [Act.put, List.setIfInBounds_toArray, List.set_cons_zero, List.set_cons_succ, i64_w, i32_w]
          rfl
        refine one_ (i := 30) (N := some 105) #[true, true, true, true, true, true, true, true, true, true, true, true, true, true, true, true, true, true, true, true, true, true, true, true, true, true, true, true, true, true, true, false, true, false, false, false, false, false, false, false, false, false] rfl rfl (one_of HT_.out (by kernel_rfl)) (by decide) (fun K hK => ?_)
        refine goes_ Try.func26 (by kernel_rfl) rfl #[.int .u64 a2_1] (by rfl) rfl rfl (by (try simp only [List.map_toArray, List.map_cons, List.map_nil]); first | done | rfl | (simp only [List.length_drop, List.length_take]; rfl)) ?_
        with_reducible refine (wide_Of_uint32.calls a2_1 t214 _ A28.out).mono ?_
        rintro e w' ⟨rfl, ⟨nd, rfl⟩⟩
        refine ⟨_, rfl, ?_⟩
        refine hK.out _ _ ⟨(blk_cell BK200.out 0).trans rfl, (blk_cell BK200.out 1).trans rfl, (blk_cell BK201.out 0).trans rfl, (blk_cell BK201.out 1).trans rfl⟩ (fun hHeld => ?_)
        clear hK K
        refine norm_ (a' := ?_) ?_ ?_
        rotate_left
        · show Act.put _ (some 105) _ = _
          simp only [Act.put, List.setIfInBounds_toArray, List.set_cons_zero, List.set_cons_succ, i64_w, i32_w]
          rfl
        refine one_ (i := 31) (N := some 106) #[true, true, true, true, true, true, true, true, true, true, true, true, true, true, true, true, true, true, true, true, true, true, true, true, true, true, true, true, true, true, true, true, true, false, false, false, false, false, false, false, false, false] rfl rfl (one_of HT_.out (by kernel_rfl)) (by decide) (fun K hK => ?_)
        refine goes_ Try.func30 (by kernel_rfl) rfl #[.agg #[.int .u32 t196, .int .i64 t197], .int .u32 t214] (by rfl) rfl rfl (by (try simp only [List.map_toArray, List.map_cons, List.map_nil]); first | done | rfl | (simp only [List.length_drop, List.length_take]; rfl)) ?_
        with_reducible refine (span_Span_uint32_Has.calls t196 t197 t214 t215 _ A29.out).mono ?_
        rintro e w68 ⟨rfl, hb⟩
        refine ⟨_, rfl, ?_⟩
        have n0_ := Aside0.mk (blk_below (g := gb191) (o := .cells #[.int .u64 a2_0, .int .u64 a2_1] 48 (0, 0)) (by (with_reducible repeat (first | refine blk_drewN ?_ _ | refine blk_drew ?_ | refine blk_alloc ?_ _)); exact BK191.out) hb)
        have n1_ := Aside0.mk (blk_below (g := gb200) (o := .cells #[.int .u32 t196, .int .i64 t197] 27 (0, 0)) (by (with_reducible repeat (first | refine blk_drewN ?_ _ | refine blk_drew ?_ | refine blk_alloc ?_ _)); exact BK200.out) hb)
        have n2_ := Aside0.mk (blk_below (g := gb201) (o := .cells #[.int .u64 t198, .int .i64 t199] 31 (0, 0)) (by (with_reducible repeat (first | refine blk_drewN ?_ _ | refine blk_drew ?_ | refine blk_alloc ?_ _)); exact BK201.out) hb)
        have n3_ := Aside0.mk (blk_below (g := gb203) (o := .cells #[.int .i64 32, .int .u64 t202, .int .i64 a0] 37 (0, 0)) (by (with_reducible repeat (first | refine blk_drewN ?_ _ | refine blk_drew ?_ | refine blk_alloc ?_ _)); exact BK203.out) hb)
        have n4_ := Aside0.mk (blk_below (g := gb204) (o := .cells #[.int .i64 64, .int .u64 a2_0, .int .i64 a0] 37 (0, 0)) (by (with_reducible repeat (first | refine blk_drewN ?_ _ | refine blk_drew ?_ | refine blk_alloc ?_ _)); exact BK204.out) hb)
        have n5_ := Aside0.mk (below_step (by repeat (first | (with_reducible first | exact HB.out | apply below_alloc | apply pw_below_drewN | apply below_drew1 | refine below_set ?_ GE191.out | refine below_set ?_ GE200.out | refine below_set ?_ GE201.out | refine below_set ?_ GE203.out | refine below_set ?_ GE204.out) | exact HB.out)) hb)
        clear BK191
        clear BK200
        clear BK201
        clear BK203
        clear BK204
        clear HB
        have BK191 := n0_
        have BK200 := n1_
        have BK201 := n2_
        have BK203 := n3_
        have BK204 := n4_
        have HB := n5_
        clear n0_ n1_ n2_ n3_ n4_ n5_
        (try clear hb)
        (try clear hb2)
        (try clear hk)
        (try clear hi)
        refine hK.out _ _ ⟨(blk_cell BK200.out 0).trans rfl, (blk_cell BK200.out 1).trans rfl, (blk_cell BK201.out 0).trans rfl, (blk_cell BK201.out 1).trans rfl⟩ (fun hHeld => ?_)
        clear hK K
        refine norm_ (a' := ?_) ?_ ?_
        rotate_left
        · show Act.put _ (some 106) _ = _
          simp only [Act.put, List.setIfInBounds_toArray, List.set_cons_zero, List.set_cons_succ, i64_w, i32_w]
          rfl
        refine pure_ (i := 33) (N := some 108) (v := ?_) (a' := ?_) #[true, true, true, true, true, true, true, true, true, true, true, true, true, true, true, true, true, true, true, true, true, true, true, true, true, true, true, true, true, true, true, true, true, true, false, false, false, false, false, false, false, false] rfl rfl (any_of HT_.out (by kernel_rfl)) (fun _ _ _ h => h) (Or.inl ⟨by rfl, ?_⟩) ?_ ?_
        rotate_left
        · intro w'
          go_simp
          with_reducible rfl
        rotate_left
        · simp only [Act.put, List.setIfInBounds_toArray, List.set_cons_zero, List.set_cons_succ, i64_w, i32_w]
          rfl
        refine pure_ (i := 34) (N := some 109) (v := ?_) (a' := ?_) #[true, true, true, true, true, true, true, true, true, true, true, true, true, true, true, true, true, true, true, true, true, true, true, true, true, true, true, true, true, true, true, true, true, true, true, false, false, false, false, false, false, false] rfl rfl (any_of HT_.out (by kernel_rfl)) (fun _ _ _ h => h) (Or.inl ⟨by rfl, ?_⟩) ?_ ?_
        rotate_left
        · intro w'
          go_simp
          with_reducible rfl
        rotate_left
        · simp only [Act.put, List.setIfInBounds_toArray, List.set_cons_zero, List.set_cons_succ, i64_w, i32_w]
          rfl
        refine pure_ (i := 35) (N := some 110) (v := ?_) (a' := ?_) #[true, true, true, true, true, true, true, true, true, true, true, true, true, true, true, true, true, true, true, true, true, true, true, true, true, true, true, true, true, true, true, true, true, true, true, true, false, false, false, false, false, false] rfl rfl (any_of HT_.out (by kernel_rfl)) (fun _ _ _ h => h) (Or.inl ⟨by rfl, ?_⟩) ?_ ?_
        rotate_left
        · intro w'
          go_simp
          with_reducible rfl
        rotate_left
        · simp only [Act.put, List.setIfInBounds_toArray, List.set_cons_zero, List.set_cons_succ, i64_w, i32_w]
          rfl
        refine pure_ (i := 37) (N := some 112) (v := ?_) (a' := ?_) #[true, true, true, true, true, true, true, true, true, true, true, true, true, true, true, true, true, true, true, true, true, true, true, true, true, true, true, true, true, true, true, true, true, true, true, true, false, true, false, false, false, false] rfl rfl (any_of HT_.out (by kernel_rfl)) (fun _ _ _ h => h) (Or.inl ⟨by rfl, ?_⟩) ?_ ?_
        rotate_left
        · intro w'
          go_simp
          with_reducible rfl
        rotate_left
        · simp only [Act.put, List.setIfInBounds_toArray, List.set_cons_zero, List.set_cons_succ, i64_w, i32_w]
          rfl
        refine pure_ (i := 39) (N := some 114) (v := ?_) (a' := ?_) #[true, true, true, true, true, true, true, true, true, true, true, true, true, true, true, true, true, true, true, true, true, true, true, true, true, true, true, true, true, true, true, true, true, true, true, true, false, true, false, true, false, false] rfl rfl (any_of HT_.out (by kernel_rfl)) (fun _ _ _ h => h) (Or.inl ⟨by rfl, ?_⟩) ?_ ?_
        rotate_left
        · intro w'
          go_simp
          with_reducible rfl
        rotate_left
        · simp only [Act.put, List.setIfInBounds_toArray, List.set_cons_zero, List.set_cons_succ, i64_w, i32_w]
          rfl
        refine take_ (i := 36) (N := some 111) (v := ?_) (a' := ?_) #[true, true, true, true, true, true, true, true, true, true, true, true, true, true, true, true, true, true, true, true, true, true, true, true, true, true, true, true, true, true, true, true, true, true, true, true, true, true, false, true, false, false] rfl rfl (take_ofW HT_.out HW_.out (by kernel_rfl)) (fun _ _ _ h => h) (Or.inl ⟨by rfl, ?_⟩) hHeld ?_ ?_
        rotate_left
        · rintro w' ⟨s0, s1, s2, s3⟩
          go_simp
          with_reducible rfl
        rotate_left
        · simp only [Act.put, List.setIfInBounds_toArray, List.set_cons_zero, List.set_cons_succ, i64_w, i32_w]
          rfl
        refine one_ (i := 38) (N := some 113) #[true, true, true, true, true, true, true, true, true, true, true, true, true, true, true, true, true, true, true, true, true, true, true, true, true, true, true, true, true, true, true, true, true, true, true, true, true, true, true, true, false, false] rfl rfl (one_of HT_.out (by kernel_rfl)) (by decide) (fun K hK => ?_)
        refine goes_ Try.func31 (by kernel_rfl) rfl #[.agg #[.int .u64 t198, .int .i64 t199], .int .u64 a2_1] (by rfl) rfl rfl (by (try simp only [List.map_toArray, List.map_cons, List.map_nil]); first | done | rfl | (simp only [List.length_drop, List.length_take]; rfl)) ?_
        with_reducible refine (span_Span_uint64_Has.calls t198 t199 a2_1 t216 _ A31.out).mono ?_
        rintro e w69 ⟨rfl, hb⟩
        refine ⟨_, rfl, ?_⟩
        have n0_ := Aside0.mk (blk_below (g := gb191) (o := .cells #[.int .u64 a2_0, .int .u64 a2_1] 48 (0, 0)) (by (with_reducible repeat (first | refine blk_drewN ?_ _ | refine blk_drew ?_ | refine blk_alloc ?_ _)); exact BK191.out) hb)
        have n1_ := Aside0.mk (blk_below (g := gb200) (o := .cells #[.int .u32 t196, .int .i64 t197] 27 (0, 0)) (by (with_reducible repeat (first | refine blk_drewN ?_ _ | refine blk_drew ?_ | refine blk_alloc ?_ _)); exact BK200.out) hb)
        have n2_ := Aside0.mk (blk_below (g := gb201) (o := .cells #[.int .u64 t198, .int .i64 t199] 31 (0, 0)) (by (with_reducible repeat (first | refine blk_drewN ?_ _ | refine blk_drew ?_ | refine blk_alloc ?_ _)); exact BK201.out) hb)
        have n3_ := Aside0.mk (blk_below (g := gb203) (o := .cells #[.int .i64 32, .int .u64 t202, .int .i64 a0] 37 (0, 0)) (by (with_reducible repeat (first | refine blk_drewN ?_ _ | refine blk_drew ?_ | refine blk_alloc ?_ _)); exact BK203.out) hb)
        have n4_ := Aside0.mk (blk_below (g := gb204) (o := .cells #[.int .i64 64, .int .u64 a2_0, .int .i64 a0] 37 (0, 0)) (by (with_reducible repeat (first | refine blk_drewN ?_ _ | refine blk_drew ?_ | refine blk_alloc ?_ _)); exact BK204.out) hb)
        have n5_ := Aside0.mk (below_step (by repeat (first | (with_reducible first | exact HB.out | apply below_alloc | apply pw_below_drewN | apply below_drew1 | refine below_set ?_ GE191.out | refine below_set ?_ GE200.out | refine below_set ?_ GE201.out | refine below_set ?_ GE203.out | refine below_set ?_ GE204.out) | exact HB.out)) hb)
        clear BK191
        clear BK200
        clear BK201
        clear BK203
        clear BK204
        clear HB
        have BK191 := n0_
        have BK200 := n1_
        have BK201 := n2_
        have BK203 := n3_
        have BK204 := n4_
        have HB := n5_
        clear n0_ n1_ n2_ n3_ n4_ n5_
        (try clear hb)
        (try clear hb2)
        (try clear hk)
        (try clear hi)
        refine hK.out _ _ ⟨(blk_cell BK200.out 0).trans rfl, (blk_cell BK200.out 1).trans rfl, (blk_cell BK201.out 0).trans rfl, (blk_cell BK201.out 1).trans rfl⟩ (fun hHeld => ?_)
        clear hK K
        refine norm_ (a' := ?_) ?_ ?_
        rotate_left
        · show Act.put _ (some 113) _ = _
          simp only [Act.put, List.setIfInBounds_toArray, List.set_cons_zero, List.set_cons_succ, i64_w, i32_w]
          rfl
        refine pure_ (i := 40) (N := some 115) (v := ?_) (a' := ?_) #[true, true, true, true, true, true, true, true, true, true, true, true, true, true, true, true, true, true, true, true, true, true, true, true, true, true, true, true, true, true, true, true, true, true, true, true, true, true, true, true, true, false] rfl rfl (any_of HT_.out (by kernel_rfl)) (fun _ _ _ h => h) (Or.inl ⟨by rfl, ?_⟩) ?_ ?_
        rotate_left
        · intro w'
          go_simp
          with_reducible rfl
        rotate_left
        · simp only [Act.put, List.setIfInBounds_toArray, List.set_cons_zero, List.set_cons_succ, i64_w, i32_w]
          rfl
        refine pure_ (i := 41) (N := some 116) (v := ?_) (a' := ?_) #[true, true, true, true, true, true, true, true, true, true, true, true, true, true, true, true, true, true, true, true, true, true, true, true, true, true, true, true, true, true, true, true, true, true, true, true, true, true, true, true, true, true] rfl rfl (any_of HT_.out (by kernel_rfl)) (fun _ _ _ h => h) (Or.inl ⟨by rfl, ?_⟩) ?_ ?_
        rotate_left
        · intro w'
          go_simp
          with_reducible rfl
        rotate_left
        · simp only [Act.put, List.setIfInBounds_toArray, List.set_cons_zero, List.set_cons_succ, i64_w, i32_w]
          rfl
        refine done_ (done_of HT_.out (by kernel_rfl)) ?_
        have hcz70_0 : w69.cell? ⟨gb200, 0, none⟩ = some (.int .u32 t196) := (blk_cell BK200.out 0).trans rfl
        have hcz70_1 : w69.cell? ⟨gb200, 1, none⟩ = some (.int .i64 t197) := (blk_cell BK200.out 1).trans rfl
        have hfz70_0 := blk_frozen BK200.out 0
        have hfz70_1 := blk_frozen BK200.out 1
        go_upto_region 15 with (first | ((with_reducible refine gate_callee (f := 32) rfl ?_); refine goesL_ (some 120) rfl rfl Try.func32 (by kernel_rfl) rfl #[.agg #[.int .u32 t196, .int .i64 t197], .int .i64 a1] rfl (by (try simp only [List.map_toArray, List.map_cons, List.map_nil]); first | done | rfl | (simp only [List.length_drop, List.length_take]; rfl)) ?_; (with_reducible refine (span_Span_uint32_At.calls t196 t197 a1 t217 t218 _ A33.out).mono ?_); rintro e w71 ⟨rfl, hb⟩; refine ⟨_, rfl, ?_⟩; have n0_ := Aside0.mk (blk_below (g := gb191) (o := .cells #[.int .u64 a2_0, .int .u64 a2_1] 48 (0, 0)) (by (with_reducible repeat (first | refine blk_drewN ?_ _ | refine blk_drew ?_ | refine blk_alloc ?_ _)); exact BK191.out) hb); have n1_ := Aside0.mk (blk_below (g := gb200) (o := .cells #[.int .u32 t196, .int .i64 t197] 27 (0, 0)) (by (with_reducible repeat (first | refine blk_drewN ?_ _ | refine blk_drew ?_ | refine blk_alloc ?_ _)); exact BK200.out) hb); have n2_ := Aside0.mk (blk_below (g := gb201) (o := .cells #[.int .u64 t198, .int .i64 t199] 31 (0, 0)) (by (with_reducible repeat (first | refine blk_drewN ?_ _ | refine blk_drew ?_ | refine blk_alloc ?_ _)); exact BK201.out) hb); have n3_ := Aside0.mk (blk_below (g := gb203) (o := .cells #[.int .i64 32, .int .u64 t202, .int .i64 a0] 37 (0, 0)) (by (with_reducible repeat (first | refine blk_drewN ?_ _ | refine blk_drew ?_ | refine blk_alloc ?_ _)); exact BK203.out) hb); have n4_ := Aside0.mk (blk_below (g := gb204) (o := .cells #[.int .i64 64, .int .u64 a2_0, .int .i64 a0] 37 (0, 0)) (by (with_reducible repeat (first | refine blk_drewN ?_ _ | refine blk_drew ?_ | refine blk_alloc ?_ _)); exact BK204.out) hb); have n5_ := Aside0.mk (below_step (by repeat (first | (with_reducible first | exact HB.out | apply below_alloc | apply pw_below_drewN | apply below_drew1 | refine below_set ?_ GE191.out | refine below_set ?_ GE200.out | refine below_set ?_ GE201.out | refine below_set ?_ GE203.out | refine below_set ?_ GE204.out) | exact HB.out)) hb); clear BK191; clear BK200; clear BK201; clear BK203; clear BK204; clear HB; have BK191 := n0_; have BK200 := n1_; have BK201 := n2_; have BK203 := n3_; have BK204 := n4_; have HB := n5_; clear n0_ n1_ n2_ n3_ n4_ n5_; (try clear hb); (try clear hb2); (try clear hk); (try clear hi); have hcz72_0 : w71.cell? ⟨gb201, 0, none⟩ = some (.int .u64 t198) := (blk_cell BK201.out 0).trans rfl; have hcz72_1 : w71.cell? ⟨gb201, 1, none⟩ = some (.int .i64 t199) := (blk_cell BK201.out 1).trans rfl; have hfz72_0 := blk_frozen BK201.out 0; have hfz72_1 := blk_frozen BK201.out 1) | ((with_reducible refine gate_callee (f := 33) rfl ?_); refine goesL_ (some 126) rfl rfl Try.func33 (by kernel_rfl) rfl #[.agg #[.int .u64 t198, .int .i64 t199], .int .i64 a1] rfl (by (try simp only [List.map_toArray, List.map_cons, List.map_nil]); first | done | rfl | (simp only [List.length_drop, List.length_take]; rfl)) ?_; (with_reducible refine (span_Span_uint64_At.calls t198 t199 a1 t219 t220 _ A34.out).mono ?_); rintro e w73 ⟨rfl, hb⟩; refine ⟨_, rfl, ?_⟩; have n0_ := Aside0.mk (blk_below (g := gb191) (o := .cells #[.int .u64 a2_0, .int .u64 a2_1] 48 (0, 0)) (by (with_reducible repeat (first | refine blk_drewN ?_ _ | refine blk_drew ?_ | refine blk_alloc ?_ _)); exact BK191.out) hb); have n1_ := Aside0.mk (blk_below (g := gb200) (o := .cells #[.int .u32 t196, .int .i64 t197] 27 (0, 0)) (by (with_reducible repeat (first | refine blk_drewN ?_ _ | refine blk_drew ?_ | refine blk_alloc ?_ _)); exact BK200.out) hb); have n2_ := Aside0.mk (blk_below (g := gb201) (o := .cells #[.int .u64 t198, .int .i64 t199] 31 (0, 0)) (by (with_reducible repeat (first | refine blk_drewN ?_ _ | refine blk_drew ?_ | refine blk_alloc ?_ _)); exact BK201.out) hb); have n3_ := Aside0.mk (blk_below (g := gb203) (o := .cells #[.int .i64 32, .int .u64 t202, .int .i64 a0] 37 (0, 0)) (by (with_reducible repeat (first | refine blk_drewN ?_ _ | refine blk_drew ?_ | refine blk_alloc ?_ _)); exact BK203.out) hb); have n4_ := Aside0.mk (blk_below (g := gb204) (o := .cells #[.int .i64 64, .int .u64 a2_0, .int .i64 a0] 37 (0, 0)) (by (with_reducible repeat (first | refine blk_drewN ?_ _ | refine blk_drew ?_ | refine blk_alloc ?_ _)); exact BK204.out) hb); have n5_ := Aside0.mk (below_step (by repeat (first | (with_reducible first | exact HB.out | apply below_alloc | apply pw_below_drewN | apply below_drew1 | refine below_set ?_ GE191.out | refine below_set ?_ GE200.out | refine below_set ?_ GE201.out | refine below_set ?_ GE203.out | refine below_set ?_ GE204.out) | exact HB.out)) hb); clear BK191; clear BK200; clear BK201; clear BK203; clear BK204; clear HB; have BK191 := n0_; have BK200 := n1_; have BK201 := n2_; have BK203 := n3_; have BK204 := n4_; have HB := n5_; clear n0_ n1_ n2_ n3_ n4_ n5_; (try clear hb); (try clear hb2); (try clear hk); (try clear hi)))
        (try simp only [Act.put, List.setIfInBounds_toArray, List.set_cons_zero, List.set_cons_succ])
        go_cut [23] (fun v23 wc => ∃ (kq : Nat) (x23_34 : Bool), v23 = .bool x23_34 ∧ Aside0 (sakialaw03_SpanTells.j0 kq a0 a1 a2_0 t217 t218 t219 t220 x23_34 t196 t197 t198 t199 = some r) ∧ Aside0 (kq ≤ k) ∧ Aside0 (wc.heap[gb191]? = some (.cells #[.int .u64 a2_0, .int .u64 a2_1] 48 (0, 0))) ∧ Aside0 (wc.heap[gb200]? = some (.cells #[.int .u32 t196, .int .i64 t197] 27 (0, 0))) ∧ Aside0 (wc.heap[gb201]? = some (.cells #[.int .u64 t198, .int .i64 t199] 31 (0, 0))) ∧ Aside0 (wc.heap[gb203]? = some (.cells #[.int .i64 32, .int .u64 t202, .int .i64 a0] 37 (0, 0))) ∧ Aside0 (wc.heap[gb204]? = some (.cells #[.int .i64 64, .int .u64 a2_0, .int .i64 a0] 37 (0, 0))) ∧ Aside0 (Below w.heap.size w wc))
        case first =>
          have H := HC35.out
          clear HC35
          by_cases c74 : a1 ≥ 0
          · rw [if_pos c74] at H
            have c74b0 : decide (0 ≤ a1) = true := decide_eq_true c74
            clear c74
            (first | rw [c74b0] | (simp only [i64_w, i32_w]; rw [c74b0]) | skip)
            have H' := Aside0.mk H
            clear H
            go_wp2
            go_meet
            case rel => exact ⟨_, (decide (a1 < a0)), (by first | rfl | (simp; done) | (simp [*]; done)), H', ⟨by first | omega | exact Nat.le_refl _⟩, ⟨by (with_reducible repeat (first | refine blk_drewN ?_ _ | refine blk_drew ?_ | refine blk_alloc ?_ _)); exact BK191.out⟩, ⟨by (with_reducible repeat (first | refine blk_drewN ?_ _ | refine blk_drew ?_ | refine blk_alloc ?_ _)); exact BK200.out⟩, ⟨by (with_reducible repeat (first | refine blk_drewN ?_ _ | refine blk_drew ?_ | refine blk_alloc ?_ _)); exact BK201.out⟩, ⟨by (with_reducible repeat (first | refine blk_drewN ?_ _ | refine blk_drew ?_ | refine blk_alloc ?_ _)); exact BK203.out⟩, ⟨by (with_reducible repeat (first | refine blk_drewN ?_ _ | refine blk_drew ?_ | refine blk_alloc ?_ _)); exact BK204.out⟩, ⟨by repeat (first | (with_reducible first | exact HB.out | apply below_alloc | apply pw_below_drewN | apply below_drew1 | refine below_set ?_ GE191.out | refine below_set ?_ GE200.out | refine below_set ?_ GE201.out | refine below_set ?_ GE203.out | refine below_set ?_ GE204.out) | exact HB.out)⟩⟩
          · rw [if_neg c74] at H
            have c74b0 : decide (0 ≤ a1) = false := decide_eq_false c74
            clear c74
            (first | rw [c74b0] | (simp only [i64_w, i32_w]; rw [c74b0]) | skip)
            have H' := Aside0.mk H
            clear H
            go_wp2
            go_meet
            case rel => exact ⟨_, (false), (by first | rfl | (simp; done) | (simp [*]; done)), H', ⟨by first | omega | exact Nat.le_refl _⟩, ⟨by (with_reducible repeat (first | refine blk_drewN ?_ _ | refine blk_drew ?_ | refine blk_alloc ?_ _)); exact BK191.out⟩, ⟨by (with_reducible repeat (first | refine blk_drewN ?_ _ | refine blk_drew ?_ | refine blk_alloc ?_ _)); exact BK200.out⟩, ⟨by (with_reducible repeat (first | refine blk_drewN ?_ _ | refine blk_drew ?_ | refine blk_alloc ?_ _)); exact BK201.out⟩, ⟨by (with_reducible repeat (first | refine blk_drewN ?_ _ | refine blk_drew ?_ | refine blk_alloc ?_ _)); exact BK203.out⟩, ⟨by (with_reducible repeat (first | refine blk_drewN ?_ _ | refine blk_drew ?_ | refine blk_alloc ?_ _)); exact BK204.out⟩, ⟨by repeat (first | (with_reducible first | exact HB.out | apply below_alloc | apply pw_below_drewN | apply below_drew1 | refine below_set ?_ GE191.out | refine below_set ?_ GE200.out | refine below_set ?_ GE201.out | refine below_set ?_ GE203.out | refine below_set ?_ GE204.out) | exact HB.out)⟩⟩
        case rest =>
          clear HC35
          try clear c1
          try clear c2
          try clear p2
          try clear c3
          try clear c7
          try clear c14
          try clear c26
          try clear c28
          try clear c29
          try clear c30
          try clear c31
          try clear c32
          try clear c33
          try clear c74
          try clear c74b0
          try clear hcz70_0
          try clear hcz70_1
          try clear hcz72_0
          try clear hcz72_1
          try clear hfz70_0
          try clear hfz70_1
          try clear hfz72_0
          try clear hfz72_1
          obtain ⟨kq, x23_34, rfl, HA, HJ34, BK191, BK200, BK201, BK203, BK204, HB⟩ := hcut
          cases kq with
          | zero => exact absurd HA.out (by simp [sakialaw03_SpanTells.j0])
          | succ kj34 =>
            have H := HA.out
            clear HA
            simp only [sakialaw03_SpanTells.j0] at H
            have HC75 := Aside0.mk H
            clear H
            go_upto_region 16 with (fail)
            go_cut [173] (fun v173 wc => ∃ (kq : Nat) (x173_74 : Bool), v173 = .bool x173_74 ∧ Aside0 (sakialaw03_SpanTells.j1 kq a0 a2_0 x173_74 t196 t197 t198 t199 = some r) ∧ Aside0 (kq ≤ kj34) ∧ Aside0 (wc.heap[gb191]? = some (.cells #[.int .u64 a2_0, .int .u64 a2_1] 48 (0, 0))) ∧ Aside0 (wc.heap[gb200]? = some (.cells #[.int .u32 t196, .int .i64 t197] 27 (0, 0))) ∧ Aside0 (wc.heap[gb201]? = some (.cells #[.int .u64 t198, .int .i64 t199] 31 (0, 0))) ∧ Aside0 (wc.heap[gb203]? = some (.cells #[.int .i64 32, .int .u64 t202, .int .i64 a0] 37 (0, 0))) ∧ Aside0 (wc.heap[gb204]? = some (.cells #[.int .i64 64, .int .u64 a2_0, .int .i64 a0] 37 (0, 0))) ∧ Aside0 (Below w.heap.size w wc))
            case first =>
              have H := HC75.out
              clear HC75
              by_cases c76 : (t218 != x23_34) = true
              · rw [if_pos c76] at H
                exact absurd H (by simp)
              rw [if_neg c76] at H
              have c76b0 : (t218 != x23_34) = false := by simpa using c76
              (try (have c76b1 : decide (t218 = x23_34) = true := by simpa using c76))
              (try (have c76b2 : (t218 == x23_34) = true := by simpa using c76))
              clear c76
              (first | rw [c76b0] | (simp only [i64_w, i32_w]; rw [c76b0]) | skip)
              by_cases c77 : (t220 != x23_34) = true
              · rw [if_pos c77] at H
                exact absurd H (by simp)
              rw [if_neg c77] at H
              have c77b0 : (t220 != x23_34) = false := by simpa using c77
              (try (have c77b1 : decide (t220 = x23_34) = true := by simpa using c77))
              (try (have c77b2 : (t220 == x23_34) = true := by simpa using c77))
              clear c77
              by_cases c78 : x23_34 = true
              · subst c78
                have H1 : ((sakiaref01_Plus.f 32 a2_0 a1).bind fun t221 => (if (IntKind.u64.wrap (t217)) = t221 then ((sakiaref01_Plus.f 64 a2_0 a1).bind fun t222 => (if t219 = t222 then (sakialaw03_SpanTells.j1 kj34 a0 a2_0 false t196 t197 t198 t199) else (none))) else (none))) = some r := by rw [if_pos rfl] at H; exact H
                clear H
                have H := H1
                clear H1
                replace H := Option.bind_eq_some_iff.mp H
                obtain ⟨t221, A790, H⟩ := H
                replace H : (if (IntKind.u64.wrap (t217)) = t221 then ((sakiaref01_Plus.f 64 a2_0 a1).bind fun t222 => (if t219 = t222 then (sakialaw03_SpanTells.j1 kj34 a0 a2_0 false t196 t197 t198 t199) else (none))) else (none)) = some r := H
                have A79 := Aside0.mk A790
                clear A790
                by_cases c80 : (IntKind.u64.wrap (t217)) = t221
                rotate_left
                · rw [if_neg c80] at H
                  exact absurd H (by simp)
                rw [if_pos c80] at H
                have c80b0 : ((IntKind.u64.wrap (t217)) == t221) = true := beq_iff_eq.mpr c80
                have c80b1 : ((IntKind.u64.wrap (t217)) != t221) = false := bne_eq_false_iff_eq.mpr c80
                clear c80
                replace H := Option.bind_eq_some_iff.mp H
                obtain ⟨t222, A810, H⟩ := H
                replace H : (if t219 = t222 then (sakialaw03_SpanTells.j1 kj34 a0 a2_0 false t196 t197 t198 t199) else (none)) = some r := H
                have A81 := Aside0.mk A810
                clear A810
                by_cases c82 : t219 = t222
                rotate_left
                · rw [if_neg c82] at H
                  exact absurd H (by simp)
                rw [if_pos c82] at H
                have c82b0 : (t219 == t222) = true := beq_iff_eq.mpr c82
                have c82b1 : (t219 != t222) = false := bne_eq_false_iff_eq.mpr c82
                clear c82
                have H' := Aside0.mk H
                clear H
                go_wp2_with (first | (go_at_call 23; (with_reducible refine (sakiaref01_Plus.calls 32 a2_0 a1 t221 _ A79.out).mono ?_); rintro e w' ⟨rfl, ⟨nd, rfl⟩⟩) | (go_at_call 23; (with_reducible refine (sakiaref01_Plus.calls 64 a2_0 a1 t222 _ A81.out).mono ?_); rintro e w' ⟨rfl, ⟨nd, rfl⟩⟩))
                go_meet
                case rel => exact ⟨_, (false), (by first | rfl | (simp; done) | (simp [*]; done)), H', ⟨by have := HJ34.out; first | omega | exact Nat.le_refl _⟩, ⟨by (with_reducible repeat (first | refine blk_drewN ?_ _ | refine blk_drew ?_ | refine blk_alloc ?_ _)); exact BK191.out⟩, ⟨by (with_reducible repeat (first | refine blk_drewN ?_ _ | refine blk_drew ?_ | refine blk_alloc ?_ _)); exact BK200.out⟩, ⟨by (with_reducible repeat (first | refine blk_drewN ?_ _ | refine blk_drew ?_ | refine blk_alloc ?_ _)); exact BK201.out⟩, ⟨by (with_reducible repeat (first | refine blk_drewN ?_ _ | refine blk_drew ?_ | refine blk_alloc ?_ _)); exact BK203.out⟩, ⟨by (with_reducible repeat (first | refine blk_drewN ?_ _ | refine blk_drew ?_ | refine blk_alloc ?_ _)); exact BK204.out⟩, ⟨by repeat (first | (with_reducible first | exact HB.out | apply below_alloc | apply pw_below_drewN | apply below_drew1 | refine below_set ?_ GE191.out | refine below_set ?_ GE200.out | refine below_set ?_ GE201.out | refine below_set ?_ GE203.out | refine below_set ?_ GE204.out) | exact HB.out)⟩⟩
              · replace c78 := Bool.eq_false_iff.mpr c78
                subst c78
                have H1 : (if t217 = 0 then (sakialaw03_SpanTells.j1 kj34 a0 a2_0 (t219 != 0) t196 t197 t198 t199) else (none)) = some r := by rw [if_neg (show ¬ (false = true) by decide)] at H; exact H
                clear H
                have H := H1
                clear H1
                by_cases c83 : t217 = 0
                rotate_left
                · rw [if_neg c83] at H
                  exact absurd H (by simp)
                rw [if_pos c83] at H
                have c83b0 : (t217 == 0) = true := beq_iff_eq.mpr c83
                have c83b1 : (t217 != 0) = false := bne_eq_false_iff_eq.mpr c83
                clear c83
                have H' := Aside0.mk H
                clear H
                go_wp2
                go_meet
                case rel => exact ⟨_, ((t219 != 0)), (by first | rfl | (simp; done) | (simp [*]; done)), H', ⟨by have := HJ34.out; first | omega | exact Nat.le_refl _⟩, ⟨by (with_reducible repeat (first | refine blk_drewN ?_ _ | refine blk_drew ?_ | refine blk_alloc ?_ _)); exact BK191.out⟩, ⟨by (with_reducible repeat (first | refine blk_drewN ?_ _ | refine blk_drew ?_ | refine blk_alloc ?_ _)); exact BK200.out⟩, ⟨by (with_reducible repeat (first | refine blk_drewN ?_ _ | refine blk_drew ?_ | refine blk_alloc ?_ _)); exact BK201.out⟩, ⟨by (with_reducible repeat (first | refine blk_drewN ?_ _ | refine blk_drew ?_ | refine blk_alloc ?_ _)); exact BK203.out⟩, ⟨by (with_reducible repeat (first | refine blk_drewN ?_ _ | refine blk_drew ?_ | refine blk_alloc ?_ _)); exact BK204.out⟩, ⟨by repeat (first | (with_reducible first | exact HB.out | apply below_alloc | apply pw_below_drewN | apply below_drew1 | refine below_set ?_ GE191.out | refine below_set ?_ GE200.out | refine below_set ?_ GE201.out | refine below_set ?_ GE203.out | refine below_set ?_ GE204.out) | exact HB.out)⟩⟩
            case rest =>
              clear HC75
              try clear c1
              try clear c2
              try clear p2
              try clear c3
              try clear c7
              try clear c8
              try clear c14
              try clear c26
              try clear c28
              try clear c29
              try clear c30
              try clear c31
              try clear c32
              try clear c33
              try clear c74
              try clear c74b0
              try clear c76
              try clear c76b0
              try clear c76b1
              try clear c76b2
              try clear c77
              try clear c77b0
              try clear c77b1
              try clear c77b2
              try clear c78
              try clear c80
              try clear c80b0
              try clear c80b1
              try clear c82
              try clear c82b0
              try clear c82b1
              try clear c83
              try clear c83b0
              try clear c83b1
              try clear hcz70_0
              try clear hcz70_1
              try clear hcz72_0
              try clear hcz72_1
              try clear hfz70_0
              try clear hfz70_1
              try clear hfz72_0
              try clear hfz72_1
              try clear p2
              obtain ⟨kq, x173_74, rfl, HA, HJ74, BK191, BK200, BK201, BK203, BK204, HB⟩ := hcut
              cases kq with
              | zero => exact absurd HA.out (by simp [sakialaw03_SpanTells.j1])
              | succ kj74 =>
                have H := HA.out
                clear HA
                simp only [sakialaw03_SpanTells.j1] at H
                by_cases c84 : x173_74 = true
                · subst c84
                  have H1 : (none) = some r := by rw [if_pos rfl] at H; exact H
                  clear H
                  have H := H1
                  clear H1
                  exact absurd H (by simp)
                · replace c84 := Bool.eq_false_iff.mpr c84
                  subst c84
                  have H1 : ((span_Span_uint32_End.f t196 t197).bind fun t223 => ((sakiaref01_Plus.f 32 a2_0 a0).bind fun t224 => (if (IntKind.u64.wrap (t223)) = t224 then ((span_Span_uint64_End.f t198 t199).bind fun t225 => ((sakiaref01_Plus.f 64 a2_0 a0).bind fun t226 => (if t225 = t226 then ((sakialaw03_live.f).bind fun t227 => (some t227)) else (none)))) else (none)))) = some r := by rw [if_neg (show ¬ (false = true) by decide)] at H; exact H
                  clear H
                  have H := H1
                  clear H1
                  replace H := Option.bind_eq_some_iff.mp H
                  obtain ⟨t223, A850, H⟩ := H
                  replace H : ((sakiaref01_Plus.f 32 a2_0 a0).bind fun t224 => (if (IntKind.u64.wrap (t223)) = t224 then ((span_Span_uint64_End.f t198 t199).bind fun t225 => ((sakiaref01_Plus.f 64 a2_0 a0).bind fun t226 => (if t225 = t226 then ((sakialaw03_live.f).bind fun t227 => (some t227)) else (none)))) else (none))) = some r := H
                  have A85 := Aside0.mk A850
                  clear A850
                  replace H := Option.bind_eq_some_iff.mp H
                  obtain ⟨t224, A860, H⟩ := H
                  replace H : (if (IntKind.u64.wrap (t223)) = t224 then ((span_Span_uint64_End.f t198 t199).bind fun t225 => ((sakiaref01_Plus.f 64 a2_0 a0).bind fun t226 => (if t225 = t226 then ((sakialaw03_live.f).bind fun t227 => (some t227)) else (none)))) else (none)) = some r := H
                  have A86 := Aside0.mk A860
                  clear A860
                  by_cases c87 : (IntKind.u64.wrap (t223)) = t224
                  rotate_left
                  · rw [if_neg c87] at H
                    exact absurd H (by simp)
                  rw [if_pos c87] at H
                  have c87b0 : ((IntKind.u64.wrap (t223)) == t224) = true := beq_iff_eq.mpr c87
                  have c87b1 : ((IntKind.u64.wrap (t223)) != t224) = false := bne_eq_false_iff_eq.mpr c87
                  clear c87
                  replace H := Option.bind_eq_some_iff.mp H
                  obtain ⟨t225, A880, H⟩ := H
                  replace H : ((sakiaref01_Plus.f 64 a2_0 a0).bind fun t226 => (if t225 = t226 then ((sakialaw03_live.f).bind fun t227 => (some t227)) else (none))) = some r := H
                  have A88 := Aside0.mk A880
                  clear A880
                  replace H := Option.bind_eq_some_iff.mp H
                  obtain ⟨t226, A890, H⟩ := H
                  replace H : (if t225 = t226 then ((sakialaw03_live.f).bind fun t227 => (some t227)) else (none)) = some r := H
                  have A89 := Aside0.mk A890
                  clear A890
                  by_cases c90 : t225 = t226
                  rotate_left
                  · rw [if_neg c90] at H
                    exact absurd H (by simp)
                  rw [if_pos c90] at H
                  have c90b0 : (t225 == t226) = true := beq_iff_eq.mpr c90
                  have c90b1 : (t225 != t226) = false := bne_eq_false_iff_eq.mpr c90
                  clear c90
                  replace H := Option.bind_eq_some_iff.mp H
                  obtain ⟨t227, A910, H⟩ := H
                  replace H : (some t227) = some r := H
                  have A91 := Aside0.mk A910
                  clear A910
                  obtain rfl := Option.some.inj H
                  have hnb92 := NB200_191.out
                  have hnc92 := NB191_200.out
                  have hnb93 := NB200_201.out
                  have hnc93 := NB201_200.out
                  have hnb94 := NB200_203.out
                  have hnc94 := NB203_200.out
                  have hnb95 := NB200_204.out
                  have hnc95 := NB204_200.out
                  have hcz96_0 : wc.cell? ⟨gb200, 0, none⟩ = some (.int .u32 t196) := (blk_cell BK200.out 0).trans rfl
                  have hcz96_1 : wc.cell? ⟨gb200, 1, none⟩ = some (.int .i64 t197) := (blk_cell BK200.out 1).trans rfl
                  have hfz96_0 := blk_frozen BK200.out 0
                  have hfz96_1 := blk_frozen BK200.out 1
                  go_wp2_with (first | ((with_reducible refine gate_callee (f := 34) rfl ?_); refine goesL_ (some 175) rfl rfl Try.func34 (by kernel_rfl) rfl #[.agg #[.int .u32 t196, .int .i64 t197]] rfl (by (try simp only [List.map_toArray, List.map_cons, List.map_nil]); first | done | rfl | (simp only [List.length_drop, List.length_take]; rfl)) ?_; (with_reducible refine (span_Span_uint32_End.calls t196 t197 t223 _ A85.out).mono ?_); rintro e w97 ⟨rfl, hb⟩; refine ⟨_, rfl, ?_⟩; have n0_ := Aside0.mk (blk_below (g := gb191) (o := .cells #[.int .u64 a2_0, .int .u64 a2_1] 48 (0, 0)) (by (with_reducible repeat (first | refine blk_drewN ?_ _ | refine blk_drew ?_ | refine blk_alloc ?_ _)); exact BK191.out) hb); have n1_ := Aside0.mk (blk_below (g := gb200) (o := .cells #[.int .u32 t196, .int .i64 t197] 27 (0, 0)) (by (with_reducible repeat (first | refine blk_drewN ?_ _ | refine blk_drew ?_ | refine blk_alloc ?_ _)); exact BK200.out) hb); have n2_ := Aside0.mk (blk_below (g := gb201) (o := .cells #[.int .u64 t198, .int .i64 t199] 31 (0, 0)) (by (with_reducible repeat (first | refine blk_drewN ?_ _ | refine blk_drew ?_ | refine blk_alloc ?_ _)); exact BK201.out) hb); have n3_ := Aside0.mk (blk_below (g := gb203) (o := .cells #[.int .i64 32, .int .u64 t202, .int .i64 a0] 37 (0, 0)) (by (with_reducible repeat (first | refine blk_drewN ?_ _ | refine blk_drew ?_ | refine blk_alloc ?_ _)); exact BK203.out) hb); have n4_ := Aside0.mk (blk_below (g := gb204) (o := .cells #[.int .i64 64, .int .u64 a2_0, .int .i64 a0] 37 (0, 0)) (by (with_reducible repeat (first | refine blk_drewN ?_ _ | refine blk_drew ?_ | refine blk_alloc ?_ _)); exact BK204.out) hb); have n5_ := Aside0.mk (below_step (by repeat (first | (with_reducible first | exact HB.out | apply below_alloc | apply pw_below_drewN | apply below_drew1 | refine below_set ?_ GE191.out | refine below_set ?_ GE200.out | refine below_set ?_ GE201.out | refine below_set ?_ GE203.out | refine below_set ?_ GE204.out) | exact HB.out)) hb); clear BK191; clear BK200; clear BK201; clear BK203; clear BK204; clear HB; have BK191 := n0_; have BK200 := n1_; have BK201 := n2_; have BK203 := n3_; have BK204 := n4_; have HB := n5_; clear n0_ n1_ n2_ n3_ n4_ n5_; (try clear hb); (try clear hb2); (try clear hk); (try clear hi)) | ((with_reducible refine gate_callee (f := 23) rfl ?_); refine goesL_ (some 179) rfl rfl Try.func23 (by kernel_rfl) rfl #[.int .i64 32, .int .u64 a2_0, .int .i64 a0] rfl (by (try simp only [List.map_toArray, List.map_cons, List.map_nil]); first | done | rfl | (simp only [List.length_drop, List.length_take]; rfl)) ?_; (with_reducible refine (sakiaref01_Plus.calls 32 a2_0 a0 t224 _ A86.out).mono ?_); rintro e w' ⟨rfl, ⟨nd, rfl⟩⟩; refine ⟨_, rfl, ?_⟩; have hnb98 := NB201_191.out; have hnc98 := NB191_201.out; have hnb99 := NB201_203.out; have hnc99 := NB203_201.out; have hnb100 := NB201_204.out; have hnc100 := NB204_201.out; have hcz101_0 : w97.cell? ⟨gb201, 0, none⟩ = some (.int .u64 t198) := (blk_cell BK201.out 0).trans rfl; have hcz101_1 : w97.cell? ⟨gb201, 1, none⟩ = some (.int .i64 t199) := (blk_cell BK201.out 1).trans rfl; have hfz101_0 := blk_frozen BK201.out 0; have hfz101_1 := blk_frozen BK201.out 1) | (go_at_call 35; (with_reducible refine (span_Span_uint64_End.calls t198 t199 t225 _ A88.out).mono ?_); rintro e w102 ⟨rfl, hb⟩; have n0_ := Aside0.mk (blk_below (g := gb191) (o := .cells #[.int .u64 a2_0, .int .u64 a2_1] 48 (0, 0)) (by (with_reducible repeat (first | refine blk_drewN ?_ _ | refine blk_drew ?_ | refine blk_alloc ?_ _)); exact BK191.out) hb); have n1_ := Aside0.mk (blk_below (g := gb200) (o := .cells #[.int .u32 t196, .int .i64 t197] 27 (0, 0)) (by (with_reducible repeat (first | refine blk_drewN ?_ _ | refine blk_drew ?_ | refine blk_alloc ?_ _)); exact BK200.out) hb); have n2_ := Aside0.mk (blk_below (g := gb201) (o := .cells #[.int .u64 t198, .int .i64 t199] 31 (0, 0)) (by (with_reducible repeat (first | refine blk_drewN ?_ _ | refine blk_drew ?_ | refine blk_alloc ?_ _)); exact BK201.out) hb); have n3_ := Aside0.mk (blk_below (g := gb203) (o := .cells #[.int .i64 32, .int .u64 t202, .int .i64 a0] 37 (0, 0)) (by (with_reducible repeat (first | refine blk_drewN ?_ _ | refine blk_drew ?_ | refine blk_alloc ?_ _)); exact BK203.out) hb); have n4_ := Aside0.mk (blk_below (g := gb204) (o := .cells #[.int .i64 64, .int .u64 a2_0, .int .i64 a0] 37 (0, 0)) (by (with_reducible repeat (first | refine blk_drewN ?_ _ | refine blk_drew ?_ | refine blk_alloc ?_ _)); exact BK204.out) hb); have n5_ := Aside0.mk (below_step (by repeat (first | (with_reducible first | exact HB.out | apply below_alloc | apply pw_below_drewN | apply below_drew1 | refine below_set ?_ GE191.out | refine below_set ?_ GE200.out | refine below_set ?_ GE201.out | refine below_set ?_ GE203.out | refine below_set ?_ GE204.out) | exact HB.out)) hb); clear BK191; clear BK200; clear BK201; clear BK203; clear BK204; clear HB; have BK191 := n0_; have BK200 := n1_; have BK201 := n2_; have BK203 := n3_; have BK204 := n4_; have HB := n5_; clear n0_ n1_ n2_ n3_ n4_ n5_; (try clear hb); (try clear hb2); (try clear hk); (try clear hi)) | (go_at_call 23; (with_reducible refine (sakiaref01_Plus.calls 64 a2_0 a0 t226 _ A89.out).mono ?_); rintro e w' ⟨rfl, ⟨nd, rfl⟩⟩) | (go_at_call 7; (with_reducible refine (sakialaw03_live.calls  t227 _ A91.out).mono ?_); rintro e w103 ⟨rfl, hb⟩; have n0_ := Aside0.mk (blk_below (g := gb191) (o := .cells #[.int .u64 a2_0, .int .u64 a2_1] 48 (0, 0)) (by (with_reducible repeat (first | refine blk_drewN ?_ _ | refine blk_drew ?_ | refine blk_alloc ?_ _)); exact BK191.out) hb); have n1_ := Aside0.mk (blk_below (g := gb200) (o := .cells #[.int .u32 t196, .int .i64 t197] 27 (0, 0)) (by (with_reducible repeat (first | refine blk_drewN ?_ _ | refine blk_drew ?_ | refine blk_alloc ?_ _)); exact BK200.out) hb); have n2_ := Aside0.mk (blk_below (g := gb201) (o := .cells #[.int .u64 t198, .int .i64 t199] 31 (0, 0)) (by (with_reducible repeat (first | refine blk_drewN ?_ _ | refine blk_drew ?_ | refine blk_alloc ?_ _)); exact BK201.out) hb); have n3_ := Aside0.mk (blk_below (g := gb203) (o := .cells #[.int .i64 32, .int .u64 t202, .int .i64 a0] 37 (0, 0)) (by (with_reducible repeat (first | refine blk_drewN ?_ _ | refine blk_drew ?_ | refine blk_alloc ?_ _)); exact BK203.out) hb); have n4_ := Aside0.mk (blk_below (g := gb204) (o := .cells #[.int .i64 64, .int .u64 a2_0, .int .i64 a0] 37 (0, 0)) (by (with_reducible repeat (first | refine blk_drewN ?_ _ | refine blk_drew ?_ | refine blk_alloc ?_ _)); exact BK204.out) hb); have n5_ := Aside0.mk (below_step (by repeat (first | (with_reducible first | exact HB.out | apply below_alloc | apply pw_below_drewN | apply below_drew1 | refine below_set ?_ GE191.out | refine below_set ?_ GE200.out | refine below_set ?_ GE201.out | refine below_set ?_ GE203.out | refine below_set ?_ GE204.out) | exact HB.out)) hb); clear BK191; clear BK200; clear BK201; clear BK203; clear BK204; clear HB; have BK191 := n0_; have BK200 := n1_; have BK201 := n2_; have BK203 := n3_; have BK204 := n4_; have HB := n5_; clear n0_ n1_ n2_ n3_ n4_ n5_; (try clear hb); (try clear hb2); (try clear hk); (try clear hi)))
                  go_ret
                  exact ⟨by first | rfl | (simp [errW_none, errW_some] <;> rfl) | (simp only [← hji24, ← hji26]; first | rfl | (simp [errW_none, errW_some] <;> rfl)) | (simp [*, errW_none, errW_some] <;> rfl), by repeat (first | (with_reducible first | exact HB.out | apply below_alloc | apply pw_below_drewN | apply below_drew1 | refine below_set ?_ GE191.out | refine below_set ?_ GE200.out | refine below_set ?_ GE201.out | refine below_set ?_ GE203.out | refine below_set ?_ GE204.out) | exact HB.out)⟩
      · replace c21 := Bool.eq_false_iff.mpr c21
        subst c21
        have H1 : (none) = some r := by rw [if_neg (show ¬ (false = true) by decide)] at H; exact H
        clear H
        have H := H1
        clear H1
        exact absurd H (by simp)
  · replace c5 := Bool.eq_false_iff.mpr c5
    subst c5
    have H1 : ((sakialaw03_none.f a0 a2_0 a2_1 a1).bind fun t193 => (if t193 = true then ((sakialaw03_live.f).bind fun t194 => (some t194)) else (none))) = some r := by rw [if_neg (show ¬ (false = true) by decide)] at H; exact H
    clear H
    have H := H1
    clear H1
    replace H := Option.bind_eq_some_iff.mp H
    obtain ⟨t193, A1040, H⟩ := H
    replace H : (if t193 = true then ((sakialaw03_live.f).bind fun t194 => (some t194)) else (none)) = some r := H
    have A104 := Aside0.mk A1040
    clear A1040
    by_cases c105 : t193 = true
    · subst c105
      have H1 : ((sakialaw03_live.f).bind fun t194 => (some t194)) = some r := by rw [if_pos rfl] at H; exact H
      clear H
      have H := H1
      clear H1
      replace H := Option.bind_eq_some_iff.mp H
      obtain ⟨t194, A1060, H⟩ := H
      replace H : (some t194) = some r := H
      have A106 := Aside0.mk A1060
      clear A1060
      obtain rfl := Option.some.inj H
      go_enter Try.func6, Try.ntmps6
      try go_wp2_with (first | ((with_reducible refine gate_dst (N := 5) rfl ?_); (try (refine gate_guard (by rfl) ?_; dsimp only)); refine box_event ?hg (N := 5) ?hd (cs := #[.int .u64 a2_0, .int .u64 a2_1]) (t := 48) ?hr ?_; (case hd => rfl); (case hg => rfl); (case hr => first | (go_simp; done) | (go_simp; rfl)); intro gb191 hg w107 hbox hb; have n0_ := Aside0.mk (below_step (by repeat (first | (with_reducible first | exact HB.out | apply below_alloc | apply pw_below_drewN | apply below_drew1) | exact HB.out)) hb); have n1_ := Aside0.mk (hbox); have n2_ := Aside0.mk ((by rw [hg]; exact (below_size (by repeat (first | (with_reducible first | exact HB.out | apply below_alloc | apply pw_below_drewN | apply below_drew1) | exact HB.out))) : w.heap.size ≤ gb191)); have n3_ := Aside0.mk ((by rw [hg]; exact (below_size (by repeat (first | (with_reducible first | exact HB.out | apply below_alloc | apply pw_below_drewN | apply below_drew1) | exact HB.out))) : w.heap.size ≤ gb191)); clear HB; have HB := n0_; have BK191 := n1_; have GW191 := n2_; have GE191 := n3_; clear n0_ n1_ n2_ n3_; clear hb hbox hg))
      have n0_ := Aside0.mk (blk_drew BK191.out)
      have n1_ := Aside0.mk (below_drew1 HB.out)
      clear BK191
      clear HB
      have BK191 := n0_
      have HB := n1_
      clear n0_ n1_
      refine start_ (n := 6) (S := fun w' => w'.cell? ⟨gb191, 0, none⟩ = some (.int .u64 a2_0) ∧ w'.cell? ⟨gb191, 1, none⟩ = some (.int .u64 a2_1)) (ds := []) #[false, false, false, false, false, false] (by kernel_rfl) rfl rfl ⟨(blk_cell BK191.out 0).trans rfl, (blk_cell BK191.out 1).trans rfl⟩ (fun hHeld => ?_)
      generalize w107.drew = w108 at BK191 HB hHeld ⊢
      refine pure_ (i := 0) (N := some 24) (v := ?_) (a' := ?_) #[true, false, false, false, false, false] rfl rfl (by kernel_rfl) (fun _ _ _ h => h) (Or.inl ⟨by rfl, ?_⟩) ?_ ?_
      rotate_left
      · intro w'
        go_simp
        with_reducible rfl
      rotate_left
      · simp only [Act.put, List.setIfInBounds_toArray, List.set_cons_zero, List.set_cons_succ, i64_w, i32_w]
        rfl
      refine pure_ (i := 2) (N := some 26) (v := ?_) (a' := ?_) #[true, false, true, false, false, false] rfl rfl (by kernel_rfl) (fun _ _ _ h => h) (Or.inl ⟨by rfl, ?_⟩) ?_ ?_
      rotate_left
      · intro w'
        go_simp
        with_reducible rfl
      rotate_left
      · simp only [Act.put, List.setIfInBounds_toArray, List.set_cons_zero, List.set_cons_succ, i64_w, i32_w]
        rfl
      refine take_ (i := 1) (N := some 25) (v := ?_) (a' := ?_) #[true, true, true, false, false, false] rfl rfl (by kernel_rfl) (fun _ _ _ h => h) (Or.inl ⟨by rfl, ?_⟩) hHeld ?_ ?_
      rotate_left
      · rintro w' ⟨s0, s1⟩
        go_simp
        with_reducible rfl
      rotate_left
      · simp only [Act.put, List.setIfInBounds_toArray, List.set_cons_zero, List.set_cons_succ, i64_w, i32_w]
        rfl
      refine pure_ (i := 4) (N := some 7) (v := ?_) (a' := ?_) #[true, true, true, false, true, false] rfl rfl (by kernel_rfl) (fun _ _ _ h => h) (Or.inl ⟨by rfl, ?_⟩) ?_ ?_
      rotate_left
      · intro w'
        go_simp
        with_reducible rfl
      rotate_left
      · simp only [Act.put, List.setIfInBounds_toArray, List.set_cons_zero, List.set_cons_succ, i64_w, i32_w]
        rfl
      refine take_ (i := 3) (N := some 27) (v := ?_) (a' := ?_) #[true, true, true, true, true, false] rfl rfl (by kernel_rfl) (fun _ _ _ h => h) (Or.inl ⟨by rfl, ?_⟩) hHeld ?_ ?_
      rotate_left
      · rintro w' ⟨s0, s1⟩
        go_simp
        with_reducible rfl
      rotate_left
      · simp only [Act.put, List.setIfInBounds_toArray, List.set_cons_zero, List.set_cons_succ, i64_w, i32_w]
        rfl
      refine pure_ (i := 5) (N := some 8) (v := ?_) (a' := ?_) #[true, true, true, true, true, true] rfl rfl (by kernel_rfl) (fun _ _ _ h => h) (Or.inl ⟨by rfl, ?_⟩) ?_ ?_
      rotate_left
      · intro w'
        go_simp
        with_reducible rfl
      rotate_left
      · simp only [Act.put, List.setIfInBounds_toArray, List.set_cons_zero, List.set_cons_succ, i64_w, i32_w]
        rfl
      refine done_ (by kernel_rfl) ?_
      try go_wp2_with (first | ((with_reducible refine gate_callee (f := 17) rfl ?_); refine goesL_ (some 29) rfl rfl Try.func17 (by kernel_rfl) rfl #[.int .i64 a0] rfl (by (try simp only [List.map_toArray, List.map_cons, List.map_nil]); first | done | rfl | (simp only [List.length_drop, List.length_take]; rfl)) ?_; (with_reducible refine (sakiaref03_Right.calls a0 false _ A4.out).mono ?_); rintro e w' ⟨rfl, ⟨nd, rfl⟩⟩; refine ⟨_, rfl, ?_⟩) | ((with_reducible refine gate_callee (f := 24) rfl ?_); refine goesL_ (some 35) rfl rfl Try.func24 (by kernel_rfl) rfl #[.int .i64 a0, .int .u64 a2_0, .int .u64 a2_1, .int .i64 a1] rfl (by (try simp only [List.map_toArray, List.map_cons, List.map_nil]); first | done | rfl | (simp only [List.length_drop, List.length_take]; rfl)) ?_; (with_reducible refine (sakialaw03_none.calls a0 a2_0 a2_1 a1 true _ A104.out).mono ?_); rintro e w109 ⟨rfl, hb⟩; refine ⟨_, rfl, ?_⟩; have n0_ := Aside0.mk (blk_below (g := gb191) (o := .cells #[.int .u64 a2_0, .int .u64 a2_1] 48 (0, 0)) (by (with_reducible repeat (first | refine blk_drewN ?_ _ | refine blk_drew ?_ | refine blk_alloc ?_ _)); exact BK191.out) hb); have n1_ := Aside0.mk (below_step (by repeat (first | (with_reducible first | exact HB.out | apply below_alloc | apply pw_below_drewN | apply below_drew1 | refine below_set ?_ GE191.out) | exact HB.out)) hb); clear BK191; clear HB; have BK191 := n0_; have HB := n1_; clear n0_ n1_; (try clear hb); (try clear hb2); (try clear hk); (try clear hi)) | (go_at_call 7; (with_reducible refine (sakialaw03_live.calls  t194 _ A106.out).mono ?_); rintro e w110 ⟨rfl, hb⟩; have n0_ := Aside0.mk (blk_below (g := gb191) (o := .cells #[.int .u64 a2_0, .int .u64 a2_1] 48 (0, 0)) (by (with_reducible repeat (first | refine blk_drewN ?_ _ | refine blk_drew ?_ | refine blk_alloc ?_ _)); exact BK191.out) hb); have n1_ := Aside0.mk (below_step (by repeat (first | (with_reducible first | exact HB.out | apply below_alloc | apply pw_below_drewN | apply below_drew1 | refine below_set ?_ GE191.out) | exact HB.out)) hb); clear BK191; clear HB; have BK191 := n0_; have HB := n1_; clear n0_ n1_; (try clear hb); (try clear hb2); (try clear hk); (try clear hi)))
      go_ret
      exact ⟨by first | rfl | (simp [errW_none, errW_some] <;> rfl) | (simp [*, errW_none, errW_some] <;> rfl), by repeat (first | (with_reducible first | exact HB.out | apply below_alloc | apply pw_below_drewN | apply below_drew1 | refine below_set ?_ GE191.out) | exact HB.out)⟩
    · replace c105 := Bool.eq_false_iff.mpr c105
      subst c105
      have H1 : (none) = some r := by rw [if_neg (show ¬ (false = true) by decide)] at H; exact H
      clear H
      have H := H1
      clear H1
      exact absurd H (by simp)

/-- THE ONE PURE STATEMENT of sakialaw03_SpanTells: yours. -/
def sakialaw03_SpanTells.Pure : Prop := ∀ (a0 : Int) (a1 : Int) (a2_0 : Int) (a2_1 : Int), (Lit.int .i64 a0).wf = true → (Lit.int .i64 a1).wf = true → (Lit.int .u64 a2_0).wf = true → (Lit.int .u64 a2_1).wf = true → ∃ k, sakialaw03_SpanTells.f k a0 a1 a2_0 a2_1 = some true
theorem sakialaw03_SpanTells.walk (P : sakialaw03_SpanTells.Pure) (a0 : Int) (a1 : Int) (a2_0 : Int) (a2_1 : Int) (w : World) (w0 : (Lit.int .i64 a0).wf = true) (w1 : (Lit.int .i64 a1).wf = true) (w2_0 : (Lit.int .u64 a2_0).wf = true) (w2_1 : (Lit.int .u64 a2_1).wf = true) :
    Calls Try.prog 6 #[.int .i64 a0, .int .i64 a1, .agg #[.int .u64 a2_0, .int .u64 a2_1]] w fun e w' => e = .returned (.bool true) ∧ Below w.heap.size w w' := by
  obtain ⟨k, h⟩ := P a0 a1 a2_0 a2_1 w0 w1 w2_0 w2_1
  refine (sakialaw03_SpanTells.calls k a0 a1 a2_0 a2_1 true w h).mono ?_
  rintro e w' ⟨rfl, hd⟩
  exact ⟨rfl, hd⟩

end Go.Proofs.Ytbgbhoidchdjmaa.QSpanTells
