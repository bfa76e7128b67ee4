/- It is proved that the law SpanBack answers true for every input: what is cut is joined again, wherever it is cut, and a span cannot be cut where it is not. Conditions: none. -/
import Derived.Test.YtbgbhoidchdjmaaQSpanBackx6
namespace Go.Proofs.Ytbgbhoidchdjmaa.Pure
open Go Go.RowKit Go.Proofs.Ytbgbhoidchdjmaa.QSpanBack Go.Proofs.YtbgbhoidchdjmaaW.PrintWords Go.Proofs.YtbgbhoidchdjmaaW.PrintLast Go.Proofs.YtbgbhoidchdjmaaW.PrintMore
set_option linter.unusedVariables false
set_option linter.unusedSimpArgs false

theorem live_true : sakialaw03_live.f = some true := by kernel_rfl
theorem r32 (a n : Int) : span_Span_uint32_Right.f a n = some (decide (0 ≤ n ∧ n ≤ 1073741824)) := by
  unfold span_Span_uint32_Right.f
  by_cases h : 0 ≤ n
  · rw [if_pos h]; simp [h]
  · rw [if_neg h, decide_eq_false (by omega)]
theorem r64 (a n : Int) : span_Span_uint64_Right.f a n = some (decide (0 ≤ n ∧ n ≤ 1073741824)) := by
  unfold span_Span_uint64_Right.f
  by_cases h : 0 ≤ n
  · rw [if_pos h]; simp [h]
  · rw [if_neg h, decide_eq_false (by omega)]
theorem rref (n : Int) : sakiaref03_Right.f n = some (decide (0 ≤ n ∧ n ≤ 1073741824)) := by
  unfold sakiaref03_Right.f
  by_cases h : 0 ≤ n
  · rw [if_pos h]; simp [h]
  · rw [if_neg h, decide_eq_false (by omega)]
theorem cut32_no (f n a : Int) (h : ¬ (0 ≤ n ∧ n ≤ 1073741824 ∧ 0 ≤ a ∧ a ≤ n)) : span_Span_uint32_Cut.f f n a = some (0, 0, 0, 0, false) := by
  unfold span_Span_uint32_Cut.f
  rw [r32, Option.bind_some]
  by_cases h1 : 0 ≤ n ∧ n ≤ 1073741824
  · rw [decide_eq_true h1, if_pos rfl]
    by_cases h2 : a < 0
    · rw [if_pos h2]
    · rw [if_neg h2, if_pos (by omega)]
  · rw [decide_eq_false h1, if_neg (by decide)]
theorem cut64_no (f n a : Int) (h : ¬ (0 ≤ n ∧ n ≤ 1073741824 ∧ 0 ≤ a ∧ a ≤ n)) : span_Span_uint64_Cut.f f n a = some (0, 0, 0, 0, false) := by
  unfold span_Span_uint64_Cut.f
  rw [r64, Option.bind_some]
  by_cases h1 : 0 ≤ n ∧ n ≤ 1073741824
  · rw [decide_eq_true h1, if_pos rfl]
    by_cases h2 : a < 0
    · rw [if_pos h2]
    · rw [if_neg h2, if_pos (by omega)]
  · rw [decide_eq_false h1, if_neg (by decide)]
theorem cut32_yes (f n a : Int) (h : 0 ≤ n ∧ n ≤ 1073741824 ∧ 0 ≤ a ∧ a ≤ n) : span_Span_uint32_Cut.f f n a = some (f, a, (f + a % 4294967296) % 4294967296, n - a, true) := by
  unfold span_Span_uint32_Cut.f wide_Add_uint32.f
  rw [r32, Option.bind_some, decide_eq_true (by omega), if_pos rfl, if_neg (by omega), if_neg (by omega), Option.bind_some, show wrap64 (n - a) = n - a by unfold wrap64; omega]
theorem cut64_yes (f n a : Int) (h : 0 ≤ n ∧ n ≤ 1073741824 ∧ 0 ≤ a ∧ a ≤ n) : span_Span_uint64_Cut.f f n a = some (f, a, IntKind.u64.wrap (f + IntKind.u64.wrap a), n - a, true) := by
  unfold span_Span_uint64_Cut.f wide_Add_uint64.f
  rw [r64, Option.bind_some, decide_eq_true (by omega), if_pos rfl, if_neg (by omega), if_neg (by omega), Option.bind_some, show wrap64 (n - a) = n - a by unfold wrap64; omega]
theorem join32_yes (f n a : Int) (h : 0 ≤ n ∧ n ≤ 1073741824 ∧ 0 ≤ a ∧ a ≤ n) : span_Span_uint32_Join.f f a ((f + a % 4294967296) % 4294967296) (n - a) = some (f, n, true) := by
  unfold span_Span_uint32_Join.f span_Span_uint32_End.f wide_Add_uint32.f
  rw [r32, r32, Option.bind_some, decide_eq_true (by omega), if_pos rfl, Option.bind_some, decide_eq_true (by omega), if_pos rfl, Option.bind_some, if_pos rfl, Option.bind_some, Option.bind_some, if_pos rfl, show wrap64 (1073741824 - a) = 1073741824 - a by unfold wrap64; omega, if_neg (by omega), show wrap64 (a + (n - a)) = n by unfold wrap64; omega]
theorem join64_yes (f n a : Int) (h : 0 ≤ n ∧ n ≤ 1073741824 ∧ 0 ≤ a ∧ a ≤ n) : span_Span_uint64_Join.f f a (IntKind.u64.wrap (f + IntKind.u64.wrap a)) (n - a) = some (f, n, true) := by
  unfold span_Span_uint64_Join.f span_Span_uint64_End.f wide_Add_uint64.f
  rw [r64, r64, Option.bind_some, decide_eq_true (by omega), if_pos rfl, Option.bind_some, decide_eq_true (by omega), if_pos rfl, Option.bind_some, if_pos rfl, Option.bind_some, Option.bind_some, if_pos rfl, show wrap64 (1073741824 - a) = 1073741824 - a by unfold wrap64; omega, if_neg (by omega), show wrap64 (a + (n - a)) = n by unfold wrap64; omega]
theorem SpanBack : sakialaw03_SpanBack.Pure := by
  intro a0 a1 a2 w0 w1 w2
  refine ⟨1, ?_⟩
  simp only [Lit.wf, decide_eq_true_eq, Bool.and_eq_true, IntKind.min, IntKind.max, IntKind.signed, IntKind.bits] at w0 w1
  unfold sakialaw03_SpanBack.f sakialaw03_small.f sakialaw03_great.f wide_Of_uint32.f
  rw [rref]
  simp only [Option.bind_some]
  by_cases h : 0 ≤ a0 ∧ a0 ≤ 1073741824 ∧ 0 ≤ a1 ∧ a1 ≤ a0
  · rw [cut32_yes _ _ _ h, cut64_yes _ _ _ h]
    simp only [Option.bind_some]
    rw [decide_eq_true (by omega), if_pos rfl, if_pos (by omega), decide_eq_true (by omega)]
    simp only [sakialaw03_SpanBack.j0]
    rw [join32_yes _ _ _ h, join64_yes _ _ _ h]
    simp only [Option.bind_some, live_true, show wrap64 (a0 - a1) = a0 - a1 by unfold wrap64; omega]
    simp
  · rw [cut32_no _ _ _ h, cut64_no _ _ _ h]
    simp only [Option.bind_some]
    have hj : sakialaw03_SpanBack.j0 1 a0 a1 a2 false false false (a2 % 4294967296) a0 0 0 0 0 0 0 0 0 = some true := by
      simp only [sakialaw03_SpanBack.j0]
      simp only [Option.bind_some, live_true]
      simp
    by_cases h2 : 0 ≤ a0 ∧ a0 ≤ 1073741824
    · rw [decide_eq_true h2, if_pos rfl]
      by_cases h3 : a1 ≥ 0
      · rw [if_pos h3, decide_eq_false (by omega)]
        exact hj
      · rw [if_neg h3]
        exact hj
    · rw [decide_eq_false h2, if_neg (by decide)]
      exact hj


end Go.Proofs.Ytbgbhoidchdjmaa.Pure
