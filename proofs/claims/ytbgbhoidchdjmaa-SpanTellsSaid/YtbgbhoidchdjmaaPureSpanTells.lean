/- It is proved that the law SpanTells answers true for every input: which positions any span has, where they stand in it, and where it ends; nothing of one that may not be. Conditions: none. -/
import Derived.Test.YtbgbhoidchdjmaaQSpanTellsx7
namespace Go.Proofs.Ytbgbhoidchdjmaa.Pure
open Go Go.RowKit Go.Proofs.Ytbgbhoidchdjmaa.QSpanTells Go.Proofs.YtbgbhoidchdjmaaW.PrintWords Go.Proofs.YtbgbhoidchdjmaaW.PrintLast Go.Proofs.YtbgbhoidchdjmaaW.PrintMore
set_option linter.unusedVariables false
set_option linter.unusedSimpArgs false

theorem wrap_u64 (n : Int) : IntKind.u64.wrap n = n % 18446744073709551616 := by simp [IntKind.wrap, IntKind.bits, IntKind.signed]

theorem cut32 (x : Int) (h0 : 0 ≤ x) : sakiaref01_Cut.f 32 x = some (x % 4294967296) := by
  unfold sakiaref01_Cut.f
  rw [if_pos rfl, Int.tmod_eq_emod_of_nonneg h0]
theorem cut64 (x : Int) : sakiaref01_Cut.f 64 x = some x := by
  unfold sakiaref01_Cut.f
  rw [if_neg (by decide), if_pos rfl]
theorem plus32 (p n : Int) : sakiaref01_Plus.f 32 p n = some ((p + n) % 4294967296) := by
  unfold sakiaref01_Plus.f
  rw [wrap_u64, wrap_u64, cut32 _ (by omega), Option.bind_some]
  congr 1
  omega
theorem plus64 (p n : Int) : sakiaref01_Plus.f 64 p n = some ((p + n) % 18446744073709551616) := by
  unfold sakiaref01_Plus.f
  rw [wrap_u64, wrap_u64, cut64, Option.bind_some]
  congr 1
  omega


theorem live_true : sakialaw03_live.f = some true := by kernel_rfl
theorem r32 (a n : Int) : span_Span_uint32_Right.f a n = some (decide (0 ≤ n ∧ n ≤ 1073741824)) := by
  unfold span_Span_uint32_Right.f
  by_cases h : 0 ≤ n
  · rw [if_pos h]; simp [h]
  · rw [if_neg h, decide_eq_false (by omega)]
theorem r64 (a n : Int) : span_Span_uint64_Right.f a n = some (decide (0 ≤ n ∧ n ≤ 1073741824)) := by
  unfold span_Span_uint64_Right.f
  by_cases h : 0 ≤ n
  · rw [if_pos h]; simp [h]
  · rw [if_neg h, decide_eq_false (by omega)]
theorem rref (n : Int) : sakiaref03_Right.f n = some (decide (0 ≤ n ∧ n ≤ 1073741824)) := by
  unfold sakiaref03_Right.f
  by_cases h : 0 ≤ n
  · rw [if_pos h]; simp [h]
  · rw [if_neg h, decide_eq_false (by omega)]

def posM (M f : Int) (n : Nat) : List Int := (List.range n).map fun (i : Nat) => (f + (i : Int)) % M
theorem posM_len (M f : Int) (n : Nat) : (posM M f n).length = n := by simp [posM]
theorem posM_succ (M f : Int) (n : Nat) : posM M f (n + 1) = posM M f n ++ [(f + (n : Int)) % M] := by simp [posM, List.range_succ]
theorem list_loop (w M f : Int) (hp : ∀ p n, sakiaref01_Plus.f w p n = some ((p + n) % M)) (n : Nat) (hn : n ≤ 300) (d : Nat) : ∀ k i : Nat, i + d = n → d < k → sakiaref03_List.l0 k (posM M f i) (i : Int) w f (n : Int) = some (posM M f n) := by
  induction d with
  | zero =>
    intro k i hi hk
    obtain ⟨k, rfl⟩ : ∃ m, k = m + 1 := ⟨k - 1, by omega⟩
    simp only [sakiaref03_List.l0]
    rw [if_neg (by omega)]
    obtain rfl : i = n := by omega
    rfl
  | succ d ih =>
    intro k i hi hk
    obtain ⟨k, rfl⟩ : ∃ m, k = m + 1 := ⟨k - 1, by omega⟩
    simp only [sakiaref03_List.l0]
    rw [if_pos (by omega), hp, Option.bind_some, posM_len, if_pos (by omega), ← posM_succ, show wrap64 ((i : Int) + 1) = ((i + 1 : Nat) : Int) by unfold wrap64; omega]
    exact ih k (i + 1) (by omega) (by omega)
theorem list_yes (w M f : Int) (hp : ∀ p n, sakiaref01_Plus.f w p n = some ((p + n) % M)) (n : Nat) (hn : n ≤ 300) (k : Nat) (hk : 301 ≤ k) : sakiaref03_List.f k w f (n : Int) = some (posM M f n) :=
  list_loop w M f hp n hn n k 0 (by omega) (by omega)

/-- Where a position stands behind another one. -/
theorem hit (M f p i : Int) (hM : 0 < M) (hp : 0 ≤ p ∧ p < M) (hi : 0 ≤ i ∧ i < M) : (f + i) % M = p ↔ i = (p - f) % M := by
  constructor
  · intro h
    have : (p - f) % M = i % M := by
      rw [← h, Int.sub_eq_add_neg, Int.emod_add_emod]
      congr 1
      omega
    rw [this, Int.emod_eq_of_lt hi.1 hi.2]
  · intro h
    rw [h, Int.add_emod_emod, show f + (p - f) = p by omega, Int.emod_eq_of_lt hp.1 hp.2]
theorem place_loop (M f p : Int) (hM : 200 < M) (hp : 0 ≤ p ∧ p < M) (n : Nat) (hn : n ≤ 200) (d : Nat) : ∀ k i : Nat, i + d = n → d < k → ((i : Int) ≤ (p - f) % M ∨ (n : Int) ≤ (p - f) % M) →
    sakiaref03_Place.l0 k p (posM M f n) (i : Int) = some (if (p - f) % M < n then (p - f) % M else -1) := by
  have h0 : 0 ≤ (p - f) % M := Int.emod_nonneg _ (by omega)
  induction d with
  | zero =>
    intro k i hi hk hle
    obtain ⟨k, rfl⟩ : ∃ m, k = m + 1 := ⟨k - 1, by omega⟩
    simp only [sakiaref03_Place.l0]
    rw [posM_len, if_neg (by omega), if_neg (by omega)]
  | succ d ih =>
    intro k i hi hk hle
    obtain ⟨k, rfl⟩ : ∃ m, k = m + 1 := ⟨k - 1, by omega⟩
    simp only [sakiaref03_Place.l0]
    have hr : rd (posM M f n) (i : Int) = (f + (i : Int)) % M := by
      simp [rd, posM, show i < n by omega]
    rw [posM_len, if_pos (by omega), if_pos (by omega), hr]
    by_cases he : (f + (i : Int)) % M = p
    · have hi2 := (hit M f p i (by omega) hp ⟨by omega, by omega⟩).1 he
      rw [if_pos he, if_pos (by omega), hi2]
    · have hi2 : (i : Int) ≠ (p - f) % M := fun e => he ((hit M f p i (by omega) hp ⟨by omega, by omega⟩).2 e)
      rw [if_neg he, show wrap64 ((i : Int) + 1) = ((i + 1 : Nat) : Int) by unfold wrap64; omega]
      exact ih k (i + 1) (by omega) (by omega) (by omega)
theorem refplace (w M f p : Int) (hM : 200 < M) (hpl : ∀ p n, sakiaref01_Plus.f w p n = some ((p + n) % M)) (hp : 0 ≤ p ∧ p < M) (n : Nat) (hn : n ≤ 200) (k : Nat) (hk : 400 ≤ k) :
    sakiaref03_Place.f k w f (n : Int) p = some (if (p - f) % M < n then (p - f) % M else -1) := by
  unfold sakiaref03_Place.f
  rw [list_yes w M f hpl n (by omega) k (by omega), Option.bind_some]
  exact place_loop M f p hM hp n hn n k 0 (by omega) (by omega) (.inl (Int.emod_nonneg _ (by omega)))

theorem place32 (f n p : Int) (hn : 0 ≤ n ∧ n ≤ 200) : span_Span_uint32_Place.f f n p = some (if (p - f) % 4294967296 < n then ((p - f) % 4294967296, true) else (0, false)) := by
  have h0 : 0 ≤ (p - f) % 4294967296 := Int.emod_nonneg _ (by decide)
  unfold span_Span_uint32_Place.f wide_Within_uint32.f
  rw [r32, Option.bind_some, decide_eq_true (by omega), if_pos rfl]
  by_cases h : n < 1
  · rw [if_pos h, Option.bind_some, if_neg (by decide), if_neg (by omega)]
  · rw [if_neg h, Option.bind_some, wrap_u64, show n % 18446744073709551616 = n by omega]
    by_cases h2 : (p - f) % 4294967296 < n
    · rw [decide_eq_true h2, if_pos rfl, if_pos h2]
    · rw [decide_eq_false h2, if_neg (by decide), if_neg h2]
theorem place64 (f n p : Int) (hn : 0 ≤ n ∧ n ≤ 200) : span_Span_uint64_Place.f f n p = some (if (p - f) % 18446744073709551616 < n then ((p - f) % 18446744073709551616, true) else (0, false)) := by
  have h0 : 0 ≤ (p - f) % 18446744073709551616 := Int.emod_nonneg _ (by decide)
  unfold span_Span_uint64_Place.f wide_Within_uint64.f
  rw [r64, Option.bind_some, decide_eq_true (by omega), if_pos rfl]
  by_cases h : n < 1
  · rw [if_pos h, Option.bind_some, if_neg (by decide), if_neg (by omega)]
  · rw [if_neg h, Option.bind_some, wrap_u64, wrap_u64, show n % 18446744073709551616 = n by omega]
    by_cases h2 : (p - f) % 18446744073709551616 < n
    · rw [decide_eq_true h2, if_pos rfl, if_pos h2, show wrap64 ((p - f) % 18446744073709551616) = (p - f) % 18446744073709551616 by unfold wrap64; omega]
    · rw [decide_eq_false h2, if_neg (by decide), if_neg h2]
theorem at32 (f n i : Int) (hn : 0 ≤ n ∧ n ≤ 200) : span_Span_uint32_At.f f n i = some (if 0 ≤ i ∧ i < n then ((f + i) % 4294967296, true) else (0, false)) := by
  unfold span_Span_uint32_At.f wide_Add_uint32.f
  rw [r32, Option.bind_some, decide_eq_true (by omega), if_pos rfl]
  by_cases h : i < 0
  · rw [if_pos h, if_neg (by omega)]
  · rw [if_neg h]
    by_cases h2 : i ≥ n
    · rw [if_pos h2, if_neg (by omega)]
    · rw [if_neg h2, if_pos (by omega), Option.bind_some, Int.add_emod_emod]
theorem at64 (f n i : Int) (hn : 0 ≤ n ∧ n ≤ 200) : span_Span_uint64_At.f f n i = some (if 0 ≤ i ∧ i < n then ((f + i) % 18446744073709551616, true) else (0, false)) := by
  unfold span_Span_uint64_At.f wide_Add_uint64.f
  rw [r64, Option.bind_some, decide_eq_true (by omega), if_pos rfl]
  by_cases h : i < 0
  · rw [if_pos h, if_neg (by omega)]
  · rw [if_neg h]
    by_cases h2 : i ≥ n
    · rw [if_pos h2, if_neg (by omega)]
    · rw [if_neg h2, if_pos (by omega), Option.bind_some, wrap_u64, wrap_u64, Int.add_emod_emod]
theorem end32 (f n : Int) (hn : 0 ≤ n ∧ n ≤ 200) : span_Span_uint32_End.f f n = some ((f + n) % 4294967296) := by
  unfold span_Span_uint32_End.f wide_Add_uint32.f
  rw [r32, Option.bind_some, decide_eq_true (by omega), if_pos rfl, Option.bind_some, Int.add_emod_emod]
theorem end64 (f n : Int) (hn : 0 ≤ n ∧ n ≤ 200) : span_Span_uint64_End.f f n = some ((f + n) % 18446744073709551616) := by
  unfold span_Span_uint64_End.f wide_Add_uint64.f
  rw [r64, Option.bind_some, decide_eq_true (by omega), if_pos rfl, Option.bind_some, wrap_u64, wrap_u64, Int.add_emod_emod]
theorem none_yes (n f p i : Int) (hn : ¬ (0 ≤ n ∧ n ≤ 1073741824)) (hf : 0 ≤ f ∧ f < 18446744073709551616) : sakialaw03_none.f n f p i = some true := by
  unfold sakialaw03_none.f sakialaw03_small.f sakialaw03_great.f wide_Of_uint32.f span_Span_uint32_Place.f span_Span_uint64_At.f span_Span_uint32_Cut.f span_Span_uint64_Join.f span_Span_uint32_End.f span_Span_uint64_Has.f span_Span_uint64_Place.f span_Span_uint64_Pieces.f
  simp only [Option.bind_some, r32, r64, decide_eq_false hn, if_pos hf]
  have e : Pieces.pc64 f n 8 = [] := by
    unfold Pieces.pc64
    rw [if_neg (by omega)]
  simp [e]
theorem max_of (x : Int) : mx x 0 = if 0 ≤ x then x else 0 := by
  unfold mx
  split <;> split <;> omega
theorem j1_yes (n f k : Int) (hn : 0 ≤ n ∧ n ≤ 200) (q : Nat) : sakialaw03_SpanTells.j1 (q + 1) n f false (f % 4294967296) n f n = some true := by
  simp only [sakialaw03_SpanTells.j1]
  rw [if_neg (by decide), end32 _ _ hn, Option.bind_some, plus32, Option.bind_some, wrap_u64, Int.emod_add_emod, if_pos (by omega), end64 _ _ hn, Option.bind_some, plus64, Option.bind_some, if_pos rfl, live_true]
  rfl
theorem SpanTells : sakialaw03_SpanTells.Pure := by
  intro n i f p w0 w1 w2 w3
  simp only [Lit.wf, decide_eq_true_eq, Bool.and_eq_true, IntKind.min, IntKind.max, IntKind.signed, IntKind.bits] at w0 w1 w2 w3
  have hf : 0 ≤ f ∧ f < 18446744073709551616 := by simp at w2; omega
  have hp : 0 ≤ p ∧ p < 18446744073709551616 := by simp at w3; omega
  clear w2 w3
  refine ⟨1000, ?_⟩
  unfold sakialaw03_SpanTells.f
  rw [rref, Option.bind_some]
  by_cases hn : 0 ≤ n ∧ n ≤ 1073741824
  · rw [decide_eq_true hn, if_pos rfl]
    by_cases h200 : n > 200
    · rw [if_pos h200, live_true]
      rfl
    · have hn2 : 0 ≤ n ∧ n ≤ 200 := by omega
      obtain ⟨m, rfl⟩ := Int.eq_ofNat_of_zero_le hn.1
      rw [if_neg h200]
      unfold sakialaw03_small.f sakialaw03_great.f wide_Of_uint32.f span_Span_uint32_Has.f span_Span_uint64_Has.f
      rw [cut32 f hf.1, cut32 p hp.1]
      simp only [Option.bind_some, place32 _ _ _ hn2, place64 _ _ _ hn2, r32, at32 _ _ _ hn2, at64 _ _ _ hn2]
      rw [refplace 32 4294967296 (f % 4294967296) (p % 4294967296) (by decide) plus32 ⟨Int.emod_nonneg _ (by decide), Int.emod_lt_of_pos _ (by decide)⟩ m (by omega) 1000 (by decide)]
      rw [refplace 64 18446744073709551616 f p (by decide) plus64 hp m (by omega) 1000 (by decide)]
      simp only [Option.bind_some]
      rw [decide_eq_true hn, if_pos rfl]
      have d0 : 0 ≤ (p % 4294967296 - f % 4294967296) % 4294967296 := Int.emod_nonneg _ (by decide)
      have e0 : 0 ≤ (p - f) % 18446744073709551616 := Int.emod_nonneg _ (by decide)
      generalize (p % 4294967296 - f % 4294967296) % 4294967296 = d at *
      generalize (p - f) % 18446744073709551616 = e at *
      have hj : ∀ q, sakialaw03_SpanTells.j0 (q + 2) m i f (if 0 ≤ i ∧ i < (m : Int) then ((f % 4294967296 + i) % 4294967296, true) else (0, false)).1 (if 0 ≤ i ∧ i < (m : Int) then ((f % 4294967296 + i) % 4294967296, true) else (0, false)).2
          (if 0 ≤ i ∧ i < (m : Int) then ((f + i) % 18446744073709551616, true) else (0, false)).1 (if 0 ≤ i ∧ i < (m : Int) then ((f + i) % 18446744073709551616, true) else (0, false)).2 (decide (0 ≤ i ∧ i < (m : Int))) (f % 4294967296) m f m = some true := by
        intro q
        by_cases hi : 0 ≤ i ∧ i < (m : Int)
        · rw [if_pos hi, if_pos hi, decide_eq_true hi]
          simp only [sakialaw03_SpanTells.j0]
          rw [if_neg (by decide), if_neg (by decide), if_pos trivial, plus32, Option.bind_some, wrap_u64, Int.emod_add_emod, if_pos (by omega), plus64, Option.bind_some, if_pos rfl]
          exact j1_yes m f 0 hn2 q
        · rw [if_neg hi, if_neg hi, decide_eq_false hi]
          simp only [sakialaw03_SpanTells.j0]
          rw [if_neg (by decide), if_neg (by decide), if_neg (by decide), if_pos trivial, show ((0 : Int) != 0) = false by decide]
          exact j1_yes m f 0 hn2 q
      have hlast : (if i ≥ 0 then (sakialaw03_SpanTells.j0 1000 m i f (if 0 ≤ i ∧ i < (m : Int) then ((f % 4294967296 + i) % 4294967296, true) else (0, false)).1 (if 0 ≤ i ∧ i < (m : Int) then ((f % 4294967296 + i) % 4294967296, true) else (0, false)).2
          (if 0 ≤ i ∧ i < (m : Int) then ((f + i) % 18446744073709551616, true) else (0, false)).1 (if 0 ≤ i ∧ i < (m : Int) then ((f + i) % 18446744073709551616, true) else (0, false)).2 (decide (i < (m : Int))) (f % 4294967296) m f m)
          else (sakialaw03_SpanTells.j0 1000 m i f (if 0 ≤ i ∧ i < (m : Int) then ((f % 4294967296 + i) % 4294967296, true) else (0, false)).1 (if 0 ≤ i ∧ i < (m : Int) then ((f % 4294967296 + i) % 4294967296, true) else (0, false)).2
          (if 0 ≤ i ∧ i < (m : Int) then ((f + i) % 18446744073709551616, true) else (0, false)).1 (if 0 ≤ i ∧ i < (m : Int) then ((f + i) % 18446744073709551616, true) else (0, false)).2 false (f % 4294967296) m f m)) = some true := by
        have := hj 998
        by_cases hi : i ≥ 0
        · rw [if_pos hi]
          rw [show decide (i < (m : Int)) = decide (0 ≤ i ∧ i < (m : Int)) from decide_eq_decide.2 ⟨fun h => ⟨hi, h⟩, fun h => h.2⟩]
          exact this
        · rw [if_neg hi]
          rw [decide_eq_false (by omega)] at this
          exact this
      rw [hlast]
      clear hlast hj
      by_cases h1 : d < (m : Int)
      · simp only [if_pos h1]
        rw [decide_eq_true (show d ≥ 0 from d0)]
        by_cases h2 : e < (m : Int)
        · simp only [if_pos h2]
          rw [decide_eq_true (show e ≥ 0 from e0), max_of, if_pos d0, max_of, if_pos e0]
          simp
        · simp only [if_neg h2]
          rw [decide_eq_false (show ¬ (-1 : Int) ≥ 0 by decide), max_of, if_pos d0, max_of, if_neg (show ¬ 0 ≤ (-1 : Int) by decide)]
          simp
      · simp only [if_neg h1]
        rw [decide_eq_false (show ¬ (-1 : Int) ≥ 0 by decide)]
        by_cases h2 : e < (m : Int)
        · simp only [if_pos h2]
          rw [decide_eq_true (show e ≥ 0 from e0), max_of, if_neg (show ¬ 0 ≤ (-1 : Int) by decide), max_of, if_pos e0]
          simp
        · simp only [if_neg h2]
          rw [decide_eq_false (show ¬ (-1 : Int) ≥ 0 by decide), max_of, if_neg (show ¬ 0 ≤ (-1 : Int) by decide)]
          simp
  · rw [decide_eq_false hn, if_neg (by decide), none_yes n f p i hn hf, Option.bind_some, if_pos rfl, live_true]
    rfl


end Go.Proofs.Ytbgbhoidchdjmaa.Pure
