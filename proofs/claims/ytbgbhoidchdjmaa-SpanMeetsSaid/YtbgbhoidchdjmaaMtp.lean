/- The law SpanMeets compares what these lemmas tell, in numbers. No conditions but those that the theorems name. -/
import Derived.Test.YtbgbhoidchdjmaaQSpanMeetsx5
import Derived.Test.YtbgbhoidchdjmaaQSpanMeetsx3
namespace Go.Proofs.Ytbgbhoidchdjmaa.QSpanMeets
open Go Go.RowKit Go.Proofs.YtbgbhoidchdjmaaW.PrintWords Go.Proofs.YtbgbhoidchdjmaaW.PrintLast Go.Proofs.YtbgbhoidchdjmaaW.PrintMore
attribute [local go_sem] max2_int min2_int max_two min_two max_three min_three max_four min_four
set_option linter.unusedVariables false
set_option linter.unusedSimpArgs false
theorem wrap_u64 (n : Int) : IntKind.u64.wrap n = n % 18446744073709551616 := by simp [IntKind.wrap, IntKind.bits, IntKind.signed]

theorem cut32 (x : Int) (h0 : 0 ≤ x) : sakiaref01_Cut.f 32 x = some (x % 4294967296) := by
  unfold sakiaref01_Cut.f
  rw [if_pos rfl, Int.tmod_eq_emod_of_nonneg h0]
theorem cut64 (x : Int) : sakiaref01_Cut.f 64 x = some x := by
  unfold sakiaref01_Cut.f
  rw [if_neg (by decide), if_pos rfl]
theorem plus32 (p n : Int) : sakiaref01_Plus.f 32 p n = some ((p + n) % 4294967296) := by
  unfold sakiaref01_Plus.f
  rw [wrap_u64, wrap_u64, cut32 _ (by omega), Option.bind_some]
  congr 1
  omega
theorem plus64 (p n : Int) : sakiaref01_Plus.f 64 p n = some ((p + n) % 18446744073709551616) := by
  unfold sakiaref01_Plus.f
  rw [wrap_u64, wrap_u64, cut64, Option.bind_some]
  congr 1
  omega

def posM (M f : Int) (n : Nat) : List Int := (List.range n).map fun (i : Nat) => (f + (i : Int)) % M
theorem posM_len (M f : Int) (n : Nat) : (posM M f n).length = n := by simp [posM]
theorem posM_succ (M f : Int) (n : Nat) : posM M f (n + 1) = posM M f n ++ [(f + (n : Int)) % M] := by simp [posM, List.range_succ]
theorem list_loop (w M f : Int) (hp : ∀ p n, sakiaref01_Plus.f w p n = some ((p + n) % M)) (n : Nat) (hn : n ≤ 300) (d : Nat) : ∀ k i : Nat, i + d = n → d < k → sakiaref03_List.l0 k (posM M f i) (i : Int) w f (n : Int) = some (posM M f n) := by
  induction d with
  | zero =>
    intro k i hi hk
    obtain ⟨k, rfl⟩ : ∃ m, k = m + 1 := ⟨k - 1, by omega⟩
    simp only [sakiaref03_List.l0]
    rw [if_neg (by omega)]
    obtain rfl : i = n := by omega
    rfl
  | succ d ih =>
    intro k i hi hk
    obtain ⟨k, rfl⟩ : ∃ m, k = m + 1 := ⟨k - 1, by omega⟩
    simp only [sakiaref03_List.l0]
    rw [if_pos (by omega), hp, Option.bind_some, posM_len, if_pos (by omega), ← posM_succ, show wrap64 ((i : Int) + 1) = ((i + 1 : Nat) : Int) by unfold wrap64; omega]
    exact ih k (i + 1) (by omega) (by omega)
theorem list_yes (w M f : Int) (hp : ∀ p n, sakiaref01_Plus.f w p n = some ((p + n) % M)) (n : Nat) (hn : n ≤ 300) (k : Nat) (hk : 301 ≤ k) : sakiaref03_List.f k w f (n : Int) = some (posM M f n) :=
  list_loop w M f hp n hn n k 0 (by omega) (by omega)
theorem live_true : sakialaw03_live.f = some true := by kernel_rfl
theorem r32 (a n : Int) : span_Span_uint32_Right.f a n = some (decide (0 ≤ n ∧ n ≤ 1073741824)) := by
  unfold span_Span_uint32_Right.f
  by_cases h : 0 ≤ n
  · rw [if_pos h]; simp [h]
  · rw [if_neg h, decide_eq_false (by omega)]
theorem r64 (a n : Int) : span_Span_uint64_Right.f a n = some (decide (0 ≤ n ∧ n ≤ 1073741824)) := by
  unfold span_Span_uint64_Right.f
  by_cases h : 0 ≤ n
  · rw [if_pos h]; simp [h]
  · rw [if_neg h, decide_eq_false (by omega)]
/-- Where a position stands behind another one. -/
theorem hit (M f p i : Int) (hM : 0 < M) (hp : 0 ≤ p ∧ p < M) (hi : 0 ≤ i ∧ i < M) : (f + i) % M = p ↔ i = (p - f) % M := by
  constructor
  · intro h
    have : (p - f) % M = i % M := by
      rw [← h, Int.sub_eq_add_neg, Int.emod_add_emod]
      congr 1
      omega
    rw [this, Int.emod_eq_of_lt hi.1 hi.2]
  · intro h
    rw [h, Int.add_emod_emod, show f + (p - f) = p by omega, Int.emod_eq_of_lt hp.1 hp.2]
theorem place_loop (M f p : Int) (hM : 200 < M) (hp : 0 ≤ p ∧ p < M) (n : Nat) (hn : n ≤ 200) (d : Nat) : ∀ k i : Nat, i + d = n → d < k → ((i : Int) ≤ (p - f) % M ∨ (n : Int) ≤ (p - f) % M) →
    sakiaref03_Place.l0 k p (posM M f n) (i : Int) = some (if (p - f) % M < n then (p - f) % M else -1) := by
  have h0 : 0 ≤ (p - f) % M := Int.emod_nonneg _ (by omega)
  induction d with
  | zero =>
    intro k i hi hk hle
    obtain ⟨k, rfl⟩ : ∃ m, k = m + 1 := ⟨k - 1, by omega⟩
    simp only [sakiaref03_Place.l0]
    rw [posM_len, if_neg (by omega), if_neg (by omega)]
  | succ d ih =>
    intro k i hi hk hle
    obtain ⟨k, rfl⟩ : ∃ m, k = m + 1 := ⟨k - 1, by omega⟩
    simp only [sakiaref03_Place.l0]
    have hr : rd (posM M f n) (i : Int) = (f + (i : Int)) % M := by
      simp [rd, posM, show i < n by omega]
    rw [posM_len, if_pos (by omega), if_pos (by omega), hr]
    by_cases he : (f + (i : Int)) % M = p
    · have hi2 := (hit M f p i (by omega) hp ⟨by omega, by omega⟩).1 he
      rw [if_pos he, if_pos (by omega), hi2]
    · have hi2 : (i : Int) ≠ (p - f) % M := fun e => he ((hit M f p i (by omega) hp ⟨by omega, by omega⟩).2 e)
      rw [if_neg he, show wrap64 ((i : Int) + 1) = ((i + 1 : Nat) : Int) by unfold wrap64; omega]
      exact ih k (i + 1) (by omega) (by omega) (by omega)
theorem refplace (w M f p : Int) (hM : 200 < M) (hpl : ∀ p n, sakiaref01_Plus.f w p n = some ((p + n) % M)) (hp : 0 ≤ p ∧ p < M) (n : Nat) (hn : n ≤ 200) (k : Nat) (hk : 400 ≤ k) :
    sakiaref03_Place.f k w f (n : Int) p = some (if (p - f) % M < n then (p - f) % M else -1) := by
  unfold sakiaref03_Place.f
  rw [list_yes w M f hpl n (by omega) k (by omega), Option.bind_some]
  exact place_loop M f p hM hp n hn n k 0 (by omega) (by omega) (.inl (Int.emod_nonneg _ (by omega)))
/-- two runs of positions meet -/
def mt (M f n g m : Int) : Bool := decide (1 ≤ n) && decide (1 ≤ m) && (decide ((g - f) % M < n) || decide ((f - g) % M < m))
theorem mt_comm (M f n g m : Int) : mt M f n g m = mt M g m f n := by
  unfold mt
  cases decide (1 ≤ n) <;> cases decide (1 ≤ m) <;> cases decide ((g - f) % M < n) <;> cases decide ((f - g) % M < m) <;> rfl
theorem has32 (a n p : Int) (h0 : 1 ≤ n) (h1 : n ≤ 60) : span_Span_uint32_Has.f a n p = some (decide ((p - a) % 4294967296 < n)) := by
  have hw : IntKind.u64.wrap n = n := by rw [wrap_u64]; omega
  unfold span_Span_uint32_Has.f span_Span_uint32_Place.f wide_Within_uint32.f
  rw [r32, Option.bind_some, decide_eq_true (by omega), if_pos rfl, if_neg (by omega), Option.bind_some, hw]
  by_cases h : (p - a) % 4294967296 < n
  · rw [decide_eq_true h, if_pos rfl]; rfl
  · rw [decide_eq_false h, if_neg (by simp)]; rfl
theorem has64 (a n p : Int) (h0 : 1 ≤ n) (h1 : n ≤ 60) : span_Span_uint64_Has.f a n p = some (decide ((p - a) % 18446744073709551616 < n)) := by
  have hw : IntKind.u64.wrap n = n := by rw [wrap_u64]; omega
  unfold span_Span_uint64_Has.f span_Span_uint64_Place.f wide_Within_uint64.f
  rw [r64, Option.bind_some, decide_eq_true (by omega), if_pos rfl, if_neg (by omega), Option.bind_some, hw, wrap_u64]
  by_cases h : (p - a) % 18446744073709551616 < n
  · rw [decide_eq_true h, if_pos rfl]; rfl
  · rw [decide_eq_false h, if_neg (by simp)]; rfl
theorem meets32 (k : Nat) (a n b m : Int) (hn0 : 0 ≤ n) (hn : n ≤ 60) (hm0 : 0 ≤ m) (hm : m ≤ 60) : span_Span_uint32_Meets.f (k + 1) a n b m = some (mt 4294967296 a n b m) := by
  unfold span_Span_uint32_Meets.f mt
  by_cases h1 : n < 1
  · rw [if_pos h1, span_Span_uint32_Meets.j0, if_pos rfl, decide_eq_false (by omega : ¬ 1 ≤ n)]; rfl
  · rw [if_neg h1, span_Span_uint32_Meets.j0]
    by_cases h2 : m < 1
    · rw [decide_eq_true h2, if_pos rfl, decide_eq_false (by omega : ¬ 1 ≤ m), Bool.and_false]; rfl
    · rw [decide_eq_false h2, if_neg (by simp), r32, Option.bind_some, decide_eq_true (by omega), if_pos rfl, has32 a n b (by omega) hn, Option.bind_some, r32, Option.bind_some, decide_eq_true (by omega : 0 ≤ n ∧ n ≤ 1073741824), if_pos rfl, has32 b m a (by omega) hm, Option.bind_some,
        decide_eq_true (by omega : 1 ≤ n), decide_eq_true (by omega : 1 ≤ m)]
      cases decide ((b - a) % 4294967296 < n) <;> simp
theorem meets64 (k : Nat) (a n b m : Int) (hn0 : 0 ≤ n) (hn : n ≤ 60) (hm0 : 0 ≤ m) (hm : m ≤ 60) : span_Span_uint64_Meets.f (k + 1) a n b m = some (mt 18446744073709551616 a n b m) := by
  unfold span_Span_uint64_Meets.f mt
  by_cases h1 : n < 1
  · rw [if_pos h1, span_Span_uint64_Meets.j0, if_pos rfl, decide_eq_false (by omega : ¬ 1 ≤ n)]; rfl
  · rw [if_neg h1, span_Span_uint64_Meets.j0]
    by_cases h2 : m < 1
    · rw [decide_eq_true h2, if_pos rfl, decide_eq_false (by omega : ¬ 1 ≤ m), Bool.and_false]; rfl
    · rw [decide_eq_false h2, if_neg (by simp), r64, Option.bind_some, decide_eq_true (by omega), if_pos rfl, has64 a n b (by omega) hn, Option.bind_some, r64, Option.bind_some, decide_eq_true (by omega : 0 ≤ n ∧ n ≤ 1073741824), if_pos rfl, has64 b m a (by omega) hm, Option.bind_some,
        decide_eq_true (by omega : 1 ≤ n), decide_eq_true (by omega : 1 ≤ m)]
      cases decide ((b - a) % 18446744073709551616 < n) <;> simp
/-- from a place on: is one of the positions within the other run? -/
def any_ (M f g m : Int) (n i : Nat) : Bool := (List.range n).any fun j => decide (i ≤ j) && decide ((f + (j : Int) - g) % M < m)
theorem meets_loop (w M f g : Int) (hM : 200 < M) (hpl : ∀ p n, sakiaref01_Plus.f w p n = some ((p + n) % M)) (n m : Nat) (hn : n ≤ 60) (hm : m ≤ 60) (d : Nat) : ∀ k i : Nat, i + d = n → d + 400 < k →
    sakiaref03_Meets.l0 k (posM M f n) (i : Int) w g (m : Int) = some (any_ M f g m n i) := by
  induction d with
  | zero =>
    intro k i hi hk
    obtain ⟨k, rfl⟩ : ∃ q, k = q + 1 := ⟨k - 1, by omega⟩
    rw [sakiaref03_Meets.l0, posM_len, if_neg (by omega)]
    have : any_ M f g m n i = false := by
      unfold any_
      rw [List.any_eq_false]
      intro j hj
      rw [decide_eq_false (by have := List.mem_range.1 hj; omega)]
      simp
    rw [this]
  | succ d ih =>
    intro k i hi hk
    obtain ⟨k, rfl⟩ : ∃ q, k = q + 1 := ⟨k - 1, by omega⟩
    have hr : rd (posM M f n) (i : Int) = (f + (i : Int)) % M := by
      simp [rd, posM, show i < n by omega]
    have hb : 0 ≤ (f + (i : Int)) % M ∧ (f + (i : Int)) % M < M := ⟨Int.emod_nonneg _ (by omega), Int.emod_lt_of_pos _ (by omega)⟩
    have he : ((f + (i : Int)) % M - g) % M = (f + (i : Int) - g) % M := by rw [Int.emod_sub_emod]
    rw [sakiaref03_Meets.l0, posM_len, if_pos (by omega), if_pos (by omega), hr, refplace w M g _ hM hpl hb m (by omega) k (by omega), Option.bind_some, he]
    have h0 : 0 ≤ (f + (i : Int) - g) % M := Int.emod_nonneg _ (by omega)
    by_cases h : (f + (i : Int) - g) % M < m
    · rw [if_pos h, if_pos h0]
      have : any_ M f g m n i = true := by
        unfold any_
        rw [List.any_eq_true]
        exact ⟨i, List.mem_range.2 (by omega), by rw [decide_eq_true (Nat.le_refl i), decide_eq_true h]; rfl⟩
      rw [this]
    · rw [if_neg h, if_neg (by omega), show wrap64 ((i : Int) + 1) = ((i + 1 : Nat) : Int) by unfold wrap64; omega, ih k (i + 1) (by omega) (by omega)]
      congr 1
      unfold any_
      rw [Bool.eq_iff_iff, List.any_eq_true, List.any_eq_true]
      constructor
      · rintro ⟨j, hj, hq⟩
        simp only [Bool.and_eq_true, decide_eq_true_eq] at hq
        exact ⟨j, hj, by simp only [Bool.and_eq_true, decide_eq_true_eq]; exact ⟨by omega, hq.2⟩⟩
      · rintro ⟨j, hj, hq⟩
        simp only [Bool.and_eq_true, decide_eq_true_eq] at hq
        refine ⟨j, hj, ?_⟩
        simp only [Bool.and_eq_true, decide_eq_true_eq]
        refine ⟨?_, hq.2⟩
        have : j ≠ i := fun e => h (by rw [← e]; exact hq.2)
        omega
theorem any_mt (M f g : Int) (n m : Nat) (hM : 200 < M) (hn : n ≤ 60) (hm : m ≤ 60) : any_ M f g m n 0 = mt M f n g m := by
  have hd0 : 0 ≤ (g - f) % M := Int.emod_nonneg _ (by omega)
  have hd1 : (g - f) % M < M := Int.emod_lt_of_pos _ (by omega)
  have hat : ∀ j : Nat, (f + (j : Int) - g) % M = ((j : Int) - (g - f) % M) % M := by
    intro j
    rw [Int.sub_emod (j : Int) ((g - f) % M), Int.emod_emod_of_dvd _ (Int.dvd_refl M), ← Int.sub_emod]
    congr 1
    omega
  have h0 : (f - g) % M = (0 - (g - f) % M) % M := by
    have := hat 0
    simpa using this
  rw [Bool.eq_iff_iff]
  unfold any_ mt
  rw [List.any_eq_true, h0]
  generalize (g - f) % M = t at *
  simp only [Bool.and_eq_true, Bool.or_eq_true, decide_eq_true_eq]
  have hs : ∀ z : Int, -M ≤ z → z < 0 → z % M = if z = -M then 0 else z + M := by
    intro z h1 h2
    split
    · rename_i h
      rw [h, Int.neg_emod_self]
    · rw [← Int.add_emod_right z M]
      exact Int.emod_eq_of_lt (by omega) (by omega)
  constructor
  · rintro ⟨j, hj, -, h⟩
    rw [hat j] at h
    have hjn : j < n := List.mem_range.1 hj
    by_cases hge : t ≤ (j : Int)
    · rw [Int.emod_eq_of_lt (by omega) (by omega)] at h
      exact ⟨⟨by omega, by omega⟩, .inl (by omega)⟩
    · rw [hs _ (by omega) (by omega), if_neg (by omega)] at h
      refine ⟨⟨by omega, by omega⟩, .inr ?_⟩
      rw [hs _ (by omega) (by omega), if_neg (by omega)]
      omega
  · rintro ⟨⟨h1, h2⟩, h3⟩
    rcases h3 with h3 | h3
    · refine ⟨t.toNat, List.mem_range.2 (by omega), Nat.zero_le _, ?_⟩
      rw [hat, Int.toNat_of_nonneg hd0, Int.sub_self, Int.zero_emod]
      omega
    · refine ⟨0, List.mem_range.2 (by omega), Nat.le_refl _, ?_⟩
      rw [hat]
      simpa using h3
theorem refmeets (w M f g : Int) (hM : 200 < M) (hpl : ∀ p n, sakiaref01_Plus.f w p n = some ((p + n) % M)) (n m : Nat) (hn : n ≤ 60) (hm : m ≤ 60) (k : Nat) (hk : 500 ≤ k) :
    sakiaref03_Meets.f k w f (n : Int) w g (m : Int) = some (mt M f n g m) := by
  unfold sakiaref03_Meets.f
  rw [list_yes w M f hpl n (by omega) k (by omega), Option.bind_some, ← any_mt M f g n m hM hn hm]
  exact meets_loop w M f g hM hpl n m hn hm n k 0 (by omega) (by omega)
theorem join32 (a n b m : Int) (hn0 : 0 ≤ n) (hn : n ≤ 60) (hm0 : 0 ≤ m) (hm : m ≤ 60) :
    span_Span_uint32_Join.f a n b m = some (if b = (a + n) % 4294967296 then (a, n + m, true) else (0, 0, false)) := by
  have hw : wrap64 (1073741824 - n) = 1073741824 - n := by unfold wrap64; omega
  have hw2 : wrap64 (n + m) = n + m := by unfold wrap64; omega
  have he : span_Span_uint32_End.f a n = some ((a + n) % 4294967296) := by
    unfold span_Span_uint32_End.f wide_Add_uint32.f
    rw [r32, Option.bind_some, decide_eq_true (by omega), if_pos rfl, Option.bind_some, Int.add_emod_emod]
  unfold span_Span_uint32_Join.f
  rw [r32, Option.bind_some, decide_eq_true (by omega), if_pos rfl, r32, Option.bind_some, decide_eq_true (by omega), if_pos rfl, he, Option.bind_some, hw, hw2]
  by_cases h : b = (a + n) % 4294967296
  · rw [if_pos h, if_pos h, if_neg (by omega)]
  · rw [if_neg h, if_neg h]
end Go.Proofs.Ytbgbhoidchdjmaa.QSpanMeets
