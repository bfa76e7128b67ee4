/- The reference of sakialaw04, product: whether a product of two counts is one. Conditions: both are counts. -/
import Derived.Test.YtlhodmhmbcdieaaPair
namespace Go.Proofs.Ytlhodmhmbcdieaa.Pair
open Go Go.RowKit Go.Proofs.YtlhodmhmbcdieaaW.PrintWords
set_option linter.unusedVariables false
set_option linter.unusedSimpArgs false
/-- The reference's test of a product. -/
def prodB (a k : Int) : Bool := if a = 0 ∨ k = 0 then true else decide ((if a < 0 then -a else a) ≤ 1099511627776 / (if k < 0 then -k else k))
theorem quo_neg (k : Int) (h : k < 0) : wrap64 (-Int.tdiv 1099511627776 k) = -(1099511627776 / k) := by
  obtain ⟨m, rfl⟩ : ∃ m, k = -m := ⟨-k, by omega⟩
  rw [Int.tdiv_neg, Int.ediv_neg, Int.neg_neg, Int.neg_neg, Int.tdiv_eq_ediv_of_nonneg (by decide)]
  have h1 : 0 ≤ 1099511627776 / m := Int.ediv_nonneg (by decide) (by omega)
  have h2 : 1099511627776 / m ≤ 1099511627776 := Int.ediv_le_self _ (by decide)
  unfold wrap64
  omega
theorem product_v (a k : Int) (ha : Cnt a) (hk : Cnt k) (w : World) : Calls Try.prog 28 #[.int .i64 a, .int .i64 k] w fun e w' => e = .returned (.bool (prodB a k)) ∧ w = w' := by
  obtain ⟨a1, a2⟩ := ha
  obtain ⟨k1, k2⟩ := hk
  unfold prodB
  by_cases h1 : a = 0
  · rw [if_pos (Or.inl h1)]
    have e1 : (a == 0) = true := beq_iff_eq.2 h1
    clear h1
    go_enter Try.func28, Try.ntmps28
    go_wp2
    go_ret
    exact ⟨rfl, rfl⟩
  · have e1 : (a == 0) = false := beq_eq_false_iff_ne.2 h1
    by_cases h2 : k = 0
    · rw [if_pos (Or.inr h2)]
      have e2 : (k == 0) = true := beq_iff_eq.2 h2
      clear h1 h2
      go_enter Try.func28, Try.ntmps28
      go_wp2
      go_ret
      exact ⟨rfl, rfl⟩
    · have e2 : (k == 0) = false := beq_eq_false_iff_ne.2 h2
      rw [if_neg (by omega)]
      by_cases h3 : a < 0
      · have e3 : decide (a < 0) = true := decide_eq_true h3
        rw [if_pos h3]
        by_cases h4 : k < 0
        · have e4 : decide (k < 0) = true := decide_eq_true h4
          have hq := quo_neg k h4
          have HQ := Aside0.mk hq
          clear hq
          rw [if_pos h4]
          go_enter Try.func28, Try.ntmps28
          go_wp2
          go_ret
          refine ⟨?_, rfl⟩
          show Ending.returned (.bool (decide (_ ≤ wrap64 (-Int.tdiv 1099511627776 k)))) = Ending.returned (.bool (decide _))
          first | (rw [HQ.out, Int.ediv_neg]; done) | (rw [HQ.out]; done)
        · have e4 : decide (k < 0) = false := decide_eq_false h4
          have h5 : 0 ≤ k := by omega
          rw [if_neg h4]
          go_enter Try.func28, Try.ntmps28
          go_wp2
          go_ret
          exact ⟨rfl, rfl⟩
      · have e3 : decide (a < 0) = false := decide_eq_false h3
        rw [if_neg h3]
        by_cases h4 : k < 0
        · have e4 : decide (k < 0) = true := decide_eq_true h4
          have hq := quo_neg k h4
          have HQ := Aside0.mk hq
          clear hq
          rw [if_pos h4]
          go_enter Try.func28, Try.ntmps28
          go_wp2
          go_ret
          refine ⟨?_, rfl⟩
          show Ending.returned (.bool (decide (_ ≤ wrap64 (-Int.tdiv 1099511627776 k)))) = Ending.returned (.bool (decide _))
          first | (rw [HQ.out, Int.ediv_neg]; done) | (rw [HQ.out]; done)
        · have e4 : decide (k < 0) = false := decide_eq_false h4
          have h5 : 0 ≤ k := by omega
          rw [if_neg h4]
          go_enter Try.func28, Try.ntmps28
          go_wp2
          go_ret
          exact ⟨rfl, rfl⟩
theorem prod_is (a k : Int) (ha : Cnt a) (hk : Cnt k) : prodB a k = decide (Cnt (a * k)) := by
  unfold prodB
  by_cases h : a = 0 ∨ k = 0
  · rw [if_pos h]
    have : a * k = 0 := by rcases h with rfl | rfl <;> simp
    rw [this]
    rfl
  · rw [if_neg h]
    have key : ∀ x y : Int, 0 ≤ x → 0 < y → decide (x ≤ 1099511627776 / y) = decide (Cnt (x * y)) := by
      intro x y hx hy
      refine decide_eq_decide.2 ?_
      rw [Int.le_ediv_iff_mul_le hy]
      unfold Cnt
      have := Int.mul_nonneg hx (Int.le_of_lt hy)
      omega
    have neg : ∀ n : Int, decide (Cnt (-n)) = decide (Cnt n) := by
      intro n
      refine decide_eq_decide.2 ?_
      unfold Cnt
      omega
    by_cases h3 : a < 0
    · rw [if_pos h3]
      by_cases h4 : k < 0
      · rw [if_pos h4, key _ _ (by omega) (by omega), Int.neg_mul_neg]
      · rw [if_neg h4, key _ _ (by omega) (by omega), Int.neg_mul, neg]
    · rw [if_neg h3]
      by_cases h4 : k < 0
      · rw [if_pos h4, key _ _ (by omega) (by omega), Int.mul_neg, neg]
      · rw [if_neg h4, key _ _ (by omega) (by omega)]
theorem refcount_v (n : Int) (r : Bool) (hr : decide (Cnt n) = r) (w : World) : Calls Try.prog 24 #[.int .i64 n] w fun e w' => e = .returned (.bool r) ∧ w = w' := by
  rw [cnt_and] at hr
  by_cases h1 : -1099511627776 ≤ n
  · have e1 : decide (-1099511627776 ≤ n) = true := decide_eq_true h1
    have hr2 : r = decide (n ≤ 1099511627776) := by
      rw [← hr, e1, Bool.true_and]
    clear hr h1
    subst hr2
    go_enter Try.func24, Try.ntmps24
    go_wp2
    go_ret
    exact ⟨rfl, rfl⟩
  · have e1 : decide (-1099511627776 ≤ n) = false := decide_eq_false h1
    have hr2 : r = false := by
      rw [← hr, e1, Bool.false_and]
    clear hr h1
    subst hr2
    go_enter Try.func24, Try.ntmps24
    go_wp2
    go_ret
    exact ⟨rfl, rfl⟩
/-- What the reference's Times comes to. -/
def timesP (a b k : Int) : Int × Int := if Cnt k ∧ Cnt (a * k) ∧ Cnt (b * k) then (a * k, b * k) else (0, 0)
theorem reftimes_v (a b : Int) (x : Bool) (k : Int) (ha : Cnt a) (hb : Cnt b) (w : World) :
    Calls Try.prog 19 #[.agg #[.int .i64 a, .int .i64 b, .bool x], .int .i64 k] w fun e w' => e = .returned (.agg #[.int .i64 (timesP a b k).1, .int .i64 (timesP a b k).2, .bool false]) ∧ Below w.heap.size w w' := by
  have hu32 := Try.underlying32
  have hA : ((w.alloc (.cells #[.int .i64 a, .int .i64 b, .bool x] 32)).alloc (.cells #[.int .i64 0, .int .i64 0, .bool false] 32)).heap[w.heap.size]? = some (.cells #[.int .i64 a, .int .i64 b, .bool x] 32 (0, 0)) := by
    rw [Below.heap_alloc _ _ _ (by simp)]
    exact blk_new w _
  have hc0 : ((w.alloc (.cells #[.int .i64 a, .int .i64 b, .bool x] 32)).alloc (.cells #[.int .i64 0, .int .i64 0, .bool false] 32)).cell? ⟨w.heap.size, 0, none⟩ = some (.int .i64 a) := (blk_cell hA 0).trans rfl
  have hc1 : ((w.alloc (.cells #[.int .i64 a, .int .i64 b, .bool x] 32)).alloc (.cells #[.int .i64 0, .int .i64 0, .bool false] 32)).cell? ⟨w.heap.size, 1, none⟩ = some (.int .i64 b) := (blk_cell hA 1).trans rfl
  have HB := Aside0.mk (show Below w.heap.size w ((w.alloc (.cells #[.int .i64 a, .int .i64 b, .bool x] 32)).alloc (.cells #[.int .i64 0, .int .i64 0, .bool false] 32)) from below_alloc (below_alloc (Below.refl _ _) _) _)
  have hZ := Aside0.mk (show ((w.alloc (.cells #[.int .i64 a, .int .i64 b, .bool x] 32)).alloc (.cells #[.int .i64 0, .int .i64 0, .bool false] 32)).heap[w.heap.size + 1]? = some (.cells #[.int .i64 0, .int .i64 0, .bool false] 32 (0, 0)) from by
    have := blk_new (w.alloc (.cells #[.int .i64 a, .int .i64 b, .bool x] 32)) (.cells #[.int .i64 0, .int .i64 0, .bool false] 32)
    rwa [World.size_alloc] at this)
  clear hA
  by_cases hk : Cnt k
  · have ek := decide_eq_true hk
    by_cases h1 : Cnt (a * k)
    · have p1 := product_v a k ha hk
      rw [prod_is a k ha hk, decide_eq_true h1] at p1
      by_cases h2 : Cnt (b * k)
      · have p2 := product_v b k hb hk
        rw [prod_is b k hb hk, decide_eq_true h2] at p2
        have e1 := wrap_cnt h1
        have e2 := wrap_cnt h2
        unfold timesP
        rw [if_pos ⟨hk, h1, h2⟩]
        clear ha hb hk h1 h2
        go_enter Try.func19, Try.ntmps19
        go_wp2_with (first | (go_at_call 24; (with_reducible refine (refcount_v k true ek _).mono ?_); rintro e w' ⟨rfl, rfl⟩) | (go_at_call 28; first | ((with_reducible refine (p1 _).mono ?_); rintro e w' ⟨rfl, rfl⟩) | ((with_reducible refine (p2 _).mono ?_); rintro e w' ⟨rfl, rfl⟩)))
        refine bodyPost_ret (results_cell_row rfl _ _ (w.heap.size + 1) 32 #[.int .i64 (a * k), .int .i64 (b * k), .bool false] (0, 0) _ rfl (by have := blk_new (w.alloc (.cells #[.int .i64 a, .int .i64 b, .bool x] 32)) (.cells #[.int .i64 (a * k), .int .i64 (b * k), .bool false] 32); rwa [World.size_alloc] at this) Try.underlying32 rfl (by kernel_rfl)) rfl ?_
        exact ⟨rfl, below_alloc (below_alloc (Below.refl _ _) _) _⟩
      · have p2 := product_v b k hb hk
        rw [prod_is b k hb hk, decide_eq_false h2] at p2
        unfold timesP
        rw [if_neg (fun h => h2 h.2.2)]
        clear ha hb hk h1 h2
        go_enter Try.func19, Try.ntmps19
        go_wp2_with (first | (go_at_call 24; (with_reducible refine (refcount_v k true ek _).mono ?_); rintro e w' ⟨rfl, rfl⟩) | (go_at_call 28; first | ((with_reducible refine (p1 _).mono ?_); rintro e w' ⟨rfl, rfl⟩) | ((with_reducible refine (p2 _).mono ?_); rintro e w' ⟨rfl, rfl⟩)))
        refine bodyPost_ret (results_cell_row rfl _ _ (w.heap.size + 1) 32 #[.int .i64 (0), .int .i64 (0), .bool false] (0, 0) _ rfl (by have := blk_new (w.alloc (.cells #[.int .i64 a, .int .i64 b, .bool x] 32)) (.cells #[.int .i64 (0), .int .i64 (0), .bool false] 32); rwa [World.size_alloc] at this) Try.underlying32 rfl (by kernel_rfl)) rfl ?_
        exact ⟨rfl, below_alloc (below_alloc (Below.refl _ _) _) _⟩
    · have p1 := product_v a k ha hk
      rw [prod_is a k ha hk, decide_eq_false h1] at p1
      unfold timesP
      rw [if_neg (fun h => h1 h.2.1)]
      clear ha hb hk h1
      go_enter Try.func19, Try.ntmps19
      go_wp2_with (first | (go_at_call 24; (with_reducible refine (refcount_v k true ek _).mono ?_); rintro e w' ⟨rfl, rfl⟩) | (go_at_call 28; (with_reducible refine (p1 _).mono ?_); rintro e w' ⟨rfl, rfl⟩))
      refine bodyPost_ret (results_cell_row rfl _ _ (w.heap.size + 1) 32 #[.int .i64 (0), .int .i64 (0), .bool false] (0, 0) _ rfl (by have := blk_new (w.alloc (.cells #[.int .i64 a, .int .i64 b, .bool x] 32)) (.cells #[.int .i64 (0), .int .i64 (0), .bool false] 32); rwa [World.size_alloc] at this) Try.underlying32 rfl (by kernel_rfl)) rfl ?_
      exact ⟨rfl, below_alloc (below_alloc (Below.refl _ _) _) _⟩
  · have ek := decide_eq_false hk
    unfold timesP
    rw [if_neg (fun h => hk h.1)]
    clear ha hb hk
    go_enter Try.func19, Try.ntmps19
    go_wp2_with (go_at_call 24; (with_reducible refine (refcount_v k false ek _).mono ?_); rintro e w' ⟨rfl, rfl⟩)
    refine bodyPost_ret (results_cell_row rfl _ _ (w.heap.size + 1) 32 #[.int .i64 (0), .int .i64 (0), .bool false] (0, 0) _ rfl (by have := blk_new (w.alloc (.cells #[.int .i64 a, .int .i64 b, .bool x] 32)) (.cells #[.int .i64 (0), .int .i64 (0), .bool false] 32); rwa [World.size_alloc] at this) Try.underlying32 rfl (by kernel_rfl)) rfl ?_
    exact ⟨rfl, below_alloc (below_alloc (Below.refl _ _) _) _⟩
end Go.Proofs.Ytlhodmhmbcdieaa.Pair
