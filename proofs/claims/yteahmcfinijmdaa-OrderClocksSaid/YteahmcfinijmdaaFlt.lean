/- Floats that are whole numbers: what their sums, products, comparisons and conversions come to. No conditions but those that the theorems name. -/
import Derived.Laws.FloatArith
import Derived.KernelRfl
namespace Go.Proofs.Yteahmcfinijmdaa.Flt
open Go
/-! What floats tell that are whole numbers. -/
open Ieee
theorem signed_eq (s : Bool) (m u : Nat) : signed s m u = signed s m 0 * 2 ^ u := by
  unfold signed
  rw [Nat.shiftLeft_eq, Nat.shiftLeft_zero]
  cases s
  · simp
  · simp
    rw [Int.neg_mul]
/-- A float whose number is whole. -/
def Val (x : Nat) (n : Int) : Prop := ∃ (s : Bool) (m E : Nat), Format.read double x = .number s m (-(E : Int)) ∧ signed s m 0 = n * 2 ^ E
theorem cut_whole (s : Bool) (q p : Nat) (way : Toward) : way.cut s (q * 2 ^ p) p = q := by
  unfold Toward.cut
  rcases Nat.eq_zero_or_pos q with h | h
  · subst h
    have hg : 0 < 1 <<< min p (Nat.log2 (0 * 2 ^ p) + 2) := by rw [Nat.shiftLeft_eq]; exact Nat.mul_pos (by decide) (Nat.two_pow_pos _)
    simp only [Nat.zero_mul, Nat.zero_div, Nat.zero_mod, Nat.mul_zero] at hg ⊢
    cases way <;> simp <;> omega
  · have hlog : p ≤ Nat.log2 (q * 2 ^ p) := by
      rw [Nat.le_log2 (by have := Nat.two_pow_pos p; exact Nat.ne_of_gt (Nat.mul_pos h this))]
      exact Nat.le_mul_of_pos_left _ h
    have := Nat.two_pow_pos p
    rw [Nat.min_eq_left (by omega), Nat.shiftLeft_eq, Nat.one_mul]
    simp only [Nat.mul_div_cancel _ this, Nat.mul_mod_left, Nat.mul_zero]
    cases way <;> simp <;> omega
theorem log2_mul_pow (q E : Nat) (h : 0 < q) : Nat.log2 (q * 2 ^ E) = Nat.log2 q + E := by
  have hp := Nat.two_pow_pos E
  have hne : q * 2 ^ E ≠ 0 := Nat.ne_of_gt (Nat.mul_pos h hp)
  apply Nat.le_antisymm
  · have : Nat.log2 (q * 2 ^ E) < Nat.log2 q + E + 1 := by
      rw [Nat.log2_lt hne]
      have h1 : q < 2 ^ (Nat.log2 q + 1) := Nat.lt_log2_self
      calc q * 2 ^ E < 2 ^ (Nat.log2 q + 1) * 2 ^ E := Nat.mul_lt_mul_of_pos_right h1 hp
        _ = 2 ^ (Nat.log2 q + E + 1) := by rw [← Nat.pow_add]; congr 1; omega
    omega
  · rw [Nat.le_log2 hne, Nat.pow_add]
    exact Nat.mul_le_mul_right _ (Nat.log2_self_le (by omega))
theorem read_word (s : Bool) (a c : Nat) (hc : c < 2 ^ 52) (h1 : 1 ≤ a) (h2 : a < 2047) : Format.read double (Format.word double s (a * 2 ^ 52 + c)) = .number s (2 ^ 52 + c) (-1074 + ((a - 1 : Nat) : Int)) := by
  have hw : Format.word double s (a * 2 ^ 52 + c) = (if s then 2 ^ 63 else 0) + (a * 2 ^ 52 + c) := by
    cases s <;> simp [Format.word, Format.signWeight, double]
  have hlt : a * 2 ^ 52 + c < 2 ^ 63 := by omega
  have hneg : ((if s then 2 ^ 63 else 0) + (a * 2 ^ 52 + c)) / 2 ^ 63 % 2 = if s then 1 else 0 := by
    cases s
    · simp; omega
    · simp; omega
  have hrung : ((if s then 2 ^ 63 else 0) + (a * 2 ^ 52 + c)) % 2 ^ 63 = a * 2 ^ 52 + c := by
    cases s
    · simp; omega
    · simp; omega
  have hmod : (a * 2 ^ 52 + c) % 2 ^ 52 = c := by omega
  have hdiv : (a * 2 ^ 52 + c) / 2 ^ 52 = a := by omega
  unfold Format.read
  have e1 : double.signWeight = 2 ^ 63 := rfl
  have e2 : double.binade = 2 ^ 52 := rfl
  have e3 : double.infRung = 2047 * 2 ^ 52 := rfl
  have e4 : double.leastPlace = -1074 := rfl
  simp only [hw, e1, e2, e3, e4, hneg, hrung, hmod, hdiv]
  rw [if_neg (by omega), if_pos (by omega)]
  cases s <;> rfl
theorem read_zero (s : Bool) : Format.read double (Format.word double s 0) = .number s 0 (-1074) := by cases s <;> rfl
/-- A whole number below 2^53 is written as it is. -/
theorem nearest_read (s : Bool) (q E : Nat) (h0 : 0 < q) (h : q < 2 ^ 53) :
    Format.read double (Format.nearest double s (q * 2 ^ E) (-(E : Int))) = .number s (q * 2 ^ (52 - q.log2)) (-((52 - q.log2 : Nat) : Int)) := by
  have hlog : q.log2 < 53 := (Nat.log2_lt (by omega)).2 h
  have hne : q * 2 ^ E ≠ 0 := Nat.ne_of_gt (Nat.mul_pos h0 (Nat.two_pow_pos E))
  obtain ⟨k, hk⟩ : ∃ k, 52 - q.log2 = k := ⟨_, rfl⟩
  have hlk : q.log2 = 52 - k := by omega
  rw [hk]
  have hk52 : k ≤ 52 := by omega
  have hlo : 2 ^ 52 ≤ q * 2 ^ k := by
    have := Nat.log2_self_le (n := q) (by omega)
    calc 2 ^ 52 = 2 ^ q.log2 * 2 ^ k := by rw [← Nat.pow_add]; congr 1; omega
      _ ≤ q * 2 ^ k := Nat.mul_le_mul_right _ this
  have hhi : q * 2 ^ k < 2 ^ 53 := by
    have : q < 2 ^ (q.log2 + 1) := Nat.lt_log2_self
    calc q * 2 ^ k < 2 ^ (q.log2 + 1) * 2 ^ k := Nat.mul_lt_mul_of_pos_right this (Nat.two_pow_pos k)
      _ = 2 ^ 53 := by rw [← Nat.pow_add]; congr 1; omega
  have hkept : Toward.even.cut s ((q * 2 ^ E) <<< (-(E : Int) - -(k : Int)).toNat) (-(k : Int) - -(E : Int)).toNat = q * 2 ^ k := by
    by_cases hkE : E ≤ k
    · rw [show (-(E : Int) - -(k : Int)).toNat = k - E by omega, show (-(k : Int) - -(E : Int)).toNat = 0 by omega, Nat.shiftLeft_eq, Nat.mul_assoc, ← Nat.pow_add, show E + (k - E) = k by omega]
      have := cut_whole s (q * 2 ^ k) 0 .even
      rwa [Nat.pow_zero, Nat.mul_one] at this
    · rw [show (-(E : Int) - -(k : Int)).toNat = 0 by omega, show (-(k : Int) - -(E : Int)).toNat = E - k by omega, Nat.shiftLeft_zero]
      have := cut_whole s (q * 2 ^ k) (E - k) .even
      rwa [Nat.mul_assoc, ← Nat.pow_add, show k + (E - k) = E by omega] at this
  unfold Format.nearest
  rw [if_neg hne]
  have hlast : max (-(E : Int) + ((q * 2 ^ E).log2 : Nat) - (double.fractionBits : Nat)) double.leastPlace = -(k : Int) := by
    rw [log2_mul_pow q E h0]
    have e4 : double.leastPlace = -1074 := rfl
    have e5 : double.fractionBits = 52 := rfl
    rw [e4, e5]
    omega
  simp only [hlast, hkept]
  have e4 : double.leastPlace = -1074 := rfl
  have e2 : double.binade = 2 ^ 52 := rfl
  have e3 : double.infRung = 2047 * 2 ^ 52 := rfl
  rw [e4, e2, e3, show (-(k : Int) - -1074).toNat = 1074 - k by omega, Nat.min_eq_left (by omega)]
  obtain ⟨c, hc⟩ : ∃ c, q * 2 ^ k = 2 ^ 52 + c := ⟨q * 2 ^ k - 2 ^ 52, by omega⟩
  have hc2 : c < 2 ^ 52 := by omega
  rw [hc, show (1074 - k) * 2 ^ 52 + (2 ^ 52 + c) = (1075 - k) * 2 ^ 52 + c by omega, read_word s (1075 - k) c hc2 (by omega) (by omega)]
  congr 1
  omega
theorem val_write (s : Bool) (q E : Nat) (h : q < 2 ^ 53) : Val (Format.write double (.number s (q * 2 ^ E) (-(E : Int)))) (signed s q 0) := by
  rcases Nat.eq_zero_or_pos q with h0 | h0
  · subst h0
    refine ⟨s, 0, 1074, ?_, ?_⟩
    · show Format.read double (Format.nearest double s (0 * 2 ^ E) (-(E : Int))) = _
      unfold Format.nearest
      rw [if_pos (Nat.zero_mul _), read_zero]
      rfl
    · have e : signed s 0 0 = 0 := by cases s <;> rfl
      rw [e, Int.zero_mul]
  · refine ⟨s, _, _, nearest_read s q E h0 h, ?_⟩
    cases s <;> simp [signed, Int.neg_mul]
/-- 'float64(n)'. -/
theorem val_ofInt (n : Int) (h : n.natAbs < 2 ^ 53) : Val (floatOfInt .f64 n) n := by
  have := val_write (decide (n < 0)) n.natAbs 0 h
  rw [Nat.pow_zero, Nat.mul_one] at this
  have e : signed (decide (n < 0)) n.natAbs 0 = n := by
    unfold signed
    by_cases hn : n < 0
    · simp [hn]; omega
    · simp [hn]; omega
  rw [e] at this
  exact this
theorem two_pow_pos' (E : Nat) : (0 : Int) < 2 ^ E := by
  have := Nat.two_pow_pos E
  exact_mod_cast this
theorem natAbs_mul_pow (n : Int) (E : Nat) : (n * 2 ^ E).natAbs = n.natAbs * 2 ^ E := by
  rw [Int.natAbs_mul]
  rw [show ((2 : Int) ^ E) = ((2 ^ E : Nat) : Int) by push_cast; rfl, Int.natAbs_natCast]
theorem signed_natAbs {s : Bool} {m E : Nat} {n : Int} (h : signed s m 0 = n * 2 ^ E) : m = n.natAbs * 2 ^ E := by
  have := congrArg Int.natAbs h
  rw [natAbs_mul_pow] at this
  rw [← this]
  cases s <;> simp [signed]
theorem raised {s : Bool} {m E F : Nat} {n : Int} (h : signed s m 0 = n * 2 ^ E) (hE : E ≤ F) : signed s m (F - E) = n * 2 ^ F := by
  rw [signed_eq, h, Int.mul_assoc, ← Int.pow_add, show E + (F - E) = F by omega]
theorem base_of (E F : Nat) : min (-(E : Int)) (-(F : Int)) = -((max E F : Nat) : Int) := by omega
theorem mul_pow_zero (n : Int) (F : Nat) : n * 2 ^ F = 0 ↔ n = 0 := by
  have := two_pow_pos' F
  constructor
  · intro h
    rcases Int.mul_eq_zero.1 h with h | h
    · exact h
    · omega
  · rintro rfl
    simp
theorem mul_pow_neg (n : Int) (F : Nat) : n * 2 ^ F < 0 ↔ n < 0 := by
  have := two_pow_pos' F
  constructor
  · intro h
    rcases Int.lt_or_le n 0 with h1 | h1
    · exact h1
    · have := Int.mul_nonneg h1 (Int.le_of_lt this)
      omega
  · intro h
    exact Int.mul_neg_of_neg_of_pos h this
theorem val_number (s : Bool) (F : Nat) (n : Int) (h : n.natAbs < 2 ^ 53) (hs : n ≠ 0 → s = decide (n < 0)) : Val (Format.write double (.number s (n * 2 ^ F).natAbs (-(F : Int)))) n := by
  rw [natAbs_mul_pow]
  have := val_write s n.natAbs F h
  have e : signed s n.natAbs 0 = n := by
    by_cases h0 : n = 0
    · subst h0
      cases s <;> simp [signed]
    · rw [hs h0]
      unfold signed
      by_cases hn : n < 0
      · simp [hn]; omega
      · simp [hn]; omega
  rw [e] at this
  exact this
theorem val_add {x y : Nat} {a b : Int} (hx : Val x a) (hy : Val y b) (h : (a + b).natAbs < 2 ^ 53) : ∃ r, floatBits .add .f64 x y = some r ∧ Val r (a + b) := by
  obtain ⟨s, m, E, e1, h1⟩ := hx
  obtain ⟨t, n, F, e2, h2⟩ := hy
  have he : floatBits .add .f64 x y = (((Format.read double x).sum (Format.read double y)).map (Format.write double)) := rfl
  rw [he, e1, e2]
  refine ⟨_, by simp only [Datum.sum, Option.map_some]; rfl, ?_⟩
  rw [base_of, show (-(E : Int) - -((max E F : Nat) : Int)).toNat = max E F - E by omega, show (-(F : Int) - -((max E F : Nat) : Int)).toNat = max E F - F by omega, raised h1 (by omega), raised h2 (by omega), ← Int.add_mul]
  refine val_number _ _ _ h ?_
  intro hne
  rw [if_neg (by rw [mul_pow_zero]; exact hne)]
  exact decide_eq_decide.2 (mul_pow_neg _ _)
theorem val_sub {x y : Nat} {a b : Int} (hx : Val x a) (hy : Val y b) (h : (a - b).natAbs < 2 ^ 53) : ∃ r, floatBits .sub .f64 x y = some r ∧ Val r (a - b) := by
  obtain ⟨s, m, E, e1, h1⟩ := hx
  obtain ⟨t, n, F, e2, h2⟩ := hy
  have h2' : signed (!t) n 0 = (-b) * 2 ^ F := by
    rw [Int.neg_mul, ← h2]
    cases t <;> simp [signed]
  have he : floatBits .sub .f64 x y = (((Format.read double x).sum (Format.read double y).opposite).map (Format.write double)) := rfl
  rw [he, e1, e2]
  refine ⟨_, by simp only [Datum.opposite, Datum.sum, Option.map_some]; rfl, ?_⟩
  rw [base_of, show (-(E : Int) - -((max E F : Nat) : Int)).toNat = max E F - E by omega, show (-(F : Int) - -((max E F : Nat) : Int)).toNat = max E F - F by omega, raised h1 (by omega), raised h2' (by omega), ← Int.add_mul, ← Int.sub_eq_add_neg]
  refine val_number _ _ _ h ?_
  intro hne
  rw [if_neg (by rw [mul_pow_zero]; exact hne)]
  exact decide_eq_decide.2 (mul_pow_neg _ _)
theorem signed_mul (s t : Bool) (m n : Nat) : signed (s ^^ t) (m * n) 0 = signed s m 0 * signed t n 0 := by
  cases s <;> cases t <;> simp [signed, Int.neg_mul, Int.mul_neg]
theorem val_mul {x y : Nat} {a b : Int} (hx : Val x a) (hy : Val y b) (h : (a * b).natAbs < 2 ^ 53) : ∃ r, floatBits .mul .f64 x y = some r ∧ Val r (a * b) := by
  obtain ⟨s, m, E, e1, h1⟩ := hx
  obtain ⟨t, n, F, e2, h2⟩ := hy
  have he : floatBits .mul .f64 x y = (((Format.read double x).product (Format.read double y)).map (Format.write double)) := rfl
  rw [he, e1, e2]
  refine ⟨_, by simp only [Datum.product, Option.map_some]; rfl, ?_⟩
  have e : m * n = (a * b).natAbs * 2 ^ (E + F) := by
    have hm := signed_natAbs h1
    have hn := signed_natAbs h2
    subst hm hn
    rw [Int.natAbs_mul, Nat.pow_add]
    simp only [Nat.mul_assoc, Nat.mul_left_comm]
  have hv := val_write (s ^^ t) (a * b).natAbs (E + F) h
  rw [← e] at hv
  rw [show (-(E : Int)) + (-(F : Int)) = -((E + F : Nat) : Int) by omega]
  have hs : signed (s ^^ t) (a * b).natAbs 0 = a * b := by
    have h3 := signed_mul s t m n
    rw [e, h1, h2] at h3
    have h4 : signed (s ^^ t) ((a * b).natAbs * 2 ^ (E + F)) 0 = signed (s ^^ t) (a * b).natAbs 0 * 2 ^ (E + F) := by
      generalize (s ^^ t) = u
      cases u <;> simp [signed, Int.neg_mul]
    rw [h4] at h3
    have h5 : signed (s ^^ t) (a * b).natAbs 0 * 2 ^ (E + F) = a * b * 2 ^ (E + F) := by
      rw [h3, Int.pow_add]
      simp only [Int.mul_assoc, Int.mul_left_comm]
    exact Int.eq_of_mul_eq_mul_right (Int.ne_of_gt (two_pow_pos' _)) h5
  rw [hs] at hv
  exact hv
theorem compare_mul_pow (a b : Int) (F : Nat) : compare (a * 2 ^ F) (b * 2 ^ F) = compare a b := by
  have hp := two_pow_pos' F
  have h1 : a * 2 ^ F < b * 2 ^ F ↔ a < b := ⟨fun h => Int.lt_of_mul_lt_mul_right h (Int.le_of_lt hp), fun h => Int.mul_lt_mul_of_pos_right h hp⟩
  have h2 : a * 2 ^ F = b * 2 ^ F ↔ a = b := ⟨fun h => Int.eq_of_mul_eq_mul_right (Int.ne_of_gt hp) h, fun h => by rw [h]⟩
  simp only [compare, compareOfLessAndEq, h1, h2]
theorem val_order {x y : Nat} {a b : Int} (hx : Val x a) (hy : Val y b) : Format.order double x y = some (compare a b) := by
  obtain ⟨s, m, E, e1, h1⟩ := hx
  obtain ⟨t, n, F, e2, h2⟩ := hy
  unfold Format.order
  rw [e1, e2]
  simp only [Datum.order]
  rw [base_of, show (-(E : Int) - -((max E F : Nat) : Int)).toNat = max E F - E by omega, show (-(F : Int) - -((max E F : Nat) : Int)).toNat = max E F - F by omega, raised h1 (by omega), raised h2 (by omega), compare_mul_pow]
theorem val_toInt {x : Nat} {n : Int} (hx : Val x n) (h : n.natAbs < 2 ^ 62) : floatToIntVal .f64 x .i64 = some n := by
  obtain ⟨s, m, E, e1, h1⟩ := hx
  have hm := signed_natAbs h1
  have hd : FloatKind.f64.decode x = .number s m (-(E : Int)) := e1
  unfold floatToIntVal
  rw [hd]
  have ht : Datum.toInt .zero (.number s m (-(E : Int))) = some n := by
    unfold Datum.toInt Datum.integral
    simp only
    rw [show (-(E : Int)).toNat = 0 by omega, show (- -(E : Int)).toNat = E by omega, Nat.shiftLeft_zero, hm, cut_whole]
    have h4 : signed s (n.natAbs * 2 ^ E) 0 = signed s n.natAbs 0 * 2 ^ E := by
      cases s <;> simp [signed, Int.neg_mul]
    rw [hm, h4] at h1
    rw [Int.eq_of_mul_eq_mul_right (Int.ne_of_gt (two_pow_pos' _)) h1]
  rw [ht]
  simp only
  rw [if_pos ⟨by simp [IntKind.min, IntKind.signed, IntKind.bits]; omega, by simp [IntKind.max, IntKind.signed, IntKind.bits]; omega⟩]
theorem cmp_le (n c : Int) : (some (compare n c) == some Ordering.lt || some (compare n c) == some Ordering.eq) = decide (n ≤ c) := by
  simp only [compare, compareOfLessAndEq]
  by_cases h : n < c
  · simp [h]; omega
  · by_cases h2 : n = c
    · simp [h2]
    · simp [h, h2]; omega
theorem cmp_ge (n c : Int) : (some (compare n c) == some Ordering.gt || some (compare n c) == some Ordering.eq) = decide (c ≤ n) := by
  simp only [compare, compareOfLessAndEq]
  by_cases h : n < c
  · simp [h]
  · by_cases h2 : n = c
    · simp [h2]
    · simp [h, h2]; omega
theorem cmp_eq (n c : Int) : (some (compare n c) == some Ordering.eq) = decide (n = c) := by
  simp only [compare, compareOfLessAndEq]
  by_cases h : n < c
  · simp [h]; omega
  · by_cases h2 : n = c
    · simp [h2]
    · simp [h, h2]
theorem cmp_gt (n c : Int) : (some (compare n c) == some Ordering.gt) = decide (c < n) := by
  simp only [compare, compareOfLessAndEq]
  by_cases h : n < c
  · simp [h]; omega
  · by_cases h2 : n = c
    · simp [h2]
    · simp [h, h2]; omega
theorem cmp_lt (n c : Int) : (some (compare n c) == some Ordering.lt) = decide (n < c) := by
  simp only [compare, compareOfLessAndEq]
  by_cases h : n < c
  · simp [h]
  · by_cases h2 : n = c
    · simp [h2]
    · simp [h, h2]
theorem val_up : Val 4787326403894837248 1099511627776 := by
  have := val_ofInt 1099511627776 (by decide)
  rwa [show floatOfInt .f64 1099511627776 = 4787326403894837248 by kernel_rfl] at this
theorem val_down : Val 14010698440749613056 (-1099511627776) := by
  have := val_ofInt (-1099511627776) (by decide)
  rwa [show floatOfInt .f64 (-1099511627776) = 14010698440749613056 by kernel_rfl] at this
theorem val_zero : Val 0 0 := by
  have := val_ofInt 0 (by decide)
  rwa [show floatOfInt .f64 0 = 0 by kernel_rfl] at this
theorem val_one : Val 4607182418800017408 1 := by
  have := val_ofInt 1 (by decide)
  rwa [show floatOfInt .f64 1 = 4607182418800017408 by kernel_rfl] at this
/-- A product too great to be told exactly: it is great all the same. -/
theorem nearest_big (s : Bool) (q E : Nat) (h : 2 ^ 53 ≤ q) (h2 : q < 2 ^ 100) : ∃ M P : Nat, Format.read double (Format.nearest double s (q * 2 ^ E) (-(E : Int))) = .number s M (P : Int) ∧ 2 ^ 52 ≤ M ∧ 1 ≤ P := by
  have h0 : 0 < q := by have := Nat.two_pow_pos 53; omega
  have hl1 : 53 ≤ q.log2 := (Nat.le_log2 (by omega)).2 h
  have hl2 : q.log2 < 100 := (Nat.log2_lt (by omega)).2 h2
  have hne : q * 2 ^ E ≠ 0 := Nat.ne_of_gt (Nat.mul_pos h0 (Nat.two_pow_pos E))
  obtain ⟨p, hp⟩ : ∃ p, q.log2 = p + 52 := ⟨q.log2 - 52, by omega⟩
  have hlo : 2 ^ 52 ≤ q / 2 ^ p := by
    rw [Nat.le_div_iff_mul_le (Nat.two_pow_pos p), ← Nat.pow_add]
    have := Nat.log2_self_le (n := q) (by omega)
    rwa [hp, Nat.add_comm] at this
  have hhi : q / 2 ^ p < 2 ^ 53 := by
    rw [Nat.div_lt_iff_lt_mul (Nat.two_pow_pos p), ← Nat.pow_add]
    have : q < 2 ^ (q.log2 + 1) := Nat.lt_log2_self
    rwa [hp, show p + 52 + 1 = 53 + p by omega] at this
  have hkept : ∃ m, m ≤ 1 ∧ Toward.even.cut s ((q * 2 ^ E) <<< (-(E : Int) - (p : Int)).toNat) ((p : Int) - -(E : Int)).toNat = q / 2 ^ p + m := by
    rw [show (-(E : Int) - (p : Int)).toNat = 0 by omega, show ((p : Int) - -(E : Int)).toNat = p + E by omega, Nat.shiftLeft_zero]
    unfold Toward.cut
    rw [Nat.min_eq_left (by rw [log2_mul_pow q E h0]; omega), Nat.shiftLeft_eq, Nat.one_mul, Nat.pow_add]
    simp only [Nat.mul_div_mul_right _ _ (Nat.two_pow_pos E)]
    refine ⟨_, ?_, rfl⟩
    exact Bool.toNat_le _
  obtain ⟨m, hm, hk⟩ := hkept
  unfold Format.nearest
  rw [if_neg hne]
  have hlast : max (-(E : Int) + ((q * 2 ^ E).log2 : Nat) - (double.fractionBits : Nat)) double.leastPlace = (p : Int) := by
    rw [log2_mul_pow q E h0]
    have e4 : double.leastPlace = -1074 := rfl
    have e5 : double.fractionBits = 52 := rfl
    rw [e4, e5]
    omega
  simp only [hlast, hk]
  have e4 : double.leastPlace = -1074 := rfl
  have e2 : double.binade = 2 ^ 52 := rfl
  have e3 : double.infRung = 2047 * 2 ^ 52 := rfl
  rw [e4, e2, e3, show ((p : Int) - -1074).toNat = 1074 + p by omega, Nat.min_eq_left (by omega)]
  by_cases hfull : q / 2 ^ p + m < 2 ^ 53
  · obtain ⟨c, hc⟩ : ∃ c, q / 2 ^ p + m = 2 ^ 52 + c := ⟨q / 2 ^ p + m - 2 ^ 52, by omega⟩
    have hc2 : c < 2 ^ 52 := by omega
    rw [hc, show (1074 + p) * 2 ^ 52 + (2 ^ 52 + c) = (1075 + p) * 2 ^ 52 + c by omega, read_word s (1075 + p) c hc2 (by omega) (by omega)]
    refine ⟨2 ^ 52 + c, p, ?_, by omega, by omega⟩
    congr 1
    omega
  · have hc : q / 2 ^ p + m = 2 ^ 53 := by omega
    rw [hc, show (1074 + p) * 2 ^ 52 + 2 ^ 53 = (1076 + p) * 2 ^ 52 + 0 by omega, read_word s (1076 + p) 0 (by decide) (by omega) (by omega)]
    refine ⟨2 ^ 52 + 0, p + 1, ?_, by omega, by omega⟩
    congr 1
    omega
theorem order_big {r y : Nat} {s : Bool} {M P : Nat} {b : Int} (hr : Format.read double r = .number s M (P : Int)) (hM : 2 ^ 52 ≤ M) (hP : 1 ≤ P) (hy : Val y b) (hb : b.natAbs < 2 ^ 53) : Format.order double r y = some (if s then .lt else .gt) := by
  obtain ⟨t, n, F, e2, h2⟩ := hy
  unfold Format.order
  rw [hr, e2]
  simp only [Datum.order]
  rw [show min (P : Int) (-(F : Int)) = -(F : Int) by omega, show ((P : Int) - -(F : Int)).toNat = P + F by omega, show (-(F : Int) - -(F : Int)).toNat = 0 by omega, h2]
  have hp2 : 2 ^ 1 ≤ 2 ^ P := Nat.pow_le_pow_right (by decide) hP
  have hF := Nat.two_pow_pos F
  have hbig : 2 ^ 53 * 2 ^ F ≤ M * 2 ^ (P + F) := by
    rw [Nat.pow_add, ← Nat.mul_assoc]
    refine Nat.mul_le_mul_right _ ?_
    calc 2 ^ 53 = 2 ^ 52 * 2 ^ 1 := by decide
      _ ≤ M * 2 ^ P := Nat.mul_le_mul hM hp2
  have hbb : (b * 2 ^ F).natAbs < M * 2 ^ (P + F) := by
    rw [natAbs_mul_pow]
    exact Nat.lt_of_lt_of_le (Nat.mul_lt_mul_of_pos_right hb hF) hbig
  generalize b * 2 ^ F = z at *
  generalize hQ : M * 2 ^ (P + F) = Q at *
  unfold signed
  rw [Nat.shiftLeft_eq, hQ]
  simp only [compare, compareOfLessAndEq]
  cases s
  · simp
    rw [if_neg (by omega), if_neg (by omega)]
  · simp
    omega
theorem mul_big {x y : Nat} {a b : Int} (hx : Val x a) (hy : Val y b) (h : 2 ^ 53 ≤ (a * b).natAbs) (h2 : (a * b).natAbs < 2 ^ 100) :
    ∃ r s M P, floatBits .mul .f64 x y = some r ∧ Format.read double r = .number s M ((P : Nat) : Int) ∧ 2 ^ 52 ≤ M ∧ 1 ≤ P := by
  obtain ⟨s, m, E, e1, h1⟩ := hx
  obtain ⟨t, n, F, e2, h3⟩ := hy
  have he : floatBits .mul .f64 x y = (((Format.read double x).product (Format.read double y)).map (Format.write double)) := rfl
  have e : m * n = (a * b).natAbs * 2 ^ (E + F) := by
    have hm := signed_natAbs h1
    have hn := signed_natAbs h3
    subst hm hn
    rw [Int.natAbs_mul, Nat.pow_add]
    simp only [Nat.mul_assoc, Nat.mul_left_comm]
  obtain ⟨M, P, hr, hM, hP⟩ := nearest_big (s ^^ t) (a * b).natAbs (E + F) h h2
  rw [he, e1, e2]
  refine ⟨_, s ^^ t, M, P, by simp only [Datum.product, Option.map_some]; rfl, ?_, hM, hP⟩
  rw [e, show (-(E : Int)) + (-(F : Int)) = -((E + F : Nat) : Int) by omega]
  exact hr
end Go.Proofs.Yteahmcfinijmdaa.Flt
