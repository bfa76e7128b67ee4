/- Any float: how it stands to the bounds of a count, and whether it is whole. No conditions. -/
import Derived.Test.YtlhodmhmbcdieaaFlt
namespace Go.Proofs.Ytlhodmhmbcdieaa.Flt
open Go Ieee
/-- Numbers whose place is above 0 are great. -/
theorem read_place (x : Nat) {s : Bool} {m : Nat} {i : Int} (h : Format.read double x = .number s m i) : i ≤ 0 ∨ 2 ^ 52 ≤ m := by
  unfold Format.read at h
  have e2 : double.binade = 2 ^ 52 := rfl
  have e4 : double.leastPlace = -1074 := rfl
  simp only at h
  split at h
  · simp only [Datum.number.injEq] at h
    left
    omega
  · split at h
    · simp only [Datum.number.injEq] at h
      right
      omega
    · split at h
      · simp at h
      · simp at h
theorem signed_neg_iff (s : Bool) (m : Nat) : signed s m 0 = if s then -(m : Int) else (m : Int) := by
  unfold signed
  simp
theorem order_num {x y : Nat} {s : Bool} {m E : Nat} {b : Int} (hx : Format.read double x = .number s m (-(E : Int))) (hy : Val y b) :
    Format.order double x y = some (compare (signed s m 0) (b * 2 ^ E)) ∧ Format.order double y x = some (compare (b * 2 ^ E) (signed s m 0)) := by
  obtain ⟨t, n, F, e2, h2⟩ := hy
  have hz : ∀ (u : Bool) (q D : Nat), D ≤ max E F → signed u q (max E F - D) = signed u q 0 * 2 ^ (max E F - D) := fun u q D _ => signed_eq u q _
  have k1 : signed t n (max E F - F) = (b * 2 ^ E) * 2 ^ (max E F - E) := by
    rw [raised h2 (by omega), Int.mul_assoc, ← Int.pow_add, show E + (max E F - E) = max E F by omega]
  constructor
  · unfold Format.order
    rw [hx, e2]
    simp only [Datum.order]
    rw [base_of, show (-(E : Int) - -((max E F : Nat) : Int)).toNat = max E F - E by omega, show (-(F : Int) - -((max E F : Nat) : Int)).toNat = max E F - F by omega, hz s m E (by omega), k1, compare_mul_pow]
  · unfold Format.order
    rw [hx, e2]
    simp only [Datum.order]
    rw [base_of, show (-(E : Int) - -((max F E : Nat) : Int)).toNat = max E F - E by omega, show (-(F : Int) - -((max F E : Nat) : Int)).toNat = max E F - F by omega, hz s m E (by omega), k1, compare_mul_pow]
theorem order_numB {x y : Nat} {s : Bool} {m P : Nat} {b : Int} (hx : Format.read double x = .number s m (P : Int)) (hP : 1 ≤ P) (hm : 2 ^ 52 ≤ m) (hy : Val y b) (hb : b.natAbs < 2 ^ 53) :
    Format.order double x y = some (if s then .lt else .gt) := order_big hx hm hP hy hb
theorem toInt_num {x : Nat} {s : Bool} {m E : Nat} (hx : Format.read double x = .number s m (-(E : Int))) (h : m < 2 ^ 62 * 2 ^ E) : floatToIntVal .f64 x .i64 = some (if s then -((m / 2 ^ E : Nat) : Int) else ((m / 2 ^ E : Nat) : Int)) := by
  have hd : FloatKind.f64.decode x = .number s m (-(E : Int)) := hx
  have hq : m / 2 ^ E < 2 ^ 62 := by
    rw [Nat.div_lt_iff_lt_mul (Nat.two_pow_pos E)]
    exact h
  unfold floatToIntVal
  rw [hd]
  have hc : Toward.zero.cut s m E = m / 2 ^ E := by
    unfold Toward.cut
    simp only [Bool.toNat_false, Nat.add_zero]
    by_cases hE : E ≤ m.log2 + 2
    · rw [Nat.min_eq_left hE, Nat.shiftLeft_eq, Nat.one_mul]
    · rw [Nat.min_eq_right (by omega), Nat.shiftLeft_eq, Nat.one_mul]
      have h1 : m < 2 ^ (m.log2 + 1) := Nat.lt_log2_self
      have h2 : 2 ^ (m.log2 + 1) ≤ 2 ^ (m.log2 + 2) := Nat.pow_le_pow_right (by decide) (by omega)
      have h3 : 2 ^ (m.log2 + 2) ≤ 2 ^ E := Nat.pow_le_pow_right (by decide) (by omega)
      rw [Nat.div_eq_of_lt (by omega), Nat.div_eq_of_lt (by omega)]
  have ht : Datum.toInt .zero (.number s m (-(E : Int))) = some (if s then -((m / 2 ^ E : Nat) : Int) else ((m / 2 ^ E : Nat) : Int)) := by
    unfold Datum.toInt Datum.integral
    simp only
    rw [show (-(E : Int)).toNat = 0 by omega, show (- -(E : Int)).toNat = E by omega, Nat.shiftLeft_zero, hc, signed_neg_iff]
  rw [ht]
  simp only
  clear ht hc
  generalize m / 2 ^ E = D at *
  rw [if_pos]
  cases s <;> simp [IntKind.min, IntKind.max, IntKind.signed, IntKind.bits] <;> omega
/-- What a float's tests come to. -/
structure Tests (x : Nat) (ge le : Bool) : Prop where
  h1 : (FloatKind.f64.format.order x 14010698440749613056 == some Ordering.gt || FloatKind.f64.format.order x 14010698440749613056 == some Ordering.eq) = ge
  h2 : (FloatKind.f64.format.order x 4787326403894837248 == some Ordering.lt || FloatKind.f64.format.order x 4787326403894837248 == some Ordering.eq) = le
structure Near (x : Nat) (n : Int) (q : Bool) : Prop where
  h3 : floatToIntVal .f64 x .i64 = some n
  h4 : (FloatKind.f64.format.order x (floatOfInt .f64 n) == some Ordering.eq) = q
  h5 : (FloatKind.f64.format.order (floatOfInt .f64 n) x == some Ordering.eq) = q
  h6 : -1099511627776 ≤ n ∧ n ≤ 1099511627776
theorem raw_cases (x : Nat) : (∃ le, Tests x false le) ∨ Tests x true false ∨ (Tests x true true ∧ ∃ n, Near x n false) ∨ (Tests x true true ∧ ∃ n, Near x n true ∧ Val x n) := by
  cases hr : Format.read double x with
  | nan s t =>
    have h : ∀ y, FloatKind.f64.format.order x y = none := by
      intro y
      show Format.order double x y = none
      unfold Format.order
      rw [hr]
      rfl
    exact .inl ⟨false, by rw [h]; rfl, by rw [h]; rfl⟩
  | infinity s =>
    have h : ∀ y b, Val y b → FloatKind.f64.format.order x y = some (if s then .lt else .gt) := by
      rintro y b ⟨t, n, F, e, _⟩
      show Format.order double x y = _
      unfold Format.order
      rw [hr, e]
      rfl
    cases s with
    | true => exact .inl ⟨true, by rw [h _ _ val_down]; rfl, by rw [h _ _ val_up]; rfl⟩
    | false => exact .inr (.inl ⟨by rw [h _ _ val_down]; rfl, by rw [h _ _ val_up]; rfl⟩)
  | number s m i =>
    rcases Int.lt_or_le 0 i with hi | hi
    · have hm : 2 ^ 52 ≤ m := by
        rcases read_place x hr with h | h
        · omega
        · exact h
      obtain ⟨P, rfl⟩ := Int.eq_ofNat_of_zero_le (Int.le_of_lt hi)
      have h : ∀ y b, Val y b → b.natAbs < 2 ^ 53 → FloatKind.f64.format.order x y = some (if s then .lt else .gt) := fun y b hy hb => order_numB hr (by omega) hm hy hb
      cases s with
      | true => exact .inl ⟨true, by rw [h _ _ val_down (by decide)]; rfl, by rw [h _ _ val_up (by decide)]; rfl⟩
      | false => exact .inr (.inl ⟨by rw [h _ _ val_down (by decide)]; rfl, by rw [h _ _ val_up (by decide)]; rfl⟩)
    · obtain ⟨E, hE⟩ : ∃ E : Nat, i = -(E : Int) := ⟨i.natAbs, by omega⟩
      subst hE
      have g1 : FloatKind.f64.format.order x 14010698440749613056 = some (compare (signed s m 0) (-1099511627776 * 2 ^ E)) := (order_num hr val_down).1
      have g2 : FloatKind.f64.format.order x 4787326403894837248 = some (compare (signed s m 0) (1099511627776 * 2 ^ E)) := (order_num hr val_up).1
      have T : Tests x (decide (-1099511627776 * 2 ^ E ≤ signed s m 0)) (decide (signed s m 0 ≤ 1099511627776 * 2 ^ E)) := ⟨by rw [g1, cmp_ge], by rw [g2, cmp_le]⟩
      by_cases c1 : -1099511627776 * 2 ^ E ≤ signed s m 0
      · rw [decide_eq_true c1] at T
        by_cases c2 : signed s m 0 ≤ 1099511627776 * 2 ^ E
        · rw [decide_eq_true c2] at T
          have hE := Nat.two_pow_pos E
          have hEc : ((2 : Int) ^ E) = ((2 ^ E : Nat) : Int) := by push_cast; rfl
          have hmb : m ≤ 1099511627776 * 2 ^ E := by
            rw [signed_neg_iff, hEc] at c1 c2
            generalize 2 ^ E = D at *
            cases s
            · simp at c1 c2
              omega
            · simp at c1 c2
              omega
          have hti := toInt_num hr (by
            refine Nat.lt_of_le_of_lt hmb ?_
            exact Nat.mul_lt_mul_of_pos_right (by decide) hE)
          have hq : m / 2 ^ E ≤ 1099511627776 := by
            rw [Nat.div_le_iff_le_mul_add_pred hE]
            rw [Nat.mul_comm]
            omega
          obtain ⟨n, hn⟩ : ∃ n : Int, (if s then -((m / 2 ^ E : Nat) : Int) else ((m / 2 ^ E : Nat) : Int)) = n := ⟨_, rfl⟩
          rw [hn] at hti
          have hb : -1099511627776 ≤ n ∧ n ≤ 1099511627776 := by
            subst hn
            generalize m / 2 ^ E = D at *
            cases s <;> simp <;> omega
          obtain ⟨o1, o2⟩ := order_num hr (val_ofInt n (by omega))
          by_cases c3 : signed s m 0 = n * 2 ^ E
          · refine .inr (.inr (.inr ⟨T, n, ⟨hti, ?_, ?_, hb⟩, ⟨s, m, E, hr, c3⟩⟩))
            · rw [show FloatKind.f64.format.order x (floatOfInt .f64 n) = _ from o1, cmp_eq]
              exact decide_eq_true c3
            · rw [show FloatKind.f64.format.order (floatOfInt .f64 n) x = _ from o2, cmp_eq]
              exact decide_eq_true c3.symm
          · refine .inr (.inr (.inl ⟨T, n, ⟨hti, ?_, ?_, hb⟩⟩))
            · rw [show FloatKind.f64.format.order x (floatOfInt .f64 n) = _ from o1, cmp_eq]
              exact decide_eq_false c3
            · rw [show FloatKind.f64.format.order (floatOfInt .f64 n) x = _ from o2, cmp_eq]
              exact decide_eq_false (fun h => c3 h.symm)
        · rw [decide_eq_false c2] at T
          exact .inr (.inl T)
      · rw [decide_eq_false c1] at T
        exact .inl ⟨_, T⟩
end Go.Proofs.Ytlhodmhmbcdieaa.Flt
