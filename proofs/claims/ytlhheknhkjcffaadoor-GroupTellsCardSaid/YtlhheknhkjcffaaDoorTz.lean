/- TrailingZeros64, Least and Next answer the least number of a group, and the least one above a number. No conditions but those that the theorems name. -/
import Derived.Test.YtlhheknhkjcffaaDoorPop
namespace Go.Proofs.YtlhheknhkjcffaaDoor.Tz
open Go Go.RowKit Go.Proofs.YtlhheknhkjcffaaDoor.PGroupParts Go.Proofs.YtlhheknhkjcffaaDoor.Pop Go.Proofs.YtlhheknhkjcffaaDoorW.PrintWords Go.Proofs.YtlhheknhkjcffaaDoorW.PrintLast Go.Proofs.YtlhheknhkjcffaaDoorW.PrintMore
attribute [local go_sem] max2_int min2_int max_two min_two max_three min_three max_four min_four
set_option linter.unusedVariables false
set_option linter.unusedSimpArgs false
/-- where the table of the code holds a number -/
def spot (k : Nat) : Nat := 2 ^ k * 285870213051353865 % 2 ^ 64 / 2 ^ 58
def Tab (w : World) : Prop := ∀ k, k < 64 → w.cell? ⟨0, spot k, none⟩ = some (.int .u8 (k : Int))
theorem spot_lt (k : Nat) : spot k < 64 := by unfold spot; omega
theorem Tab.of_block {w w' : World} (h : Tab w) (e : w'.heap[0]? = w.heap[0]?) : Tab w' := fun k hk => by
  have := h k hk
  unfold World.cell? at this ⊢
  rw [show w'.heap[(⟨0, spot k, none⟩ : Addr).block]? = w.heap[(⟨0, spot k, none⟩ : Addr).block]? from e]
  exact this
theorem Tab.pos {w : World} (h : Tab w) : 0 < w.heap.size := by
  have := h 0 (by omega)
  rcases Nat.eq_zero_or_pos w.heap.size with h0 | h0
  · simp [World.cell?, h0] at this
  · exact h0
theorem Tab.below {w w' : World} {B : Nat} (h : Tab w) (hB : 0 < B) (b : Below B w w') : Tab w' := h.of_block (b.block 0 hB)
/-- the lowest digit of a number alone -/
theorem low_bit (x k : Nat) (hx : x < 2 ^ 64) (hk : k < 64) (h1 : x.testBit k = true) (h0 : ∀ j, j < k → x.testBit j = false) : x &&& (2 ^ 64 - x) = 2 ^ k := by
  have hxp : 0 < x := by
    rcases Nat.eq_zero_or_pos x with h | h
    · subst h; simp at h1
    · exact h
  have hm : x % 2 ^ k = 0 := by
    apply Nat.eq_of_testBit_eq
    intro i
    rw [Nat.testBit_mod_two_pow]
    by_cases hi : i < k
    · simp [hi, h0 i hi]
    · simp [hi]
  have hd : x / 2 ^ k % 2 = 1 := by
    rw [Nat.testBit_eq_decide_div_mod_eq] at h1
    simpa using h1
  obtain ⟨m, hmm⟩ : ∃ m, x / 2 ^ k = 2 * m + 1 := ⟨x / 2 ^ k / 2, by omega⟩
  have hx2 : x = 2 ^ k * (2 * m + 1) + 0 := by
    have := Nat.div_add_mod x (2 ^ k)
    rw [hm, hmm] at this
    exact this.symm
  have hp : 0 < 2 ^ k := Nat.two_pow_pos k
  have hx1 : x - 1 = 2 ^ k * (2 * m) + (2 ^ k - 1) := by
    rw [hx2, Nat.mul_add]
    omega
  have hs : 2 ^ 64 - x = 2 ^ 64 - (x - 1 + 1) := by omega
  apply Nat.eq_of_testBit_eq
  intro i
  rw [Nat.testBit_and, hs, Nat.testBit_two_pow_sub_succ (by omega), hx1, Nat.testBit_two_pow_mul_add _ (by omega), Nat.testBit_two_pow]
  rw [show x.testBit i = (2 ^ k * (2 * m + 1) + 0).testBit i by rw [← hx2], Nat.testBit_two_pow_mul_add _ hp]
  by_cases hi : i < k
  · have : ¬ k = i := by omega
    simp [hi, this]
  · obtain ⟨j, rfl⟩ : ∃ j, i = k + j := ⟨i - k, by omega⟩
    have e : k + j - k = j := by omega
    rw [if_neg hi, if_neg hi, e]
    rcases j with _ | j
    · simp [hk]
    · simp [Nat.testBit_succ]
      intro a _
      rw [show (2 * m + 1) / 2 = m by omega] at a
      exact a
theorem neg_wrap (x : Nat) (h0 : 0 < x) (hx : x < 2 ^ 64) : IntKind.u64.wrap (-(x : Int)) = ((2 ^ 64 - x : Nat) : Int) := by
  rw [wrap_u64]
  omega
set_option maxHeartbeats 1000000 in
set_option maxRecDepth 100000 in
theorem tz0 (w : World) : Calls Tryd.prog 29 #[.int .u64 0] w fun e w' => e = .returned (.int .i64 64) ∧ Drawn0 w w' := by
  go_enter Tryd.func29, Tryd.ntmps29
  go_wp2
  go_ret
  exact ⟨rfl, by repeat (first | exact Drawn0.refl _ | apply Drawn0.step)⟩
set_option maxHeartbeats 1000000 in
set_option maxRecDepth 100000 in
theorem tz_walk (x y q k : Int) (s : Nat) (w : World) (c0 : (x == 0) = false) (f1 : IntKind.u64.wrap (-x) = y) (f2 : Go.bits .and .u64 x y = q)
    (f4 : IntKind.u64.wrap (q * 285870213051353865) / 288230376151711744 = (s : Int)) (hs : s < 64) (hs1 : (s : Int) < 64) (hc : w.cell? ⟨0, s, none⟩ = some (.int .u8 k)) (hk : wrap64 k = k) :
    Calls Tryd.prog 29 #[.int .u64 x] w fun e w' => e = .returned (.int .i64 k) ∧ Drawn0 w w' := by
  go_enter Tryd.func29, Tryd.ntmps29
  go_wp2
  go_ret
  exact ⟨by simp [hk], by repeat (first | exact Drawn0.refl _ | apply Drawn0.step)⟩
theorem tz (x k : Nat) (w : World) (hx : x < 2 ^ 64) (hk : k < 64) (h1 : x.testBit k = true) (h0 : ∀ j, j < k → x.testBit j = false) (hT : Tab w) :
    Calls Tryd.prog 29 #[.int .u64 (x : Int)] w fun e w' => e = .returned (.int .i64 (k : Int)) ∧ Drawn0 w w' := by
  have hxp : 0 < x := by
    rcases Nat.eq_zero_or_pos x with h | h
    · subst h; simp at h1
    · exact h
  have f2 : Go.bits .and .u64 (x : Int) ((2 ^ 64 - x : Nat) : Int) = ((2 ^ k : Nat) : Int) := by
    rw [bits_and x (2 ^ 64 - x) hx (by omega), low_bit x k hx hk h1 h0]
  have f4 : IntKind.u64.wrap (((2 ^ k : Nat) : Int) * 285870213051353865) / 288230376151711744 = (spot k : Int) := by
    unfold spot
    generalize 2 ^ k = q
    rw [wrap_u64]
    omega
  have hs := spot_lt k
  have hne : ((x : Int) == 0) = false := by
    have : (x : Int) ≠ 0 := by omega
    simpa using this
  exact tz_walk x _ _ k (spot k) w hne (neg_wrap x hxp hx) f2 f4 hs (by omega) (hT k hk) (by unfold wrap64; omega)
/-- the least number of a group that is not below a number -/
def first (x n : Nat) : Option Nat := (List.range 64).find? fun j => decide (n ≤ j) && x.testBit j
def num : Option Nat → Int | none => 0 | some k => (k : Int)
theorem first_some {x n k : Nat} (h : first x n = some k) : n ≤ k ∧ k < 64 ∧ x.testBit k = true ∧ ∀ j, n ≤ j → j < k → x.testBit j = false := by
  obtain ⟨h1, h2, h3⟩ := List.find?_range_eq_some.1 h
  simp only [Bool.and_eq_true, decide_eq_true_eq] at h1
  refine ⟨h1.1, List.mem_range.1 h2, h1.2, fun j hj hk => ?_⟩
  have := h3 j hk
  simpa [hj] using this
theorem first_none {x n : Nat} (h : first x n = none) : ∀ j, n ≤ j → j < 64 → x.testBit j = false := by
  intro j hj hk
  have := List.find?_range_eq_none.1 h j hk
  simpa [hj] using this
theorem first_is {x n k : Nat} (h1 : n ≤ k) (h2 : k < 64) (h3 : x.testBit k = true) (h4 : ∀ j, n ≤ j → j < k → x.testBit j = false) : first x n = some k := by
  refine List.find?_range_eq_some.2 ⟨by simp [h1, h3], List.mem_range.2 h2, fun j hj => ?_⟩
  by_cases hn : n ≤ j
  · simp [h4 j hn hj]
  · simp [hn]
theorem first_not {x n : Nat} (h : ∀ j, n ≤ j → j < 64 → x.testBit j = false) : first x n = none := by
  refine List.find?_range_eq_none.2 fun j hj => ?_
  by_cases hn : n ≤ j
  · simp [h j hn hj]
  · simp [hn]
theorem zero_of_none {x : Nat} (hx : x < 2 ^ 64) (h : first x 0 = none) : x = 0 := by
  apply Nat.eq_of_testBit_eq
  intro i
  rw [Nat.zero_testBit]
  by_cases hi : i < 64
  · exact first_none h i (by omega) hi
  · exact Nat.testBit_lt_two_pow (Nat.lt_of_lt_of_le hx (Nat.pow_le_pow_right (by omega) (by omega)))
set_option maxHeartbeats 1000000 in
set_option maxRecDepth 100000 in
theorem least0 (w : World) : Calls Tryd.prog 12 #[.int .u64 0] w fun e w' => e = .returned (.tuple #[.int .i64 0, .bool false]) ∧ Drawn0 w w' := by
  go_enter Tryd.func12, Tryd.ntmps12
  go_wp2
  go_ret2
  exact ⟨rfl, by repeat (first | exact Drawn0.refl _ | apply Drawn0.step)⟩
set_option maxHeartbeats 1000000 in
set_option maxRecDepth 100000 in
theorem least1 (x k : Int) (w : World) (c0 : (x == 0) = false) (htz : Calls Tryd.prog 29 #[.int .u64 x] w fun e w' => e = .returned (.int .i64 k) ∧ Drawn0 w w') :
    Calls Tryd.prog 12 #[.int .u64 x] w fun e w' => e = .returned (.tuple #[.int .i64 k, .bool true]) ∧ Drawn0 w w' := by
  go_enter Tryd.func12, Tryd.ntmps12
  go_wp2_with (go_at_call 29; refine htz.mono ?_; rintro e w' ⟨rfl, ⟨nd, rfl⟩⟩)
  go_ret2
  exact ⟨rfl, by repeat (first | exact Drawn0.refl _ | apply Drawn0.step)⟩
theorem least (x : Nat) (w : World) (hx : x < 2 ^ 64) (hT : Tab w) :
    Calls Tryd.prog 12 #[.int .u64 (x : Int)] w fun e w' => e = .returned (.tuple #[.int .i64 (num (first x 0)), .bool (first x 0).isSome]) ∧ Drawn0 w w' := by
  rcases hf : first x 0 with _ | k
  · obtain rfl := zero_of_none hx hf
    exact least0 w
  · obtain ⟨_, h2, h3, h4⟩ := first_some hf
    have hne : ((x : Int) == 0) = false := by
      have : x ≠ 0 := by rintro rfl; simp at h3
      simpa using this
    exact least1 x k w hne (tz x k w hx h2 h3 (fun j hj => h4 j (by omega) hj) hT)
theorem dif_full (x n : Nat) (hn64 : n ≤ 64) : first (dif x (2 ^ n - 1)) 0 = first x n := by
  have hlt : 2 ^ n - 1 < 2 ^ 64 := by
    have := Nat.pow_le_pow_right (n := 2) (by omega) hn64
    have := Nat.two_pow_pos n
    omega
  rcases h : first x n with _ | k
  · refine first_not fun j _ hj => ?_
    rw [dif_bit _ _ _ hlt, Nat.testBit_two_pow_sub_one]
    by_cases hn : n ≤ j
    · simp [first_none h j hn hj]
    · have : j < n := by omega
      simp [this]
  · obtain ⟨h1, h2, h3, h4⟩ := first_some h
    refine first_is (by omega) h2 ?_ fun j _ hj => ?_
    · have : ¬ k < n := by omega
      rw [dif_bit _ _ _ hlt, Nat.testBit_two_pow_sub_one, h3]
      simp [this, h2]
    · rw [dif_bit _ _ _ hlt, Nat.testBit_two_pow_sub_one]
      by_cases hn : n ≤ j
      · simp [h4 j hn hj]
      · have : j < n := by omega
        simp [this]
theorem full_is (n : Nat) (hn : n < 64) : group_Full.f (n : Int) = some ((2 ^ n - 1 : Nat) : Int) := by
  have h : ∀ m : Nat, m < 64 → group_Full.f (m : Int) = some ((2 ^ m - 1 : Nat) : Int) := by decide
  exact h n hn
set_option maxHeartbeats 1000000 in
set_option maxRecDepth 100000 in
theorem next0 (x i : Int) (w : World) (c0 : decide (63 ≤ i) = true) : Calls Tryd.prog 14 #[.int .u64 x, .int .i64 i] w fun e w' => e = .returned (.tuple #[.int .i64 0, .bool false]) ∧ Drawn0 w w' := by
  go_enter Tryd.func14, Tryd.ntmps14
  go_wp2
  go_ret2
  exact ⟨rfl, by repeat (first | exact Drawn0.refl _ | apply Drawn0.step)⟩
set_option maxHeartbeats 1000000 in
set_option maxRecDepth 100000 in
theorem next1 (x i n y z r : Int) (b : Bool) (w : World) (c0 : decide (63 ≤ i) = false) (hn : wrap64 ((if i < -1 then (-1 : Int) else i) + 1) = n) (hy : group_Full.f n = some y) (hz : Go.bits .andNot .u64 x y = z)
    (hl : ∀ w', Drawn0 w w' → Calls Tryd.prog 12 #[.int .u64 z] w' fun e w' => e = .returned (.tuple #[.int .i64 r, .bool b]) ∧ Drawn0 w w') :
    Calls Tryd.prog 14 #[.int .u64 x, .int .i64 i] w fun e w' => e = .returned (.tuple #[.int .i64 r, .bool b]) ∧ Drawn0 w w' := by
  go_enter Tryd.func14, Tryd.ntmps14
  go_wp2_with (first | (go_at_call 11; refine (group_Full.calls n y _ hy).mono ?_; rintro e w' ⟨rfl, ⟨nd, rfl⟩⟩) | (go_at_call 12; refine (hl _ (by repeat (first | exact Drawn0.refl _ | apply Drawn0.step))).mono ?_; rintro e w' ⟨rfl, ⟨nd, rfl⟩⟩))
  all_goals
    go_ret2
    exact ⟨rfl, by repeat (first | exact Drawn0.refl _ | apply Drawn0.step)⟩
def nx (x : Nat) (i : Int) : Option Nat := if 63 ≤ i then none else first x (if i < -1 then 0 else (i + 1).toNat)
theorem next (x : Nat) (i : Int) (w : World) (hx : x < 2 ^ 64) (hT : Tab w) :
    Calls Tryd.prog 14 #[.int .u64 (x : Int), .int .i64 i] w fun e w' => e = .returned (.tuple #[.int .i64 (num (nx x i)), .bool (nx x i).isSome]) ∧ Drawn0 w w' := by
  unfold nx
  by_cases h63 : 63 ≤ i
  · rw [if_pos h63]
    exact next0 x i w (decide_eq_true h63)
  · rw [if_neg h63]
    obtain ⟨n, hn, hn64, en⟩ : ∃ n : Nat, (if i < -1 then 0 else (i + 1).toNat) = n ∧ n < 64 ∧ wrap64 ((if i < -1 then (-1 : Int) else i) + 1) = (n : Int) := by
      refine ⟨_, rfl, ?_, ?_⟩
      · split <;> omega
      · unfold wrap64
        split <;> omega
    rw [hn, ← dif_full x n (by omega)]
    have hlt : 2 ^ n - 1 < 2 ^ 64 := by
      have := Nat.pow_le_pow_right (n := 2) (by omega) (show n ≤ 64 by omega)
      have := Nat.two_pow_pos n
      omega
    refine next1 x i n _ _ _ _ w (decide_eq_false h63) en (full_is n hn64) (bits_dif x (2 ^ n - 1) hx hlt) fun w' hd => ?_
    obtain ⟨nd, rfl⟩ := hd
    refine (least (dif x (2 ^ n - 1)) (w.drewN nd) (dif_lt _ _ hlt) (hT.of_block rfl)).mono ?_
    rintro e w' ⟨rfl, ⟨nd', rfl⟩⟩
    exact ⟨rfl, by repeat (first | exact Drawn0.refl _ | apply Drawn0.step)⟩
end Go.Proofs.YtlhheknhkjcffaaDoor.Tz
