/- It is proved that the law LapTells of sakialaw02 answers true for every input: which capacities may be; and which slot and round any position has, which position any slot has in any round, and from any position on, for both widths, are what the reference tells. Conditions: none. -/
import Derived.Test.YtkkmpkgmkokjnaaQLapTellsx4
namespace Go.Proofs.Ytkkmpkgmkokjnaa.Pure
open Go Go.RowKit Go.Proofs.Ytkkmpkgmkokjnaa.QLapTells Go.Proofs.YtkkmpkgmkokjnaaW.PrintWords Go.Proofs.YtkkmpkgmkokjnaaW.PrintLast Go.Proofs.YtkkmpkgmkokjnaaW.PrintMore
set_option linter.unusedVariables false
set_option linter.unusedSimpArgs false

/-- A capacity that may be. -/
def Cap (c : Int) : Prop := ∃ i : Nat, 1 ≤ i ∧ i ≤ 30 ∧ c = 2 ^ i

theorem pow_le {i j : Nat} (h : i ≤ j) : (2 : Int) ^ i ≤ 2 ^ j := by
  have := Nat.pow_le_pow_right (n := 2) (by decide) h
  exact_mod_cast this
theorem pow_lt {i j : Nat} (h : i < j) : (2 : Int) ^ i < 2 ^ j := by
  have := Nat.pow_lt_pow_right (a := 2) (by decide) h
  exact_mod_cast this
theorem pow_pos2 (i : Nat) : (0 : Int) < 2 ^ i := by
  have := Nat.two_pow_pos i
  exact_mod_cast this
theorem cap_bounds {c : Int} (h : Cap c) : 2 ≤ c ∧ c ≤ 1073741824 := by
  obtain ⟨i, h1, h2, rfl⟩ := h
  have a := pow_le h1
  have b := pow_le h2
  exact ⟨by simpa using a, by simpa using b⟩
theorem cap_dvd32 {c : Int} (h : Cap c) : c ∣ 4294967296 := by
  obtain ⟨i, h1, h2, rfl⟩ := h
  refine ⟨2 ^ (32 - i), ?_⟩
  rw [← Int.pow_add, show i + (32 - i) = 32 by omega]
  rfl
theorem cap_dvd64 {c : Int} (h : Cap c) : c ∣ 18446744073709551616 := by
  obtain ⟨i, h1, h2, rfl⟩ := h
  refine ⟨2 ^ (64 - i), ?_⟩
  rw [← Int.pow_add, show i + (64 - i) = 64 by omega]
  rfl

theorem right_loop (c : Int) (d : Nat) : ∀ (k i : Nat), 1 ≤ i → i + d = 30 → d < k →
    ∃ b : Bool, sakiaref02_Right.l0 k c (2 ^ i) = some b ∧ (b = true ↔ ∃ j : Nat, i ≤ j ∧ j ≤ 30 ∧ c = 2 ^ j) := by
  induction d with
  | zero =>
    intro k i h1 hd hk
    obtain ⟨k, rfl⟩ : ∃ m, k = m + 1 := ⟨k - 1, by omega⟩
    obtain rfl : i = 30 := by omega
    refine ⟨(2 : Int) ^ 30 == c, ?_, ?_⟩
    · simp only [sakiaref02_Right.l0]
      rw [if_neg (show ¬ (2 : Int) ^ 30 < 1073741824 by decide)]
      split <;> rfl
    · rw [beq_iff_eq]
      constructor
      · intro h; exact ⟨30, by omega, by omega, h.symm⟩
      · rintro ⟨j, a, b, rfl⟩
        obtain rfl : j = 30 := by omega
        rfl
  | succ d ih =>
    intro k i h1 hd hk
    obtain ⟨k, rfl⟩ : ∃ m, k = m + 1 := ⟨k - 1, by omega⟩
    have hlt : (2 : Int) ^ i < 1073741824 := by
      have := pow_lt (show i < 30 by omega)
      simpa using this
    have hpos := pow_pos2 i
    by_cases hc : (2 : Int) ^ i < c
    · obtain ⟨b, hb, hiff⟩ := ih k (i + 1) (by omega) (by omega) (by omega)
      refine ⟨b, ?_, ?_⟩
      · simp only [sakiaref02_Right.l0]
        rw [if_pos hc, if_pos hlt, show wrap64 (2 * 2 ^ i) = 2 ^ (i + 1) by rw [Int.pow_succ]; unfold wrap64; omega]
        exact hb
      · rw [hiff]
        constructor
        · rintro ⟨j, a, b, e⟩; exact ⟨j, by omega, b, e⟩
        · rintro ⟨j, a, b, e⟩
          refine ⟨j, ?_, b, e⟩
          by_cases hj : j = i
          · subst hj; omega
          · omega
    · refine ⟨(2 : Int) ^ i == c, ?_, ?_⟩
      · simp only [sakiaref02_Right.l0]
        rw [if_neg hc]
      · rw [beq_iff_eq]
        constructor
        · intro h; exact ⟨i, by omega, by omega, h.symm⟩
        · rintro ⟨j, a, b, e⟩
          have := pow_le a
          omega

/-- The reference's Right. -/
theorem right_ref (c : Int) : ∃ b : Bool, (∀ k, 30 ≤ k → sakiaref02_Right.f k c = some b) ∧ (b = true ↔ Cap c) := by
  obtain ⟨b, hb, hiff⟩ := right_loop c 29 30 1 (by omega) (by omega) (by omega)
  refine ⟨b, fun k hk => ?_, hiff⟩
  have : sakiaref02_Right.f 30 c = some b := by unfold sakiaref02_Right.f; simpa using hb
  exact at_rounds (sakiaref02_Right.mono c) hk this

theorem bits_and_nat (a b : Nat) (ha : a < 2 ^ 63) (hb : b < 2 ^ 63) : Go.bits .and .i64 (a : Int) (b : Int) = ((a &&& b : Nat) : Int) :=
  (Go.bits_nat .i64 63 (by decide) (fun n h0 h1 => by rw [IntKind.wrap_i64]; omega) a b ha hb).1

/-- The program's Right. -/
theorem right_lap (c : Int) : ∃ b : Bool, lap_Right.f c = some b ∧ (b = true ↔ Cap c) := by
  unfold lap_Right.f
  by_cases h1 : c ≥ 2
  · by_cases h2 : c ≤ 1073741824
    · refine ⟨_, by rw [if_pos h1, if_pos h2], ?_⟩
      obtain ⟨n, rfl⟩ := Int.eq_ofNat_of_zero_le (show 0 ≤ c by omega)
      rw [show wrap64 ((n : Int) - 1) = ((n - 1 : Nat) : Int) by unfold wrap64; omega]
      rw [bits_and_nat n (n - 1) (by omega) (by omega), beq_iff_eq]
      rw [show (((n &&& (n - 1) : Nat) : Int) = 0) ↔ (n &&& (n - 1)) = 0 by omega]
      rw [Nat.and_sub_one_eq_zero_iff_isPowerOfTwo (by omega)]
      constructor
      · rintro ⟨i, rfl⟩
        refine ⟨i, ?_, ?_, by push_cast; rfl⟩
        · rcases i with _ | i
          · simp at h1
          · omega
        · by_cases hi : i ≤ 30
          · exact hi
          · have := pow_le (show 31 ≤ i by omega)
            push_cast at h2
            simp at this
            omega
      · rintro ⟨i, a, b, e⟩
        exact ⟨i, by exact_mod_cast e⟩
    · refine ⟨false, by rw [if_pos h1, if_neg h2], ?_⟩
      constructor
      · intro h; cases h
      · intro h; have := cap_bounds h; omega
  · refine ⟨false, by rw [if_neg h1], ?_⟩
    constructor
    · intro h; cases h
    · intro h; have := cap_bounds h; omega

theorem right_yes {c : Int} (h : Cap c) : lap_Right.f c = some true := by
  obtain ⟨b, hb, hiff⟩ := right_lap c
  rw [hb, hiff.2 h]
theorem right_no {c : Int} (h : ¬ Cap c) : lap_Right.f c = some false := by
  obtain ⟨b, hb, hiff⟩ := right_lap c
  rw [hb]
  cases b
  · rfl
  · exact absurd (hiff.1 rfl) h

theorem log_loop (i : Nat) (hi : i ≤ 30) (d : Nat) : ∀ (k j : Nat), j + d = i → d < k → lap_Log.l0 k (2 ^ i) (j : Int) = some (i : Int) := by
  have hpos := pow_pos2 i
  have sh : ∀ j : Nat, j ≤ 30 → shl .i64 1 (j : Int) = 2 ^ j := by
    intro j hj
    have h0 := pow_pos2 j
    have h1 := pow_le hj
    simp only [shl, Int.toNat_natCast, Int.one_mul]
    rw [Nat.min_eq_left (by simp only [IntKind.bits]; omega), IntKind.wrap_i64]
    simp at h1
    omega
  induction d with
  | zero =>
    intro k j hd hk
    obtain ⟨k, rfl⟩ : ∃ m, k = m + 1 := ⟨k - 1, by omega⟩
    obtain rfl : j = i := by omega
    simp only [lap_Log.l0]
    rw [if_pos (by omega), if_pos (by omega), sh j hi, if_pos rfl]
  | succ d ih =>
    intro k j hd hk
    obtain ⟨k, rfl⟩ : ∃ m, k = m + 1 := ⟨k - 1, by omega⟩
    have hlt := pow_lt (show j < i by omega)
    simp only [lap_Log.l0]
    rw [if_pos (by omega), if_pos (by omega), sh j (by omega), if_neg (by omega), show wrap64 ((j : Int) + 1) = ((j + 1 : Nat) : Int) by unfold wrap64; omega]
    exact ih k (j + 1) (by omega) (by omega)

theorem log_yes (i : Nat) (h1 : 1 ≤ i) (hi : i ≤ 30) (k : Nat) (hk : 31 ≤ k) : lap_Log.f k (2 ^ i) = some (i : Int) := by
  unfold lap_Log.f
  rw [right_yes ⟨i, h1, hi, rfl⟩]
  simp only [Option.bind_some, if_true]
  exact log_loop i hi i k 0 (by omega) (by omega)

theorem slot32_yes {c : Int} (h : Cap c) (p : Int) (h0 : 0 ≤ p) (h1 : p < 4294967296) : lap_Slot_uint32.f c p = some (p % c) := by
  have hb := cap_bounds h
  unfold lap_Slot_uint32.f
  rw [right_yes h]
  simp only [Option.bind_some, if_true]
  obtain ⟨i, a, b, rfl⟩ := h
  rw [show wrap64 ((2 : Int) ^ i - 1) % 4294967296 = 2 ^ i - 1 by unfold wrap64; omega]
  rw [Go.bits_mask .u32 32 (by decide) (fun n x y => by rw [IntKind.wrap_u32]; omega) i (by omega) p h0 (by simpa using h1)]
  have e1 := Int.emod_nonneg p (show (2 : Int) ^ i ≠ 0 by omega)
  have e2 := Int.emod_lt_of_pos p (show (0 : Int) < 2 ^ i by omega)
  congr 1
  unfold wrap64
  omega

theorem wrap_u64 (n : Int) : IntKind.u64.wrap n = n % 18446744073709551616 := by simp [IntKind.wrap, IntKind.bits, IntKind.signed]

theorem slot64_yes {c : Int} (h : Cap c) (p : Int) (h0 : 0 ≤ p) (h1 : p < 18446744073709551616) : lap_Slot_uint64.f c p = some (p % c) := by
  have hb := cap_bounds h
  unfold lap_Slot_uint64.f
  rw [right_yes h]
  simp only [Option.bind_some, if_true]
  obtain ⟨i, a, b, rfl⟩ := h
  rw [show IntKind.u64.wrap (wrap64 ((2 : Int) ^ i - 1)) = 2 ^ i - 1 by rw [wrap_u64]; unfold wrap64; omega]
  rw [Go.bits_mask .u64 64 (by decide) (fun n x y => by rw [wrap_u64]; omega) i (by omega) p h0 (by simpa using h1)]
  have e1 := Int.emod_nonneg p (show (2 : Int) ^ i ≠ 0 by omega)
  have e2 := Int.emod_lt_of_pos p (show (0 : Int) < 2 ^ i by omega)
  congr 1
  unfold wrap64
  omega

theorem cap8 : Cap 8 := ⟨3, by decide, by decide, by decide⟩

theorem live_yes (k : Nat) (hk : 31 ≤ k) : sakialaw02_live.f k = some true := by
  unfold sakialaw02_live.f
  rw [slot32_yes cap8 _ (by decide) (by decide)]
  have hn : lap_Next_uint32.f 8 4294967293 = some 5 := by
    unfold lap_Next_uint32.f wide_Add_uint32.f
    rw [right_yes cap8]
    rfl
  have hl : lap_Log.f k 8 = some 3 := log_yes 3 (by decide) (by decide) k hk
  have hs : lap_Slot_uint64.f 8 9 = some 1 := slot64_yes cap8 9 (by decide) (by decide)
  simp [hn, hl, hs]

theorem one_yes {c : Int} (h : Cap c) : lap_one.f c = some 1 := by
  unfold lap_one.f
  rw [right_yes h]
  rfl

theorem round32_yes {c : Int} (h : Cap c) (p : Int) (h0 : 0 ≤ p) (h1 : p < 4294967296) (k : Nat) (hk : 31 ≤ k) : lap_Round_uint32.f k c p = some (p / c) := by
  have hb := cap_bounds h
  have ho := one_yes h
  obtain ⟨i, a, b, rfl⟩ := h
  unfold lap_Round_uint32.f
  rw [log_yes i a b k hk]
  simp only [Option.bind_some]
  rw [if_pos (by omega), ho]
  simp only [Option.bind_some]
  have e : shr .u32 p (i : Int) = p / 2 ^ i := by
    simp only [shr, Int.toNat_natCast]
    rw [Nat.min_eq_left (by simp only [IntKind.bits]; omega)]
  rw [e]
  have e1 := Int.ediv_nonneg h0 (show (0 : Int) ≤ 2 ^ i by omega)
  have e2 : p / 2 ^ i ≤ p := Int.ediv_le_self _ h0
  congr 1
  omega

theorem round64_yes {c : Int} (h : Cap c) (p : Int) (h0 : 0 ≤ p) (h1 : p < 18446744073709551616) (k : Nat) (hk : 31 ≤ k) : lap_Round_uint64.f k c p = some (p / c) := by
  have hb := cap_bounds h
  have ho := one_yes h
  obtain ⟨i, a, b, rfl⟩ := h
  unfold lap_Round_uint64.f
  rw [log_yes i a b k hk]
  simp only [Option.bind_some]
  rw [if_pos (by omega), ho]
  simp only [Option.bind_some]
  have e : shr .u64 p (i : Int) = p / 2 ^ i := by
    simp only [shr, Int.toNat_natCast]
    rw [Nat.min_eq_left (by simp only [IntKind.bits]; omega)]
  rw [e]
  have e1 := Int.ediv_nonneg h0 (show (0 : Int) ≤ 2 ^ i by omega)
  have e2 : p / 2 ^ i ≤ p := Int.ediv_le_self _ h0
  congr 1
  rw [wrap_u64, wrap_u64]
  omega

theorem next32_yes {c : Int} (h : Cap c) (p : Int) : lap_Next_uint32.f c p = some ((p + c) % 4294967296) := by
  have hb := cap_bounds h
  unfold lap_Next_uint32.f wide_Add_uint32.f
  rw [right_yes h]
  simp only [Option.bind_some, if_true]
  congr 1
  omega
theorem next64_yes {c : Int} (h : Cap c) (p : Int) : lap_Next_uint64.f c p = some ((p + c) % 18446744073709551616) := by
  have hb := cap_bounds h
  unfold lap_Next_uint64.f wide_Add_uint64.f
  rw [right_yes h]
  simp only [Option.bind_some, if_true]
  congr 1
  rw [wrap_u64, wrap_u64]
  omega


theorem there_yes {c : Int} (h : Cap c) (s : Int) (h0 : 0 ≤ s) (h1 : s < c) : lap_there.f c s = some true := by
  unfold lap_there.f
  rw [right_yes h]
  simp only [Option.bind_some, if_true]
  rw [if_pos h0]
  simp [h1]


theorem not_cap1 : ¬ Cap 1 := fun h => by have := cap_bounds h; omega
theorem reflog_loop (i : Nat) (hi : i ≤ 30) (j : Nat) : ∀ (k n : Nat), n + j = i → j + 40 < k → sakiaref02_Log.l0 k (2 ^ j) (n : Int) = some (i : Int) := by
  induction j with
  | zero =>
    intro k n h hk
    obtain ⟨k, rfl⟩ : ∃ m, k = m + 1 := ⟨k - 1, by omega⟩
    obtain ⟨b, hb, hiff⟩ := right_ref 1
    simp only [sakiaref02_Log.l0]
    rw [show (2 : Int) ^ 0 = 1 from rfl, hb k (by omega), Option.bind_some]
    cases b with
    | true => exact absurd (hiff.1 rfl) not_cap1
    | false => rw [if_neg (by decide)]; congr 1; omega
  | succ j ih =>
    intro k n h hk
    obtain ⟨k, rfl⟩ : ∃ m, k = m + 1 := ⟨k - 1, by omega⟩
    have hc : Cap (2 ^ (j + 1)) := ⟨j + 1, by omega, by omega, rfl⟩
    have hbd := cap_bounds hc
    obtain ⟨b, hb, hiff⟩ := right_ref (2 ^ (j + 1))
    simp only [sakiaref02_Log.l0]
    rw [hb k (by omega), Option.bind_some, hiff.2 hc, if_pos rfl, if_pos (by omega), Int.tdiv_eq_ediv_of_nonneg (by omega)]
    have e : (2 : Int) ^ (j + 1) / 2 = 2 ^ j := by rw [Int.pow_succ]; omega
    have hp := pow_le (show j ≤ 30 by omega)
    have h0 := pow_pos2 j
    simp at hp
    rw [e, show wrap64 ((2 : Int) ^ j) = 2 ^ j by unfold wrap64; omega, show wrap64 ((n : Int) + 1) = ((n + 1 : Nat) : Int) by unfold wrap64; omega]
    exact ih k (n + 1) (by omega) (by omega)
theorem reflog_yes (i : Nat) (h1 : 1 ≤ i) (hi : i ≤ 30) (k : Nat) (hk : 80 ≤ k) : sakiaref02_Log.f k (2 ^ i) = some (i : Int) := by
  unfold sakiaref02_Log.f
  exact reflog_loop i hi i k 0 (by omega) (by omega)

theorem refslot {c : Int} (h : Cap c) (p : Int) (h0 : 0 ≤ p) : sakiaref02_Slot.f c p = some (p % c) := by
  have hb := cap_bounds h
  unfold sakiaref02_Slot.f
  rw [wrap_u64, show c % 18446744073709551616 = c by omega, if_neg (by omega), Int.tmod_eq_emod_of_nonneg h0]
  have e1 := Int.emod_nonneg p (show c ≠ 0 by omega)
  have e2 := Int.emod_lt_of_pos p (show (0 : Int) < c by omega)
  congr 1
  unfold wrap64
  omega
theorem refround {c : Int} (h : Cap c) (p : Int) (h0 : 0 ≤ p) (h1 : p < 18446744073709551616) : sakiaref02_Round.f c p = some (p / c) := by
  have hb := cap_bounds h
  unfold sakiaref02_Round.f
  rw [wrap_u64, wrap_u64, show c % 18446744073709551616 = c by omega, if_neg (by omega), Int.tdiv_eq_ediv_of_nonneg h0]
  have e1 := Int.ediv_nonneg h0 (show (0 : Int) ≤ c by omega)
  have e2 : p / c ≤ p := Int.ediv_le_self _ h0
  congr 1
  omega
theorem cut32 (x : Int) (h0 : 0 ≤ x) : sakiaref01_Cut.f 32 x = some (x % 4294967296) := by
  unfold sakiaref01_Cut.f
  rw [if_pos rfl, Int.tmod_eq_emod_of_nonneg h0]
theorem cut64 (x : Int) : sakiaref01_Cut.f 64 x = some x := by
  unfold sakiaref01_Cut.f
  rw [if_neg (by decide), if_pos rfl]
theorem plus32 (p n : Int) : sakiaref01_Plus.f 32 p n = some ((p + n) % 4294967296) := by
  unfold sakiaref01_Plus.f
  rw [wrap_u64, wrap_u64, cut32 _ (by omega), Option.bind_some]
  congr 1
  omega
theorem plus64 (p n : Int) : sakiaref01_Plus.f 64 p n = some ((p + n) % 18446744073709551616) := by
  unfold sakiaref01_Plus.f
  rw [wrap_u64, wrap_u64, cut64, Option.bind_some]
  congr 1
  omega

/-- A slot that there is. -/
def In (c s : Int) : Prop := Cap c ∧ 0 ≤ s ∧ s < c
theorem there_no {c s : Int} (h : ¬ In c s) : lap_there.f c s = some false := by
  unfold lap_there.f
  by_cases hc : Cap c
  · rw [right_yes hc]
    simp only [Option.bind_some, if_true]
    by_cases h0 : s ≥ 0
    · rw [if_pos h0, decide_eq_false (fun h1 => h ⟨hc, h0, h1⟩)]
    · rw [if_neg h0]
  · rw [right_no hc]
    rfl
theorem at32_no {c s : Int} (h : ¬ In c s) (r : Int) (k : Nat) : lap_At_uint32.f k c s r = some 0 := by
  unfold lap_At_uint32.f; rw [there_no h]; rfl
theorem at64_no {c s : Int} (h : ¬ In c s) (r : Int) (k : Nat) : lap_At_uint64.f k c s r = some 0 := by
  unfold lap_At_uint64.f; rw [there_no h]; rfl
theorem first32_no {c s : Int} (h : ¬ In c s) (p : Int) : lap_First_uint32.f c s p = some 0 := by
  unfold lap_First_uint32.f; rw [there_no h]; rfl
theorem first64_no {c s : Int} (h : ¬ In c s) (p : Int) : lap_First_uint64.f c s p = some 0 := by
  unfold lap_First_uint64.f; rw [there_no h]; rfl
theorem ahead32_no {c s : Int} (h : ¬ In c s) (p : Int) (k : Nat) : lap_Ahead_uint32.f k c s p = some 0 := by
  unfold lap_Ahead_uint32.f; rw [there_no h]; rfl
theorem ahead64_no {c s : Int} (h : ¬ In c s) (p : Int) (k : Nat) : lap_Ahead_uint64.f k c s p = some 0 := by
  unfold lap_Ahead_uint64.f; rw [there_no h]; rfl

theorem mul_mod_cap {c M : Int} (hd : c ∣ M) (hM : 0 < M) (r s : Int) (h0 : 0 ≤ s) (h1 : s < c) : (r * c + s) % M = (r * c) % M + s ∧ 0 ≤ (r * c) % M ∧ (r * c) % M % c = 0 ∧ (r * c) % M + s < M := by
  obtain ⟨q, rfl⟩ := hd
  have a1 := Int.emod_nonneg (r * c) (show c * q ≠ 0 by omega)
  have a2 := Int.emod_lt_of_pos (r * c) hM
  have a3 : (r * c) % (c * q) % c = 0 := by
    rw [Int.emod_emod_of_dvd _ (Int.dvd_mul_right c q)]
    exact Int.mul_emod_left r c
  obtain ⟨t, ht⟩ := Int.dvd_of_emod_eq_zero a3
  have hlt : (r * c) % (c * q) + s < c * q := by
    rw [ht] at a2 ⊢
    have hc : 0 < c := by omega
    have htq : t < q := Int.lt_of_mul_lt_mul_left a2 (by omega)
    have : c * (t + 1) ≤ c * q := Int.mul_le_mul_of_nonneg_left (by omega) (by omega)
    rw [Int.mul_add, Int.mul_one] at this
    omega
  refine ⟨?_, a1, a3, hlt⟩
  rw [Int.add_emod, Int.emod_eq_of_lt h0 (show s < c * q by omega), Int.emod_eq_of_lt (by omega) hlt]

theorem at32_in {c s : Int} (h : In c s) (r : Int) (h0 : 0 ≤ r) (h1 : r < 4294967296) (k : Nat) (hk : 31 ≤ k) : lap_At_uint32.f k c s r = some ((r * c + s) % 4294967296) := by
  obtain ⟨hc, hs0, hs1⟩ := h
  have hb := cap_bounds hc
  obtain ⟨e1, e2, e3, e4⟩ := mul_mod_cap (cap_dvd32 hc) (by decide) r s hs0 hs1
  unfold lap_At_uint32.f
  rw [there_yes hc _ hs0 hs1]
  simp only [Option.bind_some, if_true]
  rw [e1]
  obtain ⟨i, a, b, rfl⟩ := hc
  rw [log_yes i a b k hk, Option.bind_some, if_pos (by omega)]
  have e : shl .u32 r (i : Int) = r * 2 ^ i % 4294967296 := by
    simp only [shl, Int.toNat_natCast]
    rw [Nat.min_eq_left (by simp only [IntKind.bits]; omega), IntKind.wrap_u32]
  rw [e, show s % 4294967296 = s by omega]
  rw [Go.bits_join .u32 32 (by decide) (fun n x y => by rw [IntKind.wrap_u32]; omega) i _ _ e2 e3 (by simp; omega) hs0 hs1 (by simp; omega)]
theorem at64_in {c s : Int} (h : In c s) (r : Int) (h0 : 0 ≤ r) (h1 : r < 18446744073709551616) (k : Nat) (hk : 31 ≤ k) : lap_At_uint64.f k c s r = some ((r * c + s) % 18446744073709551616) := by
  obtain ⟨hc, hs0, hs1⟩ := h
  have hb := cap_bounds hc
  obtain ⟨e1, e2, e3, e4⟩ := mul_mod_cap (cap_dvd64 hc) (by decide) r s hs0 hs1
  unfold lap_At_uint64.f
  rw [there_yes hc _ hs0 hs1]
  simp only [Option.bind_some, if_true]
  rw [e1]
  obtain ⟨i, a, b, rfl⟩ := hc
  rw [log_yes i a b k hk, Option.bind_some, if_pos (by omega)]
  have e : shl .u64 r (i : Int) = r * 2 ^ i % 18446744073709551616 := by
    simp only [shl, Int.toNat_natCast]
    rw [Nat.min_eq_left (by simp only [IntKind.bits]; omega), wrap_u64]
  rw [e, wrap_u64, show s % 18446744073709551616 = s by omega]
  rw [Go.bits_join .u64 64 (by decide) (fun n x y => by rw [wrap_u64]; omega) i _ _ e2 e3 (by simp; omega) hs0 hs1 (by simp; omega)]

theorem first32_in {c s : Int} (h : In c s) (p : Int) : lap_First_uint32.f c s p = some ((p + (s - p) % c) % 4294967296) := by
  obtain ⟨hc, hs0, hs1⟩ := h
  have hb := cap_bounds hc
  have hd := cap_dvd32 hc
  unfold lap_First_uint32.f
  rw [there_yes hc _ hs0 hs1]
  simp only [Option.bind_some, if_true]
  obtain ⟨i, a, b, rfl⟩ := hc
  rw [show wrap64 ((2 : Int) ^ i - 1) % 4294967296 = 2 ^ i - 1 by unfold wrap64; omega, show s % 4294967296 = s by omega]
  rw [Go.bits_mask .u32 32 (by decide) (fun n x y => by rw [IntKind.wrap_u32]; omega) i (by omega) _ (by omega) (by simp; omega), Int.emod_emod_of_dvd _ hd]
theorem first64_in {c s : Int} (h : In c s) (p : Int) : lap_First_uint64.f c s p = some ((p + (s - p) % c) % 18446744073709551616) := by
  obtain ⟨hc, hs0, hs1⟩ := h
  have hb := cap_bounds hc
  have hd := cap_dvd64 hc
  unfold lap_First_uint64.f
  rw [there_yes hc _ hs0 hs1]
  simp only [Option.bind_some, if_true]
  obtain ⟨i, a, b, rfl⟩ := hc
  rw [show IntKind.u64.wrap (wrap64 ((2 : Int) ^ i - 1)) = 2 ^ i - 1 by rw [wrap_u64]; unfold wrap64; omega, wrap_u64, wrap_u64, wrap_u64, show s % 18446744073709551616 = s by omega]
  rw [Go.bits_mask .u64 64 (by decide) (fun n x y => by rw [wrap_u64]; omega) i (by omega) _ (by omega) (by simp; omega), Int.emod_emod_of_dvd _ hd]
theorem ahead32_in {c s : Int} (h : In c s) (p : Int) (k : Nat) (hk : 31 ≤ k) : lap_Ahead_uint32.f k c s p = some (((p + (s - p) % c) % 4294967296 - c) % 4294967296 / c) := by
  have hb := cap_bounds h.1
  unfold lap_Ahead_uint32.f
  rw [there_yes h.1 _ h.2.1 h.2.2]
  simp only [Option.bind_some, if_true]
  rw [first32_in h, Option.bind_some, show c % 4294967296 = c by omega, round32_yes h.1 _ (by omega) (by omega) k hk, Option.bind_some]
theorem ahead64_in {c s : Int} (h : In c s) (p : Int) (k : Nat) (hk : 31 ≤ k) : lap_Ahead_uint64.f k c s p = some (((p + (s - p) % c) % 18446744073709551616 - c) % 18446744073709551616 / c) := by
  have hb := cap_bounds h.1
  unfold lap_Ahead_uint64.f
  rw [there_yes h.1 _ h.2.1 h.2.2]
  simp only [Option.bind_some, if_true]
  rw [first64_in h, Option.bind_some, wrap_u64, wrap_u64, show c % 18446744073709551616 = c by omega, round64_yes h.1 _ (by omega) (by omega) k hk, Option.bind_some]

theorem hits {c : Int} (hc : 0 < c) (s p i : Int) (hs0 : 0 ≤ s) (hs1 : s < c) (hi0 : 0 ≤ i) (hi1 : i < c) : (p + i) % c = s ↔ i = (s - p) % c := by
  constructor
  · intro h
    have : (p + i - p) % c = (s - p) % c := by rw [Int.sub_emod, h, Int.sub_emod s p, Int.emod_eq_of_lt hs0 hs1]
    rw [show p + i - p = i by omega, Int.emod_eq_of_lt hi0 hi1] at this
    exact this
  · rintro rfl
    rw [Int.add_emod, Int.emod_emod_of_dvd _ (Int.dvd_refl c), ← Int.add_emod, show p + (s - p) = s by omega, Int.emod_eq_of_lt hs0 hs1]
theorem reffirst32_loop {c s : Int} (h : In c s) (hc4 : c ≤ 4096) (p : Int) (d : Nat) : ∀ (k i : Nat), (i : Int) + d = (s - p) % c → d < k →
    sakiaref02_First.l0 k 32 c s p i = some ((p + (s - p) % c) % 4294967296) := by
  have hb := cap_bounds h.1
  have q0 := Int.emod_nonneg (s - p) (show c ≠ 0 by omega)
  have q1 := Int.emod_lt_of_pos (s - p) (show (0 : Int) < c by omega)
  induction d with
  | zero =>
    intro k i hi hk
    obtain ⟨k, rfl⟩ : ∃ m, k = m + 1 := ⟨k - 1, by omega⟩
    simp only [sakiaref02_First.l0]
    rw [if_pos (by omega), plus32, Option.bind_some, refslot h.1 _ (by omega), Option.bind_some, Int.emod_emod_of_dvd _ (cap_dvd32 h.1), if_pos ((hits (by omega) s p i h.2.1 h.2.2 (by omega) (by omega)).2 (by omega)), ← hi]
    simp
  | succ d ih =>
    intro k i hi hk
    obtain ⟨k, rfl⟩ : ∃ m, k = m + 1 := ⟨k - 1, by omega⟩
    simp only [sakiaref02_First.l0]
    rw [if_pos (by omega), plus32, Option.bind_some, refslot h.1 _ (by omega), Option.bind_some, Int.emod_emod_of_dvd _ (cap_dvd32 h.1), if_neg (fun e => by have := (hits (by omega) s p i h.2.1 h.2.2 (by omega) (by omega)).1 e; omega)]
    rw [show wrap64 ((i : Int) + 1) = ((i + 1 : Nat) : Int) by unfold wrap64; omega]
    exact ih k (i + 1) (by omega) (by omega)
theorem reffirst64_loop {c s : Int} (h : In c s) (hc4 : c ≤ 4096) (p : Int) (d : Nat) : ∀ (k i : Nat), (i : Int) + d = (s - p) % c → d < k →
    sakiaref02_First.l0 k 64 c s p i = some ((p + (s - p) % c) % 18446744073709551616) := by
  have hb := cap_bounds h.1
  have q0 := Int.emod_nonneg (s - p) (show c ≠ 0 by omega)
  have q1 := Int.emod_lt_of_pos (s - p) (show (0 : Int) < c by omega)
  induction d with
  | zero =>
    intro k i hi hk
    obtain ⟨k, rfl⟩ : ∃ m, k = m + 1 := ⟨k - 1, by omega⟩
    simp only [sakiaref02_First.l0]
    rw [if_pos (by omega), plus64, Option.bind_some, refslot h.1 _ (by omega), Option.bind_some, Int.emod_emod_of_dvd _ (cap_dvd64 h.1), if_pos ((hits (by omega) s p i h.2.1 h.2.2 (by omega) (by omega)).2 (by omega)), ← hi]
    simp
  | succ d ih =>
    intro k i hi hk
    obtain ⟨k, rfl⟩ : ∃ m, k = m + 1 := ⟨k - 1, by omega⟩
    simp only [sakiaref02_First.l0]
    rw [if_pos (by omega), plus64, Option.bind_some, refslot h.1 _ (by omega), Option.bind_some, Int.emod_emod_of_dvd _ (cap_dvd64 h.1), if_neg (fun e => by have := (hits (by omega) s p i h.2.1 h.2.2 (by omega) (by omega)).1 e; omega)]
    rw [show wrap64 ((i : Int) + 1) = ((i + 1 : Nat) : Int) by unfold wrap64; omega]
    exact ih k (i + 1) (by omega) (by omega)
theorem reffirst32 {c s : Int} (h : In c s) (hc4 : c ≤ 4096) (p : Int) (k : Nat) (hk : 5000 ≤ k) : sakiaref02_First.f k 32 c s p = some ((p + (s - p) % c) % 4294967296) := by
  have hb := cap_bounds h.1
  have q0 := Int.emod_nonneg (s - p) (show c ≠ 0 by omega)
  have q1 := Int.emod_lt_of_pos (s - p) (show (0 : Int) < c by omega)
  exact reffirst32_loop h hc4 p ((s - p) % c).toNat k 0 (by omega) (by omega)
theorem reffirst64 {c s : Int} (h : In c s) (hc4 : c ≤ 4096) (p : Int) (k : Nat) (hk : 5000 ≤ k) : sakiaref02_First.f k 64 c s p = some ((p + (s - p) % c) % 18446744073709551616) := by
  have hb := cap_bounds h.1
  have q0 := Int.emod_nonneg (s - p) (show c ≠ 0 by omega)
  have q1 := Int.emod_lt_of_pos (s - p) (show (0 : Int) < c by omega)
  exact reffirst64_loop h hc4 p ((s - p) % c).toNat k 0 (by omega) (by omega)
theorem refahead32 {c s : Int} (h : In c s) (hc4 : c ≤ 4096) (p : Int) (k : Nat) (hk : 5000 ≤ k) : sakiaref02_Ahead.f k 32 c s p = some (((p + (s - p) % c) % 4294967296 - c) % 4294967296 / c) := by
  have hb := cap_bounds h.1
  unfold sakiaref02_Ahead.f
  rw [reffirst32 h hc4 p k hk, Option.bind_some, show wrap64 (-c) = -c by unfold wrap64; omega, plus32, Option.bind_some, refround h.1 _ (by omega) (by omega), Option.bind_some, ← Int.sub_eq_add_neg]
theorem refahead64 {c s : Int} (h : In c s) (hc4 : c ≤ 4096) (p : Int) (k : Nat) (hk : 5000 ≤ k) : sakiaref02_Ahead.f k 64 c s p = some (((p + (s - p) % c) % 18446744073709551616 - c) % 18446744073709551616 / c) := by
  have hb := cap_bounds h.1
  unfold sakiaref02_Ahead.f
  rw [reffirst64 h hc4 p k hk, Option.bind_some, show wrap64 (-c) = -c by unfold wrap64; omega, plus64, Option.bind_some, refround h.1 _ (by omega) (by omega), Option.bind_some, ← Int.sub_eq_add_neg]
theorem refat32 {c s : Int} (h : In c s) (r : Int) : sakiaref02_At.f 32 c s r = some ((r * c + s) % 4294967296) := by
  have hb := cap_bounds h.1
  have h2 := h.2
  unfold sakiaref02_At.f
  rw [wrap_u64, wrap_u64, wrap_u64, wrap_u64, show c % 18446744073709551616 = c by omega, cut32 _ (by omega), Option.bind_some]
  congr 1
  omega
theorem refat64 {c s : Int} (h : In c s) (r : Int) : sakiaref02_At.f 64 c s r = some ((r * c + s) % 18446744073709551616) := by
  have hb := cap_bounds h.1
  have h2 := h.2
  unfold sakiaref02_At.f
  rw [wrap_u64, wrap_u64, wrap_u64, wrap_u64, show c % 18446744073709551616 = c by omega, cut64, Option.bind_some]
  congr 1
  omega
theorem mod_mul32 (r c s : Int) : (r % 4294967296 * c + s) % 4294967296 = (r * c + s) % 4294967296 := by
  have e : r % 4294967296 * c % 4294967296 = r * c % 4294967296 := by rw [Int.mul_emod, Int.emod_emod_of_dvd _ (Int.dvd_refl _), ← Int.mul_emod]
  rw [Int.add_emod, e, ← Int.add_emod]

theorem small_yes {c : Int} (hc : Cap c) (hc4 : c ≤ 4096) (s p r : Int) (hp0 : 0 ≤ p) (hp1 : p < 18446744073709551616) (hr0 : 0 ≤ r) (k : Nat) (hk : 5100 ≤ k) : sakialaw02_small.f k c s p r = some true := by
  have hb := cap_bounds hc
  obtain ⟨k, rfl⟩ : ∃ m, k = m + 2 := ⟨k - 2, by omega⟩
  have hq0 : 0 ≤ p % 4294967296 := by omega
  have hq1 : p % 4294967296 < 4294967296 := by omega
  have hx : ∀ x : Int, 0 ≤ x → x < 4294967296 → IntKind.u64.wrap x = x := by intro x a b; rw [wrap_u64]; omega
  have hd0 := Int.ediv_nonneg hq0 (show (0 : Int) ≤ c by omega)
  have hd1 : p % 4294967296 / c ≤ p % 4294967296 := Int.ediv_le_self _ hq0
  unfold sakialaw02_small.f wide_Of_uint32.f
  rw [cut32 p hp0, Option.bind_some, Option.bind_some, slot32_yes hc _ hq0 hq1, Option.bind_some, refslot hc _ hq0, Option.bind_some, if_pos rfl, Option.bind_some, round32_yes hc _ hq0 hq1 _ (by omega), Option.bind_some, refround hc _ hq0 (by omega), Option.bind_some, hx _ hd0 (by omega), bne_self_eq_false]
  simp only [sakialaw02_small.j0, wide_Of_uint32.f]
  rw [if_neg (by decide), Option.bind_some, next32_yes hc, Option.bind_some, plus32, Option.bind_some, hx _ (by omega) (by omega), if_pos (by omega), Option.bind_some]
  by_cases hin : In c s
  · have a1 := at32_in hin (r % 4294967296) (by omega) (by omega) (k + 1) (by omega)
    have a2 := first32_in hin (p % 4294967296)
    have a3 := ahead32_in hin (p % 4294967296) (k + 1) (by omega)
    have z0 : 0 ≤ ((p % 4294967296 + (s - p % 4294967296) % c) % 4294967296 - c) % 4294967296 := by omega
    have z1 := Int.ediv_nonneg z0 (show (0 : Int) ≤ c by omega)
    have z2 : ((p % 4294967296 + (s - p % 4294967296) % c) % 4294967296 - c) % 4294967296 / c ≤ ((p % 4294967296 + (s - p % 4294967296) % c) % 4294967296 - c) % 4294967296 := Int.ediv_le_self _ z0
    rw [a1, Option.bind_some, Option.bind_some, a2, Option.bind_some, Option.bind_some, a3, Option.bind_some, if_neg (by have := hin.2; omega), decide_eq_false (by have := hin.2; omega)]
    rw [hx _ (by omega) (by omega), hx _ (by omega) (by omega), hx _ z1 (by omega), mod_mul32]
    simp only [sakialaw02_small.j1]
    rw [if_neg (by decide), refat32 hin, Option.bind_some, if_pos rfl, reffirst32 hin hc4 _ _ (by omega), Option.bind_some, if_pos rfl, refahead32 hin hc4 _ _ (by omega), Option.bind_some, beq_self_eq_true]
  · rw [at32_no hin, Option.bind_some, Option.bind_some, first32_no hin, Option.bind_some, Option.bind_some, ahead32_no hin, Option.bind_some, hx 0 (by decide) (by decide)]
    have fin : sakialaw02_small.j1 (k + 1) c s r (p % 4294967296) 0 0 0 true = some true := by
      simp only [sakialaw02_small.j1]
      rfl
    by_cases h0 : s < 0
    · rw [if_pos h0]; exact fin
    · rw [if_neg h0, decide_eq_true (by
        by_cases h1 : s ≥ c
        · exact h1
        · exact absurd ⟨hc, by omega, by omega⟩ hin)]
      exact fin
theorem great_yes {c : Int} (hc : Cap c) (hc4 : c ≤ 4096) (s p r : Int) (hp0 : 0 ≤ p) (hp1 : p < 18446744073709551616) (hr0 : 0 ≤ r) (hr1 : r < 18446744073709551616) (k : Nat) (hk : 5100 ≤ k) : sakialaw02_great.f k c s p r = some true := by
  have hb := cap_bounds hc
  obtain ⟨k, rfl⟩ : ∃ m, k = m + 2 := ⟨k - 2, by omega⟩
  unfold sakialaw02_great.f
  rw [slot64_yes hc _ hp0 hp1, Option.bind_some, refslot hc _ hp0, Option.bind_some, if_pos rfl, round64_yes hc _ hp0 hp1 _ (by omega), Option.bind_some, refround hc _ hp0 hp1, Option.bind_some, if_pos rfl, next64_yes hc, Option.bind_some, plus64, Option.bind_some, bne_self_eq_false]
  simp only [sakialaw02_great.j0]
  rw [if_neg (by decide)]
  by_cases hin : In c s
  · rw [at64_in hin r hr0 hr1 _ (by omega), Option.bind_some, first64_in hin p, Option.bind_some, ahead64_in hin p _ (by omega), Option.bind_some, if_neg (by have := hin.2; omega), decide_eq_false (by have := hin.2; omega)]
    simp only [sakialaw02_great.j1]
    rw [if_neg (by decide), refat64 hin, Option.bind_some, if_pos rfl, reffirst64 hin hc4 _ _ (by omega), Option.bind_some, if_pos rfl, refahead64 hin hc4 _ _ (by omega), Option.bind_some, beq_self_eq_true]
  · rw [at64_no hin, Option.bind_some, first64_no hin, Option.bind_some, ahead64_no hin, Option.bind_some]
    have fin : sakialaw02_great.j1 (k + 1) c s p r 0 0 0 true = some true := by
      simp only [sakialaw02_great.j1]
      rfl
    by_cases h0 : s < 0
    · rw [if_pos h0]; exact fin
    · rw [if_neg h0, decide_eq_true (by
        by_cases h1 : s ≥ c
        · exact h1
        · exact absurd ⟨hc, by omega, by omega⟩ hin)]
      exact fin

theorem none_yes {c : Int} (hc : ¬ Cap c) (s p r : Int) (k : Nat) (hk : 10 ≤ k) : sakialaw02_none.f k c s p r = some true := by
  obtain ⟨k, rfl⟩ : ∃ m, k = m + 2 := ⟨k - 2, by omega⟩
  have hin : ¬ In c s := fun h => hc h.1
  have hr := right_no hc
  have lg : ∀ q, lap_Log.f q c = some 0 := by intro q; unfold lap_Log.f; rw [hr]; rfl
  have on : lap_one.f c = some 0 := by unfold lap_one.f; rw [hr]; rfl
  have s32 : ∀ x, lap_Slot_uint32.f c x = some 0 := by intro x; unfold lap_Slot_uint32.f; rw [hr]; rfl
  have s64 : ∀ x, lap_Slot_uint64.f c x = some 0 := by intro x; unfold lap_Slot_uint64.f; rw [hr]; rfl
  have n32 : ∀ x, lap_Next_uint32.f c x = some 0 := by intro x; unfold lap_Next_uint32.f; rw [hr]; rfl
  have n64 : ∀ x, lap_Next_uint64.f c x = some 0 := by intro x; unfold lap_Next_uint64.f; rw [hr]; rfl
  have r32 : ∀ q x, lap_Round_uint32.f q c x = some 0 := by
    intro q x
    unfold lap_Round_uint32.f
    rw [lg, Option.bind_some, if_pos (by decide), on, Option.bind_some]
    simp
  have r64 : ∀ q x, lap_Round_uint64.f q c x = some 0 := by
    intro q x
    unfold lap_Round_uint64.f
    rw [lg, Option.bind_some, if_pos (by decide), on, Option.bind_some, wrap_u64, wrap_u64]
    simp
  have tu : ∀ q x, 1 ≤ q → lap_Turns_uint64.f q c x 1 = some [] := by
    intro q x hq
    obtain ⟨q, rfl⟩ : ∃ m, q = m + 1 := ⟨q - 1, by omega⟩
    unfold lap_Turns_uint64.f
    rw [hr, Option.bind_some, if_neg (by decide)]
    simp [lap_Turns_uint64.j0]
  unfold sakialaw02_none.f wide_Of_uint32.f
  rw [Option.bind_some, Option.bind_some, lg, Option.bind_some, if_pos rfl, s32, Option.bind_some, if_pos rfl, r32, Option.bind_some, if_pos rfl, at32_no hin, Option.bind_some, if_pos rfl, n32, Option.bind_some, if_pos rfl, first32_no hin, Option.bind_some, if_pos rfl, ahead32_no hin, Option.bind_some]
  rw [show ((0 : Int) != 0) = false by decide]
  simp only [sakialaw02_none.j0]
  rw [if_neg (by decide), s64, Option.bind_some, if_pos rfl, r64, Option.bind_some, if_pos rfl, at64_no hin, Option.bind_some, if_pos rfl, n64, Option.bind_some, if_pos rfl, tu _ _ (by omega), Option.bind_some]
  rfl

theorem LapTells : sakialaw02_LapTells.Pure := by
  intro c s x y hc hs hx hy
  simp only [Lit.wf, decide_eq_true_eq, Bool.and_eq_true, IntKind.min, IntKind.max, IntKind.signed, IntKind.bits] at hx hy
  simp at hx hy
  obtain ⟨K, hK⟩ : ∃ K : Nat, 5200 ≤ K := ⟨5200, by omega⟩
  refine ⟨K, ?_⟩
  unfold sakialaw02_LapTells.f
  obtain ⟨b, hb, hiff⟩ := right_ref c
  obtain ⟨b', hb', hiff'⟩ := right_lap c
  have e : b = b' := by
    cases b <;> cases b' <;> simp_all
  subst e
  rw [hb', Option.bind_some, hb K (by omega), Option.bind_some, bne_self_eq_false, if_neg (by decide), Option.bind_some]
  cases b with
  | false =>
    have hn : ¬ Cap c := fun h => by have := hiff.2 h; cases this
    rw [if_neg (by decide), none_yes hn s x y K (by omega), Option.bind_some, if_pos rfl, live_yes K (by omega)]
    rfl
  | true =>
    have h := hiff.1 rfl
    have lg : lap_Log.f K c = sakiaref02_Log.f K c ∧ ∃ i : Int, lap_Log.f K c = some i := by
      obtain ⟨i, a, b, rfl⟩ := h
      rw [log_yes i a b K (by omega), reflog_yes i a b K (by omega)]
      exact ⟨rfl, _, rfl⟩
    obtain ⟨l1, i, l2⟩ := lg
    rw [if_pos rfl, ← l1, l2, Option.bind_some, Option.bind_some, if_pos rfl, live_yes K (by omega)]
    by_cases h4 : c > 4096
    · rw [if_pos h4]
      rfl
    · rw [if_neg h4, Option.bind_some, Option.bind_some, if_pos rfl, small_yes h (by omega) s x y (by omega) (by omega) (by omega) K (by omega), Option.bind_some, if_pos rfl, great_yes h (by omega) s x y (by omega) (by omega) (by omega) (by omega) K (by omega), Option.bind_some, if_pos rfl]
      rfl

end Go.Proofs.Ytkkmpkgmkokjnaa.Pure
