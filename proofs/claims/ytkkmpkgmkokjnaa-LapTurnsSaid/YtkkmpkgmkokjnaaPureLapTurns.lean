/- It is proved that the law LapTurns of sakialaw02 answers true for every input: as many positions as a ring has, or fewer, have each a slot of its own, in order; more are not told. Conditions: none. -/
import Derived.Test.YtkkmpkgmkokjnaaPLapTurnsx3
namespace Go.Proofs.Ytkkmpkgmkokjnaa.Pure
open Go Go.RowKit Go.Proofs.Ytkkmpkgmkokjnaa.PLapTurns Go.Proofs.YtkkmpkgmkokjnaaW.PrintWords Go.Proofs.YtkkmpkgmkokjnaaW.PrintLast Go.Proofs.YtkkmpkgmkokjnaaW.PrintMore

/-- A capacity that may be. -/
def Cap (c : Int) : Prop := ∃ i : Nat, 1 ≤ i ∧ i ≤ 30 ∧ c = 2 ^ i

theorem pow_le {i j : Nat} (h : i ≤ j) : (2 : Int) ^ i ≤ 2 ^ j := by
  have := Nat.pow_le_pow_right (n := 2) (by decide) h
  exact_mod_cast this
theorem pow_lt {i j : Nat} (h : i < j) : (2 : Int) ^ i < 2 ^ j := by
  have := Nat.pow_lt_pow_right (a := 2) (by decide) h
  exact_mod_cast this
theorem pow_pos2 (i : Nat) : (0 : Int) < 2 ^ i := by
  have := Nat.two_pow_pos i
  exact_mod_cast this
theorem cap_bounds {c : Int} (h : Cap c) : 2 ≤ c ∧ c ≤ 1073741824 := by
  obtain ⟨i, h1, h2, rfl⟩ := h
  have a := pow_le h1
  have b := pow_le h2
  exact ⟨by simpa using a, by simpa using b⟩
theorem cap_dvd32 {c : Int} (h : Cap c) : c ∣ 4294967296 := by
  obtain ⟨i, h1, h2, rfl⟩ := h
  refine ⟨2 ^ (32 - i), ?_⟩
  rw [← Int.pow_add, show i + (32 - i) = 32 by omega]
  rfl
theorem cap_dvd64 {c : Int} (h : Cap c) : c ∣ 18446744073709551616 := by
  obtain ⟨i, h1, h2, rfl⟩ := h
  refine ⟨2 ^ (64 - i), ?_⟩
  rw [← Int.pow_add, show i + (64 - i) = 64 by omega]
  rfl

theorem right_loop (c : Int) (d : Nat) : ∀ (k i : Nat), 1 ≤ i → i + d = 30 → d < k →
    ∃ b : Bool, sakiaref02_Right.l0 k c (2 ^ i) = some b ∧ (b = true ↔ ∃ j : Nat, i ≤ j ∧ j ≤ 30 ∧ c = 2 ^ j) := by
  induction d with
  | zero =>
    intro k i h1 hd hk
    obtain ⟨k, rfl⟩ : ∃ m, k = m + 1 := ⟨k - 1, by omega⟩
    obtain rfl : i = 30 := by omega
    refine ⟨(2 : Int) ^ 30 == c, ?_, ?_⟩
    · simp only [sakiaref02_Right.l0]
      rw [if_neg (show ¬ (2 : Int) ^ 30 < 1073741824 by decide)]
      split <;> rfl
    · rw [beq_iff_eq]
      constructor
      · intro h; exact ⟨30, by omega, by omega, h.symm⟩
      · rintro ⟨j, a, b, rfl⟩
        obtain rfl : j = 30 := by omega
        rfl
  | succ d ih =>
    intro k i h1 hd hk
    obtain ⟨k, rfl⟩ : ∃ m, k = m + 1 := ⟨k - 1, by omega⟩
    have hlt : (2 : Int) ^ i < 1073741824 := by
      have := pow_lt (show i < 30 by omega)
      simpa using this
    have hpos := pow_pos2 i
    by_cases hc : (2 : Int) ^ i < c
    · obtain ⟨b, hb, hiff⟩ := ih k (i + 1) (by omega) (by omega) (by omega)
      refine ⟨b, ?_, ?_⟩
      · simp only [sakiaref02_Right.l0]
        rw [if_pos hc, if_pos hlt, show wrap64 (2 * 2 ^ i) = 2 ^ (i + 1) by rw [Int.pow_succ]; unfold wrap64; omega]
        exact hb
      · rw [hiff]
        constructor
        · rintro ⟨j, a, b, e⟩; exact ⟨j, by omega, b, e⟩
        · rintro ⟨j, a, b, e⟩
          refine ⟨j, ?_, b, e⟩
          by_cases hj : j = i
          · subst hj; omega
          · omega
    · refine ⟨(2 : Int) ^ i == c, ?_, ?_⟩
      · simp only [sakiaref02_Right.l0]
        rw [if_neg hc]
      · rw [beq_iff_eq]
        constructor
        · intro h; exact ⟨i, by omega, by omega, h.symm⟩
        · rintro ⟨j, a, b, e⟩
          have := pow_le a
          omega

/-- The reference's Right. -/
theorem right_ref (c : Int) : ∃ b : Bool, (∀ k, 30 ≤ k → sakiaref02_Right.f k c = some b) ∧ (b = true ↔ Cap c) := by
  obtain ⟨b, hb, hiff⟩ := right_loop c 29 30 1 (by omega) (by omega) (by omega)
  refine ⟨b, fun k hk => ?_, hiff⟩
  have : sakiaref02_Right.f 30 c = some b := by unfold sakiaref02_Right.f; simpa using hb
  exact at_rounds (sakiaref02_Right.mono c) hk this

theorem bits_and_nat (a b : Nat) (ha : a < 2 ^ 63) (hb : b < 2 ^ 63) : Go.bits .and .i64 (a : Int) (b : Int) = ((a &&& b : Nat) : Int) :=
  (Go.bits_nat .i64 63 (by decide) (fun n h0 h1 => by rw [IntKind.wrap_i64]; omega) a b ha hb).1

/-- The program's Right. -/
theorem right_lap (c : Int) : ∃ b : Bool, lap_Right.f c = some b ∧ (b = true ↔ Cap c) := by
  unfold lap_Right.f
  by_cases h1 : c ≥ 2
  · by_cases h2 : c ≤ 1073741824
    · refine ⟨_, by rw [if_pos h1, if_pos h2], ?_⟩
      obtain ⟨n, rfl⟩ := Int.eq_ofNat_of_zero_le (show 0 ≤ c by omega)
      rw [show wrap64 ((n : Int) - 1) = ((n - 1 : Nat) : Int) by unfold wrap64; omega]
      rw [bits_and_nat n (n - 1) (by omega) (by omega), beq_iff_eq]
      rw [show (((n &&& (n - 1) : Nat) : Int) = 0) ↔ (n &&& (n - 1)) = 0 by omega]
      rw [Nat.and_sub_one_eq_zero_iff_isPowerOfTwo (by omega)]
      constructor
      · rintro ⟨i, rfl⟩
        refine ⟨i, ?_, ?_, by push_cast; rfl⟩
        · rcases i with _ | i
          · simp at h1
          · omega
        · by_cases hi : i ≤ 30
          · exact hi
          · have := pow_le (show 31 ≤ i by omega)
            push_cast at h2
            simp at this
            omega
      · rintro ⟨i, a, b, e⟩
        exact ⟨i, by exact_mod_cast e⟩
    · refine ⟨false, by rw [if_pos h1, if_neg h2], ?_⟩
      constructor
      · intro h; cases h
      · intro h; have := cap_bounds h; omega
  · refine ⟨false, by rw [if_neg h1], ?_⟩
    constructor
    · intro h; cases h
    · intro h; have := cap_bounds h; omega

theorem right_yes {c : Int} (h : Cap c) : lap_Right.f c = some true := by
  obtain ⟨b, hb, hiff⟩ := right_lap c
  rw [hb, hiff.2 h]
theorem right_no {c : Int} (h : ¬ Cap c) : lap_Right.f c = some false := by
  obtain ⟨b, hb, hiff⟩ := right_lap c
  rw [hb]
  cases b
  · rfl
  · exact absurd (hiff.1 rfl) h

theorem log_loop (i : Nat) (hi : i ≤ 30) (d : Nat) : ∀ (k j : Nat), j + d = i → d < k → lap_Log.l0 k (2 ^ i) (j : Int) = some (i : Int) := by
  have hpos := pow_pos2 i
  have sh : ∀ j : Nat, j ≤ 30 → shl .i64 1 (j : Int) = 2 ^ j := by
    intro j hj
    have h0 := pow_pos2 j
    have h1 := pow_le hj
    simp only [shl, Int.toNat_natCast, Int.one_mul]
    rw [Nat.min_eq_left (by simp only [IntKind.bits]; omega), IntKind.wrap_i64]
    simp at h1
    omega
  induction d with
  | zero =>
    intro k j hd hk
    obtain ⟨k, rfl⟩ : ∃ m, k = m + 1 := ⟨k - 1, by omega⟩
    obtain rfl : j = i := by omega
    simp only [lap_Log.l0]
    rw [if_pos (by omega), if_pos (by omega), sh j hi, if_pos rfl]
  | succ d ih =>
    intro k j hd hk
    obtain ⟨k, rfl⟩ : ∃ m, k = m + 1 := ⟨k - 1, by omega⟩
    have hlt := pow_lt (show j < i by omega)
    simp only [lap_Log.l0]
    rw [if_pos (by omega), if_pos (by omega), sh j (by omega), if_neg (by omega), show wrap64 ((j : Int) + 1) = ((j + 1 : Nat) : Int) by unfold wrap64; omega]
    exact ih k (j + 1) (by omega) (by omega)

theorem log_yes (i : Nat) (h1 : 1 ≤ i) (hi : i ≤ 30) (k : Nat) (hk : 31 ≤ k) : lap_Log.f k (2 ^ i) = some (i : Int) := by
  unfold lap_Log.f
  rw [right_yes ⟨i, h1, hi, rfl⟩]
  simp only [Option.bind_some, if_true]
  exact log_loop i hi i k 0 (by omega) (by omega)

theorem slot32_yes {c : Int} (h : Cap c) (p : Int) (h0 : 0 ≤ p) (h1 : p < 4294967296) : lap_Slot_uint32.f c p = some (p % c) := by
  have hb := cap_bounds h
  unfold lap_Slot_uint32.f
  rw [right_yes h]
  simp only [Option.bind_some, if_true]
  obtain ⟨i, a, b, rfl⟩ := h
  rw [show wrap64 ((2 : Int) ^ i - 1) % 4294967296 = 2 ^ i - 1 by unfold wrap64; omega]
  rw [Go.bits_mask .u32 32 (by decide) (fun n x y => by rw [IntKind.wrap_u32]; omega) i (by omega) p h0 (by simpa using h1)]
  have e1 := Int.emod_nonneg p (show (2 : Int) ^ i ≠ 0 by omega)
  have e2 := Int.emod_lt_of_pos p (show (0 : Int) < 2 ^ i by omega)
  congr 1
  unfold wrap64
  omega

theorem wrap_u64 (n : Int) : IntKind.u64.wrap n = n % 18446744073709551616 := by simp [IntKind.wrap, IntKind.bits, IntKind.signed]

theorem slot64_yes {c : Int} (h : Cap c) (p : Int) (h0 : 0 ≤ p) (h1 : p < 18446744073709551616) : lap_Slot_uint64.f c p = some (p % c) := by
  have hb := cap_bounds h
  unfold lap_Slot_uint64.f
  rw [right_yes h]
  simp only [Option.bind_some, if_true]
  obtain ⟨i, a, b, rfl⟩ := h
  rw [show IntKind.u64.wrap (wrap64 ((2 : Int) ^ i - 1)) = 2 ^ i - 1 by rw [wrap_u64]; unfold wrap64; omega]
  rw [Go.bits_mask .u64 64 (by decide) (fun n x y => by rw [wrap_u64]; omega) i (by omega) p h0 (by simpa using h1)]
  have e1 := Int.emod_nonneg p (show (2 : Int) ^ i ≠ 0 by omega)
  have e2 := Int.emod_lt_of_pos p (show (0 : Int) < 2 ^ i by omega)
  congr 1
  unfold wrap64
  omega

theorem cap8 : Cap 8 := ⟨3, by decide, by decide, by decide⟩

theorem live_yes (k : Nat) (hk : 31 ≤ k) : sakialaw02_live.f k = some true := by
  unfold sakialaw02_live.f
  rw [slot32_yes cap8 _ (by decide) (by decide)]
  have hn : lap_Next_uint32.f 8 4294967293 = some 5 := by
    unfold lap_Next_uint32.f wide_Add_uint32.f
    rw [right_yes cap8]
    rfl
  have hl : lap_Log.f k 8 = some 3 := log_yes 3 (by decide) (by decide) k hk
  have hs : lap_Slot_uint64.f 8 9 = some 1 := slot64_yes cap8 9 (by decide) (by decide)
  simp [hn, hl, hs]

/-- The slots of n positions from x on. -/
def T (c x : Int) (n : Nat) : List Int := (List.range n).map fun (j : Nat) => (x + (j : Int)) % c

theorem T_len (c x : Int) (n : Nat) : (T c x n).length = n := by simp [T]
theorem T_succ (c x : Int) (n : Nat) : T c x n ++ [(x + (n : Int)) % c] = T c x (n + 1) := by simp [T, List.range_succ]
theorem T_rd (c x : Int) (n : Nat) (i : Int) (h0 : 0 ≤ i) (h1 : i < n) : rd (T c x n) i = (x + i) % c := by
  obtain ⟨j, rfl⟩ := Int.eq_ofNat_of_zero_le h0
  simp [rd, T, List.getD_eq_getElem?_getD, List.getElem?_range (show j < n by omega)]

theorem turns32_loop {c : Int} (h : Cap c) (x p : Int) (hp : p = x % 4294967296) (n : Nat) (hn : (n : Int) ≤ c) (d : Nat) : ∀ (k i : Nat), i + d = n → d < k →
    lap_Turns_uint32.l0 k c p (T c x i) n i = some (T c x n) := by
  have hb := cap_bounds h
  have hd := cap_dvd32 h
  induction d with
  | zero =>
    intro k i hi hk
    obtain ⟨k, rfl⟩ : ∃ m, k = m + 1 := ⟨k - 1, by omega⟩
    obtain rfl : i = n := by omega
    simp only [lap_Turns_uint32.l0]
    rw [if_neg (by omega)]
  | succ d ih =>
    intro k i hi hk
    obtain ⟨k, rfl⟩ : ∃ m, k = m + 1 := ⟨k - 1, by omega⟩
    simp only [lap_Turns_uint32.l0, wide_Add_uint32.f, Option.bind_some]
    have e : (p + (i : Int) % 4294967296) % 4294967296 % c = (x + i) % c := by
      rw [Int.emod_emod_of_dvd _ hd, show (i : Int) % 4294967296 = i by omega, hp, Int.add_emod, Int.emod_emod_of_dvd _ hd, ← Int.add_emod]
    rw [if_pos (by omega), slot32_yes h _ (by omega) (by omega)]
    simp only [Option.bind_some]
    rw [if_pos (by rw [T_len]; omega), e, T_succ, show wrap64 ((i : Int) + 1) = ((i + 1 : Nat) : Int) by unfold wrap64; omega]
    exact ih k (i + 1) (by omega) (by omega)

theorem turns64_loop {c : Int} (h : Cap c) (x : Int) (n : Nat) (hn : (n : Int) ≤ c) (d : Nat) : ∀ (k i : Nat), i + d = n → d < k →
    lap_Turns_uint64.l0 k c x (T c x i) n i = some (T c x n) := by
  have hb := cap_bounds h
  have hd := cap_dvd64 h
  induction d with
  | zero =>
    intro k i hi hk
    obtain ⟨k, rfl⟩ : ∃ m, k = m + 1 := ⟨k - 1, by omega⟩
    obtain rfl : i = n := by omega
    simp only [lap_Turns_uint64.l0]
    rw [if_neg (by omega)]
  | succ d ih =>
    intro k i hi hk
    obtain ⟨k, rfl⟩ : ∃ m, k = m + 1 := ⟨k - 1, by omega⟩
    simp only [lap_Turns_uint64.l0, wide_Add_uint64.f, Option.bind_some]
    have e : (x + (i : Int)) % 18446744073709551616 % c = (x + i) % c := by
      rw [Int.emod_emod_of_dvd _ hd]
    rw [if_pos (by omega), wrap_u64, wrap_u64, show (i : Int) % 18446744073709551616 = i by omega, slot64_yes h _ (by omega) (by omega)]
    simp only [Option.bind_some]
    rw [if_pos (by rw [T_len]; omega), e, T_succ, show wrap64 ((i : Int) + 1) = ((i + 1 : Nat) : Int) by unfold wrap64; omega]
    exact ih k (i + 1) (by omega) (by omega)

theorem turns32_yes {c : Int} (h : Cap c) (x : Int) (n : Nat) (hn : (n : Int) ≤ c) (k : Nat) (hk : n + 2 ≤ k) : lap_Turns_uint32.f k c (x % 4294967296) n = some (T c x n) := by
  obtain ⟨k, rfl⟩ : ∃ m, k = m + 1 := ⟨k - 1, by omega⟩
  unfold lap_Turns_uint32.f
  rw [right_yes h]
  simp only [Option.bind_some, if_true]
  rw [if_neg (by omega), decide_eq_false (by omega)]
  simp only [lap_Turns_uint32.j0]
  rw [if_neg (by decide)]
  exact turns32_loop h x _ rfl n hn n k 0 (by omega) (by omega)
theorem turns64_yes {c : Int} (h : Cap c) (x : Int) (n : Nat) (hn : (n : Int) ≤ c) (k : Nat) (hk : n + 2 ≤ k) : lap_Turns_uint64.f k c x n = some (T c x n) := by
  obtain ⟨k, rfl⟩ : ∃ m, k = m + 1 := ⟨k - 1, by omega⟩
  unfold lap_Turns_uint64.f
  rw [right_yes h]
  simp only [Option.bind_some, if_true]
  rw [if_neg (by omega), decide_eq_false (by omega)]
  simp only [lap_Turns_uint64.j0]
  rw [if_neg (by decide)]
  exact turns64_loop h x n hn n k 0 (by omega) (by omega)
theorem turns_no {c : Int} (h : Cap c) (x y : Int) (n : Int) (hn : n < 0 ∨ c < n) (k : Nat) (hk : 1 ≤ k) : lap_Turns_uint32.f k c x n = some [] ∧ lap_Turns_uint64.f k c y n = some [] := by
  obtain ⟨k, rfl⟩ : ∃ m, k = m + 1 := ⟨k - 1, by omega⟩
  unfold lap_Turns_uint32.f lap_Turns_uint64.f
  rw [right_yes h]
  simp only [Option.bind_some, if_true]
  by_cases h0 : n < 0
  · rw [if_pos h0, if_pos h0]
    simp [lap_Turns_uint32.j0, lap_Turns_uint64.j0]
  · rw [if_neg h0, if_neg h0, decide_eq_true (by omega)]
    simp [lap_Turns_uint32.j0, lap_Turns_uint64.j0]

theorem diff_slot {c x i j : Int} (hi : 0 ≤ j) (hij : j < i) (hc : i < c) : ¬ (x + j) % c = (x + i) % c := by
  intro h
  have h3 : (x + i - (x + j)) % c = 0 := by rw [Int.sub_emod, ← h]; simp
  rw [show x + i - (x + j) = i - j by omega, Int.emod_eq_of_lt (by omega) (by omega)] at h3
  omega

theorem loop1 {c : Int} (x : Int) (n : Nat) (hn : (n : Int) ≤ c) (i : Nat) (hi : i < n) (hm : n ≤ 256) (d : Nat) : ∀ (k j : Nat), j + d = i → d < k →
    ∃ k', k' + d + 1 = k ∧ sakialaw02_LapTurns.l1 k c n x (T c x n) (T c x n) i j = sakialaw02_LapTurns.l0 k' c n x (T c x n) (T c x n) (i + 1 : Nat) := by
  induction d with
  | zero =>
    intro k j hj hk
    obtain ⟨k, rfl⟩ : ∃ m, k = m + 1 := ⟨k - 1, by omega⟩
    refine ⟨k, by omega, ?_⟩
    simp only [sakialaw02_LapTurns.l1]
    rw [if_neg (by omega), show wrap64 ((i : Int) + 1) = ((i + 1 : Nat) : Int) by unfold wrap64; omega]
  | succ d ih =>
    intro k j hj hk
    obtain ⟨k, rfl⟩ : ∃ m, k = m + 1 := ⟨k - 1, by omega⟩
    obtain ⟨k', hk', he⟩ := ih k (j + 1) (by omega) (by omega)
    refine ⟨k', by omega, ?_⟩
    simp only [sakialaw02_LapTurns.l1]
    rw [T_rd c x n j (by omega) (by omega), T_rd c x n i (by omega) (by omega), T_len]
    have hne : ¬ (x + (j : Int)) % c = (x + (i : Int)) % c := diff_slot (by omega) (by omega) (by omega)
    rw [if_pos (by omega), if_pos (by omega), if_pos (by omega), if_pos (by omega), if_pos (by omega), if_neg hne, if_pos (by omega), if_pos (by omega), if_neg hne]
    rw [show wrap64 ((j : Int) + 1) = ((j + 1 : Nat) : Int) by unfold wrap64; omega]
    exact he

theorem refslot {c : Int} (h : Cap c) (p : Int) (h0 : 0 ≤ p) : sakiaref02_Slot.f c p = some (p % c) := by
  have hb := cap_bounds h
  unfold sakiaref02_Slot.f
  rw [wrap_u64, show c % 18446744073709551616 = c by omega, if_neg (by omega), Int.tmod_eq_emod_of_nonneg h0]
  have e1 := Int.emod_nonneg p (show c ≠ 0 by omega)
  have e2 := Int.emod_lt_of_pos p (show (0 : Int) < c by omega)
  congr 1
  unfold wrap64
  omega

theorem loop0 {c : Int} (h : Cap c) (x : Int) (n : Nat) (hn : (n : Int) ≤ c) (hm : n ≤ 256) (d : Nat) : ∀ (k i : Nat), i + d = n → d * 300 + 40 < k →
    sakialaw02_LapTurns.l0 k c n x (T c x n) (T c x n) i = some true := by
  have hb := cap_bounds h
  induction d with
  | zero =>
    intro k i hj hk
    obtain ⟨k, rfl⟩ : ∃ m, k = m + 1 := ⟨k - 1, by omega⟩
    simp only [sakialaw02_LapTurns.l0]
    rw [if_neg (by omega), live_yes k (by omega)]
    rfl
  | succ d ih =>
    intro k i hj hk
    obtain ⟨k, rfl⟩ : ∃ m, k = m + 1 := ⟨k - 1, by omega⟩
    have e1 : (x + (i : Int)) % 18446744073709551616 % 4294967296 % c = (x + i) % c := by
      rw [Int.emod_emod_of_dvd _ (cap_dvd32 h), Int.emod_emod_of_dvd _ (cap_dvd64 h)]
    have e2 : (x + (i : Int)) % 18446744073709551616 % c = (x + i) % c := by
      rw [Int.emod_emod_of_dvd _ (cap_dvd64 h)]
    have p1 : sakiaref01_Plus.f 32 x i = some ((x + (i : Int)) % 18446744073709551616 % 4294967296) := by
      unfold sakiaref01_Plus.f sakiaref01_Cut.f
      rw [wrap_u64, wrap_u64, show (i : Int) % 18446744073709551616 = i by omega, if_pos rfl, Int.tmod_eq_emod_of_nonneg (by omega)]
      rfl
    have p2 : sakiaref01_Plus.f 64 x i = some ((x + (i : Int)) % 18446744073709551616) := by
      unfold sakiaref01_Plus.f sakiaref01_Cut.f
      rw [wrap_u64, wrap_u64, show (i : Int) % 18446744073709551616 = i by omega, if_neg (by decide), if_pos rfl]
      rfl
    simp only [sakialaw02_LapTurns.l0]
    rw [T_rd c x n i (by omega) (by omega), T_len, p1, p2]
    simp only [Option.bind_some]
    rw [refslot h _ (by omega), refslot h _ (by omega)]
    simp only [Option.bind_some]
    rw [e1, e2, if_pos (by omega), if_pos (by omega), if_pos (by omega), if_pos rfl, if_pos (by omega)]
    obtain ⟨k, rfl⟩ : ∃ m, k = m + 1 := ⟨k - 1, by omega⟩
    simp only [sakialaw02_LapTurns.j4]
    rw [if_neg (by simp)]
    obtain ⟨k', hk', he⟩ := loop1 (c := c) x n hn i (by omega) hm i k 0 (by omega) (by omega)
    clear e1 e2 p1 p2
    have hk2 : d * 300 + 40 < k' := by
      clear ih he
      have h3 : (d + 1) * 300 = d * 300 + 300 := by omega
      rw [h3] at hk
      generalize d * 300 = D at hk
      omega
    exact he.trans (ih k' (i + 1) (by omega) hk2)

theorem LapTurns : sakialaw02_LapTurns.Pure := by
  intro c n x hc hn hx
  simp only [Lit.wf, decide_eq_true_eq, Bool.and_eq_true] at hc hn hx
  obtain ⟨K, hK⟩ : ∃ K : Nat, 90000 < K := ⟨90000 + 1, by omega⟩
  refine ⟨K + 10, ?_⟩
  obtain ⟨b, hb, hiff⟩ := right_ref c
  unfold sakialaw02_LapTurns.f
  rw [hb (K + 10) (by omega)]
  simp only [Option.bind_some]
  cases b with
  | false => simp [sakialaw02_LapTurns.j0, live_yes (K + 9) (by omega)]
  | true =>
    have h := hiff.1 rfl
    have hbd := cap_bounds h
    rw [if_pos rfl]
    by_cases h256 : c > 256
    · simp [sakialaw02_LapTurns.j0, live_yes (K + 9) (by omega), h256]
    · simp only [sakialaw02_LapTurns.j0, wide_Of_uint32.f, Option.bind_some]
      rw [decide_eq_false h256, if_neg (by decide)]
      by_cases hr : n < 0 ∨ c < n
      · obtain ⟨e1, e2⟩ := turns_no h (x % 4294967296) x n hr (K + 9) (by omega)
        rw [e1, e2]
        simp only [Option.bind_some]
        by_cases h0 : n < 0
        · rw [if_pos h0]
          simp [sakialaw02_LapTurns.j1, live_yes (K + 8) (by omega)]
        · rw [if_neg h0, decide_eq_true (by omega)]
          simp [sakialaw02_LapTurns.j1, live_yes (K + 8) (by omega)]
      · obtain ⟨m, rfl⟩ := Int.eq_ofNat_of_zero_le (show 0 ≤ n by omega)
        rw [turns32_yes h x m (by omega) (K + 9) (by omega), turns64_yes h x m (by omega) (K + 9) (by omega)]
        simp only [Option.bind_some]
        rw [if_neg (by omega), decide_eq_false (by omega)]
        simp only [sakialaw02_LapTurns.j1]
        rw [if_neg (by decide), T_len, if_pos rfl]
        simp only [sakialaw02_LapTurns.j2]
        rw [if_neg (by simp)]
        exact loop0 h x m (by omega) (by omega) m (K + 7) 0 (by omega) (by omega)

end Go.Proofs.Ytkkmpkgmkokjnaa.Pure
