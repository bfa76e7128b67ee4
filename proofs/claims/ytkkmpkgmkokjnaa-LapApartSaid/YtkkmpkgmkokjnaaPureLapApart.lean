/- It is proved that the law LapApart of sakialaw02 answers true for every input: any number of positions fewer than a capacity apart share no slot; a position and the next one of its slot share it and have unlike rounds. Conditions: none. -/
import Derived.Test.YtkkmpkgmkokjnaaPLapApartx2
namespace Go.Proofs.Ytkkmpkgmkokjnaa.Pure
open Go Go.RowKit Go.Proofs.Ytkkmpkgmkokjnaa.PLapApart Go.Proofs.YtkkmpkgmkokjnaaW.PrintWords Go.Proofs.YtkkmpkgmkokjnaaW.PrintLast Go.Proofs.YtkkmpkgmkokjnaaW.PrintMore

/-- A capacity that may be. -/
def Cap (c : Int) : Prop := ∃ i : Nat, 1 ≤ i ∧ i ≤ 30 ∧ c = 2 ^ i

theorem pow_le {i j : Nat} (h : i ≤ j) : (2 : Int) ^ i ≤ 2 ^ j := by
  have := Nat.pow_le_pow_right (n := 2) (by decide) h
  exact_mod_cast this
theorem pow_lt {i j : Nat} (h : i < j) : (2 : Int) ^ i < 2 ^ j := by
  have := Nat.pow_lt_pow_right (a := 2) (by decide) h
  exact_mod_cast this
theorem pow_pos2 (i : Nat) : (0 : Int) < 2 ^ i := by
  have := Nat.two_pow_pos i
  exact_mod_cast this
theorem cap_bounds {c : Int} (h : Cap c) : 2 ≤ c ∧ c ≤ 1073741824 := by
  obtain ⟨i, h1, h2, rfl⟩ := h
  have a := pow_le h1
  have b := pow_le h2
  exact ⟨by simpa using a, by simpa using b⟩
theorem cap_dvd32 {c : Int} (h : Cap c) : c ∣ 4294967296 := by
  obtain ⟨i, h1, h2, rfl⟩ := h
  refine ⟨2 ^ (32 - i), ?_⟩
  rw [← Int.pow_add, show i + (32 - i) = 32 by omega]
  rfl
theorem cap_dvd64 {c : Int} (h : Cap c) : c ∣ 18446744073709551616 := by
  obtain ⟨i, h1, h2, rfl⟩ := h
  refine ⟨2 ^ (64 - i), ?_⟩
  rw [← Int.pow_add, show i + (64 - i) = 64 by omega]
  rfl

theorem right_loop (c : Int) (d : Nat) : ∀ (k i : Nat), 1 ≤ i → i + d = 30 → d < k →
    ∃ b : Bool, sakiaref02_Right.l0 k c (2 ^ i) = some b ∧ (b = true ↔ ∃ j : Nat, i ≤ j ∧ j ≤ 30 ∧ c = 2 ^ j) := by
  induction d with
  | zero =>
    intro k i h1 hd hk
    obtain ⟨k, rfl⟩ : ∃ m, k = m + 1 := ⟨k - 1, by omega⟩
    obtain rfl : i = 30 := by omega
    refine ⟨(2 : Int) ^ 30 == c, ?_, ?_⟩
    · simp only [sakiaref02_Right.l0]
      rw [if_neg (show ¬ (2 : Int) ^ 30 < 1073741824 by decide)]
      split <;> rfl
    · rw [beq_iff_eq]
      constructor
      · intro h; exact ⟨30, by omega, by omega, h.symm⟩
      · rintro ⟨j, a, b, rfl⟩
        obtain rfl : j = 30 := by omega
        rfl
  | succ d ih =>
    intro k i h1 hd hk
    obtain ⟨k, rfl⟩ : ∃ m, k = m + 1 := ⟨k - 1, by omega⟩
    have hlt : (2 : Int) ^ i < 1073741824 := by
      have := pow_lt (show i < 30 by omega)
      simpa using this
    have hpos := pow_pos2 i
    by_cases hc : (2 : Int) ^ i < c
    · obtain ⟨b, hb, hiff⟩ := ih k (i + 1) (by omega) (by omega) (by omega)
      refine ⟨b, ?_, ?_⟩
      · simp only [sakiaref02_Right.l0]
        rw [if_pos hc, if_pos hlt, show wrap64 (2 * 2 ^ i) = 2 ^ (i + 1) by rw [Int.pow_succ]; unfold wrap64; omega]
        exact hb
      · rw [hiff]
        constructor
        · rintro ⟨j, a, b, e⟩; exact ⟨j, by omega, b, e⟩
        · rintro ⟨j, a, b, e⟩
          refine ⟨j, ?_, b, e⟩
          by_cases hj : j = i
          · subst hj; omega
          · omega
    · refine ⟨(2 : Int) ^ i == c, ?_, ?_⟩
      · simp only [sakiaref02_Right.l0]
        rw [if_neg hc]
      · rw [beq_iff_eq]
        constructor
        · intro h; exact ⟨i, by omega, by omega, h.symm⟩
        · rintro ⟨j, a, b, e⟩
          have := pow_le a
          omega

/-- The reference's Right. -/
theorem right_ref (c : Int) : ∃ b : Bool, (∀ k, 30 ≤ k → sakiaref02_Right.f k c = some b) ∧ (b = true ↔ Cap c) := by
  obtain ⟨b, hb, hiff⟩ := right_loop c 29 30 1 (by omega) (by omega) (by omega)
  refine ⟨b, fun k hk => ?_, hiff⟩
  have : sakiaref02_Right.f 30 c = some b := by unfold sakiaref02_Right.f; simpa using hb
  exact at_rounds (sakiaref02_Right.mono c) hk this

theorem bits_and_nat (a b : Nat) (ha : a < 2 ^ 63) (hb : b < 2 ^ 63) : Go.bits .and .i64 (a : Int) (b : Int) = ((a &&& b : Nat) : Int) :=
  (Go.bits_nat .i64 63 (by decide) (fun n h0 h1 => by rw [IntKind.wrap_i64]; omega) a b ha hb).1

/-- The program's Right. -/
theorem right_lap (c : Int) : ∃ b : Bool, lap_Right.f c = some b ∧ (b = true ↔ Cap c) := by
  unfold lap_Right.f
  by_cases h1 : c ≥ 2
  · by_cases h2 : c ≤ 1073741824
    · refine ⟨_, by rw [if_pos h1, if_pos h2], ?_⟩
      obtain ⟨n, rfl⟩ := Int.eq_ofNat_of_zero_le (show 0 ≤ c by omega)
      rw [show wrap64 ((n : Int) - 1) = ((n - 1 : Nat) : Int) by unfold wrap64; omega]
      rw [bits_and_nat n (n - 1) (by omega) (by omega), beq_iff_eq]
      rw [show (((n &&& (n - 1) : Nat) : Int) = 0) ↔ (n &&& (n - 1)) = 0 by omega]
      rw [Nat.and_sub_one_eq_zero_iff_isPowerOfTwo (by omega)]
      constructor
      · rintro ⟨i, rfl⟩
        refine ⟨i, ?_, ?_, by push_cast; rfl⟩
        · rcases i with _ | i
          · simp at h1
          · omega
        · by_cases hi : i ≤ 30
          · exact hi
          · have := pow_le (show 31 ≤ i by omega)
            push_cast at h2
            simp at this
            omega
      · rintro ⟨i, a, b, e⟩
        exact ⟨i, by exact_mod_cast e⟩
    · refine ⟨false, by rw [if_pos h1, if_neg h2], ?_⟩
      constructor
      · intro h; cases h
      · intro h; have := cap_bounds h; omega
  · refine ⟨false, by rw [if_neg h1], ?_⟩
    constructor
    · intro h; cases h
    · intro h; have := cap_bounds h; omega

theorem right_yes {c : Int} (h : Cap c) : lap_Right.f c = some true := by
  obtain ⟨b, hb, hiff⟩ := right_lap c
  rw [hb, hiff.2 h]
theorem right_no {c : Int} (h : ¬ Cap c) : lap_Right.f c = some false := by
  obtain ⟨b, hb, hiff⟩ := right_lap c
  rw [hb]
  cases b
  · rfl
  · exact absurd (hiff.1 rfl) h

theorem log_loop (i : Nat) (hi : i ≤ 30) (d : Nat) : ∀ (k j : Nat), j + d = i → d < k → lap_Log.l0 k (2 ^ i) (j : Int) = some (i : Int) := by
  have hpos := pow_pos2 i
  have sh : ∀ j : Nat, j ≤ 30 → shl .i64 1 (j : Int) = 2 ^ j := by
    intro j hj
    have h0 := pow_pos2 j
    have h1 := pow_le hj
    simp only [shl, Int.toNat_natCast, Int.one_mul]
    rw [Nat.min_eq_left (by simp only [IntKind.bits]; omega), IntKind.wrap_i64]
    simp at h1
    omega
  induction d with
  | zero =>
    intro k j hd hk
    obtain ⟨k, rfl⟩ : ∃ m, k = m + 1 := ⟨k - 1, by omega⟩
    obtain rfl : j = i := by omega
    simp only [lap_Log.l0]
    rw [if_pos (by omega), if_pos (by omega), sh j hi, if_pos rfl]
  | succ d ih =>
    intro k j hd hk
    obtain ⟨k, rfl⟩ : ∃ m, k = m + 1 := ⟨k - 1, by omega⟩
    have hlt := pow_lt (show j < i by omega)
    simp only [lap_Log.l0]
    rw [if_pos (by omega), if_pos (by omega), sh j (by omega), if_neg (by omega), show wrap64 ((j : Int) + 1) = ((j + 1 : Nat) : Int) by unfold wrap64; omega]
    exact ih k (j + 1) (by omega) (by omega)

theorem log_yes (i : Nat) (h1 : 1 ≤ i) (hi : i ≤ 30) (k : Nat) (hk : 31 ≤ k) : lap_Log.f k (2 ^ i) = some (i : Int) := by
  unfold lap_Log.f
  rw [right_yes ⟨i, h1, hi, rfl⟩]
  simp only [Option.bind_some, if_true]
  exact log_loop i hi i k 0 (by omega) (by omega)

theorem slot32_yes {c : Int} (h : Cap c) (p : Int) (h0 : 0 ≤ p) (h1 : p < 4294967296) : lap_Slot_uint32.f c p = some (p % c) := by
  have hb := cap_bounds h
  unfold lap_Slot_uint32.f
  rw [right_yes h]
  simp only [Option.bind_some, if_true]
  obtain ⟨i, a, b, rfl⟩ := h
  rw [show wrap64 ((2 : Int) ^ i - 1) % 4294967296 = 2 ^ i - 1 by unfold wrap64; omega]
  rw [Go.bits_mask .u32 32 (by decide) (fun n x y => by rw [IntKind.wrap_u32]; omega) i (by omega) p h0 (by simpa using h1)]
  have e1 := Int.emod_nonneg p (show (2 : Int) ^ i ≠ 0 by omega)
  have e2 := Int.emod_lt_of_pos p (show (0 : Int) < 2 ^ i by omega)
  congr 1
  unfold wrap64
  omega

theorem wrap_u64 (n : Int) : IntKind.u64.wrap n = n % 18446744073709551616 := by simp [IntKind.wrap, IntKind.bits, IntKind.signed]

theorem slot64_yes {c : Int} (h : Cap c) (p : Int) (h0 : 0 ≤ p) (h1 : p < 18446744073709551616) : lap_Slot_uint64.f c p = some (p % c) := by
  have hb := cap_bounds h
  unfold lap_Slot_uint64.f
  rw [right_yes h]
  simp only [Option.bind_some, if_true]
  obtain ⟨i, a, b, rfl⟩ := h
  rw [show IntKind.u64.wrap (wrap64 ((2 : Int) ^ i - 1)) = 2 ^ i - 1 by rw [wrap_u64]; unfold wrap64; omega]
  rw [Go.bits_mask .u64 64 (by decide) (fun n x y => by rw [wrap_u64]; omega) i (by omega) p h0 (by simpa using h1)]
  have e1 := Int.emod_nonneg p (show (2 : Int) ^ i ≠ 0 by omega)
  have e2 := Int.emod_lt_of_pos p (show (0 : Int) < 2 ^ i by omega)
  congr 1
  unfold wrap64
  omega

theorem cap8 : Cap 8 := ⟨3, by decide, by decide, by decide⟩

theorem live_yes (k : Nat) (hk : 31 ≤ k) : sakialaw02_live.f k = some true := by
  unfold sakialaw02_live.f
  rw [slot32_yes cap8 _ (by decide) (by decide)]
  have hn : lap_Next_uint32.f 8 4294967293 = some 5 := by
    unfold lap_Next_uint32.f wide_Add_uint32.f
    rw [right_yes cap8]
    rfl
  have hl : lap_Log.f k 8 = some 3 := log_yes 3 (by decide) (by decide) k hk
  have hs : lap_Slot_uint64.f 8 9 = some 1 := slot64_yes cap8 9 (by decide) (by decide)
  simp [hn, hl, hs]

theorem one_yes {c : Int} (h : Cap c) : lap_one.f c = some 1 := by
  unfold lap_one.f
  rw [right_yes h]
  rfl

theorem round32_yes {c : Int} (h : Cap c) (p : Int) (h0 : 0 ≤ p) (h1 : p < 4294967296) (k : Nat) (hk : 31 ≤ k) : lap_Round_uint32.f k c p = some (p / c) := by
  have hb := cap_bounds h
  have ho := one_yes h
  obtain ⟨i, a, b, rfl⟩ := h
  unfold lap_Round_uint32.f
  rw [log_yes i a b k hk]
  simp only [Option.bind_some]
  rw [if_pos (by omega), ho]
  simp only [Option.bind_some]
  have e : shr .u32 p (i : Int) = p / 2 ^ i := by
    simp only [shr, Int.toNat_natCast]
    rw [Nat.min_eq_left (by simp only [IntKind.bits]; omega)]
  rw [e]
  have e1 := Int.ediv_nonneg h0 (show (0 : Int) ≤ 2 ^ i by omega)
  have e2 : p / 2 ^ i ≤ p := Int.ediv_le_self _ h0
  congr 1
  omega

theorem round64_yes {c : Int} (h : Cap c) (p : Int) (h0 : 0 ≤ p) (h1 : p < 18446744073709551616) (k : Nat) (hk : 31 ≤ k) : lap_Round_uint64.f k c p = some (p / c) := by
  have hb := cap_bounds h
  have ho := one_yes h
  obtain ⟨i, a, b, rfl⟩ := h
  unfold lap_Round_uint64.f
  rw [log_yes i a b k hk]
  simp only [Option.bind_some]
  rw [if_pos (by omega), ho]
  simp only [Option.bind_some]
  have e : shr .u64 p (i : Int) = p / 2 ^ i := by
    simp only [shr, Int.toNat_natCast]
    rw [Nat.min_eq_left (by simp only [IntKind.bits]; omega)]
  rw [e]
  have e1 := Int.ediv_nonneg h0 (show (0 : Int) ≤ 2 ^ i by omega)
  have e2 : p / 2 ^ i ≤ p := Int.ediv_le_self _ h0
  congr 1
  rw [wrap_u64, wrap_u64]
  omega

theorem next32_yes {c : Int} (h : Cap c) (p : Int) : lap_Next_uint32.f c p = some ((p + c) % 4294967296) := by
  have hb := cap_bounds h
  unfold lap_Next_uint32.f wide_Add_uint32.f
  rw [right_yes h]
  simp only [Option.bind_some, if_true]
  congr 1
  omega
theorem next64_yes {c : Int} (h : Cap c) (p : Int) : lap_Next_uint64.f c p = some ((p + c) % 18446744073709551616) := by
  have hb := cap_bounds h
  unfold lap_Next_uint64.f wide_Add_uint64.f
  rw [right_yes h]
  simp only [Option.bind_some, if_true]
  congr 1
  rw [wrap_u64, wrap_u64]
  omega

/-- Behind the modulus that a capacity divides: slots of sums. -/
theorem slot_sum {c M : Int} (hd : c ∣ M) (p f : Int) : ((p + f) % M) % c = (p + f) % c := Int.emod_emod_of_dvd _ hd

theorem same_slot {c : Int} (p f : Int) (h0 : 0 ≤ f) (h1 : f < c) : p % c = (p + f) % c ↔ f = 0 := by
  constructor
  · intro h
    have h2 := Int.emod_emod_of_dvd (p + f) (Int.dvd_refl c)
    have h3 : (p + f - p) % c = 0 := by rw [Int.sub_emod, ← h]; simp
    rw [show p + f - p = f by omega, Int.emod_eq_of_lt h0 h1] at h3
    exact h3
  · rintro rfl
    simp

theorem apart_beq {c M : Int} (hd : c ∣ M) (p f : Int) (h0 : 0 ≤ f) (h1 : f < c) : ((p % c == ((p + f) % M) % c) != (f == 0)) = false := by
  rw [slot_sum hd]
  have := same_slot p f h0 h1
  by_cases hf : f = 0
  · subst hf; simp
  · have h2 : ¬ p % c = (p + f) % c := fun h => hf (this.1 h)
    rw [beq_eq_false_iff_ne.2 hf, beq_eq_false_iff_ne.2 h2]
    rfl

theorem next_slot {c M : Int} (hd : c ∣ M) (p : Int) : ((p + c) % M) % c = p % c := by
  rw [slot_sum hd]
  simp

theorem next_round {c M : Int} (hc : 2 ≤ c) (hM : c < M) (hd : c ∣ M) (p : Int) (h0 : 0 ≤ p) (h1 : p < M) : ¬ ((p + c) % M) / c = p / c := by
  intro h
  have e1 := Int.emod_add_mul_ediv ((p + c) % M) c
  have e2 := Int.emod_add_mul_ediv p c
  rw [next_slot hd, h, e2] at e1
  by_cases hlt : p + c < M
  · rw [Int.emod_eq_of_lt (by omega) hlt] at e1
    omega
  · have : (p + c) % M = p + c - M := by
      rw [← Int.sub_emod_right, Int.emod_eq_of_lt (by omega) (by omega)]
    omega

theorem LapApart : sakialaw02_LapApart.Pure := by
  intro c x n hc hx hn
  simp only [Lit.wf, decide_eq_true_eq, Bool.and_eq_true] at hc hx hn
  refine ⟨40, ?_⟩
  obtain ⟨b, hb, hiff⟩ := right_ref c
  unfold sakialaw02_LapApart.f
  rw [hb 40 (by omega)]
  simp only [Option.bind_some]
  cases b with
  | false => simp [live_yes]
  | true =>
    have h := hiff.1 rfl
    have hbd := cap_bounds h
    simp only [IntKind.min, IntKind.max, IntKind.signed, IntKind.bits] at hx hn
    obtain ⟨hx0, hx1⟩ := hx
    obtain ⟨hn0, hn1⟩ := hn
    simp at hx0 hx1 hn0 hn1
    have hw : wrap64 n = n := by unfold wrap64; omega
    have hf0 := Int.emod_nonneg n (show c ≠ 0 by omega)
    have hf1 := Int.emod_lt_of_pos n (show 0 < c by omega)
    rw [if_pos rfl, hw, Int.tmod_eq_emod_of_nonneg hn0]
    generalize n % c = f at hf0 hf1
    unfold wide_Of_uint32.f wide_Add_uint32.f wide_Add_uint64.f
    simp only [Option.bind_some]
    rw [if_neg (by omega)]
    have hp0 : 0 ≤ x % 4294967296 := by omega
    have hp1 : x % 4294967296 < 4294967296 := by omega
    generalize hp : x % 4294967296 = p at hp0 hp1
    rw [show f % 4294967296 = f by omega, wrap_u64, wrap_u64, show f % 18446744073709551616 = f by omega]
    rw [slot32_yes h p hp0 hp1, slot32_yes h _ (by omega) (by omega), slot64_yes h x (by omega) (by omega), slot64_yes h _ (by omega) (by omega)]
    simp only [Option.bind_some]
    rw [apart_beq (cap_dvd32 h) p f hf0 hf1, apart_beq (cap_dvd64 h) x f hf0 hf1]
    rw [if_neg (by decide)]
    simp only [sakialaw02_LapApart.j0]
    rw [if_neg (by decide), next32_yes h p, next64_yes h x]
    simp only [Option.bind_some]
    rw [slot32_yes h _ (by omega) (by omega), slot32_yes h p hp0 hp1, slot64_yes h _ (by omega) (by omega), slot64_yes h x (by omega) (by omega)]
    rw [round32_yes h _ (by omega) (by omega) 39 (by omega), round32_yes h p hp0 hp1 39 (by omega), round64_yes h _ (by omega) (by omega) 39 (by omega), round64_yes h x (by omega) (by omega) 39 (by omega)]
    simp only [Option.bind_some]
    rw [if_pos (next_slot (cap_dvd32 h) p), if_neg (next_round hbd.1 (by omega) (cap_dvd32 h) p hp0 hp1), if_pos (next_slot (cap_dvd64 h) x), if_neg (next_round hbd.1 (by omega) (cap_dvd64 h) x hx0 (by omega)), live_yes 39 (by omega)]
    rfl

end Go.Proofs.Ytkkmpkgmkokjnaa.Pure
