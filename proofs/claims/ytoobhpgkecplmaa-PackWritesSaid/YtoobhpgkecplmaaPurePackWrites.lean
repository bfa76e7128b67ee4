/- It is proved that the law PackWrites of sakialaw38 answers true for every input. Conditions: none. -/
import Derived.Test.YtoobhpgkecplmaaQPackWritesx8
import Derived.Laws.BitsAllLaws
namespace Go.Proofs.Ytoobhpgkecplmaa.Pure
open Go Go.RowKit Go.Proofs.Ytoobhpgkecplmaa.QPackWrites Go.Proofs.YtoobhpgkecplmaaW.PrintWords Go.Proofs.YtoobhpgkecplmaaW.PrintLast Go.Proofs.YtoobhpgkecplmaaW.PrintMore
set_option linter.unusedVariables false
set_option linter.unusedSimpArgs false
theorem nums_nil0 : nums ([] : List Int) = [] := rfl
theorem val_w (x : Int) (h0 : 0 ≤ x) (h : x < 18446744073709551616) : IntKind.u64.wrap x = x := by rw [IntKind.wrap_u64]; omega
theorem refput_loop (x : Nat) : ∀ (k : Nat) (acc : List Int), x < 18446744073709551616 → (enc x).length ≤ k → acc.length + (enc x).length ≤ 140737488355328 → sakiaref07_Put.l0 k x acc = some (acc ++ enc x) := by
  induction x using enc_ind with
  | h0 x h =>
    intro k acc hx hk hl
    have hp := enc_pos x
    obtain ⟨k, rfl⟩ : ∃ m, k = m + 1 := ⟨k - 1, by omega⟩
    simp only [sakiaref07_Put.l0]
    rw [if_neg (by omega), if_pos (by omega), enc_small h, show (x : Int) % 256 = x by omega]
  | h1 x h ih =>
    intro k acc hx hk hl
    have hp := enc_pos x
    obtain ⟨k, rfl⟩ : ∃ m, k = m + 1 := ⟨k - 1, by omega⟩
    rw [enc_big h] at hk hl
    simp only [List.length_cons] at hk hl
    simp only [sakiaref07_Put.l0]
    rw [if_pos (by omega), if_pos (by omega), Int.tdiv_eq_ediv_of_nonneg (by omega), Int.tmod_eq_emod_of_nonneg (by omega), w_u64, w_u64]
    rw [show (x : Int) / 128 % 18446744073709551616 = ((x / 128 : Nat) : Int) by omega, show (128 + (x : Int) % 128) % 18446744073709551616 % 256 = ((128 + x % 128 : Nat) : Int) by omega]
    rw [ih k _ (by omega) (by omega) (by simp; omega), enc_big h]
    simp
theorem refput_yes (x : Nat) (hx : x < 18446744073709551616) (k : Nat) (hk : 10 ≤ k) : sakiaref07_Put.f k x = some (enc x) := by
  have hl := enc_len10 hx
  unfold sakiaref07_Put.f
  exact refput_loop x k [] hx (by omega) (by simp; omega)
theorem refzig_yes (n : Int) (h0 : -9223372036854775808 ≤ n) (h1 : n ≤ 9223372036854775807) : sakiaref07_Zig.f n = some (zigI n : Int) := by
  unfold sakiaref07_Zig.f
  exact zig_ref h0 h1
theorem refnums_loop (l : List Int) (hn : l.length ≤ 5000) (hl : ints l) (d : Nat) : ∀ (k i : Nat) (acc : List Int), i + d = l.length → d + 10 < k → acc.length + 10 * d ≤ 1000000000 →
    sakiaref38_nums.l0 k l acc i = some (acc ++ nums (l.drop i)) := by
  induction d with
  | zero =>
    intro k i acc hi hk ha
    obtain ⟨k, rfl⟩ : ∃ m, k = m + 1 := ⟨k - 1, by omega⟩
    simp only [sakiaref38_nums.l0]
    rw [if_neg (by omega), List.drop_of_length_le (by omega)]
    simp [nums_nil0]
  | succ d ih =>
    intro k i acc hi hk ha
    obtain ⟨k, rfl⟩ : ∃ m, k = m + 1 := ⟨k - 1, by omega⟩
    have hr := hl _ (rd_mem l i (by omega))
    have b := enc_len10 (zig_lt hr.1 hr.2)
    simp only [sakiaref38_nums.l0]
    rw [if_pos (by omega), if_pos (by omega), refzig_yes _ hr.1 hr.2, Option.bind_some, refput_yes _ (zig_lt hr.1 hr.2) k (by omega), Option.bind_some, if_pos (by omega), rd_drop l i (by omega)]
    have hi64 : i < 9223372036854775807 := by omega
    rw [wrap_succ i hi64, ih k (i + 1) _ (by omega) (by omega) (by simp; omega)]
    simp [nums_cons]
theorem refnums_yes (l : List Int) (hn : l.length ≤ 5000) (hl : ints l) (k : Nat) (hk : l.length + 10 < k) : sakiaref38_nums.f k l = some (nums l) := by
  unfold sakiaref38_nums.f
  exact refnums_loop l hn hl l.length k 0 [] (by omega) (by omega) (by simp; omega)
theorem reflist_loop (l : List Int) (hn : l.length ≤ 5000) (hl : ints l) (d : Nat) : ∀ (k i : Nat) (acc : List Int), i + d = l.length → d + 10 < k → acc.length + 10 * d ≤ 1000000000 →
    sakiaref07_List.l0 k l acc i = some (acc ++ nums (l.drop i)) := by
  induction d with
  | zero =>
    intro k i acc hi hk ha
    obtain ⟨k, rfl⟩ : ∃ m, k = m + 1 := ⟨k - 1, by omega⟩
    simp only [sakiaref07_List.l0]
    rw [if_neg (by omega), List.drop_of_length_le (by omega)]
    simp [nums_nil0]
  | succ d ih =>
    intro k i acc hi hk ha
    obtain ⟨k, rfl⟩ : ∃ m, k = m + 1 := ⟨k - 1, by omega⟩
    have hr := hl _ (rd_mem l i (by omega))
    have b := enc_len10 (zig_lt hr.1 hr.2)
    simp only [sakiaref07_List.l0]
    rw [if_pos (by omega), if_pos (by omega), refzig_yes _ hr.1 hr.2, Option.bind_some, refput_yes _ (zig_lt hr.1 hr.2) k (by omega), Option.bind_some, if_pos (by omega), rd_drop l i (by omega)]
    have hi64 : i < 9223372036854775807 := by omega
    rw [wrap_succ i hi64, ih k (i + 1) _ (by omega) (by omega) (by simp; omega)]
    simp [nums_cons]
theorem reflist_yes (l : List Int) (hn : l.length ≤ 5000) (hl : ints l) (k : Nat) (hk : l.length + 10 < k) : sakiaref07_List.f k l = some (lst l) := by
  unfold sakiaref07_List.f lst
  rw [val_w _ (by omega) (by omega), refput_yes l.length (by omega) k (by omega), Option.bind_some]
  have b1 := enc_len10 (show l.length < 18446744073709551616 by omega)
  exact reflist_loop l hn hl l.length k 0 _ (by omega) (by omega) (by omega)
theorem drop_T54 (l : List S54) (i : Nat) (h : i < l.length) : l.drop i = rd_T54 l (i : Int) :: l.drop (i + 1) := by
  rw [List.drop_eq_getElem_cons h]
  simp [rd_T54, List.getD_eq_getElem?_getD, h]
theorem drop_T56 (l : List S56) (i : Nat) (h : i < l.length) : l.drop i = rd_T56 l (i : Int) :: l.drop (i + 1) := by
  rw [List.drop_eq_getElem_cons h]
  simp [rd_T56, List.getD_eq_getElem?_getD, h]
theorem drop_L1 (l : List (List Int)) (i : Nat) (h : i < l.length) : l.drop i = rd_L1 l (i : Int) :: l.drop (i + 1) := by
  rw [List.drop_eq_getElem_cons h]
  simp [rd_L1, List.getD_eq_getElem?_getD, h]
theorem mem_T54 (l : List S54) (i : Nat) (h : i < l.length) : rd_T54 l (i : Int) ∈ l := by
  have := drop_T54 l i h
  exact List.mem_of_mem_drop (by rw [this]; exact List.mem_cons_self ..)
theorem mem_T56 (l : List S56) (i : Nat) (h : i < l.length) : rd_T56 l (i : Int) ∈ l := by
  have := drop_T56 l i h
  exact List.mem_of_mem_drop (by rw [this]; exact List.mem_cons_self ..)
theorem mem_L1 (l : List (List Int)) (i : Nat) (h : i < l.length) : rd_L1 l (i : Int) ∈ l := by
  have := drop_L1 l i h
  exact List.mem_of_mem_drop (by rw [this]; exact List.mem_cons_self ..)
theorem refacts_loop (l : List S54) (hl : ∀ a ∈ l, okA a = true) (hn : l.length ≤ 1000) (d : Nat) : ∀ (k i : Nat) (acc : List Int), i + d = l.length → d + 1100 < k → acc.length + 10100 * d ≤ 100000000 →
    sakiaref38_Script.l1 k l acc i = if actLong (l.drop i) = true then some ([], 21) else some (acc ++ acts (l.drop i), 0) := by
  induction d with
  | zero =>
    intro k i acc hi hk ha
    obtain ⟨k, rfl⟩ : ∃ m, k = m + 1 := ⟨k - 1, by omega⟩
    simp only [sakiaref38_Script.l1]
    rw [if_neg (by omega), List.drop_of_length_le (by omega)]
    simp [actLong, acts]
  | succ d ih =>
    intro k i acc hi hk ha
    obtain ⟨k, rfl⟩ : ∃ m, k = m + 1 := ⟨k - 1, by omega⟩
    have hok := hl _ (mem_T54 l i (by omega))
    simp only [sakiaref38_Script.l1]
    rw [if_pos (by omega), if_pos (by omega), drop_T54 l i (by omega)]
    have hb := actB_len hok
    obtain ⟨o1, o2, o3⟩ := okA_parts hok
    generalize rd_T54 l (i : Int) = a at *
    have hac : actLong (a :: l.drop (i + 1)) = (decide ((a.f1.f2.length : Int) > 256) || actLong (l.drop (i + 1))) := by simp [actLong]
    have hab : acts (a :: l.drop (i + 1)) = actB a ++ acts (l.drop (i + 1)) := by simp [acts]
    rw [hac, hab]
    by_cases hg : (a.f1.f2.length : Int) > 256
    · rw [if_pos hg]; simp [hg]
    · have e1 : (nums [a.f0, a.f1.f0, a.f1.f1] ++ lst a.f1.f2) = actB a := rfl
      have hlen : (nums [a.f0, a.f1.f0, a.f1.f1]).length + (lst a.f1.f2).length ≤ 10100 := by rw [← List.length_append, e1]; exact hb
      rw [if_neg hg, refnums_yes _ (by simp) o1 k (by simp; omega), Option.bind_some, if_pos (by omega), Option.bind_some, reflist_yes _ (by omega) o3 k (by omega), Option.bind_some, if_pos (by simp only [List.length_append]; omega)]
      have hi64 : i < 9223372036854775807 := by omega
      rw [wrap_succ i hi64, ih k (i + 1) _ (by omega) (by omega) (by simp only [List.length_append]; omega), List.append_assoc acc, e1, decide_eq_false hg, Bool.false_or, List.append_assoc]
theorem refups_loop (l : List (List Int)) (hl : ∀ a ∈ l, okL a = true) (hn : l.length ≤ 1000) (ac : List S54) (hac : ac.length ≤ 1000) (hla : ∀ a ∈ ac, okA a = true) (a0 a1 a2 a3 a4 : Int) (d : Nat) : ∀ (k i : Nat) (acc : List Int), i + d = l.length → d + ac.length + 1200 < k → acc.length + 10100 * d ≤ 40000000 →
    sakiaref38_Script.l0 k ac acc i a0 a1 a2 a3 a4 l = if (upLong (l.drop i) || actLong ac) = true then some ([], 21) else some (acc ++ ups (l.drop i) ++ enc ac.length ++ acts ac, 0) := by
  induction d with
  | zero =>
    intro k i acc hi hk ha
    obtain ⟨k, rfl⟩ : ∃ m, k = m + 1 := ⟨k - 1, by omega⟩
    have b1 := enc_len10 (show ac.length < 18446744073709551616 by omega)
    simp only [sakiaref38_Script.l0]
    rw [if_neg (by omega), List.drop_of_length_le (by omega), val_w _ (by omega) (by omega), refput_yes ac.length (by omega) k (by omega), Option.bind_some, if_pos (by omega)]
    have := refacts_loop ac hla hac ac.length k 0 (acc ++ enc ac.length) (by omega) (by omega) (by simp only [List.length_append]; omega)
    rw [show ((0 : Nat) : Int) = 0 from rfl] at this
    rw [this, List.drop_zero]
    simp [upLong, ups]
  | succ d ih =>
    intro k i acc hi hk ha
    obtain ⟨k, rfl⟩ : ∃ m, k = m + 1 := ⟨k - 1, by omega⟩
    have hok := hl _ (mem_L1 l i (by omega))
    simp only [sakiaref38_Script.l0]
    rw [if_pos (by omega), if_pos (by omega), drop_L1 l i (by omega)]
    obtain ⟨o1, o2⟩ := okL_parts hok
    generalize rd_L1 l (i : Int) = a at *
    have hb := lst_len a o2 o1
    have hac : upLong (a :: l.drop (i + 1)) = (decide ((a.length : Int) > 256) || upLong (l.drop (i + 1))) := by simp [upLong]
    have hab : ups (a :: l.drop (i + 1)) = lst a ++ ups (l.drop (i + 1)) := by simp [ups]
    rw [hac, hab]
    by_cases hg : (a.length : Int) > 256
    · rw [if_pos hg]; simp [hg]
    · rw [if_neg hg, reflist_yes _ (by omega) o2 k (by omega), Option.bind_some, if_pos (by omega)]
      have hi64 : i < 9223372036854775807 := by omega
      rw [wrap_succ i hi64, ih k (i + 1) _ (by omega) (by omega) (by simp only [List.length_append]; omega), decide_eq_false hg, Bool.false_or]
      simp only [List.append_assoc]
theorem refscr_yes (a0 a1 a2 a3 a4 : Int) (up : List (List Int)) (l : List S54) (h0 : (i64b a0 && i64b a1 && i64b a2 && i64b a3 && decide (0 ≤ a4) && decide (a4 < 18446744073709551616)) = true) (h1 : up.length ≤ 1000 ∧ l.length ≤ 1000) (h2 : (up.all okL && l.all okA) = true) (k : Nat) (hk : 3500 ≤ k) :
    sakiaref38_Script.f k a0 a1 a2 a3 a4 up l = pack_Script.f a0 a1 a2 a3 a4 up l := by
  unfold pack_Script.f
  rw [if_pos h0, if_pos h1, if_pos h2]
  simp only [Bool.and_eq_true, decide_eq_true_eq, List.all_eq_true] at h0 h2
  obtain ⟨⟨⟨⟨⟨i0, i1⟩, i2⟩, i3⟩, i4⟩, i5⟩ := h0
  rw [i64b_iff] at i0 i1 i2 i3
  have hints : ints [a0, a1, a2, a3] := by
    intro n hn
    simp only [List.mem_cons, List.not_mem_nil, or_false] at hn
    rcases hn with rfl | rfl | rfl | rfl <;> assumption
  obtain ⟨k, rfl⟩ : ∃ m, k = m + 1 := ⟨k - 1, by omega⟩
  unfold sakiaref38_Script.f
  rw [if_neg (by omega)]
  simp only [sakiaref38_Script.j0]
  unfold scrLong
  by_cases hu : (up.length : Int) > 256
  · rw [decide_eq_true hu, if_pos rfl]
    simp
  · rw [decide_eq_false hu, if_neg (by decide)]
    obtain ⟨n4, rfl⟩ : ∃ n4 : Nat, a4 = (n4 : Int) := ⟨a4.toNat, by omega⟩
    have b0 := nums_len _ hints
    have b1 := enc_len10 (show n4 < 18446744073709551616 by omega)
    have b2 := enc_len10 (show up.length < 18446744073709551616 by omega)
    simp only [List.length_cons, List.length_nil] at b0
    rw [refnums_yes _ (by simp) hints k (by simp; omega), Option.bind_some, refput_yes n4 (by omega) k (by omega), Option.bind_some, if_pos (by omega), Option.bind_some, val_w _ (by omega) (by omega), refput_yes up.length (by omega) k (by omega), Option.bind_some, if_pos (by simp only [List.length_append]; omega)]
    have := refups_loop up h2.1 h1.1 l h1.2 h2.2 a0 a1 a2 a3 n4 up.length k 0 (nums [a0, a1, a2, a3] ++ enc n4 ++ enc up.length) (by omega) (by omega) (by simp only [List.length_append]; omega)
    rw [show ((0 : Nat) : Int) = 0 from rfl] at this
    rw [this, List.drop_zero, Bool.false_or, decide_eq_false (show ¬ ((l.length : Int) > 4096) by omega), Bool.or_false]
    unfold scrB
    rw [Int.toNat_natCast]
theorem reflog_loop (l : List S56) (hl : ∀ a ∈ l, okE a = true) (hn : l.length ≤ 1000) (d : Nat) : ∀ (k i : Nat) (acc : List Int), i + d = l.length → d + 1100 < k → acc.length + 10100 * d ≤ 100000000 →
    sakiaref38_Log.l0 k l acc i = if evLong (l.drop i) = true then some ([], 21) else some (acc ++ evs (l.drop i), 0) := by
  induction d with
  | zero =>
    intro k i acc hi hk ha
    obtain ⟨k, rfl⟩ : ∃ m, k = m + 1 := ⟨k - 1, by omega⟩
    simp only [sakiaref38_Log.l0]
    rw [if_neg (by omega), List.drop_of_length_le (by omega)]
    simp [evLong, evs]
  | succ d ih =>
    intro k i acc hi hk ha
    obtain ⟨k, rfl⟩ : ∃ m, k = m + 1 := ⟨k - 1, by omega⟩
    have hok := hl _ (mem_T56 l i (by omega))
    simp only [sakiaref38_Log.l0]
    rw [if_pos (by omega), if_pos (by omega), drop_T56 l i (by omega)]
    have hb := evB_len hok
    obtain ⟨o1, o2, o3, o4, o5, o6⟩ := okE_parts hok
    generalize rd_T56 l (i : Int) = a at *
    have hac : evLong (a :: l.drop (i + 1)) = (decide ((a.f6.length : Int) > 256) || evLong (l.drop (i + 1))) := by simp [evLong]
    have hab : evs (a :: l.drop (i + 1)) = evB a ++ evs (l.drop (i + 1)) := by simp [evs]
    rw [hac, hab]
    by_cases hg : (a.f6.length : Int) > 256
    · rw [if_pos hg]; simp [hg]
    · have e1 : nums [a.f0, a.f1, a.f2, a.f3] ++ enc a.f4.toNat ++ nums [a.f5] ++ lst a.f6 = evB a := rfl
      have hlen : (nums [a.f0, a.f1, a.f2, a.f3]).length + (enc a.f4.toNat).length + (nums [a.f5]).length + (lst a.f6).length ≤ 10100 := by rw [← List.length_append, ← List.length_append, ← List.length_append, e1]; exact hb
      have hp := refput_yes a.f4.toNat (by omega) k (by omega)
      rw [show ((a.f4.toNat : Nat) : Int) = a.f4 by omega] at hp
      rw [if_neg hg, refnums_yes _ (by simp) o1 k (by simp; omega), Option.bind_some, if_pos (by omega), Option.bind_some, hp, Option.bind_some, if_pos (by simp only [List.length_append]; omega), Option.bind_some, refnums_yes _ (by simp) o2 k (by simp; omega), Option.bind_some, if_pos (by simp only [List.length_append]; omega), Option.bind_some, reflist_yes _ (by omega) o6 k (by omega), Option.bind_some, if_pos (by simp only [List.length_append]; omega)]
      have hi64 : i < 9223372036854775807 := by omega
      rw [wrap_succ i hi64, ih k (i + 1) _ (by omega) (by omega) (by simp only [List.length_append]; omega), decide_eq_false hg, Bool.false_or, ← e1]
      simp only [List.append_assoc]
theorem reflog_yes (l : List S56) (h1 : l.length ≤ 1000) (h2 : l.all okE = true) (k : Nat) (hk : 3500 ≤ k) : sakiaref38_Log.f k l = pack_Log.f l := by
  unfold pack_Log.f
  rw [if_pos h1, if_pos h2]
  rw [List.all_eq_true] at h2
  unfold sakiaref38_Log.f
  have b1 := enc_len10 (show l.length < 18446744073709551616 by omega)
  rw [if_neg (by omega), val_w _ (by omega) (by omega), refput_yes l.length (by omega) k (by omega), Option.bind_some]
  have := reflog_loop l h2 h1 l.length k 0 (enc l.length) (by omega) (by omega) (by omega)
  rw [show ((0 : Nat) : Int) = 0 from rfl] at this
  rw [this, List.drop_zero, decide_eq_false (show ¬ ((l.length : Int) > 65536) by omega), Bool.false_or]
theorem long_l1 (a0 a1 a2 a3 a4 : Int) (up : List (List Int)) (l : List S54) (d : Nat) : ∀ (k i : Nat), i + d = 300 → 2 * d + 2 ≤ k → ∃ b, sakialaw38_long.l1 k i a0 a1 a2 a3 a4 up l = some b ∧ (b = false → up.length ≤ 300 ∧ l.length ≤ 300 ∧ ∀ j : Nat, i ≤ j → j < l.length → (rd_T54 l (j : Int)).f1.f2.length ≤ 300) := by
  have hend : ∀ (k i : Nat), ¬ (i < l.length ∧ i < 300) → i ≤ 300 → ∃ b, sakialaw38_long.j3 (k + 1) i false a0 a1 a2 a3 a4 up l = some b ∧ (b = false → up.length ≤ 300 ∧ l.length ≤ 300 ∧ ∀ j : Nat, i ≤ j → j < l.length → (rd_T54 l (j : Int)).f1.f2.length ≤ 300) := by
    intro k i h h2
    simp only [sakialaw38_long.j3]
    rw [if_neg (by decide)]
    by_cases hu : (up.length : Int) > 300
    · rw [if_pos hu]; exact ⟨true, rfl, fun h => by cases h⟩
    · rw [if_neg hu]
      refine ⟨_, rfl, fun hb => ?_⟩
      rw [decide_eq_false_iff_not] at hb
      exact ⟨by omega, by omega, fun j h3 h4 => by omega⟩
  induction d with
  | zero =>
    intro k i hi hk
    obtain ⟨k, rfl⟩ : ∃ m, k = m + 1 + 1 := ⟨k - 2, by omega⟩
    rw [sakialaw38_long.l1]
    rw [decide_eq_false (show ¬ ((i : Int) < 300) by omega), ite_self]
    exact hend k i (by omega) (by omega)
  | succ d ih =>
    intro k i hi hk
    obtain ⟨k, rfl⟩ : ∃ m, k = m + 1 + 1 := ⟨k - 2, by omega⟩
    rw [sakialaw38_long.l1]
    by_cases h1 : (i : Int) < (l.length : Int)
    · rw [if_pos h1, decide_eq_true (show ((i : Int) < 300) by omega)]
      simp only [sakialaw38_long.j3]
      rw [if_pos trivial, if_pos (by omega), if_pos h1]
      by_cases h2 : ((rd_T54 l (i : Int)).f1.f2.length : Int) > 300
      · rw [if_pos h2]; exact ⟨true, rfl, fun h => by cases h⟩
      · rw [if_neg h2, wrap_succ i (by omega)]
        obtain ⟨b, hb, hf⟩ := ih k (i + 1) (by omega) (by omega)
        refine ⟨b, hb, fun h => ⟨(hf h).1, (hf h).2.1, fun j h3 h4 => ?_⟩⟩
        by_cases hj : j = i
        · subst hj; omega
        · exact (hf h).2.2 j (by omega) h4
    · rw [if_neg h1]
      exact hend k i (by omega) (by omega)
theorem long_l0 (a0 a1 a2 a3 a4 : Int) (up : List (List Int)) (l : List S54) (d : Nat) : ∀ (k i : Nat), i + d = 300 → 2 * d + 610 ≤ k → ∃ b, sakialaw38_long.l0 k i a0 a1 a2 a3 a4 up l = some b ∧ (b = false → up.length ≤ 300 ∧ l.length ≤ 300 ∧ (∀ j : Nat, i ≤ j → j < up.length → (rd_L1 up (j : Int)).length ≤ 300) ∧ ∀ j : Nat, j < l.length → (rd_T54 l (j : Int)).f1.f2.length ≤ 300) := by
  have hend : ∀ (k i : Nat), 602 ≤ k → ¬ (i < up.length ∧ i < 300) → i ≤ 300 → ∃ b, sakialaw38_long.j1 (k + 1) i false a0 a1 a2 a3 a4 up l = some b ∧ (b = false → up.length ≤ 300 ∧ l.length ≤ 300 ∧ (∀ j : Nat, i ≤ j → j < up.length → (rd_L1 up (j : Int)).length ≤ 300) ∧ ∀ j : Nat, j < l.length → (rd_T54 l (j : Int)).f1.f2.length ≤ 300) := by
    intro k i hk h h2
    simp only [sakialaw38_long.j1]
    rw [if_neg (by decide)]
    obtain ⟨b, hb, hf⟩ := long_l1 a0 a1 a2 a3 a4 up l 300 k 0 (by omega) (by omega)
    refine ⟨b, hb, fun h => ⟨(hf h).1, (hf h).2.1, fun j h3 h4 => ?_, fun j h3 => (hf h).2.2 j (by omega) h3⟩⟩
    have := (hf h).1
    omega
  induction d with
  | zero =>
    intro k i hi hk
    obtain ⟨k, rfl⟩ : ∃ m, k = m + 1 + 1 := ⟨k - 2, by omega⟩
    rw [sakialaw38_long.l0]
    rw [decide_eq_false (show ¬ ((i : Int) < 300) by omega), ite_self]
    exact hend k i (by omega) (by omega) (by omega)
  | succ d ih =>
    intro k i hi hk
    obtain ⟨k, rfl⟩ : ∃ m, k = m + 1 + 1 := ⟨k - 2, by omega⟩
    rw [sakialaw38_long.l0]
    by_cases h1 : (i : Int) < (up.length : Int)
    · rw [if_pos h1, decide_eq_true (show ((i : Int) < 300) by omega)]
      simp only [sakialaw38_long.j1]
      rw [if_pos trivial, if_pos (by omega), if_pos h1]
      by_cases h2 : ((rd_L1 up (i : Int)).length : Int) > 300
      · rw [if_pos h2]; exact ⟨true, rfl, fun h => by cases h⟩
      · rw [if_neg h2, wrap_succ i (by omega)]
        obtain ⟨b, hb, hf⟩ := ih k (i + 1) (by omega) (by omega)
        refine ⟨b, hb, fun h => ⟨(hf h).1, (hf h).2.1, fun j h3 h4 => ?_, (hf h).2.2.2⟩⟩
        by_cases hj : j = i
        · subst hj; omega
        · exact (hf h).2.2.1 j (by omega) h4
    · rw [if_neg h1]
      exact hend k i (by omega) (by omega) (by omega)
theorem logs_l0 (l : List S56) (d : Nat) : ∀ (k i : Nat), i + d = 300 → 2 * d + 2 ≤ k → ∃ b, sakialaw38_logs.l0 k l i = some b ∧ (b = false → l.length ≤ 300 ∧ ∀ j : Nat, i ≤ j → j < l.length → (rd_T56 l (j : Int)).f6.length ≤ 300) := by
  have hend : ∀ (k i : Nat), ¬ (i < l.length ∧ i < 300) → i ≤ 300 → ∃ b, sakialaw38_logs.j1 (k + 1) l i false = some b ∧ (b = false → l.length ≤ 300 ∧ ∀ j : Nat, i ≤ j → j < l.length → (rd_T56 l (j : Int)).f6.length ≤ 300) := by
    intro k i h h2
    simp only [sakialaw38_logs.j1]
    rw [if_neg (by decide)]
    refine ⟨_, rfl, fun hb => ?_⟩
    rw [decide_eq_false_iff_not] at hb
    exact ⟨by omega, fun j h3 h4 => by omega⟩
  induction d with
  | zero =>
    intro k i hi hk
    obtain ⟨k, rfl⟩ : ∃ m, k = m + 1 + 1 := ⟨k - 2, by omega⟩
    rw [sakialaw38_logs.l0]
    rw [decide_eq_false (show ¬ ((i : Int) < 300) by omega), ite_self]
    exact hend k i (by omega) (by omega)
  | succ d ih =>
    intro k i hi hk
    obtain ⟨k, rfl⟩ : ∃ m, k = m + 1 + 1 := ⟨k - 2, by omega⟩
    rw [sakialaw38_logs.l0]
    by_cases h1 : (i : Int) < (l.length : Int)
    · rw [if_pos h1, decide_eq_true (show ((i : Int) < 300) by omega)]
      simp only [sakialaw38_logs.j1]
      rw [if_pos trivial, if_pos (by omega), if_pos h1]
      by_cases h2 : ((rd_T56 l (i : Int)).f6.length : Int) > 300
      · rw [if_pos h2]; exact ⟨true, rfl, fun h => by cases h⟩
      · rw [if_neg h2, wrap_succ i (by omega)]
        obtain ⟨b, hb, hf⟩ := ih k (i + 1) (by omega) (by omega)
        refine ⟨b, hb, fun h => ⟨(hf h).1, fun j h3 h4 => ?_⟩⟩
        by_cases hj : j = i
        · subst hj; omega
        · exact (hf h).2 j (by omega) h4
    · rw [if_neg h1]
      exact hend k i (by omega) (by omega)
/-- the numbers of a script, and of events, are of their kinds -/
def wfA (a : S54) : Prop := i64b a.f0 = true ∧ i64b a.f1.f0 = true ∧ i64b a.f1.f1 = true ∧ ∀ n ∈ a.f1.f2, i64b n = true
def wfE (e : S56) : Prop := i64b e.f0 = true ∧ i64b e.f1 = true ∧ i64b e.f2 = true ∧ i64b e.f3 = true ∧ 0 ≤ e.f4 ∧ e.f4 < 18446744073709551616 ∧ i64b e.f5 = true ∧ ∀ n ∈ e.f6, i64b n = true
theorem all_T54 {l : List S54} {p : S54 → Prop} (h : ∀ j : Nat, j < l.length → p (rd_T54 l (j : Int))) : ∀ a ∈ l, p a := by
  intro a ha
  obtain ⟨j, hj, rfl⟩ := List.getElem_of_mem ha
  have := h j hj
  simpa [rd_T54, List.getD_eq_getElem?_getD, hj] using this
theorem all_T56 {l : List S56} {p : S56 → Prop} (h : ∀ j : Nat, j < l.length → p (rd_T56 l (j : Int))) : ∀ a ∈ l, p a := by
  intro a ha
  obtain ⟨j, hj, rfl⟩ := List.getElem_of_mem ha
  have := h j hj
  simpa [rd_T56, List.getD_eq_getElem?_getD, hj] using this
theorem all_L1 {l : List (List Int)} {p : List Int → Prop} (h : ∀ j : Nat, j < l.length → p (rd_L1 l (j : Int))) : ∀ a ∈ l, p a := by
  intro a ha
  obtain ⟨j, hj, rfl⟩ := List.getElem_of_mem ha
  have := h j hj
  simpa [rd_L1, List.getD_eq_getElem?_getD, hj] using this
/-- where a script is not too long to be gone through, it is fit for pack.Script -/
theorem long_yes (a0 a1 a2 a3 a4 : Int) (up : List (List Int)) (l : List S54) (hu : ∀ u ∈ up, ∀ n ∈ u, i64b n = true) (ha : ∀ a ∈ l, wfA a) (k : Nat) (hk : 1300 ≤ k) : ∃ b, sakialaw38_long.f k a0 a1 a2 a3 a4 up l = some b ∧ (b = false → (up.length ≤ 1000 ∧ l.length ≤ 1000) ∧ (up.all okL && l.all okA) = true) := by
  unfold sakialaw38_long.f
  obtain ⟨b, hb, hf⟩ := long_l0 a0 a1 a2 a3 a4 up l 300 k 0 (by omega) (by omega)
  refine ⟨b, hb, fun h => ?_⟩
  obtain ⟨h1, h2, h3, h4⟩ := hf h
  refine ⟨⟨by omega, by omega⟩, ?_⟩
  rw [Bool.and_eq_true, List.all_eq_true, List.all_eq_true]
  have k1 := all_L1 (p := fun u => u.length ≤ 300) (fun j hj => h3 j (by omega) hj)
  have k2 := all_T54 (p := fun a => a.f1.f2.length ≤ 300) h4
  refine ⟨fun u hu' => ?_, fun a ha' => ?_⟩
  · have := k1 u hu'
    simp only [okL, Bool.and_eq_true, decide_eq_true_eq, List.all_eq_true]
    exact ⟨by omega, hu u hu'⟩
  · have := k2 a ha'
    obtain ⟨w0, w1, w2, w3⟩ := ha a ha'
    simp only [okA, okL, Bool.and_eq_true, decide_eq_true_eq, List.all_eq_true]
    exact ⟨⟨⟨w0, w1⟩, w2⟩, by omega, w3⟩
theorem logs_yes (l : List S56) (he : ∀ e ∈ l, wfE e) (k : Nat) (hk : 1300 ≤ k) : ∃ b, sakialaw38_logs.f k l = some b ∧ (b = false → l.length ≤ 1000 ∧ l.all okE = true) := by
  unfold sakialaw38_logs.f
  obtain ⟨b, hb, hf⟩ := logs_l0 l 300 k 0 (by omega) (by omega)
  refine ⟨b, hb, fun h => ?_⟩
  obtain ⟨h1, h2⟩ := hf h
  refine ⟨by omega, ?_⟩
  rw [List.all_eq_true]
  have k1 := all_T56 (p := fun e => e.f6.length ≤ 300) (fun j hj => h2 j (by omega) hj)
  intro e he'
  have := k1 e he'
  obtain ⟨w0, w1, w2, w3, w4, w5, w6, w7⟩ := he e he'
  simp only [okE, Bool.and_eq_true, decide_eq_true_eq, List.all_eq_true]
  exact ⟨⟨⟨⟨⟨⟨⟨⟨w0, w1⟩, w2⟩, w3⟩, w6⟩, w4⟩, w5⟩, by omega⟩, w7⟩
theorem log_nil : pack_Log.f [] = some ([0], 0) := by
  unfold pack_Log.f
  rw [if_pos (by simp), if_pos (by simp), if_neg (by simp [evLong])]
  simp [evs, enc_small]
theorem unlog_zero : pack_Unlog.f [0] = some ([], 0) := by
  unfold pack_Unlog.f
  rw [if_pos (by simp)]
  have e1 : getP [0] = (0, 1, 0) := by decide
  have e2 : unlogP [0] = .ok [] := by
    unfold unlogP manyP wordP
    rw [e1]
    simp [evsP, finP]
  rw [e2]
  rfl
theorem live_yes : sakialaw38_live.f = some true := by
  unfold sakialaw38_live.f
  rw [log_nil, Option.bind_some, unlog_zero, Option.bind_some]
  rfl
theorem PackWrites (a0 a1 a2 a3 a4 : Int) (up : List (List Int)) (l : List S54) (m : List S56) (h0 : (i64b a0 && i64b a1 && i64b a2 && i64b a3 && decide (0 ≤ a4) && decide (a4 < 18446744073709551616)) = true) (hu : ∀ u ∈ up, ∀ n ∈ u, i64b n = true) (ha : ∀ a ∈ l, wfA a) (he : ∀ e ∈ m, wfE e) :
    sakialaw38_PackWrites.f 5000 a0 a1 a2 a3 a4 up l m = some true := by
  unfold sakialaw38_PackWrites.f
  obtain ⟨b, hb, hf⟩ := long_yes a0 a1 a2 a3 a4 up l hu ha 5000 (by omega)
  rw [hb, Option.bind_some]
  cases b with
  | true =>
    rw [if_pos rfl]
    simp only [sakialaw38_PackWrites.j0]
    rw [if_pos trivial, live_yes, Option.bind_some]
  | false =>
    obtain ⟨g1, g2⟩ := hf rfl
    rw [if_neg (by decide)]
    obtain ⟨c, hc, hg⟩ := logs_yes m he 5000 (by omega)
    rw [hc, Option.bind_some]
    cases c with
    | true =>
      simp only [sakialaw38_PackWrites.j0]
      rw [if_pos trivial, live_yes, Option.bind_some]
    | false =>
      obtain ⟨g3, g4⟩ := hg rfl
      simp only [sakialaw38_PackWrites.j0]
      rw [if_neg (by decide), refscr_yes a0 a1 a2 a3 a4 up l h0 g1 g2 4999 (by omega), reflog_yes m g3 g4 4999 (by omega)]
      obtain ⟨r, hr⟩ : ∃ r, pack_Script.f a0 a1 a2 a3 a4 up l = some r := by
        unfold pack_Script.f
        rw [if_pos h0, if_pos g1, if_pos g2]
        split <;> exact ⟨_, rfl⟩
      obtain ⟨q, hq⟩ : ∃ q, pack_Log.f m = some q := by
        unfold pack_Log.f
        rw [if_pos g3, if_pos g4]
        split <;> exact ⟨_, rfl⟩
      rw [hr, Option.bind_some, Option.bind_some, hq, Option.bind_some, Option.bind_some, if_pos rfl, if_pos rfl, if_pos rfl, if_pos rfl, live_yes, Option.bind_some]
end Go.Proofs.Ytoobhpgkecplmaa.Pure
