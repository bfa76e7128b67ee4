/- It is proved that the law SpanPieces answers true for every input: the pieces have the slots of the positions, one behind the other, each once: one piece, or two over the ring's end. Conditions: none. -/
import Derived.Test.YtbgbhoidchdjmaaQSpanPiecesx4
namespace Go.Proofs.Ytbgbhoidchdjmaa.Pure
open Go Go.RowKit Go.Proofs.Ytbgbhoidchdjmaa.QSpanPieces Go.Proofs.YtbgbhoidchdjmaaW.PrintWords Go.Proofs.YtbgbhoidchdjmaaW.PrintLast Go.Proofs.YtbgbhoidchdjmaaW.PrintMore
set_option linter.unusedVariables false
set_option linter.unusedSimpArgs false

-- of lap's base: what a capacity is
/-- A capacity that may be. -/
def Cap (c : Int) : Prop := ∃ i : Nat, 1 ≤ i ∧ i ≤ 30 ∧ c = 2 ^ i

theorem pow_le {i j : Nat} (h : i ≤ j) : (2 : Int) ^ i ≤ 2 ^ j := by
  have := Nat.pow_le_pow_right (n := 2) (by decide) h
  exact_mod_cast this
theorem pow_lt {i j : Nat} (h : i < j) : (2 : Int) ^ i < 2 ^ j := by
  have := Nat.pow_lt_pow_right (a := 2) (by decide) h
  exact_mod_cast this
theorem pow_pos2 (i : Nat) : (0 : Int) < 2 ^ i := by
  have := Nat.two_pow_pos i
  exact_mod_cast this
theorem cap_bounds {c : Int} (h : Cap c) : 2 ≤ c ∧ c ≤ 1073741824 := by
  obtain ⟨i, h1, h2, rfl⟩ := h
  have a := pow_le h1
  have b := pow_le h2
  exact ⟨by simpa using a, by simpa using b⟩
theorem cap_dvd32 {c : Int} (h : Cap c) : c ∣ 4294967296 := by
  obtain ⟨i, h1, h2, rfl⟩ := h
  refine ⟨2 ^ (32 - i), ?_⟩
  rw [← Int.pow_add, show i + (32 - i) = 32 by omega]
  rfl
theorem cap_dvd64 {c : Int} (h : Cap c) : c ∣ 18446744073709551616 := by
  obtain ⟨i, h1, h2, rfl⟩ := h
  refine ⟨2 ^ (64 - i), ?_⟩
  rw [← Int.pow_add, show i + (64 - i) = 64 by omega]
  rfl

theorem right_loop (c : Int) (d : Nat) : ∀ (k i : Nat), 1 ≤ i → i + d = 30 → d < k →
    ∃ b : Bool, sakiaref02_Right.l0 k c (2 ^ i) = some b ∧ (b = true ↔ ∃ j : Nat, i ≤ j ∧ j ≤ 30 ∧ c = 2 ^ j) := by
  induction d with
  | zero =>
    intro k i h1 hd hk
    obtain ⟨k, rfl⟩ : ∃ m, k = m + 1 := ⟨k - 1, by omega⟩
    obtain rfl : i = 30 := by omega
    refine ⟨(2 : Int) ^ 30 == c, ?_, ?_⟩
    · simp only [sakiaref02_Right.l0]
      rw [if_neg (show ¬ (2 : Int) ^ 30 < 1073741824 by decide)]
      split <;> rfl
    · rw [beq_iff_eq]
      constructor
      · intro h; exact ⟨30, by omega, by omega, h.symm⟩
      · rintro ⟨j, a, b, rfl⟩
        obtain rfl : j = 30 := by omega
        rfl
  | succ d ih =>
    intro k i h1 hd hk
    obtain ⟨k, rfl⟩ : ∃ m, k = m + 1 := ⟨k - 1, by omega⟩
    have hlt : (2 : Int) ^ i < 1073741824 := by
      have := pow_lt (show i < 30 by omega)
      simpa using this
    have hpos := pow_pos2 i
    by_cases hc : (2 : Int) ^ i < c
    · obtain ⟨b, hb, hiff⟩ := ih k (i + 1) (by omega) (by omega) (by omega)
      refine ⟨b, ?_, ?_⟩
      · simp only [sakiaref02_Right.l0]
        rw [if_pos hc, if_pos hlt, show wrap64 (2 * 2 ^ i) = 2 ^ (i + 1) by rw [Int.pow_succ]; unfold wrap64; omega]
        exact hb
      · rw [hiff]
        constructor
        · rintro ⟨j, a, b, e⟩; exact ⟨j, by omega, b, e⟩
        · rintro ⟨j, a, b, e⟩
          refine ⟨j, ?_, b, e⟩
          by_cases hj : j = i
          · subst hj; omega
          · omega
    · refine ⟨(2 : Int) ^ i == c, ?_, ?_⟩
      · simp only [sakiaref02_Right.l0]
        rw [if_neg hc]
      · rw [beq_iff_eq]
        constructor
        · intro h; exact ⟨i, by omega, by omega, h.symm⟩
        · rintro ⟨j, a, b, e⟩
          have := pow_le a
          omega

/-- The reference's Right. -/
theorem right_ref (c : Int) : ∃ b : Bool, (∀ k, 30 ≤ k → sakiaref02_Right.f k c = some b) ∧ (b = true ↔ Cap c) := by
  obtain ⟨b, hb, hiff⟩ := right_loop c 29 30 1 (by omega) (by omega) (by omega)
  refine ⟨b, fun k hk => ?_, hiff⟩
  have : sakiaref02_Right.f 30 c = some b := by unfold sakiaref02_Right.f; simpa using hb
  exact at_rounds (sakiaref02_Right.mono c) hk this

theorem bits_and_nat (a b : Nat) (ha : a < 2 ^ 63) (hb : b < 2 ^ 63) : Go.bits .and .i64 (a : Int) (b : Int) = ((a &&& b : Nat) : Int) :=
  (Go.bits_nat .i64 63 (by decide) (fun n h0 h1 => by rw [IntKind.wrap_i64]; omega) a b ha hb).1

/-- The program's Right. -/
theorem right_lap (c : Int) : ∃ b : Bool, lap_Right.f c = some b ∧ (b = true ↔ Cap c) := by
  unfold lap_Right.f
  by_cases h1 : c ≥ 2
  · by_cases h2 : c ≤ 1073741824
    · refine ⟨_, by rw [if_pos h1, if_pos h2], ?_⟩
      obtain ⟨n, rfl⟩ := Int.eq_ofNat_of_zero_le (show 0 ≤ c by omega)
      rw [show wrap64 ((n : Int) - 1) = ((n - 1 : Nat) : Int) by unfold wrap64; omega]
      rw [bits_and_nat n (n - 1) (by omega) (by omega), beq_iff_eq]
      rw [show (((n &&& (n - 1) : Nat) : Int) = 0) ↔ (n &&& (n - 1)) = 0 by omega]
      rw [Nat.and_sub_one_eq_zero_iff_isPowerOfTwo (by omega)]
      constructor
      · rintro ⟨i, rfl⟩
        refine ⟨i, ?_, ?_, by push_cast; rfl⟩
        · rcases i with _ | i
          · simp at h1
          · omega
        · by_cases hi : i ≤ 30
          · exact hi
          · have := pow_le (show 31 ≤ i by omega)
            push_cast at h2
            simp at this
            omega
      · rintro ⟨i, a, b, e⟩
        exact ⟨i, by exact_mod_cast e⟩
    · refine ⟨false, by rw [if_pos h1, if_neg h2], ?_⟩
      constructor
      · intro h; cases h
      · intro h; have := cap_bounds h; omega
  · refine ⟨false, by rw [if_neg h1], ?_⟩
    constructor
    · intro h; cases h
    · intro h; have := cap_bounds h; omega

theorem right_yes {c : Int} (h : Cap c) : lap_Right.f c = some true := by
  obtain ⟨b, hb, hiff⟩ := right_lap c
  rw [hb, hiff.2 h]
theorem right_no {c : Int} (h : ¬ Cap c) : lap_Right.f c = some false := by
  obtain ⟨b, hb, hiff⟩ := right_lap c
  rw [hb]
  cases b
  · rfl
  · exact absurd (hiff.1 rfl) h

theorem slot32_yes {c : Int} (h : Cap c) (p : Int) (h0 : 0 ≤ p) (h1 : p < 4294967296) : lap_Slot_uint32.f c p = some (p % c) := by
  have hb := cap_bounds h
  unfold lap_Slot_uint32.f
  rw [right_yes h]
  simp only [Option.bind_some, if_true]
  obtain ⟨i, a, b, rfl⟩ := h
  rw [show wrap64 ((2 : Int) ^ i - 1) % 4294967296 = 2 ^ i - 1 by unfold wrap64; omega]
  rw [Go.bits_mask .u32 32 (by decide) (fun n x y => by rw [IntKind.wrap_u32]; omega) i (by omega) p h0 (by simpa using h1)]
  have e1 := Int.emod_nonneg p (show (2 : Int) ^ i ≠ 0 by omega)
  have e2 := Int.emod_lt_of_pos p (show (0 : Int) < 2 ^ i by omega)
  congr 1
  unfold wrap64
  omega

theorem wrap_u64 (n : Int) : IntKind.u64.wrap n = n % 18446744073709551616 := by simp [IntKind.wrap, IntKind.bits, IntKind.signed]

theorem slot64_yes {c : Int} (h : Cap c) (p : Int) (h0 : 0 ≤ p) (h1 : p < 18446744073709551616) : lap_Slot_uint64.f c p = some (p % c) := by
  have hb := cap_bounds h
  unfold lap_Slot_uint64.f
  rw [right_yes h]
  simp only [Option.bind_some, if_true]
  obtain ⟨i, a, b, rfl⟩ := h
  rw [show IntKind.u64.wrap (wrap64 ((2 : Int) ^ i - 1)) = 2 ^ i - 1 by rw [wrap_u64]; unfold wrap64; omega]
  rw [Go.bits_mask .u64 64 (by decide) (fun n x y => by rw [wrap_u64]; omega) i (by omega) p h0 (by simpa using h1)]
  have e1 := Int.emod_nonneg p (show (2 : Int) ^ i ≠ 0 by omega)
  have e2 := Int.emod_lt_of_pos p (show (0 : Int) < 2 ^ i by omega)
  congr 1
  unfold wrap64
  omega

theorem cap8 : Cap 8 := ⟨3, by decide, by decide, by decide⟩


theorem refslot {c : Int} (h : Cap c) (p : Int) (h0 : 0 ≤ p) : sakiaref02_Slot.f c p = some (p % c) := by
  have hb := cap_bounds h
  unfold sakiaref02_Slot.f
  rw [wrap_u64, show c % 18446744073709551616 = c by omega, if_neg (by omega), Int.tmod_eq_emod_of_nonneg h0]
  have e1 := Int.emod_nonneg p (show c ≠ 0 by omega)
  have e2 := Int.emod_lt_of_pos p (show (0 : Int) < c by omega)
  congr 1
  unfold wrap64
  omega
theorem cut32 (x : Int) (h0 : 0 ≤ x) : sakiaref01_Cut.f 32 x = some (x % 4294967296) := by
  unfold sakiaref01_Cut.f
  rw [if_pos rfl, Int.tmod_eq_emod_of_nonneg h0]
theorem cut64 (x : Int) : sakiaref01_Cut.f 64 x = some x := by
  unfold sakiaref01_Cut.f
  rw [if_neg (by decide), if_pos rfl]
theorem plus32 (p n : Int) : sakiaref01_Plus.f 32 p n = some ((p + n) % 4294967296) := by
  unfold sakiaref01_Plus.f
  rw [wrap_u64, wrap_u64, cut32 _ (by omega), Option.bind_some]
  congr 1
  omega
theorem plus64 (p n : Int) : sakiaref01_Plus.f 64 p n = some ((p + n) % 18446744073709551616) := by
  unfold sakiaref01_Plus.f
  rw [wrap_u64, wrap_u64, cut64, Option.bind_some]
  congr 1
  omega

/-- A slot that there is. -/
def In (c s : Int) : Prop := Cap c ∧ 0 ≤ s ∧ s < c

theorem live_true : sakialaw03_live.f = some true := by kernel_rfl
def posM (M f : Int) (n : Nat) : List Int := (List.range n).map fun (i : Nat) => (f + (i : Int)) % M
theorem posM_len (M f : Int) (n : Nat) : (posM M f n).length = n := by simp [posM]
theorem posM_succ (M f : Int) (n : Nat) : posM M f (n + 1) = posM M f n ++ [(f + (n : Int)) % M] := by simp [posM, List.range_succ]
theorem list_loop (w M f : Int) (hp : ∀ p n, sakiaref01_Plus.f w p n = some ((p + n) % M)) (n : Nat) (hn : n ≤ 300) (d : Nat) : ∀ k i : Nat, i + d = n → d < k → sakiaref03_List.l0 k (posM M f i) (i : Int) w f (n : Int) = some (posM M f n) := by
  induction d with
  | zero =>
    intro k i hi hk
    obtain ⟨k, rfl⟩ : ∃ m, k = m + 1 := ⟨k - 1, by omega⟩
    simp only [sakiaref03_List.l0]
    rw [if_neg (by omega)]
    obtain rfl : i = n := by omega
    rfl
  | succ d ih =>
    intro k i hi hk
    obtain ⟨k, rfl⟩ : ∃ m, k = m + 1 := ⟨k - 1, by omega⟩
    simp only [sakiaref03_List.l0]
    rw [if_pos (by omega), hp, Option.bind_some, posM_len, if_pos (by omega), ← posM_succ, show wrap64 ((i : Int) + 1) = ((i + 1 : Nat) : Int) by unfold wrap64; omega]
    exact ih k (i + 1) (by omega) (by omega)
theorem list_yes (w M f : Int) (hp : ∀ p n, sakiaref01_Plus.f w p n = some ((p + n) % M)) (n : Nat) (hn : n ≤ 300) (k : Nat) (hk : 301 ≤ k) : sakiaref03_List.f k w f (n : Int) = some (posM M f n) :=
  list_loop w M f hp n hn n k 0 (by omega) (by omega)
def toS (l : List (Int × Int)) : List S38 := l.map fun p => ⟨p.1, p.2⟩
theorem toS_len (l : List (Int × Int)) : (toS l).length = l.length := by simp [toS]
theorem toS_app (l m : List (Int × Int)) : toS (l ++ m) = toS l ++ toS m := by simp [toS]
theorem rd_last (l : List S38) (x : S38) : rd_T38 (l ++ [x]) ((l.length : Nat) : Int) = x := by simp [rd_T38]
theorem set_last (l : List S38) (x y : S38) : (l ++ [x]).set ((l.length : Nat) : Int).toNat y = l ++ [y] := by
  rw [Int.toNat_natCast, List.set_append_right _ _ (Nat.le_refl _), Nat.sub_self]
  rfl
/-- The last one is made one longer. -/
theorem longer (cap : Int) (out : List (Int × Int)) (a b : Int) (l : List Int) (i : Int) (k : Nat) (hl : out.length < 8796093022208) (r : Option (List S38))
    (h : sakiaref03_Pieces.l0 k cap (toS (out ++ [(a, wrap64 (b + 1))])) l (wrap64 (i + 1)) = r) :
    (if 0 ≤ (wrap64 (((toS (out ++ [(a, b)])).length : Int) - 1)) then (if (wrap64 (((toS (out ++ [(a, b)])).length : Int) - 1)) < ((toS (out ++ [(a, b)])).length : Int) then (sakiaref03_Pieces.l0 k cap ((toS (out ++ [(a, b)])).set ((wrap64 (((toS (out ++ [(a, b)])).length : Int) - 1)) : Int).toNat (⟨(rd_T38 (toS (out ++ [(a, b)])) (wrap64 (((toS (out ++ [(a, b)])).length : Int) - 1))).f0, wrap64 (((rd_T38 (toS (out ++ [(a, b)])) (wrap64 (((toS (out ++ [(a, b)])).length : Int) - 1))).f1) + 1)⟩ : S38)) l (wrap64 (i + 1))) else (none)) else (none)) = r := by
  have e : wrap64 (((toS (out ++ [(a, b)])).length : Int) - 1) = (((toS out).length : Nat) : Int) := by
    rw [toS_len, toS_len]
    simp only [List.length_append, List.length_cons, List.length_nil]
    unfold wrap64
    omega
  rw [e, if_pos (by omega), if_pos (by rw [toS_len, toS_len]; simp only [List.length_append, List.length_cons, List.length_nil]; omega)]
  rw [toS_app, show toS [(a, b)] = [⟨a, b⟩] from rfl, rd_last, set_last]
  rw [toS_app, show toS [(a, wrap64 (b + 1))] = [⟨a, wrap64 (b + 1)⟩] from rfl] at h
  exact h
theorem pieces_loop (cap : Int) (hs : ∀ p : Int, 0 ≤ p → sakiaref02_Slot.f cap p = some (p % cap)) (l : List Int) (hl : ∀ x ∈ l, 0 ≤ x) (hlen : l.length ≤ 300) (d : Nat) : ∀ (k i : Nat) (out : List (Int × Int)), i + d = l.length → d < k → (i = 0 ↔ out = []) → out.length ≤ i →
    sakiaref03_Pieces.l0 k cap (toS out) l (i : Int) = some (toS ((l.drop i).foldl (Pieces.pstep (· % cap)) out)) := by
  induction d with
  | zero =>
    intro k i out hi hk h0 ho
    obtain ⟨k, rfl⟩ : ∃ m, k = m + 1 := ⟨k - 1, by omega⟩
    simp only [sakiaref03_Pieces.l0]
    rw [if_neg (by omega), List.drop_of_length_le (by omega)]
    rfl
  | succ d ih =>
    intro k i out hi hk h0 ho
    obtain ⟨k, rfl⟩ : ∃ m, k = m + 1 := ⟨k - 1, by omega⟩
    have hlt : i < l.length := by omega
    have hx : rd l (i : Int) = l[i] := by simp [rd, hlt]
    have hx0 : 0 ≤ l[i] := hl _ (List.getElem_mem hlt)
    rw [List.drop_eq_getElem_cons hlt, List.foldl_cons]
    simp only [sakiaref03_Pieces.l0]
    rw [if_pos (by omega), if_pos (by omega), hx, hs _ hx0, Option.bind_some]
    generalize l[i] = x at *
    have hw : wrap64 ((i : Int) + 1) = ((i + 1 : Nat) : Int) := by unfold wrap64; omega
    by_cases hi0 : i = 0
    · have hnil := h0.1 hi0
      subst hnil
      subst hi0
      rw [if_pos (show ((0 : Nat) : Int) = 0 from rfl), if_pos (by decide), Option.bind_some]
      refine longer cap [] (x % cap) 0 l _ k (by decide) _ ?_
      rw [hw]
      have e : Pieces.pstep (· % cap) [] x = [] ++ [(x % cap, wrap64 (0 + 1))] := by
        unfold Pieces.pstep
        rw [if_neg (by simp), show wrap64 (0 + 1) = 1 by kernel_rfl]
      rw [e]
      exact ih k 1 _ (by omega) (by omega) (by simp) (by simp)
    · rw [if_neg (by omega)]
      have hne : out ≠ [] := fun e => hi0 (h0.2 e)
      by_cases hz : x % cap = 0
      · rw [if_pos hz, if_pos (by rw [toS_len]; omega), Option.bind_some, show toS out ++ [(⟨x % cap, 0⟩ : S38)] = toS (out ++ [(x % cap, 0)]) from (toS_app out [(x % cap, 0)]).symm]
        refine longer cap out (x % cap) 0 l _ k (by omega) _ ?_
        rw [hw]
        have e : Pieces.pstep (· % cap) out x = out ++ [(x % cap, wrap64 (0 + 1))] := by
          unfold Pieces.pstep
          rw [if_neg (fun h => h.2 hz), show wrap64 (0 + 1) = 1 by kernel_rfl]
        rw [e]
        exact ih k (i + 1) _ (by omega) (by omega) (by simp) (by simp; omega)
      · rw [if_neg hz]
        rcases List.eq_nil_or_concat out with h1 | ⟨ini, ⟨a, b⟩, h1⟩
        · exact absurd h1 hne
        · rw [List.concat_eq_append] at h1
          subst h1
          have hil : ini.length + 1 ≤ i := by simpa using ho
          refine longer cap ini a b l _ k (by omega) _ ?_
          rw [hw]
          have e : Pieces.pstep (· % cap) (ini ++ [(a, b)]) x = ini ++ [(a, wrap64 (b + 1))] := by
            unfold Pieces.pstep
            rw [if_pos ⟨hne, hz⟩]
            simp
          rw [e]
          exact ih k (i + 1) _ (by omega) (by omega) (by simp) (by simp; omega)
theorem refpieces (w M f cap : Int) (hM : 0 < M) (hp : ∀ p n, sakiaref01_Plus.f w p n = some ((p + n) % M)) (hs : ∀ p : Int, 0 ≤ p → sakiaref02_Slot.f cap p = some (p % cap)) (n : Nat) (hn : n ≤ 300) (k : Nat) (hk : 400 ≤ k) :
    sakiaref03_Pieces.f k w f (n : Int) cap = some (toS (Pieces.pieces (· % cap) (posM M f n))) := by
  unfold sakiaref03_Pieces.f
  rw [list_yes w M f hp n hn k (by omega), Option.bind_some]
  have := pieces_loop cap hs (posM M f n) (by intro x hx; simp only [posM, List.mem_map] at hx; obtain ⟨j, _, rfl⟩ := hx; exact Int.emod_nonneg _ (by omega)) (by rw [posM_len]; exact hn) n k 0 [] (by rw [posM_len]; omega) (by omega) (by simp) (by simp)
  simpa [toS, Pieces.pieces] using this
theorem pieces_congr (s s' : Int → Int) (l : List Int) (h : ∀ x ∈ l, s x = s' x) : Pieces.pieces s l = Pieces.pieces s' l := by
  unfold Pieces.pieces
  suffices ∀ out, l.foldl (Pieces.pstep s) out = l.foldl (Pieces.pstep s') out from this []
  induction l with
  | nil => intro out; rfl
  | cons a l ih =>
    intro out
    rw [List.foldl_cons, List.foldl_cons, show Pieces.pstep s out a = Pieces.pstep s' out a by unfold Pieces.pstep; rw [h a (by simp)]]
    exact ih (fun x hx => h x (by simp [hx])) _
/-- One piece, or two over the ring's end. -/
theorem pieces_told (M f cap : Int) (hc : 2 ≤ cap ∧ cap ≤ 256) (hd : cap ∣ M) (n : Nat) (hn : (n : Int) ≤ cap) (h1 : 1 ≤ n) :
    Pieces.pieces (· % cap) (posM M f n) = if (n : Int) ≤ cap - f % cap then [(f % cap, (n : Int))] else [(f % cap, cap - f % cap), (0, n - (cap - f % cap))] := by
  have hs0 : 0 ≤ f % cap := Int.emod_nonneg _ (by omega)
  have hs1 : f % cap < cap := Int.emod_lt_of_pos _ (by omega)
  have hslot : ∀ i : Nat, ((f + (i : Int)) % M) % cap = (f % cap + i) % cap := by
    intro i
    rw [Int.emod_emod_of_dvd _ hd, Int.emod_add_emod]
  induction n with
  | zero => omega
  | succ n ih =>
    rw [posM_succ, Pieces.pieces_snoc]
    by_cases hn0 : n = 0
    · subst hn0
      simp only [posM, List.range_zero, List.map_nil, Pieces.pieces, List.foldl_nil, Pieces.pstep]
      rw [if_neg (by simp), if_pos (by omega)]
      have := hslot 0
      simp only [Int.natCast_zero, Int.add_zero] at this ⊢
      rw [this, Int.emod_emod_of_dvd _ (Int.dvd_refl _)]
      rfl
    · rw [ih (by omega) (by omega)]
      have hx := hslot n
      unfold Pieces.pstep
      by_cases h2 : (n : Int) ≤ cap - f % cap
      · rw [if_pos h2]
        by_cases h3 : (n : Int) = cap - f % cap
        · have hz : ((f + (n : Int)) % M) % cap = 0 := by
            rw [hx, show f % cap + (n : Int) = cap by omega]
            exact Int.emod_self
          rw [if_neg (fun h => h.2 hz), if_neg (by omega)]
          simp only [hz]
          rw [← h3, show ((n + 1 : Nat) : Int) - (n : Int) = 1 by omega]
          rfl
        · have hz : ((f + (n : Int)) % M) % cap ≠ 0 := by
            rw [hx, Int.emod_eq_of_lt (by omega) (by omega)]
            omega
          rw [if_pos ⟨by simp, hz⟩, if_pos (by omega)]
          simp
          unfold wrap64
          omega
      · rw [if_neg h2]
        have hz : ((f + (n : Int)) % M) % cap ≠ 0 := by
          have e : (f % cap + (n : Int)) % cap = f % cap + n - cap := by
            rw [← Int.sub_emod_right, Int.emod_eq_of_lt (by omega) (by omega)]
          rw [hx, e]
          omega
        rw [if_pos ⟨by simp, hz⟩, if_neg (by omega)]
        simp
        unfold wrap64
        omega
theorem pieces_two (M f cap : Int) (hc : 2 ≤ cap ∧ cap ≤ 256) (hd : cap ∣ M) (n : Nat) (hn : (n : Int) ≤ cap) : (Pieces.pieces (· % cap) (posM M f n)).length ≤ 2 := by
  by_cases h1 : 1 ≤ n
  · rw [pieces_told M f cap hc hd n hn h1]
    split <;> simp
  · obtain rfl : n = 0 := by omega
    simp [posM, Pieces.pieces]
theorem loop1 (y : List S38) (hy : y.length ≤ 2) (d : Nat) : ∀ k i : Nat, i + d = y.length → d < k → sakialaw03_SpanPieces.l1 k y y (i : Int) = some true := by
  induction d with
  | zero =>
    intro k i hi hk
    obtain ⟨k, rfl⟩ : ∃ m, k = m + 1 := ⟨k - 1, by omega⟩
    simp only [sakialaw03_SpanPieces.l1]
    rw [if_neg (by omega), live_true]
    rfl
  | succ d ih =>
    intro k i hi hk
    obtain ⟨k, rfl⟩ : ∃ m, k = m + 1 := ⟨k - 1, by omega⟩
    simp only [sakialaw03_SpanPieces.l1]
    rw [if_pos (by omega), if_pos (by omega), if_pos (by omega), if_neg (by simp), show wrap64 ((i : Int) + 1) = ((i + 1 : Nat) : Int) by unfold wrap64; omega]
    exact ih k (i + 1) (by omega) (by omega)
theorem loop0 (x y : List S38) (hx : x.length ≤ 2) (hy : y.length ≤ 2) (d : Nat) : ∀ k i : Nat, i + d = x.length → d + 4 < k → sakialaw03_SpanPieces.l0 k x y x y (i : Int) = some true := by
  induction d with
  | zero =>
    intro k i hi hk
    obtain ⟨k, rfl⟩ : ∃ m, k = m + 1 := ⟨k - 1, by omega⟩
    simp only [sakialaw03_SpanPieces.l0]
    rw [if_neg (by omega)]
    exact loop1 y hy y.length k 0 (by omega) (by omega)
  | succ d ih =>
    intro k i hi hk
    obtain ⟨k, rfl⟩ : ∃ m, k = m + 1 := ⟨k - 1, by omega⟩
    simp only [sakialaw03_SpanPieces.l0]
    rw [if_pos (by omega), if_pos (by omega), if_pos (by omega), if_neg (by simp), show wrap64 ((i : Int) + 1) = ((i + 1 : Nat) : Int) by unfold wrap64; omega]
    exact ih k (i + 1) (by omega) (by omega)
theorem p32 (f : Int) (n : Nat) (cap : Int) (hf : 0 ≤ f ∧ f < 4294967296) : span_Span_uint32_Pieces.f f n cap = some (toS (Pieces.pc32 f n cap)) := by
  unfold span_Span_uint32_Pieces.f
  rw [if_pos hf]
  rfl
theorem p64 (f : Int) (n : Nat) (cap : Int) (hf : 0 ≤ f ∧ f < 18446744073709551616) : span_Span_uint64_Pieces.f f n cap = some (toS (Pieces.pc64 f n cap)) := by
  unfold span_Span_uint64_Pieces.f
  rw [if_pos hf]
  rfl
theorem pc32_yes (f : Int) (n : Nat) (cap : Int) (h : Cap cap) (hn : (n : Int) ≤ cap) (hf : 0 ≤ f ∧ f < 4294967296) : Pieces.pc32 f n cap = Pieces.pieces (· % cap) (posM 4294967296 f n) := by
  have hb := cap_bounds h
  unfold Pieces.pc32
  by_cases h1 : 1 ≤ n
  · rw [if_pos ⟨by omega, by omega, hn, right_yes h⟩]
    refine pieces_congr _ _ _ ?_
    intro x hx
    simp only [Pieces.poss32, List.mem_map] at hx
    obtain ⟨j, _, rfl⟩ := hx
    have := slot32_yes h ((f + (j : Int)) % 4294967296) (Int.emod_nonneg _ (by decide)) (Int.emod_lt_of_pos _ (by decide))
    unfold lap_Slot_uint32.f at this
    rw [right_yes h, Option.bind_some, if_pos rfl] at this
    exact Option.some.inj this
  · obtain rfl : n = 0 := by omega
    rw [if_neg (by omega)]
    rfl
theorem pc64_yes (f : Int) (n : Nat) (cap : Int) (h : Cap cap) (hn : (n : Int) ≤ cap) (hf : 0 ≤ f ∧ f < 18446744073709551616) : Pieces.pc64 f n cap = Pieces.pieces (· % cap) (posM 18446744073709551616 f n) := by
  have hb := cap_bounds h
  unfold Pieces.pc64
  by_cases h1 : 1 ≤ n
  · rw [if_pos ⟨by omega, by omega, hn, right_yes h⟩]
    refine pieces_congr _ _ _ ?_
    intro x hx
    simp only [Pieces.poss64, List.mem_map] at hx
    obtain ⟨j, _, rfl⟩ := hx
    have := slot64_yes h ((f + (j : Int)) % 18446744073709551616) (Int.emod_nonneg _ (by decide)) (Int.emod_lt_of_pos _ (by decide))
    unfold lap_Slot_uint64.f at this
    rw [right_yes h, Option.bind_some, if_pos rfl] at this
    have e := Option.some.inj this
    rw [wrap_u64] at e
    exact e
  · obtain rfl : n = 0 := by omega
    rw [if_neg (by omega)]
    rfl
theorem SpanPieces : sakialaw03_SpanPieces.Pure := by
  intro a0 a1 a2 w0 w1 w2
  simp only [Lit.wf, decide_eq_true_eq, Bool.and_eq_true, IntKind.min, IntKind.max, IntKind.signed, IntKind.bits] at w0 w1 w2
  refine ⟨1000, ?_⟩
  have hj0 : sakialaw03_SpanPieces.j0 1000 a0 a1 a2 true = some true := by
    simp only [sakialaw03_SpanPieces.j0]
    rw [if_pos trivial, live_true]
    rfl
  unfold sakialaw03_SpanPieces.f
  by_cases g0 : a0 > 256
  · rw [if_pos g0]; exact hj0
  rw [if_neg g0]
  by_cases g1 : a1 > 300
  · rw [if_pos g1]; exact hj0
  rw [if_neg g1]
  by_cases g2 : a1 < 0
  · rw [decide_eq_true g2]; exact hj0
  rw [decide_eq_false g2]
  clear hj0
  obtain ⟨n, rfl⟩ := Int.eq_ofNat_of_zero_le (show 0 ≤ a1 by omega)
  have hf32 : 0 ≤ a2 % 4294967296 ∧ a2 % 4294967296 < 4294967296 := ⟨Int.emod_nonneg _ (by decide), Int.emod_lt_of_pos _ (by decide)⟩
  have hf64 : 0 ≤ a2 ∧ a2 < 18446744073709551616 := by simp at w2; omega
  simp only [sakialaw03_SpanPieces.j0]
  rw [if_neg (by simp)]
  unfold sakialaw03_small.f sakialaw03_great.f wide_Of_uint32.f
  simp only [Option.bind_some]
  rw [p32 _ _ _ hf32, Option.bind_some, p64 _ _ _ hf64, Option.bind_some]
  obtain ⟨b, hb, hiff⟩ := right_ref a0
  rw [hb 999 (by omega), Option.bind_some]
  by_cases hc : Cap a0 ∧ (n : Int) ≤ a0
  · obtain ⟨hcap, hle⟩ := hc
    have hcb := cap_bounds hcap
    rw [hiff.2 hcap, if_pos rfl, decide_eq_false (by omega)]
    simp only [sakialaw03_SpanPieces.j1]
    rw [if_neg (by simp), cut32 a2 hf64.1, Option.bind_some, pc32_yes _ n a0 hcap hle hf32, pc64_yes _ n a0 hcap hle hf64]
    rw [refpieces 32 4294967296 _ a0 (by decide) plus32 (refslot hcap) n (by omega) 998 (by omega), Option.bind_some]
    rw [refpieces 64 18446744073709551616 _ a0 (by decide) plus64 (refslot hcap) n (by omega) 998 (by omega), Option.bind_some]
    have h2 := pieces_two 4294967296 (a2 % 4294967296) a0 ⟨hcb.1, by omega⟩ (cap_dvd32 hcap) n hle
    have h3 := pieces_two 18446744073709551616 a2 a0 ⟨hcb.1, by omega⟩ (cap_dvd64 hcap) n hle
    rw [if_pos rfl, if_pos rfl, if_neg (by rw [toS_len]; omega)]
    exact loop0 _ _ (by rw [toS_len]; exact h2) (by rw [toS_len]; exact h3) _ 998 0 (Nat.zero_add _) (by rw [toS_len]; omega)
  · have e32 : Pieces.pc32 (a2 % 4294967296) n a0 = [] := by
      unfold Pieces.pc32
      rw [if_neg]
      rintro ⟨_, _, h1, h2⟩
      by_cases hcap : Cap a0
      · exact hc ⟨hcap, h1⟩
      · rw [show Pieces.lap_Right.f a0 = some false from right_no hcap] at h2
        simp at h2
    have e64 : Pieces.pc64 a2 n a0 = [] := by
      unfold Pieces.pc64
      rw [if_neg]
      rintro ⟨_, _, h1, h2⟩
      by_cases hcap : Cap a0
      · exact hc ⟨hcap, h1⟩
      · rw [show Pieces.lap_Right.f a0 = some false from right_no hcap] at h2
        simp at h2
    rw [e32, e64]
    have hj1 : sakialaw03_SpanPieces.j1 999 a0 n a2 (toS []) (toS []) true = some true := by
      simp only [sakialaw03_SpanPieces.j1]
      rw [if_pos trivial, if_pos (by decide), if_pos (by decide), live_true]
      rfl
    by_cases hcap : Cap a0
    · rw [hiff.2 hcap, if_pos rfl, decide_eq_true (by have : ¬ (n : Int) ≤ a0 := fun h => hc ⟨hcap, h⟩; omega)]
      exact hj1
    · have : b = false := by
        cases b with
        | false => rfl
        | true => exact absurd (hiff.1 rfl) hcap
      rw [this, if_neg (by simp)]
      exact hj1


end Go.Proofs.Ytbgbhoidchdjmaa.Pure
