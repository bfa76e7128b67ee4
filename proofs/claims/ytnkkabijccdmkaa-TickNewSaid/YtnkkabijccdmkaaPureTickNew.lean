/- It is proved that the law TickNew of sakialaw08 answers true for every input: a new clock of so many threads knows nothing; which steps any clock knows is what the reference tells. Conditions: none. -/
import Derived.Test.YtnkkabijccdmkaaQTickNewx3
import Derived.Test.YtnkkabijccdmkaaWSized
namespace Go.Proofs.Ytnkkabijccdmkaa.PrintWords
/-- The row's word, under the name by which the row calls it. -/
theorem sized_ints {H : Type} {enc : TypeId × Value → H} {P : Program} {W : World} {base : Nat} {spare : Nat → Bool} {held : Bool} {t e : TypeId} {k : IntKind} {a : Option Addr} {len cap : Nat} {d : DataW H} {ps : List MemPlace} {ts : List TypeId} {ds : List (DataW H)} {j : Nat}
    (hsz : (DataW.weightsEach P ts ds).all (· ≤ reachBytes) = true) (ht : ts[j]? = some t) (hd : ds[j]? = some d) (hu : P.underlying t = some (.slice e)) (he : P.underlying e = some (.int k)) (hc : P.cellsOf e = 1) {B : Nat} (hB : P.bytesOf e = B)
    (h : DataW.Trod enc P W base spare held t (.slice a len cap) d ps) : len * B ≤ 140737488351232 :=
  Go.Proofs.YtnkkabijccdmkaaW.PrintWords.sized_ints hsz ht hd hu he hc hB h
end Go.Proofs.Ytnkkabijccdmkaa.PrintWords
namespace Go.Proofs.Ytnkkabijccdmkaa.Pure
open Go Go.RowKit Go.Proofs.Ytnkkabijccdmkaa.QTickNew Go.Proofs.YtnkkabijccdmkaaW.PrintWords Go.Proofs.YtnkkabijccdmkaaW.PrintLast Go.Proofs.YtnkkabijccdmkaaW.PrintMore
set_option linter.unusedVariables false
set_option linter.unusedSimpArgs false

/-! lists, by places -/
theorem rd_drop (a : List Int) (i : Nat) (h : i < a.length) : a.drop i = rd a (i : Int) :: a.drop (i + 1) := by
  rw [List.drop_eq_getElem_cons h]
  simp [rd, List.getD_eq_getElem?_getD, h]
theorem rd_get (a : List Int) (i : Nat) (h : i < a.length) : rd a (i : Int) = a[i] := by
  simp [rd, List.getD_eq_getElem?_getD, h]
theorem wrap_succ (i : Nat) (h : i < 9223372036854775807) : wrap64 ((i : Int) + 1) = ((i + 1 : Nat) : Int) := by
  unfold wrap64; omega

def okn (x : Int) : Bool := decide (0 ≤ x) && decide (x ≤ 1099511627776)
def right (c : List Int) : Bool := decide (0 < c.length) && decide (c.length ≤ 10) && c.all okn
def both (a b : List Int) : Bool := right a && right b && decide (a.length = b.length)
theorem okn_neg {x : Int} (h : x < 0) : okn x = false := by simp [okn]; omega
theorem okn_big {x : Int} (h : x > 1099511627776) : okn x = false := by simp [okn]; omega
theorem okn_yes {x : Int} (h : ¬ x < 0) (h' : ¬ x > 1099511627776) : okn x = true := by simp [okn]; omega

theorem refright_loop (c : List Int) (hc : c.length ≤ 100) (d : Nat) : ∀ (k i : Nat), i + d = c.length → d < k →
    sakiaref08_Right.l0 k c i = some (decide (0 < c.length) && decide (c.length ≤ 10) && (c.drop i).all okn) := by
  induction d with
  | zero =>
    intro k i hi hk
    obtain ⟨k, rfl⟩ : ∃ m, k = m + 1 := ⟨k - 1, by omega⟩
    simp only [sakiaref08_Right.l0]
    rw [if_neg (by omega), List.drop_of_length_le (by omega)]
    by_cases h : (c.length : Int) > 0
    · rw [if_pos h, decide_eq_true (show 0 < c.length by omega)]
      simp
      omega
    · rw [if_neg h, decide_eq_false (show ¬ 0 < c.length by omega)]
      simp
  | succ d ih =>
    intro k i hi hk
    obtain ⟨k, rfl⟩ : ∃ m, k = m + 1 := ⟨k - 1, by omega⟩
    simp only [sakiaref08_Right.l0]
    rw [if_pos (by omega), if_pos (by omega), rd_drop c i (by omega), List.all_cons]
    by_cases h1 : rd c i < 0
    · rw [if_pos h1, okn_neg h1]; simp
    · rw [if_neg h1]
      by_cases h2 : rd c i > 1099511627776
      · rw [if_pos h2, okn_big h2]; simp
      · rw [if_neg h2, okn_yes h1 h2, wrap_succ i (by omega), ih k (i + 1) (by omega) (by omega)]; simp
theorem refright (c : List Int) (hc : c.length ≤ 100) (k : Nat) (hk : 110 ≤ k) : sakiaref08_Right.f k c = some (right c) :=
  refright_loop c hc c.length k 0 (by omega) (by omega)

theorem right_loop (c : List Int) (hc : c.length ≤ 10) (d : Nat) : ∀ (k i : Nat), i + d = c.length → d < k →
    tick_Right.l0 k c c.length i = some ((c.drop i).all okn) := by
  induction d with
  | zero =>
    intro k i hi hk
    obtain ⟨k, rfl⟩ : ∃ m, k = m + 1 := ⟨k - 1, by omega⟩
    simp only [tick_Right.l0]
    rw [if_neg (by omega), List.drop_of_length_le (by omega)]
    rfl
  | succ d ih =>
    intro k i hi hk
    obtain ⟨k, rfl⟩ : ∃ m, k = m + 1 := ⟨k - 1, by omega⟩
    simp only [tick_Right.l0]
    rw [if_pos (by omega), if_pos (by omega), if_pos (by omega), rd_drop c i (by omega), List.all_cons]
    by_cases h1 : rd c i < 0
    · rw [if_pos h1, okn_neg h1]; simp
    · rw [if_neg h1]
      by_cases h2 : rd c i > 1099511627776
      · rw [if_pos h2, okn_big h2]; simp
      · rw [if_neg h2, okn_yes h1 h2, wrap_succ i (by omega), ih k (i + 1) (by omega) (by omega)]; simp
theorem tright (c : List Int) (k : Nat) (hk : 20 ≤ k) : tick_Right.f k c = some (right c) := by
  obtain ⟨k, rfl⟩ : ∃ m, k = m + 1 := ⟨k - 1, by omega⟩
  unfold tick_Right.f right
  by_cases h1 : (c.length : Int) < 1
  · rw [if_pos h1, decide_eq_false (show ¬ 0 < c.length by omega)]
    simp [tick_Right.j0]
  · rw [if_neg h1, decide_eq_true (show 0 < c.length by omega)]
    simp only [tick_Right.j0]
    by_cases h2 : c.length ≤ 10
    · rw [decide_eq_false (show ¬ (c.length : Int) > 10 by omega), if_neg (by decide), decide_eq_true h2]
      exact right_loop c h2 c.length k 0 (by omega) (by omega)
    · rw [decide_eq_true (show (c.length : Int) > 10 by omega), if_pos rfl, decide_eq_false h2]
      simp
theorem tboth (a b : List Int) (k : Nat) (hk : 20 ≤ k) : tick_both.f k a b = some (both a b) := by
  unfold tick_both.f both
  rw [tright a k hk, tright b k hk]
  simp only [Option.bind_some]
  by_cases h : a.length = b.length
  · rw [if_pos (by omega), decide_eq_true h]
    cases right a <;> simp
  · rw [if_neg (by omega), decide_eq_false h]
    simp
theorem right_len {c : List Int} (h : right c = true) : 0 < c.length ∧ c.length ≤ 10 := by
  simp only [right, Bool.and_eq_true, decide_eq_true_eq] at h
  exact h.1
theorem right_at {c : List Int} (h : right c = true) (i : Nat) (hi : i < c.length) : 0 ≤ rd c i ∧ rd c i ≤ 1099511627776 := by
  simp only [right, Bool.and_eq_true, decide_eq_true_eq, List.all_eq_true] at h
  have := h.2 _ (List.getElem_mem hi)
  rw [rd_get c i hi]
  simpa [okn] using this
theorem both_parts {a b : List Int} (h : both a b = true) : right a = true ∧ right b = true ∧ a.length = b.length := by
  simp only [both, Bool.and_eq_true, decide_eq_true_eq] at h
  exact ⟨h.1.1, h.1.2, h.2⟩
theorem both_mk {a b : List Int} (h1 : right a = true) (h2 : right b = true) (h3 : a.length = b.length) : both a b = true := by
  simp [both, h1, h2, h3]
theorem right_mk {c : List Int} (h0 : 0 < c.length) (h1 : c.length ≤ 10) (h : ∀ i : Nat, i < c.length → 0 ≤ rd c i ∧ rd c i ≤ 1099511627776) : right c = true := by
  simp only [right, Bool.and_eq_true, decide_eq_true_eq, List.all_eq_true]
  refine ⟨⟨h0, h1⟩, fun x hx => ?_⟩
  obtain ⟨i, hi, rfl⟩ := List.mem_iff_getElem.1 hx
  have := h i hi
  rw [rd_get c i hi] at this
  simp [okn, this]

/-! join -/
def joinZ (a b : List Int) : List Int := List.zipWith mx a b
def join (a b : List Int) : List Int := if both a b = true then joinZ a b else []
theorem joinZ_len {a b : List Int} (h : a.length = b.length) : (joinZ a b).length = a.length := by simp [joinZ]; omega
theorem joinZ_rd {a b : List Int} (h : a.length = b.length) (i : Nat) (hi : i < a.length) : rd (joinZ a b) i = mx (rd a i) (rd b i) := by
  rw [rd_get _ i (by rw [joinZ_len h]; exact hi), rd_get a i hi, rd_get b i (by omega)]
  simp [joinZ]
theorem set_fill (L : List Int) (i : Nat) (h : i < L.length) (z : Int) : (L.take i ++ List.replicate (L.length - i) z).set i (rd L i) = L.take (i + 1) ++ List.replicate (L.length - (i + 1)) z := by
  rw [rd_get L i h, List.set_append_right _ _ (by simp; omega)]
  have e : L.length - i = (L.length - (i + 1)) + 1 := by omega
  rw [e, List.replicate_succ]
  simp only [List.length_take, Nat.min_eq_left (Nat.le_of_lt h), Nat.sub_self, List.set_cons_zero]
  rw [List.take_succ_eq_append_getElem h, List.append_assoc]
  rfl
theorem join_loop (a b : List Int) (h : a.length = b.length) (hl : a.length ≤ 10) (d : Nat) : ∀ (k i : Nat), i + d = a.length → d < k →
    tick_Join.l0 k a b ((joinZ a b).take i ++ List.replicate (a.length - i) 0) a.length i = some (joinZ a b) := by
  induction d with
  | zero =>
    intro k i hi hk
    obtain ⟨k, rfl⟩ : ∃ m, k = m + 1 := ⟨k - 1, by omega⟩
    simp only [tick_Join.l0]
    rw [if_neg (by omega), List.take_of_length_le (by rw [joinZ_len h]; omega), show a.length - i = 0 by omega]
    simp
  | succ d ih =>
    intro k i hi hk
    obtain ⟨k, rfl⟩ : ∃ m, k = m + 1 := ⟨k - 1, by omega⟩
    have hz := joinZ_len h
    simp only [tick_Join.l0]
    rw [if_pos (by omega), if_pos (by omega), if_pos (by omega), if_pos (by omega), if_pos (by simp [hz]; omega)]
    rw [← joinZ_rd h i (by omega), Int.toNat_natCast]
    have := set_fill (joinZ a b) i (by omega) 0
    rw [hz] at this
    rw [this, wrap_succ i (by omega)]
    exact ih k (i + 1) (by omega) (by omega)
theorem tjoin (a b : List Int) (k : Nat) (hk : 20 ≤ k) : tick_Join.f k a b = some (join a b) := by
  unfold tick_Join.f join
  rw [tboth a b k hk]
  simp only [Option.bind_some]
  by_cases h : both a b = true
  · rw [if_pos h, if_pos h]
    obtain ⟨h1, h2, h3⟩ := both_parts h
    have hl := right_len h1
    rw [if_pos (by omega), Int.toNat_natCast, if_pos (by omega)]
    exact join_loop a b h3 hl.2 a.length k 0 (by omega) (by omega)
  · rw [if_neg h, if_neg h]

/-! two lists alike -/
theorem same_loop (a b : List Int) (h : a.length = b.length) (hl : a.length ≤ 100) (d : Nat) : ∀ (k i : Nat), i + d = a.length → d < k →
    sakiaref05_Same.l0 k a b i = some (decide (a.drop i = b.drop i)) := by
  induction d with
  | zero =>
    intro k i hi hk
    obtain ⟨k, rfl⟩ : ∃ m, k = m + 1 := ⟨k - 1, by omega⟩
    simp only [sakiaref05_Same.l0]
    rw [if_neg (by omega), List.drop_of_length_le (by omega), List.drop_of_length_le (by omega)]
    simp
  | succ d ih =>
    intro k i hi hk
    obtain ⟨k, rfl⟩ : ∃ m, k = m + 1 := ⟨k - 1, by omega⟩
    simp only [sakiaref05_Same.l0]
    rw [if_pos (by omega), if_pos (by omega), if_pos (by omega), rd_drop a i (by omega), rd_drop b i (by omega)]
    by_cases e : rd a i = rd b i
    · rw [if_pos e, wrap_succ i (by omega), ih k (i + 1) (by omega) (by omega)]
      simp [e]
    · rw [if_neg e]
      simp [e]
theorem same05 (a b : List Int) (hl : a.length ≤ 100) (k : Nat) (hk : 110 ≤ k) : sakiaref05_Same.f k a b = some (decide (a = b)) := by
  unfold sakiaref05_Same.f
  by_cases h : a.length = b.length
  · rw [if_pos (by omega)]
    exact same_loop a b h hl a.length k 0 (by omega) (by omega)
  · rw [if_neg (by omega), decide_eq_false (fun e => h (by rw [e]))]

/-! within -/
def leAll : List Int → List Int → Bool
  | x :: a, y :: b => decide (x ≤ y) && leAll a b
  | _, _ => true
def within (a b : List Int) : Bool := both a b && leAll a b
theorem leAll_iff (a : List Int) : ∀ b : List Int, a.length = b.length → (leAll a b = true ↔ ∀ i : Nat, i < a.length → rd a i ≤ rd b i) := by
  induction a with
  | nil => intro b h; cases b <;> simp [leAll] at h ⊢
  | cons x a ih =>
    intro b h
    cases b with
    | nil => simp at h
    | cons y b =>
      simp only [leAll, Bool.and_eq_true, decide_eq_true_eq, ih b (by simpa using h)]
      constructor
      · rintro ⟨h0, h1⟩ i hi
        rcases i with _ | i
        · simpa [rd] using h0
        · have := h1 i (by simpa using hi)
          simpa [rd] using this
      · intro h1
        refine ⟨by simpa [rd] using h1 0 (by simp), fun i hi => ?_⟩
        have := h1 (i + 1) (by simpa using hi)
        simpa [rd] using this
theorem within_iff {a b : List Int} : within a b = true ↔ both a b = true ∧ ∀ i : Nat, i < a.length → rd a i ≤ rd b i := by
  unfold within
  rw [Bool.and_eq_true]
  constructor
  · rintro ⟨h, h1⟩; exact ⟨h, (leAll_iff a b (both_parts h).2.2).1 h1⟩
  · rintro ⟨h, h1⟩; exact ⟨h, (leAll_iff a b (both_parts h).2.2).2 h1⟩
theorem within_loop (a b : List Int) (h : a.length = b.length) (hl : a.length ≤ 10) (d : Nat) : ∀ (k i : Nat), i + d = a.length → d < k →
    tick_Within.l0 k a b a.length i = some (leAll (a.drop i) (b.drop i)) := by
  induction d with
  | zero =>
    intro k i hi hk
    obtain ⟨k, rfl⟩ : ∃ m, k = m + 1 := ⟨k - 1, by omega⟩
    simp only [tick_Within.l0]
    rw [if_neg (by omega), List.drop_of_length_le (by omega)]
    simp [leAll]
  | succ d ih =>
    intro k i hi hk
    obtain ⟨k, rfl⟩ : ∃ m, k = m + 1 := ⟨k - 1, by omega⟩
    simp only [tick_Within.l0]
    rw [if_pos (by omega), if_pos (by omega), if_pos (by omega), if_pos (by omega), rd_drop a i (by omega), rd_drop b i (by omega)]
    by_cases e : rd a i > rd b i
    · rw [if_pos e]
      simp only [leAll]
      rw [decide_eq_false (by omega)]
      rfl
    · rw [if_neg e, wrap_succ i (by omega), ih k (i + 1) (by omega) (by omega)]
      simp only [leAll]
      rw [decide_eq_true (by omega)]
      rfl
theorem twithin (a b : List Int) (k : Nat) (hk : 20 ≤ k) : tick_Within.f k a b = some (within a b) := by
  unfold tick_Within.f within
  rw [tboth a b k hk]
  simp only [Option.bind_some]
  by_cases h : both a b = true
  · obtain ⟨h1, h2, h3⟩ := both_parts h
    have hl := right_len h1
    rw [if_pos h, h]
    exact within_loop a b h3 hl.2 a.length k 0 (by omega) (by omega)
  · rw [if_neg h, Bool.eq_false_iff.2 h]
    rfl
theorem both_comm (a b : List Int) : both a b = both b a := by
  unfold both
  by_cases h : a.length = b.length
  · simp [h, Bool.and_comm]
  · simp [h, Ne.symm h]
theorem tapart (a b : List Int) (k : Nat) (hk : 20 ≤ k) : tick_Apart.f k a b = some (both a b && !within a b && !within b a) := by
  unfold tick_Apart.f
  rw [tboth a b k hk, twithin a b k hk, twithin b a k hk]
  simp only [Option.bind_some]
  cases both a b <;> cases within a b <;> simp
theorem tlive (k : Nat) (hk : 110 ≤ k) : sakialaw08_live.f k = some true := by
  unfold sakialaw08_live.f
  rw [tjoin _ _ k (by omega), tapart _ _ k (by omega), show join [1, 4] [2, 0] = [2, 4] by decide]
  simp only [Option.bind_some]
  rw [same05 _ _ (by decide) k hk, show (both [1, 4] [2, 0] && !within [1, 4] [2, 0] && !within [2, 0] [1, 4]) = true by decide]
  rfl

/-! the sum -/
theorem sum_take (c : List Int) (i : Nat) (h : i < c.length) : (c.take (i + 1)).sum = (c.take i).sum + rd c i := by
  rw [List.take_succ_eq_append_getElem h, List.sum_append, rd_get c i h]
  simp
theorem sum_bound (c : List Int) (hr : ∀ i : Nat, i < c.length → 0 ≤ rd c i ∧ rd c i ≤ 1099511627776) (i : Nat) : i ≤ c.length → 0 ≤ (c.take i).sum ∧ (c.take i).sum ≤ 1099511627776 * i := by
  induction i with
  | zero => intro _; simp
  | succ i ih =>
    intro h
    have a := ih (by omega)
    have b := hr i (by omega)
    rw [sum_take c i (by omega)]
    omega
theorem tsum_loop (c : List Int) (hl : c.length ≤ 10) (hr : ∀ i : Nat, i < c.length → 0 ≤ rd c i ∧ rd c i ≤ 1099511627776) (d : Nat) : ∀ (k i : Nat), i + d = c.length → d < k →
    tick_Sum.l0 k (c.take i).sum c c.length i = some c.sum := by
  induction d with
  | zero =>
    intro k i hi hk
    obtain ⟨k, rfl⟩ : ∃ m, k = m + 1 := ⟨k - 1, by omega⟩
    simp only [tick_Sum.l0]
    rw [if_neg (by omega), List.take_of_length_le (by omega)]
  | succ d ih =>
    intro k i hi hk
    obtain ⟨k, rfl⟩ : ∃ m, k = m + 1 := ⟨k - 1, by omega⟩
    have b := sum_bound c hr (i + 1) (by omega)
    simp only [tick_Sum.l0]
    rw [if_pos (by omega), if_pos (by omega), if_pos (by omega), ← sum_take c i (by omega), wrap_succ i (by omega), show wrap64 (List.take (i + 1) c).sum = (List.take (i + 1) c).sum by unfold wrap64; omega]
    exact ih k (i + 1) (by omega) (by omega)
def sumC (c : List Int) : Int := if right c = true then c.sum else 0
theorem tsum (c : List Int) (k : Nat) (hk : 20 ≤ k) : tick_Sum.f k c = some (sumC c) := by
  unfold tick_Sum.f sumC
  rw [tright c k hk]
  simp only [Option.bind_some]
  by_cases h : right c = true
  · rw [if_pos h, if_pos h]
    have hl := right_len h
    exact tsum_loop c hl.2 (right_at h) c.length k 0 (by omega) (by omega)
  · rw [if_neg h, if_neg h]


theorem tknows (c : List Int) (i n : Int) (k : Nat) (hk : 20 ≤ k) : tick_Knows.f k c i n = some (right c && decide (0 ≤ i) && decide (i < (c.length : Int)) && decide (rd c i ≥ n)) := by
  unfold tick_Knows.f
  rw [tright c k hk, Option.bind_some]
  cases hr : right c
  · simp
  · rw [if_pos rfl]
    by_cases h0 : i ≥ 0
    · rw [if_pos h0]
      by_cases h1 : i < (c.length : Int)
      · rw [if_pos h1, if_pos (by omega), decide_eq_true (show 0 ≤ i by omega), decide_eq_true h1]
        simp
      · rw [if_neg h1, decide_eq_false h1]
        simp
    · rw [if_neg h0, decide_eq_false (show ¬ 0 ≤ i by omega)]
      simp
theorem right_zero (n : Nat) (h0 : 1 ≤ n) (h1 : n ≤ 10) : right (List.replicate n 0) = true := by
  refine right_mk (by simp; omega) (by simp; omega) fun i hi => ?_
  rw [rd_get _ i hi]
  simp
theorem rd_zero (n : Nat) (i : Int) : rd (List.replicate n 0) i = 0 := by
  unfold rd
  rw [List.getD_eq_getElem?_getD, List.getElem?_replicate]
  split <;> rfl
theorem TickNew : sakialaw08_TickNew.Pure := by
  intro n c i m hn hc1 hc2 hcw hi hm
  simp only [Lit.wf, decide_eq_true_eq, Bool.and_eq_true, IntKind.min, IntKind.max, IntKind.signed, IntKind.bits] at hn
  simp at hn
  obtain ⟨K, hK⟩ : ∃ K : Nat, 400 ≤ K := ⟨400, by omega⟩
  refine ⟨K + 3, ?_⟩
  unfold sakialaw08_TickNew.f
  by_cases hl : (c.length : Int) > 100
  · rw [if_pos hl, tlive _ (by omega)]
    rfl
  · rw [if_neg hl]
    -- the second half
    have half : sakialaw08_TickNew.j1 (K + 2) c i m = some true := by
      simp only [sakialaw08_TickNew.j1]
      rw [refright c (by omega) _ (by omega), Option.bind_some]
      have no : (right c && decide (0 ≤ i) && decide (i < (c.length : Int))) = false → sakialaw08_TickNew.j2 (K + 1) c i m false false = some true := by
        intro h
        simp only [sakialaw08_TickNew.j2]
        rw [if_neg (by decide), tknows c i m _ (by omega), Option.bind_some, h]
        rw [if_pos (by rfl), tlive _ (by omega)]
        rfl
      cases hr : right c
      · rw [if_neg (by decide)]
        exact no (by rw [hr]; rfl)
      · rw [if_pos rfl]
        by_cases h0 : i ≥ 0
        · rw [if_pos h0]
          by_cases h1 : i < (c.length : Int)
          · rw [decide_eq_true h1]
            simp only [sakialaw08_TickNew.j2]
            rw [if_pos trivial, if_pos h0, if_pos h1, tknows c i m _ (by omega), Option.bind_some, hr, decide_eq_true (show 0 ≤ i by omega), decide_eq_true h1]
            rw [if_pos (by simp), tlive _ (by omega)]
            rfl
          · rw [decide_eq_false h1]
            exact no (by rw [decide_eq_false h1]; simp)
        · rw [if_neg h0]
          exact no (by rw [decide_eq_false (show ¬ 0 ≤ i by omega)]; simp)
    unfold tick_New.f
    by_cases h1 : n < 1
    · rw [if_pos h1, Option.bind_some, if_pos h1]
      simp only [sakialaw08_TickNew.j0]
      rw [if_pos trivial, if_pos (by rfl)]
      exact half
    · rw [if_neg h1]
      by_cases h2 : n > 10
      · rw [if_pos h2, Option.bind_some, if_neg h1, decide_eq_true h2]
        simp only [sakialaw08_TickNew.j0]
        rw [if_pos trivial, if_pos (by rfl)]
        exact half
      · obtain ⟨N, rfl⟩ := Int.eq_ofNat_of_zero_le (show 0 ≤ n by omega)
        have hz := right_zero N (by omega) (by omega)
        have hs : sumC (List.replicate N 0) = 0 := by
          unfold sumC
          rw [if_pos hz]
          simp
        rw [if_neg h2, if_pos (by omega), Int.toNat_natCast, if_pos (by omega), Option.bind_some, if_neg h1, decide_eq_false h2]
        simp only [sakialaw08_TickNew.j0]
        rw [if_neg (by decide), if_pos (by simp), tsum _ _ (by omega), Option.bind_some, if_pos hs, tright _ _ (by omega), Option.bind_some, if_pos hz]
        rw [show wrap64 ((N : Int) - 1) = (N : Int) - 1 by unfold wrap64; omega, tknows _ _ _ _ (by omega), Option.bind_some, hz, rd_zero, decide_eq_true (show 0 ≤ (N : Int) - 1 by omega), decide_eq_true (show (N : Int) - 1 < ((List.replicate N (0 : Int)).length : Int) by simp; omega), if_pos (by decide)]
        rw [tknows _ _ _ _ (by omega), Option.bind_some, hz, rd_zero, if_neg (by simp)]
        exact half


end Go.Proofs.Ytnkkabijccdmkaa.Pure
