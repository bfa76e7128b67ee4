/- It is proved that the law TickTells of sakialaw08 answers true for every input: which numbers are a clock, what comes of a tick of any thread and of a join, and how any two stand to each other, are what the reference tells. Conditions: none. -/
import Derived.Test.YtnkkabijccdmkaaPTickTellsx4
import Derived.Test.YtnkkabijccdmkaaWSized
namespace Go.Proofs.Ytnkkabijccdmkaa.PrintWords
/-- The row's word, under the name by which the row calls it. -/
theorem sized_ints {H : Type} {enc : TypeId × Value → H} {P : Program} {W : World} {base : Nat} {spare : Nat → Bool} {held : Bool} {t e : TypeId} {k : IntKind} {a : Option Addr} {len cap : Nat} {d : DataW H} {ps : List MemPlace} {ts : List TypeId} {ds : List (DataW H)} {j : Nat}
    (hsz : (DataW.weightsEach P ts ds).all (· ≤ reachBytes) = true) (ht : ts[j]? = some t) (hd : ds[j]? = some d) (hu : P.underlying t = some (.slice e)) (he : P.underlying e = some (.int k)) (hc : P.cellsOf e = 1) {B : Nat} (hB : P.bytesOf e = B)
    (h : DataW.Trod enc P W base spare held t (.slice a len cap) d ps) : len * B ≤ 140737488351232 :=
  Go.Proofs.YtnkkabijccdmkaaW.PrintWords.sized_ints hsz ht hd hu he hc hB h
end Go.Proofs.Ytnkkabijccdmkaa.PrintWords
namespace Go.Proofs.Ytnkkabijccdmkaa.Pure
open Go Go.RowKit Go.Proofs.Ytnkkabijccdmkaa.PTickTells Go.Proofs.YtnkkabijccdmkaaW.PrintWords Go.Proofs.YtnkkabijccdmkaaW.PrintLast Go.Proofs.YtnkkabijccdmkaaW.PrintMore
set_option linter.unusedVariables false
set_option linter.unusedSimpArgs false

/-! lists, by places -/
theorem rd_drop (a : List Int) (i : Nat) (h : i < a.length) : a.drop i = rd a (i : Int) :: a.drop (i + 1) := by
  rw [List.drop_eq_getElem_cons h]
  simp [rd, List.getD_eq_getElem?_getD, h]
theorem rd_get (a : List Int) (i : Nat) (h : i < a.length) : rd a (i : Int) = a[i] := by
  simp [rd, List.getD_eq_getElem?_getD, h]
theorem wrap_succ (i : Nat) (h : i < 9223372036854775807) : wrap64 ((i : Int) + 1) = ((i + 1 : Nat) : Int) := by
  unfold wrap64; omega

def okn (x : Int) : Bool := decide (0 ≤ x) && decide (x ≤ 1099511627776)
def right (c : List Int) : Bool := decide (0 < c.length) && decide (c.length ≤ 10) && c.all okn
def both (a b : List Int) : Bool := right a && right b && decide (a.length = b.length)
theorem okn_neg {x : Int} (h : x < 0) : okn x = false := by simp [okn]; omega
theorem okn_big {x : Int} (h : x > 1099511627776) : okn x = false := by simp [okn]; omega
theorem okn_yes {x : Int} (h : ¬ x < 0) (h' : ¬ x > 1099511627776) : okn x = true := by simp [okn]; omega

theorem refright_loop (c : List Int) (hc : c.length ≤ 100) (d : Nat) : ∀ (k i : Nat), i + d = c.length → d < k →
    sakiaref08_Right.l0 k c i = some (decide (0 < c.length) && decide (c.length ≤ 10) && (c.drop i).all okn) := by
  induction d with
  | zero =>
    intro k i hi hk
    obtain ⟨k, rfl⟩ : ∃ m, k = m + 1 := ⟨k - 1, by omega⟩
    simp only [sakiaref08_Right.l0]
    rw [if_neg (by omega), List.drop_of_length_le (by omega)]
    by_cases h : (c.length : Int) > 0
    · rw [if_pos h, decide_eq_true (show 0 < c.length by omega)]
      simp
      omega
    · rw [if_neg h, decide_eq_false (show ¬ 0 < c.length by omega)]
      simp
  | succ d ih =>
    intro k i hi hk
    obtain ⟨k, rfl⟩ : ∃ m, k = m + 1 := ⟨k - 1, by omega⟩
    simp only [sakiaref08_Right.l0]
    rw [if_pos (by omega), if_pos (by omega), rd_drop c i (by omega), List.all_cons]
    by_cases h1 : rd c i < 0
    · rw [if_pos h1, okn_neg h1]; simp
    · rw [if_neg h1]
      by_cases h2 : rd c i > 1099511627776
      · rw [if_pos h2, okn_big h2]; simp
      · rw [if_neg h2, okn_yes h1 h2, wrap_succ i (by omega), ih k (i + 1) (by omega) (by omega)]; simp
theorem refright (c : List Int) (hc : c.length ≤ 100) (k : Nat) (hk : 110 ≤ k) : sakiaref08_Right.f k c = some (right c) :=
  refright_loop c hc c.length k 0 (by omega) (by omega)

theorem right_loop (c : List Int) (hc : c.length ≤ 10) (d : Nat) : ∀ (k i : Nat), i + d = c.length → d < k →
    tick_Right.l0 k c c.length i = some ((c.drop i).all okn) := by
  induction d with
  | zero =>
    intro k i hi hk
    obtain ⟨k, rfl⟩ : ∃ m, k = m + 1 := ⟨k - 1, by omega⟩
    simp only [tick_Right.l0]
    rw [if_neg (by omega), List.drop_of_length_le (by omega)]
    rfl
  | succ d ih =>
    intro k i hi hk
    obtain ⟨k, rfl⟩ : ∃ m, k = m + 1 := ⟨k - 1, by omega⟩
    simp only [tick_Right.l0]
    rw [if_pos (by omega), if_pos (by omega), if_pos (by omega), rd_drop c i (by omega), List.all_cons]
    by_cases h1 : rd c i < 0
    · rw [if_pos h1, okn_neg h1]; simp
    · rw [if_neg h1]
      by_cases h2 : rd c i > 1099511627776
      · rw [if_pos h2, okn_big h2]; simp
      · rw [if_neg h2, okn_yes h1 h2, wrap_succ i (by omega), ih k (i + 1) (by omega) (by omega)]; simp
theorem tright (c : List Int) (k : Nat) (hk : 20 ≤ k) : tick_Right.f k c = some (right c) := by
  obtain ⟨k, rfl⟩ : ∃ m, k = m + 1 := ⟨k - 1, by omega⟩
  unfold tick_Right.f right
  by_cases h1 : (c.length : Int) < 1
  · rw [if_pos h1, decide_eq_false (show ¬ 0 < c.length by omega)]
    simp [tick_Right.j0]
  · rw [if_neg h1, decide_eq_true (show 0 < c.length by omega)]
    simp only [tick_Right.j0]
    by_cases h2 : c.length ≤ 10
    · rw [decide_eq_false (show ¬ (c.length : Int) > 10 by omega), if_neg (by decide), decide_eq_true h2]
      exact right_loop c h2 c.length k 0 (by omega) (by omega)
    · rw [decide_eq_true (show (c.length : Int) > 10 by omega), if_pos rfl, decide_eq_false h2]
      simp
theorem tboth (a b : List Int) (k : Nat) (hk : 20 ≤ k) : tick_both.f k a b = some (both a b) := by
  unfold tick_both.f both
  rw [tright a k hk, tright b k hk]
  simp only [Option.bind_some]
  by_cases h : a.length = b.length
  · rw [if_pos (by omega), decide_eq_true h]
    cases right a <;> simp
  · rw [if_neg (by omega), decide_eq_false h]
    simp
theorem right_len {c : List Int} (h : right c = true) : 0 < c.length ∧ c.length ≤ 10 := by
  simp only [right, Bool.and_eq_true, decide_eq_true_eq] at h
  exact h.1
theorem right_at {c : List Int} (h : right c = true) (i : Nat) (hi : i < c.length) : 0 ≤ rd c i ∧ rd c i ≤ 1099511627776 := by
  simp only [right, Bool.and_eq_true, decide_eq_true_eq, List.all_eq_true] at h
  have := h.2 _ (List.getElem_mem hi)
  rw [rd_get c i hi]
  simpa [okn] using this
theorem both_parts {a b : List Int} (h : both a b = true) : right a = true ∧ right b = true ∧ a.length = b.length := by
  simp only [both, Bool.and_eq_true, decide_eq_true_eq] at h
  exact ⟨h.1.1, h.1.2, h.2⟩
theorem both_mk {a b : List Int} (h1 : right a = true) (h2 : right b = true) (h3 : a.length = b.length) : both a b = true := by
  simp [both, h1, h2, h3]
theorem right_mk {c : List Int} (h0 : 0 < c.length) (h1 : c.length ≤ 10) (h : ∀ i : Nat, i < c.length → 0 ≤ rd c i ∧ rd c i ≤ 1099511627776) : right c = true := by
  simp only [right, Bool.and_eq_true, decide_eq_true_eq, List.all_eq_true]
  refine ⟨⟨h0, h1⟩, fun x hx => ?_⟩
  obtain ⟨i, hi, rfl⟩ := List.mem_iff_getElem.1 hx
  have := h i hi
  rw [rd_get c i hi] at this
  simp [okn, this]

/-! join -/
def joinZ (a b : List Int) : List Int := List.zipWith mx a b
def join (a b : List Int) : List Int := if both a b = true then joinZ a b else []
theorem joinZ_len {a b : List Int} (h : a.length = b.length) : (joinZ a b).length = a.length := by simp [joinZ]; omega
theorem joinZ_rd {a b : List Int} (h : a.length = b.length) (i : Nat) (hi : i < a.length) : rd (joinZ a b) i = mx (rd a i) (rd b i) := by
  rw [rd_get _ i (by rw [joinZ_len h]; exact hi), rd_get a i hi, rd_get b i (by omega)]
  simp [joinZ]
theorem set_fill (L : List Int) (i : Nat) (h : i < L.length) (z : Int) : (L.take i ++ List.replicate (L.length - i) z).set i (rd L i) = L.take (i + 1) ++ List.replicate (L.length - (i + 1)) z := by
  rw [rd_get L i h, List.set_append_right _ _ (by simp; omega)]
  have e : L.length - i = (L.length - (i + 1)) + 1 := by omega
  rw [e, List.replicate_succ]
  simp only [List.length_take, Nat.min_eq_left (Nat.le_of_lt h), Nat.sub_self, List.set_cons_zero]
  rw [List.take_succ_eq_append_getElem h, List.append_assoc]
  rfl
theorem join_loop (a b : List Int) (h : a.length = b.length) (hl : a.length ≤ 10) (d : Nat) : ∀ (k i : Nat), i + d = a.length → d < k →
    tick_Join.l0 k a b ((joinZ a b).take i ++ List.replicate (a.length - i) 0) a.length i = some (joinZ a b) := by
  induction d with
  | zero =>
    intro k i hi hk
    obtain ⟨k, rfl⟩ : ∃ m, k = m + 1 := ⟨k - 1, by omega⟩
    simp only [tick_Join.l0]
    rw [if_neg (by omega), List.take_of_length_le (by rw [joinZ_len h]; omega), show a.length - i = 0 by omega]
    simp
  | succ d ih =>
    intro k i hi hk
    obtain ⟨k, rfl⟩ : ∃ m, k = m + 1 := ⟨k - 1, by omega⟩
    have hz := joinZ_len h
    simp only [tick_Join.l0]
    rw [if_pos (by omega), if_pos (by omega), if_pos (by omega), if_pos (by omega), if_pos (by simp [hz]; omega)]
    rw [← joinZ_rd h i (by omega), Int.toNat_natCast]
    have := set_fill (joinZ a b) i (by omega) 0
    rw [hz] at this
    rw [this, wrap_succ i (by omega)]
    exact ih k (i + 1) (by omega) (by omega)
theorem tjoin (a b : List Int) (k : Nat) (hk : 20 ≤ k) : tick_Join.f k a b = some (join a b) := by
  unfold tick_Join.f join
  rw [tboth a b k hk]
  simp only [Option.bind_some]
  by_cases h : both a b = true
  · rw [if_pos h, if_pos h]
    obtain ⟨h1, h2, h3⟩ := both_parts h
    have hl := right_len h1
    rw [if_pos (by omega), Int.toNat_natCast, if_pos (by omega)]
    exact join_loop a b h3 hl.2 a.length k 0 (by omega) (by omega)
  · rw [if_neg h, if_neg h]

/-! two lists alike -/
theorem same_loop (a b : List Int) (h : a.length = b.length) (hl : a.length ≤ 100) (d : Nat) : ∀ (k i : Nat), i + d = a.length → d < k →
    sakiaref05_Same.l0 k a b i = some (decide (a.drop i = b.drop i)) := by
  induction d with
  | zero =>
    intro k i hi hk
    obtain ⟨k, rfl⟩ : ∃ m, k = m + 1 := ⟨k - 1, by omega⟩
    simp only [sakiaref05_Same.l0]
    rw [if_neg (by omega), List.drop_of_length_le (by omega), List.drop_of_length_le (by omega)]
    simp
  | succ d ih =>
    intro k i hi hk
    obtain ⟨k, rfl⟩ : ∃ m, k = m + 1 := ⟨k - 1, by omega⟩
    simp only [sakiaref05_Same.l0]
    rw [if_pos (by omega), if_pos (by omega), if_pos (by omega), rd_drop a i (by omega), rd_drop b i (by omega)]
    by_cases e : rd a i = rd b i
    · rw [if_pos e, wrap_succ i (by omega), ih k (i + 1) (by omega) (by omega)]
      simp [e]
    · rw [if_neg e]
      simp [e]
theorem same05 (a b : List Int) (hl : a.length ≤ 100) (k : Nat) (hk : 110 ≤ k) : sakiaref05_Same.f k a b = some (decide (a = b)) := by
  unfold sakiaref05_Same.f
  by_cases h : a.length = b.length
  · rw [if_pos (by omega)]
    exact same_loop a b h hl a.length k 0 (by omega) (by omega)
  · rw [if_neg (by omega), decide_eq_false (fun e => h (by rw [e]))]

/-! within -/
def leAll : List Int → List Int → Bool
  | x :: a, y :: b => decide (x ≤ y) && leAll a b
  | _, _ => true
def within (a b : List Int) : Bool := both a b && leAll a b
theorem leAll_iff (a : List Int) : ∀ b : List Int, a.length = b.length → (leAll a b = true ↔ ∀ i : Nat, i < a.length → rd a i ≤ rd b i) := by
  induction a with
  | nil => intro b h; cases b <;> simp [leAll] at h ⊢
  | cons x a ih =>
    intro b h
    cases b with
    | nil => simp at h
    | cons y b =>
      simp only [leAll, Bool.and_eq_true, decide_eq_true_eq, ih b (by simpa using h)]
      constructor
      · rintro ⟨h0, h1⟩ i hi
        rcases i with _ | i
        · simpa [rd] using h0
        · have := h1 i (by simpa using hi)
          simpa [rd] using this
      · intro h1
        refine ⟨by simpa [rd] using h1 0 (by simp), fun i hi => ?_⟩
        have := h1 (i + 1) (by simpa using hi)
        simpa [rd] using this
theorem within_iff {a b : List Int} : within a b = true ↔ both a b = true ∧ ∀ i : Nat, i < a.length → rd a i ≤ rd b i := by
  unfold within
  rw [Bool.and_eq_true]
  constructor
  · rintro ⟨h, h1⟩; exact ⟨h, (leAll_iff a b (both_parts h).2.2).1 h1⟩
  · rintro ⟨h, h1⟩; exact ⟨h, (leAll_iff a b (both_parts h).2.2).2 h1⟩
theorem within_loop (a b : List Int) (h : a.length = b.length) (hl : a.length ≤ 10) (d : Nat) : ∀ (k i : Nat), i + d = a.length → d < k →
    tick_Within.l0 k a b a.length i = some (leAll (a.drop i) (b.drop i)) := by
  induction d with
  | zero =>
    intro k i hi hk
    obtain ⟨k, rfl⟩ : ∃ m, k = m + 1 := ⟨k - 1, by omega⟩
    simp only [tick_Within.l0]
    rw [if_neg (by omega), List.drop_of_length_le (by omega)]
    simp [leAll]
  | succ d ih =>
    intro k i hi hk
    obtain ⟨k, rfl⟩ : ∃ m, k = m + 1 := ⟨k - 1, by omega⟩
    simp only [tick_Within.l0]
    rw [if_pos (by omega), if_pos (by omega), if_pos (by omega), if_pos (by omega), rd_drop a i (by omega), rd_drop b i (by omega)]
    by_cases e : rd a i > rd b i
    · rw [if_pos e]
      simp only [leAll]
      rw [decide_eq_false (by omega)]
      rfl
    · rw [if_neg e, wrap_succ i (by omega), ih k (i + 1) (by omega) (by omega)]
      simp only [leAll]
      rw [decide_eq_true (by omega)]
      rfl
theorem twithin (a b : List Int) (k : Nat) (hk : 20 ≤ k) : tick_Within.f k a b = some (within a b) := by
  unfold tick_Within.f within
  rw [tboth a b k hk]
  simp only [Option.bind_some]
  by_cases h : both a b = true
  · obtain ⟨h1, h2, h3⟩ := both_parts h
    have hl := right_len h1
    rw [if_pos h, h]
    exact within_loop a b h3 hl.2 a.length k 0 (by omega) (by omega)
  · rw [if_neg h, Bool.eq_false_iff.2 h]
    rfl
theorem both_comm (a b : List Int) : both a b = both b a := by
  unfold both
  by_cases h : a.length = b.length
  · simp [h, Bool.and_comm]
  · simp [h, Ne.symm h]
theorem tapart (a b : List Int) (k : Nat) (hk : 20 ≤ k) : tick_Apart.f k a b = some (both a b && !within a b && !within b a) := by
  unfold tick_Apart.f
  rw [tboth a b k hk, twithin a b k hk, twithin b a k hk]
  simp only [Option.bind_some]
  cases both a b <;> cases within a b <;> simp
theorem tlive (k : Nat) (hk : 110 ≤ k) : sakialaw08_live.f k = some true := by
  unfold sakialaw08_live.f
  rw [tjoin _ _ k (by omega), tapart _ _ k (by omega), show join [1, 4] [2, 0] = [2, 4] by decide]
  simp only [Option.bind_some]
  rw [same05 _ _ (by decide) k hk, show (both [1, 4] [2, 0] && !within [1, 4] [2, 0] && !within [2, 0] [1, 4]) = true by decide]
  rfl

theorem tsame (a b : List Int) (k : Nat) (hk : 20 ≤ k) : tick_Same.f k a b = some (within a b && within b a) := by
  unfold tick_Same.f
  rw [twithin a b k hk, twithin b a k hk]
  simp only [Option.bind_some]
  cases within a b <;> simp
theorem refboth (a b : List Int) (ha : a.length ≤ 100) (hb : b.length ≤ 100) (k : Nat) (hk : 110 ≤ k) : sakiaref08_Both.f k a b = some (both a b) := by
  unfold sakiaref08_Both.f both
  rw [refright a ha k hk, refright b hb k hk]
  simp only [Option.bind_some]
  have e : ((a.length : Int) == (b.length : Int)) = decide (a.length = b.length) := by
    by_cases h : a.length = b.length
    · simp [h]
    · rw [decide_eq_false h, beq_eq_false_iff_ne]; omega
  rw [e]
  cases right a <;> cases right b <;> simp

/-! the sum -/
theorem sum_take (c : List Int) (i : Nat) (h : i < c.length) : (c.take (i + 1)).sum = (c.take i).sum + rd c i := by
  rw [List.take_succ_eq_append_getElem h, List.sum_append, rd_get c i h]
  simp
theorem sum_bound (c : List Int) (hr : ∀ i : Nat, i < c.length → 0 ≤ rd c i ∧ rd c i ≤ 1099511627776) (i : Nat) : i ≤ c.length → 0 ≤ (c.take i).sum ∧ (c.take i).sum ≤ 1099511627776 * i := by
  induction i with
  | zero => intro _; simp
  | succ i ih =>
    intro h
    have a := ih (by omega)
    have b := hr i (by omega)
    rw [sum_take c i (by omega)]
    omega
theorem tsum_loop (c : List Int) (hl : c.length ≤ 10) (hr : ∀ i : Nat, i < c.length → 0 ≤ rd c i ∧ rd c i ≤ 1099511627776) (d : Nat) : ∀ (k i : Nat), i + d = c.length → d < k →
    tick_Sum.l0 k (c.take i).sum c c.length i = some c.sum := by
  induction d with
  | zero =>
    intro k i hi hk
    obtain ⟨k, rfl⟩ : ∃ m, k = m + 1 := ⟨k - 1, by omega⟩
    simp only [tick_Sum.l0]
    rw [if_neg (by omega), List.take_of_length_le (by omega)]
  | succ d ih =>
    intro k i hi hk
    obtain ⟨k, rfl⟩ : ∃ m, k = m + 1 := ⟨k - 1, by omega⟩
    have b := sum_bound c hr (i + 1) (by omega)
    simp only [tick_Sum.l0]
    rw [if_pos (by omega), if_pos (by omega), if_pos (by omega), ← sum_take c i (by omega), wrap_succ i (by omega), show wrap64 (List.take (i + 1) c).sum = (List.take (i + 1) c).sum by unfold wrap64; omega]
    exact ih k (i + 1) (by omega) (by omega)
def sumC (c : List Int) : Int := if right c = true then c.sum else 0
theorem tsum (c : List Int) (k : Nat) (hk : 20 ≤ k) : tick_Sum.f k c = some (sumC c) := by
  unfold tick_Sum.f sumC
  rw [tright c k hk]
  simp only [Option.bind_some]
  by_cases h : right c = true
  · rw [if_pos h, if_pos h]
    have hl := right_len h
    exact tsum_loop c hl.2 (right_at h) c.length k 0 (by omega) (by omega)
  · rw [if_neg h, if_neg h]

/-! a step more -/
def tick (c : List Int) (i : Int) : List Int := if right c = true ∧ 0 ≤ i ∧ i < c.length ∧ ¬ rd c i = 1099511627776 then c.set i.toNat (rd c i + 1) else []
theorem ttick (c : List Int) (i : Int) (k : Nat) (hk : 20 ≤ k) : tick_Tick.f k c i = some (tick c i) := by
  unfold tick_Tick.f tick
  rw [tright c k hk]
  simp only [Option.bind_some]
  by_cases h : right c = true
  · rw [if_pos h]
    have hl := right_len h
    by_cases h0 : i < 0
    · rw [if_pos h0, if_neg (by omega)]
    · rw [if_neg h0]
      by_cases h1 : i ≥ (c.length : Int)
      · rw [if_pos h1, if_neg (by omega)]
      · rw [if_neg h1, if_pos (by omega), if_pos (by omega)]
        by_cases h2 : rd c i = 1099511627776
        · rw [if_pos h2, if_neg (by simp [h2])]
        · have e := right_at h i.toNat (by omega)
          rw [Int.toNat_of_nonneg (by omega)] at e
          have hm : right c = true ∧ 0 ≤ i ∧ i < (c.length : Int) ∧ ¬ rd c i = 1099511627776 := ⟨h, by omega, by omega, h2⟩
          rw [if_neg h2, if_pos hm]
          simp only [List.nil_append, List.length_nil, Option.bind_some]
          rw [if_pos (by omega), if_pos (by omega), show wrap64 (rd c i + 1) = rd c i + 1 by unfold wrap64; omega]
  · rw [if_neg h, if_neg (by simp [h])]

theorem refwithin_loop (a b : List Int) (h : a.length = b.length) (hl : a.length ≤ 10) (d : Nat) : ∀ (k i n : Nat), i + d = a.length → d < k → n ≤ i →
    sakiaref08_Within.l0 k a b n i = some (decide (n = i) && leAll (a.drop i) (b.drop i)) := by
  induction d with
  | zero =>
    intro k i n hi hk hn
    obtain ⟨k, rfl⟩ : ∃ m, k = m + 1 := ⟨k - 1, by omega⟩
    simp only [sakiaref08_Within.l0]
    rw [if_neg (by omega), List.drop_of_length_le (by omega)]
    have e : ((n : Int) == (a.length : Int)) = decide (n = i) := by
      by_cases h : n = i
      · rw [decide_eq_true h, beq_iff_eq]; omega
      · rw [decide_eq_false h, beq_eq_false_iff_ne]; omega
    rw [e]
    simp [leAll]
  | succ d ih =>
    intro k i n hi hk hn
    obtain ⟨k, rfl⟩ : ∃ m, k = m + 1 := ⟨k - 1, by omega⟩
    simp only [sakiaref08_Within.l0]
    rw [if_pos (by omega), if_pos (by omega), if_pos (by omega), rd_drop a i (by omega), rd_drop b i (by omega)]
    by_cases e : rd a i ≤ rd b i
    · rw [if_pos e, wrap_succ i (by omega), wrap_succ n (by omega), ih k (i + 1) (n + 1) (by omega) (by omega) (by omega)]
      simp only [leAll]
      rw [decide_eq_true e]
      simp
    · rw [if_neg e, wrap_succ i (by omega), ih k (i + 1) n (by omega) (by omega) (by omega)]
      simp only [leAll]
      rw [decide_eq_false e, decide_eq_false (show ¬ n = i + 1 by omega)]
      simp
theorem refwithin (a b : List Int) (ha : a.length ≤ 100) (hb : b.length ≤ 100) (k : Nat) (hk : 110 ≤ k) : sakiaref08_Within.f k a b = some (within a b) := by
  unfold sakiaref08_Within.f within
  rw [refboth a b ha hb k hk]
  simp only [Option.bind_some]
  by_cases h : both a b = true
  · obtain ⟨h1, h2, h3⟩ := both_parts h
    have hl := right_len h1
    rw [if_pos h, h]
    have := refwithin_loop a b h3 hl.2 a.length k 0 0 (by omega) (by omega) (by omega)
    simpa using this
  · rw [if_neg h, Bool.eq_false_iff.2 h]
    rfl

theorem refsum_loop (c : List Int) (h : right c = true) (d : Nat) : ∀ (k i : Nat), i + d = c.length → d + 120 < k →
    sakiaref08_Sum.l0 k c (c.take i).sum i = some c.sum := by
  have hl := right_len h
  have hr := right_at h
  induction d with
  | zero =>
    intro k i hi hk
    obtain ⟨k, rfl⟩ : ∃ m, k = m + 1 := ⟨k - 1, by omega⟩
    simp only [sakiaref08_Sum.l0]
    rw [if_neg (by omega), List.take_of_length_le (by omega)]
  | succ d ih =>
    intro k i hi hk
    obtain ⟨k, rfl⟩ : ∃ m, k = m + 1 := ⟨k - 1, by omega⟩
    have b := sum_bound c hr (i + 1) (by omega)
    simp only [sakiaref08_Sum.l0]
    rw [if_pos (by omega), refright c (by omega) _ (by omega), h]
    simp only [Option.bind_some]
    rw [if_pos trivial, if_pos (by omega), ← sum_take c i (by omega), wrap_succ i (by omega), show wrap64 (List.take (i + 1) c).sum = (List.take (i + 1) c).sum by unfold wrap64; omega]
    exact ih k (i + 1) (by omega) (by omega)
theorem refsum (c : List Int) (hc : c.length ≤ 100) (k : Nat) (hk : 300 ≤ k) : sakiaref08_Sum.f k c = some (sumC c) := by
  unfold sakiaref08_Sum.f sumC
  by_cases h : right c = true
  · rw [if_pos h]
    exact refsum_loop c h c.length k 0 (by omega) (by omega)
  · rw [if_neg h]
    obtain ⟨k, rfl⟩ : ∃ m, k = m + 1 := ⟨k - 1, by omega⟩
    simp only [sakiaref08_Sum.l0]
    rw [refright c hc _ (by omega), Bool.eq_false_iff.2 h]
    simp

theorem refjoin_loop (a b : List Int) (h : both a b = true) (d : Nat) : ∀ (k i : Nat), i + d = a.length → 2 * d + 120 < k →
    sakiaref08_Join.l0 k a b ((joinZ a b).take i) i = some (joinZ a b) := by
  obtain ⟨h1, h2, h3⟩ := both_parts h
  have hl := right_len h1
  have hz := joinZ_len h3
  induction d with
  | zero =>
    intro k i hi hk
    obtain ⟨k, rfl⟩ : ∃ m, k = m + 2 := ⟨k - 2, by omega⟩
    simp only [sakiaref08_Join.l0]
    rw [if_neg (by omega), List.take_of_length_le (by omega)]
    simp only [sakiaref08_Join.j1]
    rw [if_neg (by decide)]
  | succ d ih =>
    intro k i hi hk
    obtain ⟨k, rfl⟩ : ∃ m, k = m + 2 := ⟨k - 2, by omega⟩
    have e := joinZ_rd h3 i (by omega)
    have et : (joinZ a b).take i ++ [rd (joinZ a b) i] = (joinZ a b).take (i + 1) := by
      rw [List.take_succ_eq_append_getElem (by omega), rd_get _ i (by omega)]
    simp only [sakiaref08_Join.l0]
    rw [if_pos (by omega), refboth a b (by omega) (by omega) _ (by omega), h]
    simp only [Option.bind_some]
    simp only [sakiaref08_Join.j1]
    rw [if_pos trivial, if_pos (by omega), if_pos (by omega), if_pos (by omega), wrap_succ i (by omega)]
    have hi2 := ih k (i + 1) (by omega) (by omega)
    rw [← et, e] at hi2
    unfold mx at hi2
    by_cases hlt : rd b i > rd a i
    · rw [if_pos hlt, if_pos (by simp; omega)]
      rw [if_pos (show rd a i < rd b i by omega)] at hi2
      exact hi2
    · rw [if_neg hlt, if_pos (by simp; omega)]
      rw [if_neg (show ¬ rd a i < rd b i by omega)] at hi2
      exact hi2
theorem refjoin (a b : List Int) (ha : a.length ≤ 100) (hb : b.length ≤ 100) (k : Nat) (hk : 300 ≤ k) : sakiaref08_Join.f k a b = some (join a b) := by
  unfold sakiaref08_Join.f join
  by_cases h : both a b = true
  · rw [if_pos h]
    have hl := right_len (both_parts h).1
    exact refjoin_loop a b h a.length k 0 (by omega) (by omega)
  · rw [if_neg h]
    obtain ⟨k, rfl⟩ : ∃ m, k = m + 2 := ⟨k - 2, by omega⟩
    simp only [sakiaref08_Join.l0]
    rw [refboth a b ha hb _ (by omega), Bool.eq_false_iff.2 h]
    simp [sakiaref08_Join.j1]

theorem reftick_loop (c : List Int) (h : right c = true) (j : Nat) (hj : j < c.length) (d : Nat) : ∀ (k i : Nat), i + d = c.length → d < k →
    sakiaref08_Tick.l0 k c j ((c.set j (rd c j + 1)).take i) i = some (c.set j (rd c j + 1)) := by
  have hl := right_len h
  have hr := right_at h
  have hs : (c.set j (rd c j + 1)).length = c.length := by simp
  induction d with
  | zero =>
    intro k i hi hk
    obtain ⟨k, rfl⟩ : ∃ m, k = m + 1 := ⟨k - 1, by omega⟩
    simp only [sakiaref08_Tick.l0]
    rw [if_neg (by omega), List.take_of_length_le (by omega)]
  | succ d ih =>
    intro k i hi hk
    obtain ⟨k, rfl⟩ : ∃ m, k = m + 1 := ⟨k - 1, by omega⟩
    have et : (c.set j (rd c j + 1)).take (i + 1) = (c.set j (rd c j + 1)).take i ++ [if j = i then rd c i + 1 else rd c i] := by
      rw [List.take_succ_eq_append_getElem (by omega), List.getElem_set, rd_get c i (by omega)]
      by_cases e : j = i
      · subst e
        rw [if_pos rfl, if_pos rfl, rd_get c j hj]
      · rw [if_neg e, if_neg e]
    have hi2 := ih k (i + 1) (by omega) (by omega)
    have e1 := hr i (by omega)
    rw [et] at hi2
    simp only [sakiaref08_Tick.l0]
    rw [if_pos (by omega), if_pos (by omega), wrap_succ i (by omega)]
    by_cases e : j = i
    · rw [if_pos (by omega), if_pos (by simp; omega), show wrap64 (rd c i + 1) = rd c i + 1 by unfold wrap64; omega]
      rw [if_pos e] at hi2
      exact hi2
    · rw [if_neg (by omega), if_pos (by simp; omega)]
      rw [if_neg e] at hi2
      exact hi2
theorem reftick (c : List Int) (hc : c.length ≤ 100) (i : Int) (k : Nat) (hk : 120 ≤ k) : sakiaref08_Tick.f k c i = some (tick c i) := by
  obtain ⟨k, rfl⟩ : ∃ m, k = m + 1 := ⟨k - 1, by omega⟩
  have no : sakiaref08_Tick.j0 (k + 1) c i [] true = some [] := by
    simp only [sakiaref08_Tick.j0]
    rw [if_pos trivial]
  unfold sakiaref08_Tick.f tick
  rw [refright c hc _ (by omega)]
  simp only [Option.bind_some]
  by_cases h : right c = true
  · rw [if_pos h]
    by_cases h0 : i < 0
    · rw [if_pos h0, if_neg (by omega), no]
    · rw [if_neg h0]
      by_cases h1 : i ≥ (c.length : Int)
      · rw [if_pos h1, if_neg (by omega), no]
      · obtain ⟨j, rfl⟩ := Int.eq_ofNat_of_zero_le (show 0 ≤ i by omega)
        rw [if_neg h1, if_pos (by omega), if_pos (by omega)]
        by_cases h2 : rd c j = 1099511627776
        · rw [beq_iff_eq.2 h2, no, if_neg (by simp [h2])]
        · have hm : right c = true ∧ 0 ≤ (j : Int) ∧ (j : Int) < (c.length : Int) ∧ ¬ rd c j = 1099511627776 := ⟨h, by omega, by omega, h2⟩
          rw [beq_eq_false_iff_ne.2 h2, if_pos hm, Int.toNat_natCast]
          simp only [sakiaref08_Tick.j0]
          rw [if_neg (by decide)]
          exact reftick_loop c h j (by omega) c.length k 0 (by omega) (by omega)
  · rw [if_neg h, if_neg (by simp [h]), no]

theorem len_tick (c : List Int) (hc : c.length ≤ 100) (i : Int) : (tick c i).length ≤ 100 := by
  unfold tick
  split
  · simpa using hc
  · simp
theorem len_join (a b : List Int) (hc : a.length ≤ 100) : (join a b).length ≤ 100 := by
  unfold join
  split
  · rename_i h; rw [joinZ_len (both_parts h).2.2]; exact hc
  · simp

theorem TickTells : sakialaw08_TickTells.Pure := by
  intro a b i ha0 ha1 ha2 hb0 hb1 hb2 hi
  obtain ⟨K, hK⟩ : ∃ K : Nat, K = 398 := ⟨_, rfl⟩
  refine ⟨K + 2, ?_⟩
  unfold sakialaw08_TickTells.f sakialaw08_long.f
  rw [tlive (K + 2) (by omega)]
  by_cases h1 : (a.length : Int) > 100
  · rw [if_pos h1]
    rfl
  · rw [if_neg h1]
    simp only [Option.bind_some]
    by_cases h2 : (b.length : Int) > 100
    · rw [decide_eq_true h2, if_pos rfl]
    · have la : a.length ≤ 100 := by omega
      have lb : b.length ≤ 100 := by omega
      rw [decide_eq_false h2, if_neg (by decide), tright a _ (by omega), refright a la _ (by omega), ttick a i _ (by omega), reftick a la i _ (by omega), tjoin a b _ (by omega), refjoin a b la lb _ (by omega)]
      simp only [Option.bind_some]
      rw [if_neg (by simp), same05 _ _ (len_tick a la i) _ (by omega), same05 _ _ (len_join a b la) _ (by omega), tsum a _ (by omega), refsum a la _ (by omega)]
      simp only [Option.bind_some, decide_true, if_true]
      simp only [sakialaw08_TickTells.j0]
      rw [if_neg (by simp), refwithin a b la lb _ (by omega), refwithin b a lb la _ (by omega), twithin a b _ (by omega), tsame a b _ (by omega), tapart a b _ (by omega), refboth a b la lb _ (by omega), tlive _ (by omega)]
      simp only [Option.bind_some]
      cases within a b <;> cases within b a <;> cases both a b <;> rfl


end Go.Proofs.Ytnkkabijccdmkaa.Pure
