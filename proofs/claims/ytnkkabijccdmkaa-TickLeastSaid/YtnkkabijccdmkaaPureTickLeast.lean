/- It is proved that the law TickLeast of sakialaw08 answers true for every input: a join is the least clock that both are within; it is the same either way round. Conditions: none. -/
import Derived.Test.YtnkkabijccdmkaaPTickLeastx3
import Derived.Test.YtnkkabijccdmkaaWSized
namespace Go.Proofs.Ytnkkabijccdmkaa.PrintWords
/-- The row's word, under the name by which the row calls it. -/
theorem sized_ints {H : Type} {enc : TypeId × Value → H} {P : Program} {W : World} {base : Nat} {spare : Nat → Bool} {held : Bool} {t e : TypeId} {k : IntKind} {a : Option Addr} {len cap : Nat} {d : DataW H} {ps : List MemPlace} {ts : List TypeId} {ds : List (DataW H)} {j : Nat}
    (hsz : (DataW.weightsEach P ts ds).all (· ≤ reachBytes) = true) (ht : ts[j]? = some t) (hd : ds[j]? = some d) (hu : P.underlying t = some (.slice e)) (he : P.underlying e = some (.int k)) (hc : P.cellsOf e = 1) {B : Nat} (hB : P.bytesOf e = B)
    (h : DataW.Trod enc P W base spare held t (.slice a len cap) d ps) : len * B ≤ 140737488351232 :=
  Go.Proofs.YtnkkabijccdmkaaW.PrintWords.sized_ints hsz ht hd hu he hc hB h
end Go.Proofs.Ytnkkabijccdmkaa.PrintWords
namespace Go.Proofs.Ytnkkabijccdmkaa.Pure
open Go Go.RowKit Go.Proofs.Ytnkkabijccdmkaa.PTickLeast Go.Proofs.YtnkkabijccdmkaaW.PrintWords Go.Proofs.YtnkkabijccdmkaaW.PrintLast Go.Proofs.YtnkkabijccdmkaaW.PrintMore
set_option linter.unusedVariables false
set_option linter.unusedSimpArgs false

/-! lists, by places -/
theorem rd_drop (a : List Int) (i : Nat) (h : i < a.length) : a.drop i = rd a (i : Int) :: a.drop (i + 1) := by
  rw [List.drop_eq_getElem_cons h]
  simp [rd, List.getD_eq_getElem?_getD, h]
theorem rd_get (a : List Int) (i : Nat) (h : i < a.length) : rd a (i : Int) = a[i] := by
  simp [rd, List.getD_eq_getElem?_getD, h]
theorem wrap_succ (i : Nat) (h : i < 9223372036854775807) : wrap64 ((i : Int) + 1) = ((i + 1 : Nat) : Int) := by
  unfold wrap64; omega

def okn (x : Int) : Bool := decide (0 ≤ x) && decide (x ≤ 1099511627776)
def right (c : List Int) : Bool := decide (0 < c.length) && decide (c.length ≤ 10) && c.all okn
def both (a b : List Int) : Bool := right a && right b && decide (a.length = b.length)
theorem okn_neg {x : Int} (h : x < 0) : okn x = false := by simp [okn]; omega
theorem okn_big {x : Int} (h : x > 1099511627776) : okn x = false := by simp [okn]; omega
theorem okn_yes {x : Int} (h : ¬ x < 0) (h' : ¬ x > 1099511627776) : okn x = true := by simp [okn]; omega

theorem refright_loop (c : List Int) (hc : c.length ≤ 100) (d : Nat) : ∀ (k i : Nat), i + d = c.length → d < k →
    sakiaref08_Right.l0 k c i = some (decide (0 < c.length) && decide (c.length ≤ 10) && (c.drop i).all okn) := by
  induction d with
  | zero =>
    intro k i hi hk
    obtain ⟨k, rfl⟩ : ∃ m, k = m + 1 := ⟨k - 1, by omega⟩
    simp only [sakiaref08_Right.l0]
    rw [if_neg (by omega), List.drop_of_length_le (by omega)]
    by_cases h : (c.length : Int) > 0
    · rw [if_pos h, decide_eq_true (show 0 < c.length by omega)]
      simp
      omega
    · rw [if_neg h, decide_eq_false (show ¬ 0 < c.length by omega)]
      simp
  | succ d ih =>
    intro k i hi hk
    obtain ⟨k, rfl⟩ : ∃ m, k = m + 1 := ⟨k - 1, by omega⟩
    simp only [sakiaref08_Right.l0]
    rw [if_pos (by omega), if_pos (by omega), rd_drop c i (by omega), List.all_cons]
    by_cases h1 : rd c i < 0
    · rw [if_pos h1, okn_neg h1]; simp
    · rw [if_neg h1]
      by_cases h2 : rd c i > 1099511627776
      · rw [if_pos h2, okn_big h2]; simp
      · rw [if_neg h2, okn_yes h1 h2, wrap_succ i (by omega), ih k (i + 1) (by omega) (by omega)]; simp
theorem refright (c : List Int) (hc : c.length ≤ 100) (k : Nat) (hk : 110 ≤ k) : sakiaref08_Right.f k c = some (right c) :=
  refright_loop c hc c.length k 0 (by omega) (by omega)

theorem right_loop (c : List Int) (hc : c.length ≤ 10) (d : Nat) : ∀ (k i : Nat), i + d = c.length → d < k →
    tick_Right.l0 k c c.length i = some ((c.drop i).all okn) := by
  induction d with
  | zero =>
    intro k i hi hk
    obtain ⟨k, rfl⟩ : ∃ m, k = m + 1 := ⟨k - 1, by omega⟩
    simp only [tick_Right.l0]
    rw [if_neg (by omega), List.drop_of_length_le (by omega)]
    rfl
  | succ d ih =>
    intro k i hi hk
    obtain ⟨k, rfl⟩ : ∃ m, k = m + 1 := ⟨k - 1, by omega⟩
    simp only [tick_Right.l0]
    rw [if_pos (by omega), if_pos (by omega), if_pos (by omega), rd_drop c i (by omega), List.all_cons]
    by_cases h1 : rd c i < 0
    · rw [if_pos h1, okn_neg h1]; simp
    · rw [if_neg h1]
      by_cases h2 : rd c i > 1099511627776
      · rw [if_pos h2, okn_big h2]; simp
      · rw [if_neg h2, okn_yes h1 h2, wrap_succ i (by omega), ih k (i + 1) (by omega) (by omega)]; simp
theorem tright (c : List Int) (k : Nat) (hk : 20 ≤ k) : tick_Right.f k c = some (right c) := by
  obtain ⟨k, rfl⟩ : ∃ m, k = m + 1 := ⟨k - 1, by omega⟩
  unfold tick_Right.f right
  by_cases h1 : (c.length : Int) < 1
  · rw [if_pos h1, decide_eq_false (show ¬ 0 < c.length by omega)]
    simp [tick_Right.j0]
  · rw [if_neg h1, decide_eq_true (show 0 < c.length by omega)]
    simp only [tick_Right.j0]
    by_cases h2 : c.length ≤ 10
    · rw [decide_eq_false (show ¬ (c.length : Int) > 10 by omega), if_neg (by decide), decide_eq_true h2]
      exact right_loop c h2 c.length k 0 (by omega) (by omega)
    · rw [decide_eq_true (show (c.length : Int) > 10 by omega), if_pos rfl, decide_eq_false h2]
      simp
theorem tboth (a b : List Int) (k : Nat) (hk : 20 ≤ k) : tick_both.f k a b = some (both a b) := by
  unfold tick_both.f both
  rw [tright a k hk, tright b k hk]
  simp only [Option.bind_some]
  by_cases h : a.length = b.length
  · rw [if_pos (by omega), decide_eq_true h]
    cases right a <;> simp
  · rw [if_neg (by omega), decide_eq_false h]
    simp
theorem right_len {c : List Int} (h : right c = true) : 0 < c.length ∧ c.length ≤ 10 := by
  simp only [right, Bool.and_eq_true, decide_eq_true_eq] at h
  exact h.1
theorem right_at {c : List Int} (h : right c = true) (i : Nat) (hi : i < c.length) : 0 ≤ rd c i ∧ rd c i ≤ 1099511627776 := by
  simp only [right, Bool.and_eq_true, decide_eq_true_eq, List.all_eq_true] at h
  have := h.2 _ (List.getElem_mem hi)
  rw [rd_get c i hi]
  simpa [okn] using this
theorem both_parts {a b : List Int} (h : both a b = true) : right a = true ∧ right b = true ∧ a.length = b.length := by
  simp only [both, Bool.and_eq_true, decide_eq_true_eq] at h
  exact ⟨h.1.1, h.1.2, h.2⟩
theorem both_mk {a b : List Int} (h1 : right a = true) (h2 : right b = true) (h3 : a.length = b.length) : both a b = true := by
  simp [both, h1, h2, h3]
theorem right_mk {c : List Int} (h0 : 0 < c.length) (h1 : c.length ≤ 10) (h : ∀ i : Nat, i < c.length → 0 ≤ rd c i ∧ rd c i ≤ 1099511627776) : right c = true := by
  simp only [right, Bool.and_eq_true, decide_eq_true_eq, List.all_eq_true]
  refine ⟨⟨h0, h1⟩, fun x hx => ?_⟩
  obtain ⟨i, hi, rfl⟩ := List.mem_iff_getElem.1 hx
  have := h i hi
  rw [rd_get c i hi] at this
  simp [okn, this]

/-! join -/
def joinZ (a b : List Int) : List Int := List.zipWith mx a b
def join (a b : List Int) : List Int := if both a b = true then joinZ a b else []
theorem joinZ_len {a b : List Int} (h : a.length = b.length) : (joinZ a b).length = a.length := by simp [joinZ]; omega
theorem joinZ_rd {a b : List Int} (h : a.length = b.length) (i : Nat) (hi : i < a.length) : rd (joinZ a b) i = mx (rd a i) (rd b i) := by
  rw [rd_get _ i (by rw [joinZ_len h]; exact hi), rd_get a i hi, rd_get b i (by omega)]
  simp [joinZ]
theorem set_fill (L : List Int) (i : Nat) (h : i < L.length) (z : Int) : (L.take i ++ List.replicate (L.length - i) z).set i (rd L i) = L.take (i + 1) ++ List.replicate (L.length - (i + 1)) z := by
  rw [rd_get L i h, List.set_append_right _ _ (by simp; omega)]
  have e : L.length - i = (L.length - (i + 1)) + 1 := by omega
  rw [e, List.replicate_succ]
  simp only [List.length_take, Nat.min_eq_left (Nat.le_of_lt h), Nat.sub_self, List.set_cons_zero]
  rw [List.take_succ_eq_append_getElem h, List.append_assoc]
  rfl
theorem join_loop (a b : List Int) (h : a.length = b.length) (hl : a.length ≤ 10) (d : Nat) : ∀ (k i : Nat), i + d = a.length → d < k →
    tick_Join.l0 k a b ((joinZ a b).take i ++ List.replicate (a.length - i) 0) a.length i = some (joinZ a b) := by
  induction d with
  | zero =>
    intro k i hi hk
    obtain ⟨k, rfl⟩ : ∃ m, k = m + 1 := ⟨k - 1, by omega⟩
    simp only [tick_Join.l0]
    rw [if_neg (by omega), List.take_of_length_le (by rw [joinZ_len h]; omega), show a.length - i = 0 by omega]
    simp
  | succ d ih =>
    intro k i hi hk
    obtain ⟨k, rfl⟩ : ∃ m, k = m + 1 := ⟨k - 1, by omega⟩
    have hz := joinZ_len h
    simp only [tick_Join.l0]
    rw [if_pos (by omega), if_pos (by omega), if_pos (by omega), if_pos (by omega), if_pos (by simp [hz]; omega)]
    rw [← joinZ_rd h i (by omega), Int.toNat_natCast]
    have := set_fill (joinZ a b) i (by omega) 0
    rw [hz] at this
    rw [this, wrap_succ i (by omega)]
    exact ih k (i + 1) (by omega) (by omega)
theorem tjoin (a b : List Int) (k : Nat) (hk : 20 ≤ k) : tick_Join.f k a b = some (join a b) := by
  unfold tick_Join.f join
  rw [tboth a b k hk]
  simp only [Option.bind_some]
  by_cases h : both a b = true
  · rw [if_pos h, if_pos h]
    obtain ⟨h1, h2, h3⟩ := both_parts h
    have hl := right_len h1
    rw [if_pos (by omega), Int.toNat_natCast, if_pos (by omega)]
    exact join_loop a b h3 hl.2 a.length k 0 (by omega) (by omega)
  · rw [if_neg h, if_neg h]

/-! two lists alike -/
theorem same_loop (a b : List Int) (h : a.length = b.length) (hl : a.length ≤ 100) (d : Nat) : ∀ (k i : Nat), i + d = a.length → d < k →
    sakiaref05_Same.l0 k a b i = some (decide (a.drop i = b.drop i)) := by
  induction d with
  | zero =>
    intro k i hi hk
    obtain ⟨k, rfl⟩ : ∃ m, k = m + 1 := ⟨k - 1, by omega⟩
    simp only [sakiaref05_Same.l0]
    rw [if_neg (by omega), List.drop_of_length_le (by omega), List.drop_of_length_le (by omega)]
    simp
  | succ d ih =>
    intro k i hi hk
    obtain ⟨k, rfl⟩ : ∃ m, k = m + 1 := ⟨k - 1, by omega⟩
    simp only [sakiaref05_Same.l0]
    rw [if_pos (by omega), if_pos (by omega), if_pos (by omega), rd_drop a i (by omega), rd_drop b i (by omega)]
    by_cases e : rd a i = rd b i
    · rw [if_pos e, wrap_succ i (by omega), ih k (i + 1) (by omega) (by omega)]
      simp [e]
    · rw [if_neg e]
      simp [e]
theorem same05 (a b : List Int) (hl : a.length ≤ 100) (k : Nat) (hk : 110 ≤ k) : sakiaref05_Same.f k a b = some (decide (a = b)) := by
  unfold sakiaref05_Same.f
  by_cases h : a.length = b.length
  · rw [if_pos (by omega)]
    exact same_loop a b h hl a.length k 0 (by omega) (by omega)
  · rw [if_neg (by omega), decide_eq_false (fun e => h (by rw [e]))]

/-! within -/
def leAll : List Int → List Int → Bool
  | x :: a, y :: b => decide (x ≤ y) && leAll a b
  | _, _ => true
def within (a b : List Int) : Bool := both a b && leAll a b
theorem leAll_iff (a : List Int) : ∀ b : List Int, a.length = b.length → (leAll a b = true ↔ ∀ i : Nat, i < a.length → rd a i ≤ rd b i) := by
  induction a with
  | nil => intro b h; cases b <;> simp [leAll] at h ⊢
  | cons x a ih =>
    intro b h
    cases b with
    | nil => simp at h
    | cons y b =>
      simp only [leAll, Bool.and_eq_true, decide_eq_true_eq, ih b (by simpa using h)]
      constructor
      · rintro ⟨h0, h1⟩ i hi
        rcases i with _ | i
        · simpa [rd] using h0
        · have := h1 i (by simpa using hi)
          simpa [rd] using this
      · intro h1
        refine ⟨by simpa [rd] using h1 0 (by simp), fun i hi => ?_⟩
        have := h1 (i + 1) (by simpa using hi)
        simpa [rd] using this
theorem within_iff {a b : List Int} : within a b = true ↔ both a b = true ∧ ∀ i : Nat, i < a.length → rd a i ≤ rd b i := by
  unfold within
  rw [Bool.and_eq_true]
  constructor
  · rintro ⟨h, h1⟩; exact ⟨h, (leAll_iff a b (both_parts h).2.2).1 h1⟩
  · rintro ⟨h, h1⟩; exact ⟨h, (leAll_iff a b (both_parts h).2.2).2 h1⟩
theorem within_loop (a b : List Int) (h : a.length = b.length) (hl : a.length ≤ 10) (d : Nat) : ∀ (k i : Nat), i + d = a.length → d < k →
    tick_Within.l0 k a b a.length i = some (leAll (a.drop i) (b.drop i)) := by
  induction d with
  | zero =>
    intro k i hi hk
    obtain ⟨k, rfl⟩ : ∃ m, k = m + 1 := ⟨k - 1, by omega⟩
    simp only [tick_Within.l0]
    rw [if_neg (by omega), List.drop_of_length_le (by omega)]
    simp [leAll]
  | succ d ih =>
    intro k i hi hk
    obtain ⟨k, rfl⟩ : ∃ m, k = m + 1 := ⟨k - 1, by omega⟩
    simp only [tick_Within.l0]
    rw [if_pos (by omega), if_pos (by omega), if_pos (by omega), if_pos (by omega), rd_drop a i (by omega), rd_drop b i (by omega)]
    by_cases e : rd a i > rd b i
    · rw [if_pos e]
      simp only [leAll]
      rw [decide_eq_false (by omega)]
      rfl
    · rw [if_neg e, wrap_succ i (by omega), ih k (i + 1) (by omega) (by omega)]
      simp only [leAll]
      rw [decide_eq_true (by omega)]
      rfl
theorem twithin (a b : List Int) (k : Nat) (hk : 20 ≤ k) : tick_Within.f k a b = some (within a b) := by
  unfold tick_Within.f within
  rw [tboth a b k hk]
  simp only [Option.bind_some]
  by_cases h : both a b = true
  · obtain ⟨h1, h2, h3⟩ := both_parts h
    have hl := right_len h1
    rw [if_pos h, h]
    exact within_loop a b h3 hl.2 a.length k 0 (by omega) (by omega)
  · rw [if_neg h, Bool.eq_false_iff.2 h]
    rfl
theorem both_comm (a b : List Int) : both a b = both b a := by
  unfold both
  by_cases h : a.length = b.length
  · simp [h, Bool.and_comm]
  · simp [h, Ne.symm h]
theorem tapart (a b : List Int) (k : Nat) (hk : 20 ≤ k) : tick_Apart.f k a b = some (both a b && !within a b && !within b a) := by
  unfold tick_Apart.f
  rw [tboth a b k hk, twithin a b k hk, twithin b a k hk]
  simp only [Option.bind_some]
  cases both a b <;> cases within a b <;> simp
theorem tlive (k : Nat) (hk : 110 ≤ k) : sakialaw08_live.f k = some true := by
  unfold sakialaw08_live.f
  rw [tjoin _ _ k (by omega), tapart _ _ k (by omega), show join [1, 4] [2, 0] = [2, 4] by decide]
  simp only [Option.bind_some]
  rw [same05 _ _ (by decide) k hk, show (both [1, 4] [2, 0] && !within [1, 4] [2, 0] && !within [2, 0] [1, 4]) = true by decide]
  rfl

theorem tsame (a b : List Int) (k : Nat) (hk : 20 ≤ k) : tick_Same.f k a b = some (within a b && within b a) := by
  unfold tick_Same.f
  rw [twithin a b k hk, twithin b a k hk]
  simp only [Option.bind_some]
  cases within a b <;> simp
theorem refboth (a b : List Int) (ha : a.length ≤ 100) (hb : b.length ≤ 100) (k : Nat) (hk : 110 ≤ k) : sakiaref08_Both.f k a b = some (both a b) := by
  unfold sakiaref08_Both.f both
  rw [refright a ha k hk, refright b hb k hk]
  simp only [Option.bind_some]
  have e : ((a.length : Int) == (b.length : Int)) = decide (a.length = b.length) := by
    by_cases h : a.length = b.length
    · simp [h]
    · rw [decide_eq_false h, beq_eq_false_iff_ne]; omega
  rw [e]
  cases right a <;> cases right b <;> simp

theorem mx_left (a b : Int) : a ≤ mx a b := by unfold mx; split <;> omega
theorem mx_right (a b : Int) : b ≤ mx a b := by unfold mx; split <;> omega
theorem mx_least {a b c : Int} (h : a ≤ c) (h' : b ≤ c) : mx a b ≤ c := by unfold mx; split <;> omega
theorem mx_comm (a b : Int) : mx a b = mx b a := by unfold mx; split <;> split <;> omega
theorem mx_self (a : Int) : mx a a = a := by unfold mx; split <;> omega

theorem ext_rd {a b : List Int} (h : a.length = b.length) (h' : ∀ i : Nat, i < a.length → rd a i = rd b i) : a = b := by
  apply List.ext_getElem h
  intro i h1 h2
  have := h' i h1
  rwa [rd_get a i h1, rd_get b i h2] at this
theorem joinZ_comm {a b : List Int} (h : a.length = b.length) : joinZ a b = joinZ b a := by
  apply ext_rd (by rw [joinZ_len h, joinZ_len h.symm, h])
  intro i hi
  rw [joinZ_len h] at hi
  rw [joinZ_rd h i hi, joinZ_rd h.symm i (by omega), mx_comm]
theorem joinZ_self (a : List Int) : joinZ a a = a := by
  apply ext_rd (joinZ_len rfl)
  intro i hi
  rw [joinZ_len rfl] at hi
  rw [joinZ_rd rfl i hi, mx_self]
theorem joinZ_right {a b : List Int} (h : both a b = true) : right (joinZ a b) = true := by
  obtain ⟨h1, h2, h3⟩ := both_parts h
  have hl := right_len h1
  refine right_mk (by rw [joinZ_len h3]; omega) (by rw [joinZ_len h3]; omega) fun i hi => ?_
  rw [joinZ_len h3] at hi
  rw [joinZ_rd h3 i hi]
  have ea := right_at h1 i hi
  have eb := right_at h2 i (by omega)
  exact ⟨Int.le_trans ea.1 (mx_left _ _), mx_least ea.2 eb.2⟩
theorem within_self {a : List Int} (h : right a = true) : within a a = true :=
  within_iff.2 ⟨both_mk h h rfl, fun _ _ => Int.le_refl _⟩

theorem TickLeast : sakialaw08_TickLeast.Pure := by
  intro a b c ha0 ha1 ha2 hb0 hb1 hb2 hc0 hc1 hc2
  refine ⟨200, ?_⟩
  unfold sakialaw08_TickLeast.f sakialaw08_long.f
  obtain ⟨K, hK⟩ : ∃ K : Nat, K = 198 := ⟨_, rfl⟩
  rw [show (200 : Nat) = K + 2 by omega]
  have live : sakialaw08_TickLeast.j0 (K + 2) a b c true = some true := by
    simp only [sakialaw08_TickLeast.j0]
    rw [if_pos trivial, tlive _ (by omega)]
    rfl
  by_cases h1 : (a.length : Int) > 100
  · rw [if_pos h1]
    simp only [Option.bind_some]
    rw [if_pos trivial]
    exact live
  · rw [if_neg h1]
    simp only [Option.bind_some]
    by_cases h2 : (b.length : Int) > 100
    · rw [decide_eq_true h2, if_pos rfl]
      exact live
    · rw [decide_eq_false h2, if_neg (by decide)]
      by_cases h3 : (c.length : Int) > 100
      · rw [if_pos h3]
        exact live
      · rw [if_neg h3, refboth a b (by omega) (by omega) _ (by omega)]
        simp only [Option.bind_some]
        by_cases hab : both a b = true
        · obtain ⟨ra, rb, hl⟩ := both_parts hab
          have hla := right_len ra
          have hlb := right_len rb
          have hba : both b a = true := by rw [both_comm]; exact hab
          have hj : join a b = joinZ a b := by unfold join; rw [if_pos hab]
          have hj2 : join b a = joinZ a b := by unfold join; rw [if_pos hba, joinZ_comm hl]
          have hj3 : join a a = a := by unfold join; rw [if_pos (both_mk ra ra rfl), joinZ_self]
          have rj := joinZ_right hab
          have lj := joinZ_len hl
          have wa : within a (joinZ a b) = true := within_iff.2 ⟨both_mk ra rj lj.symm, fun i hi => by rw [joinZ_rd hl i hi]; exact mx_left _ _⟩
          have wb : within b (joinZ a b) = true := within_iff.2 ⟨both_mk rb rj (by omega), fun i hi => by rw [joinZ_rd hl i (by omega)]; exact mx_right _ _⟩
          rw [hab]
          simp only [sakialaw08_TickLeast.j0]
          rw [if_neg (by decide), tjoin a b _ (by omega), tjoin b a _ (by omega), tjoin a a _ (by omega), hj, hj2, hj3]
          simp only [Option.bind_some]
          rw [twithin a _ _ (by omega), twithin b _ _ (by omega), wa, wb, tsame _ _ _ (by omega), tsame _ _ _ (by omega), within_self rj, within_self ra]
          simp only [Option.bind_some, if_true, Bool.and_self]
          simp only [sakialaw08_TickLeast.j1]
          rw [if_neg (by decide), twithin a c _ (by omega), twithin b c _ (by omega), twithin _ c _ (by omega), tlive _ (by omega)]
          simp only [Option.bind_some]
          by_cases h4 : within a c = true
          · rw [if_pos h4]
            by_cases h5 : within b c = true
            · have h6 : within (joinZ a b) c = true := by
                obtain ⟨p1, p2⟩ := within_iff.1 h4
                obtain ⟨q1, q2⟩ := within_iff.1 h5
                refine within_iff.2 ⟨both_mk rj (both_parts p1).2.1 (by rw [lj]; exact (both_parts p1).2.2), fun i hi => ?_⟩
                rw [lj] at hi
                rw [joinZ_rd hl i hi]
                exact mx_least (p2 i hi) (q2 i (by omega))
              rw [if_pos h5, if_pos h6]
            · rw [if_neg h5]
          · rw [if_neg h4]
        · rw [Bool.eq_false_iff.2 hab]
          exact live


end Go.Proofs.Ytnkkabijccdmkaa.Pure
