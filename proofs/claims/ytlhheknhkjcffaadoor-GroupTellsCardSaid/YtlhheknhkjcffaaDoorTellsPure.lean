/- What the law GroupTells compares, in numbers and lists. No conditions but those that the theorems name. -/
import Derived.Test.YtlhheknhkjcffaaDoorMakesPure
import Derived.Test.YtlhheknhkjcffaaDoorRefNext
import Derived.Test.YtlhheknhkjcffaaDoorRefList
import Derived.Test.YtlhheknhkjcffaaDoorSet
import Derived.Test.YtlhheknhkjcffaaDoorPGroupTellsx1
namespace Go.Proofs.YtlhheknhkjcffaaDoor.Tz
open Go Go.RowKit Go.Proofs.YtlhheknhkjcffaaDoor.PGroupParts Go.Proofs.YtlhheknhkjcffaaDoor.Pop Go.Proofs.YtlhheknhkjcffaaDoorW.PrintWords Go.Proofs.YtlhheknhkjcffaaDoorW.PrintLast Go.Proofs.YtlhheknhkjcffaaDoorW.PrintMore
attribute [local go_sem] max2_int min2_int max_two min_two max_three min_three max_four min_four
set_option linter.unusedVariables false
set_option linter.unusedSimpArgs false
theorem bitsOf_get (x i : Nat) (hi : i < 64) : (bitsOf x).getD i false = x.testBit i := by
  simp [bitsOf, List.getD_eq_getElem?_getD, hi]
theorem wv_bitsOf (x : Nat) (hx : x < 2 ^ 64) : wv (bitsOf x) = x := wv_eq (bitsOf_len x) hx fun i hi => bitsOf_get x i hi
theorem elems_upto (x : Nat) : ∀ n, n ≤ 64 → elems (bitsOf x) n = upto x n := by
  intro n hn
  unfold elems upto
  congr 1
  apply List.filter_congr
  intro j hj
  have : j < n := List.mem_range.1 hj
  exact bitsOf_get x j (by omega)
theorem tin_is (i : Int) : PGroupTells.group_in.f i = some (inB i) := in_is i
theorem inB_nat {i : Int} (h : inB i = true) : ∃ y : Nat, i = y ∧ y < 64 := by
  have hx : 0 ≤ i ∧ i < 64 := by simpa [inB] using h
  exact ⟨i.toNat, by omega, by omega⟩
theorem has_no (x : Nat) (i : Int) (h : inB i = false) : PGroupTells.group_Group_Has.f (x : Int) i = some false := by
  unfold PGroupTells.group_Group_Has.f
  rw [tin_is, h]
  rfl
theorem has_yes (x : Nat) (hx : x < 2 ^ 64) (k : Nat) (hk : k < 64) : PGroupTells.group_Group_Has.f (x : Int) (k : Int) = some (x.testBit k) := by
  have e1 : PGroupTells.group_in.f (k : Int) = some true := by
    rw [tin_is]
    simp [inB]
    omega
  have e2 : shr .u64 (x : Int) (k : Int) = ((x / 2 ^ k : Nat) : Int) := by
    unfold shr
    rw [show min ((k : Int).toNat) (IntKind.bits .u64) = k by show min _ 64 = k; omega]
    simp
  have hlt : x / 2 ^ k < 2 ^ 64 := Nat.lt_of_le_of_lt (Nat.div_le_self _ _) hx
  have e3 : Go.bits .and .u64 ((x / 2 ^ k : Nat) : Int) ((1 : Nat) : Int) = (((x / 2 ^ k) % 2 : Nat) : Int) := by
    rw [bits_and _ 1 hlt (by omega), Nat.and_one_is_mod]
  unfold PGroupTells.group_Group_Has.f
  rw [e1]
  show (if true = true then (if 0 ≤ (k : Int) then some (Go.bits .and .u64 (shr .u64 (x : Int) (k : Int)) ((1 : Nat) : Int) == 1) else none) else some false) = _
  rw [if_pos rfl, if_pos (by omega), e2, e3, Nat.testBit_eq_decide_div_mod_eq]
  generalize x / 2 ^ k = y
  congr 1
  by_cases h : y % 2 = 1
  · rw [decide_eq_true h, beq_iff_eq]
    omega
  · rw [decide_eq_false h, beq_eq_false_iff_ne]
    omega
theorem with_no (x : Nat) (i : Int) (h : inB i = false) : group_Group_With.f (x : Int) i = some (x : Int) := by
  unfold group_Group_With.f
  rw [in_is, h]
  rfl
theorem without_no (x : Nat) (i : Int) (h : inB i = false) : PGroupTells.group_Group_Without.f (x : Int) i = some (x : Int) := by
  unfold PGroupTells.group_Group_Without.f
  rw [tin_is, h]
  rfl
theorem without_yes (s : List Bool) (hs : s.length = 64) (x : Nat) (hx : x < 64) : PGroupTells.group_Group_Without.f (wv s : Int) (x : Int) = some ((wv (s.set x false) : Nat) : Int) := by
  have e1 : PGroupTells.group_in.f (x : Int) = some true := by
    rw [tin_is]
    simp [inB]
    omega
  have hp : 2 ^ x < 2 ^ 64 := Nat.pow_lt_pow_right (by omega) hx
  have hl := wv_lt64 hs
  have e2 : wv (s.set x false) = dif (wv s) (2 ^ x) := by
    refine wv_eq (by simp [hs]) (dif_lt _ _ hp) fun i hi => ?_
    rw [dif_bit _ _ _ hp, wv_bit, Nat.testBit_two_pow]
    simp only [List.getD_eq_getElem?_getD, List.getElem?_set]
    by_cases h : x = i
    · subst h
      simp [hs, hi]
    · simp [h, hi]
  unfold PGroupTells.group_Group_Without.f
  rw [e1]
  show (if true = true then (if 0 ≤ (x : Int) then some (Go.bits .andNot .u64 (wv s : Int) (shl .u64 1 (x : Int))) else none) else some (wv s : Int)) = _
  rw [if_pos rfl, if_pos (by omega), shl_one x hx, bits_dif _ _ hl hp, e2]
theorem above_nx (x : Nat) (i : Int) : above (bitsOf x) i = nx x i := by
  unfold nx
  by_cases h63 : 63 ≤ i
  · rw [if_pos h63]
    refine List.find?_range_eq_none.2 fun j hj => ?_
    rw [decide_eq_false (by omega)]
    rfl
  · rw [if_neg h63]
    obtain ⟨n, hn⟩ : ∃ n : Nat, (if i < -1 then 0 else (i + 1).toNat) = n := ⟨_, rfl⟩
    rw [hn]
    have hiff : ∀ j : Nat, (i < (j : Int)) ↔ n ≤ j := by
      intro j
      split at hn <;> omega
    cases hf : first x n with
    | none =>
      refine List.find?_range_eq_none.2 fun j hj => ?_
      have h := first_none hf j
      rw [bitsOf_get x j hj]
      by_cases hnj : n ≤ j
      · rw [h hnj hj]; simp
      · rw [decide_eq_false (by rw [GT.gt, hiff]; exact hnj)]; rfl
    | some k =>
      obtain ⟨h1, h2, h3, h4⟩ := first_some hf
      refine List.find?_range_eq_some.2 ⟨?_, List.mem_range.2 h2, fun j hj => ?_⟩
      · rw [bitsOf_get x k h2, h3, decide_eq_true ((hiff k).2 h1)]; rfl
      · rw [bitsOf_get x j (by omega)]
        by_cases hnj : n ≤ j
        · rw [h4 j hnj hj]; simp
        · rw [decide_eq_false (by rw [GT.gt, hiff]; exact hnj)]; rfl
theorem upto_empty (x : Nat) (h : first x 0 = none) : upto x 64 = [] := by
  have h0 := first_none h
  unfold upto
  rw [List.filter_eq_nil_iff.2 fun j hj => by rw [h0 j (by omega) (List.mem_range.1 hj)]; simp]
  rfl
theorem upto_head (x k : Nat) (h : first x 0 = some k) : ∃ r, upto x 64 = (k : Int) :: r := by
  obtain ⟨_, h2, h3, h4⟩ := first_some h
  have e : upto x k = [] := by
    unfold upto
    rw [List.filter_eq_nil_iff.2 fun j hj => by rw [h4 j (by omega) (List.mem_range.1 hj)]; simp]
    rfl
  have e1 : upto x (k + 1) = [(k : Int)] := by rw [upto_succ h3, e]; rfl
  have e2 : ∀ d n, upto x (n + d) = upto x n ++ ((upto x (n + d)).drop (upto x n).length) := by
    intro d
    induction d with
    | zero => intro n; simp
    | succ d ih =>
      intro n
      have h := ih n
      have hs : ∃ t, upto x (n + d + 1) = upto x (n + d) ++ t := ⟨_, by
        unfold upto
        rw [List.range_succ, List.filter_append, List.map_append]⟩
      obtain ⟨t, ht⟩ := hs
      rw [show n + (d + 1) = n + d + 1 from rfl, ht, h, List.append_assoc, List.drop_left]
  have h5 := e2 (63 - k) (k + 1)
  rw [show k + 1 + (63 - k) = 64 by omega, e1] at h5
  exact ⟨_, h5⟩
theorem same_self : ∀ (L : List Int), L.length ≤ 100 → sakiaref05_Same.f 101 L L = some true := by
  intro L hL
  have h : ∀ (d k i : Nat), i ≤ L.length → L.length - i = d → d < k → sakiaref05_Same.l0 k L L (i : Int) = some true := by
    intro d
    induction d with
    | zero =>
      intro k i hi hd hk
      obtain ⟨k, rfl⟩ : ∃ m, k = m + 1 := ⟨k - 1, by omega⟩
      rw [sakiaref05_Same.l0, if_neg (by omega)]
    | succ d ih =>
      intro k i hi hd hk
      obtain ⟨k, rfl⟩ : ∃ m, k = m + 1 := ⟨k - 1, by omega⟩
      rw [sakiaref05_Same.l0, if_pos (by omega)]
      have hw : wrap64 ((i : Int) + 1) = ((i + 1 : Nat) : Int) := by unfold wrap64; omega
      have h := ih k (i + 1) (by omega) (by omega) (by omega)
      rw [hw]
      simp only [h]
      repeat (first | rw [if_pos (by omega)] | rw [if_pos trivial])
  unfold sakiaref05_Same.f
  rw [if_pos rfl]
  exact h L.length 101 0 (by omega) (by omega) (by omega)
end Go.Proofs.YtlhheknhkjcffaaDoor.Tz
