/- The group of some numbers, and the least numbers, are the word of the reference's truths. No conditions but those that the theorems name. -/
import Derived.Test.YtlhheknhkjcffaaDoorRefOf
namespace Go.Proofs.YtlhheknhkjcffaaDoor.Tz
open Go Go.RowKit Go.Proofs.YtlhheknhkjcffaaDoor.PGroupParts Go.Proofs.YtlhheknhkjcffaaDoor.Pop Go.Proofs.YtlhheknhkjcffaaDoorW.PrintWords Go.Proofs.YtlhheknhkjcffaaDoorW.PrintLast Go.Proofs.YtlhheknhkjcffaaDoorW.PrintMore
attribute [local go_sem] max2_int min2_int max_two min_two max_three min_three max_four min_four
set_option linter.unusedVariables false
set_option linter.unusedSimpArgs false
theorem und30 : Tryd.prog.underlying 30 = some (.array 64 4) := by kernel_rfl
theorem siz30 (s : List Bool) (hs : s.length = 64) : (Tryd.prog.info? 30).map (·.size) = some (s.map Value.bool).length := by
  rw [List.length_map, hs]
  kernel_rfl
theorem range_blk {W : World} {g : Nat} {s : List Bool} (h : W.heap[g]? = some (.cells (bl s) 30 (0, 0))) : W.rangeAt g 0 (s.map Value.bool) := fun j v hj => by
  rw [Nat.zero_add, blk_cell h]
  simpa [bl] using hj
theorem range_below {W W' : World} {g B : Nat} {cs : List Value} (h : W.rangeAt g 0 cs) (hb : Below B W W') (hg : g < B) : W'.rangeAt g 0 cs := fun j v hj => by
  have := h j v hj
  rw [hb.cell hg]
  exact this
theorem draw_below (w : World) : Below w.heap.size w w.drew := (Drawn0.mk ⟨1, rfl⟩ : Drawn0 w (w.drewN 1)).below
theorem wv_bit (s : List Bool) : ∀ i, (wv s).testBit i = s.getD i false := by
  induction s with
  | nil => intro i; simp [wv]
  | cons b s ih =>
    intro i
    have hb : b.toNat ≤ 1 := Bool.toNat_le b
    cases i with
    | zero =>
      rw [wv, Nat.testBit_zero, Nat.mul_add_mod]
      cases b <;> rfl
    | succ i =>
      rw [wv, Nat.testBit_succ, show (2 * wv s + b.toNat) / 2 = wv s by omega, ih i]
      rfl
theorem wv_eq {s : List Bool} (hs : s.length = 64) {x : Nat} (hx : x < 2 ^ 64) (h : ∀ i, i < 64 → s.getD i false = x.testBit i) : wv s = x := by
  apply Nat.eq_of_testBit_eq
  intro i
  rw [wv_bit]
  by_cases hi : i < 64
  · exact h i hi
  · rw [List.getD_eq_getElem?_getD, List.getElem?_eq_none (by omega), Nat.testBit_lt_two_pow (Nat.lt_of_lt_of_le hx (Nat.pow_le_pow_right (by omega) (by omega)))]
    rfl
theorem wv_lt64 {s : List Bool} (hs : s.length = 64) : wv s < 2 ^ 64 := by
  have := wv_lt s
  rwa [hs] at this
theorem shl_one (x : Nat) (hx : x < 64) : shl .u64 1 (x : Int) = ((2 ^ x : Nat) : Int) := by
  have h : ∀ m : Nat, m < 64 → shl .u64 1 (m : Int) = ((2 ^ m : Nat) : Int) := by decide
  exact h x hx
theorem with_is (s : List Bool) (hs : s.length = 64) (x : Nat) (hx : x < 64) : group_Group_With.f (wv s : Int) (x : Int) = some ((wv (s.set x true) : Nat) : Int) := by
  have e1 : group_in.f (x : Int) = some true := by
    unfold group_in.f
    rw [if_pos (by omega), decide_eq_true (by omega)]
  have hp : 2 ^ x < 2 ^ 64 := Nat.pow_lt_pow_right (by omega) hx
  have hl := wv_lt64 hs
  have e2 : wv (s.set x true) = wv s ||| 2 ^ x := by
    refine wv_eq (by simp [hs]) (Nat.or_lt_two_pow hl hp) fun i hi => ?_
    rw [Nat.testBit_or, wv_bit, Nat.testBit_two_pow]
    simp only [List.getD_eq_getElem?_getD, List.getElem?_set]
    by_cases h : x = i
    · subst h
      simp [hs, hi]
    · simp [h]
  unfold group_Group_With.f
  rw [e1]
  show (if true = true then (if 0 ≤ (x : Int) then some (Go.bits .or .u64 (wv s : Int) (shl .u64 1 (x : Int))) else none) else some (wv s : Int)) = _
  rw [if_pos rfl, if_pos (by omega), shl_one x hx, bits_or _ _ hl hp, e2]
def outOf : Option (List Bool) → Int × Int | some t => ((wv t : Nat), 0) | none => (0, 1)
theorem in_is (x : Int) : group_in.f x = some (inB x) := by
  unfold group_in.f inB
  by_cases h : 0 ≤ x
  · rw [if_pos h, decide_eq_true h, Bool.true_and]
  · rw [if_neg h, decide_eq_false h, Bool.false_and]
theorem of_is (L : List Int) (hL : L.length ≤ 1000) : ∀ (d k i : Nat) (s : List Bool), s.length = 64 → i ≤ L.length → L.length - i = d → d < k → group_Of.l0 k (wv s : Int) L (L.length : Int) (i : Int) = some (outOf (putAll (L.drop i) s)) := by
  intro d
  induction d with
  | zero =>
    intro k i s hs hi hd hk
    obtain ⟨k, rfl⟩ : ∃ m, k = m + 1 := ⟨k - 1, by omega⟩
    rw [group_Of.l0, if_neg (by omega), List.drop_eq_nil_of_le (by omega)]
    rfl
  | succ d ih =>
    intro k i s hs hi hd hk
    obtain ⟨k, rfl⟩ : ∃ m, k = m + 1 := ⟨k - 1, by omega⟩
    have hlt : i < L.length := by omega
    have hdrop : L.drop i = rd L (i : Int) :: L.drop (i + 1) := by
      rw [List.drop_eq_getElem_cons hlt]
      simp [rd, List.getD_eq_getElem?_getD, hlt]
    rw [group_Of.l0, if_pos (by omega), if_pos (by omega), if_pos (by omega), in_is, Option.bind_some, hdrop, putAll]
    have hw : wrap64 ((i : Int) + 1) = ((i + 1 : Nat) : Int) := by unfold wrap64; omega
    rw [hw]
    generalize rd L (i : Int) = x
    cases hb : inB x with
    | false => rw [if_neg (by simp), if_neg (by simp)]; rfl
    | true =>
      have hx : 0 ≤ x ∧ x < 64 := by simpa [inB] using hb
      obtain ⟨y, rfl⟩ : ∃ y : Nat, x = y := ⟨x.toNat, by omega⟩
      rw [if_pos rfl, if_pos rfl, with_is s hs y (by omega), Option.bind_some, Int.toNat_natCast]
      exact ih k (i + 1) _ (by simp [hs]) (by omega) (by omega) (by omega)
theorem zer_wv : wv zer = 0 := by decide
theorem of_all (L : List Int) (hL : L.length ≤ 200) : group_Of.f 201 L = some (outOf (putAll L zer)) := by
  have h := of_is L (by omega) L.length 201 0 zer zer_len (by omega) (by omega) (by omega)
  rw [zer_wv] at h
  exact h
theorem outOf_is (o : Option (List Bool)) : outOf o = (((wv (ofSet o) : Nat) : Int), if o.isSome = true then 0 else 1) := by
  cases o with
  | none => show ((0 : Int), (1 : Int)) = (((wv zer : Nat) : Int), 1); rw [zer_wv]; rfl
  | some t => rfl
/-- the truths of the numbers below n -/
def lows (n : Int) : List Bool := (List.range 64).map fun j : Nat => decide ((j : Int) < n)
theorem lows_len (n : Int) : (lows n).length = 64 := by simp [lows]
theorem lows_get (n : Int) (i : Nat) (hi : i < 64) : (lows n).getD i false = decide ((i : Int) < n) := by
  simp [lows, List.getD_eq_getElem?_getD, hi]
theorem full_all (n : Int) : group_Full.f n = some ((wv (lows n) : Nat) : Int) := by
  by_cases h0 : n ≤ 0
  · have e : wv (lows n) = 0 := wv_eq (lows_len n) (by omega) fun i hi => by
      rw [lows_get n i hi, decide_eq_false (by omega), Nat.zero_testBit]
    unfold group_Full.f
    rw [if_pos h0, e]
    rfl
  · by_cases h1 : n ≥ 64
    · have e : wv (lows n) = 2 ^ 64 - 1 := wv_eq (lows_len n) (by omega) fun i hi => by
        rw [lows_get n i hi, decide_eq_true (by omega), Nat.testBit_two_pow_sub_one, decide_eq_true hi]
      unfold group_Full.f
      rw [if_neg h0, if_pos h1, e]
      rfl
    · obtain ⟨m, rfl⟩ : ∃ m : Nat, n = m := ⟨n.toNat, by omega⟩
      have hp : 2 ^ m < 2 ^ 64 := Nat.pow_lt_pow_right (by omega) (by omega)
      have e : wv (lows (m : Int)) = 2 ^ m - 1 := wv_eq (lows_len _) (by omega) fun i hi => by
        rw [lows_get _ i hi, Nat.testBit_two_pow_sub_one]
        congr 1
        simp
      rw [full_is m (by omega), e]
/-- the truths below n, up to i -/
def lowsTo (n : Int) (i : Nat) : List Bool := (List.range 64).map fun j : Nat => decide (j < i) && decide ((j : Int) < n)
theorem lowsTo_len (n : Int) (i : Nat) : (lowsTo n i).length = 64 := by simp [lowsTo]
theorem lowsTo_zero (n : Int) : lowsTo n 0 = zer := by
  apply List.ext_getElem
  · simp [lowsTo, zer]
  · intro j h1 h2
    rw [show (zer[j]'h2) = false from List.getElem_replicate ..]
    simp only [lowsTo, List.getElem_map, Nat.not_lt_zero, decide_false, Bool.false_and]
theorem lowsTo_all (n : Int) : lowsTo n 64 = lows n := by
  apply List.ext_getElem
  · simp [lowsTo, lows]
  · intro j h1 h2
    have : j < 64 := by simpa [lowsTo] using h1
    simp [lowsTo, lows, this]
theorem lowsTo_step (n : Int) (i : Nat) (hi : i < 64) : (lowsTo n i).set i (decide ((i : Int) < n)) = lowsTo n (i + 1) := by
  apply List.ext_getElem
  · simp [lowsTo]
  · intro j h1 h2
    rw [List.getElem_set]
    split
    · rename_i h
      subst h
      simp [lowsTo]
    · rename_i h
      simp only [lowsTo, List.getElem_map, List.getElem_range]
      by_cases hj : j < i
      · simp [hj, show j < i + 1 by omega]
      · simp [hj, show ¬ j < i + 1 by omega]
theorem putAll_len : ∀ (l : List Int) (s t : List Bool), s.length = 64 → putAll l s = some t → t.length = 64
  | [], s, t, hs, h => by
    obtain rfl := Option.some.inj h
    exact hs
  | i :: r, s, t, hs, h => by
    rw [putAll] at h
    split at h
    · exact putAll_len r _ t (by simp [hs]) h
    · cases h
theorem ofSet_len (l : List Int) : (ofSet (putAll l zer)).length = 64 := by
  cases h : putAll l zer with
  | none => exact zer_len
  | some t => exact putAll_len l zer t zer_len h
end Go.Proofs.YtlhheknhkjcffaaDoor.Tz
