/- Lemmas: what functions of package pack compute, by hand. No conditions but those that the theorems name. -/
import Derived.Test.YtoobhpgkecplmaaBck
import Derived.Test.YtoobhpgkecplmaaQPackBackx8
import Derived.Test.YtoobhpgkecplmaaQPackBackx2
import Derived.Test.YtoobhpgkecplmaaQPackBackx1
import Derived.WalkSmall
namespace Go.Proofs.Ytoobhpgkecplmaa.QPackBack
open Go Go.RowKit Go.Proofs.YtoobhpgkecplmaaW.PrintWords Go.Proofs.YtoobhpgkecplmaaW.PrintLast Go.Proofs.YtoobhpgkecplmaaW.PrintMore
attribute [local go_sem] max2_int min2_int max_two min_two max_three min_three max_four min_four
set_option linter.unusedVariables false
set_option linter.unusedSimpArgs false
theorem log_nil : pack_Log.f [] = some ([0], 0) := by
  unfold pack_Log.f
  rw [if_pos (by simp), if_pos (by simp), if_neg (by simp [evLong])]
  simp [evs, enc_small]
theorem unlog_zero : pack_Unlog.f [0] = some ([], 0) := by
  unfold pack_Unlog.f
  rw [if_pos (by simp)]
  have e1 : getP [0] = (0, 1, 0) := by decide
  have e2 : unlogP [0] = .ok [] := by
    unfold unlogP manyP wordP
    rw [e1]
    simp [evsP, finP]
  rw [e2]
  rfl
theorem live_yes : sakialaw38_live.f = some true := by
  unfold sakialaw38_live.f
  rw [log_nil, Option.bind_some, unlog_zero, Option.bind_some]
  rfl
theorem long_l1 (a0 a1 a2 a3 a4 : Int) (up : List (List Int)) (l : List S54) (d : Nat) : ∀ (k i : Nat), i + d = 300 → 2 * d + 2 ≤ k → ∃ b, sakialaw38_long.l1 k i a0 a1 a2 a3 a4 up l = some b ∧ (b = false → up.length ≤ 300 ∧ l.length ≤ 300 ∧ ∀ j : Nat, i ≤ j → j < l.length → (rd_T54 l (j : Int)).f1.f2.length ≤ 300) := by
  have hend : ∀ (k i : Nat), ¬ (i < l.length ∧ i < 300) → i ≤ 300 → ∃ b, sakialaw38_long.j3 (k + 1) i false a0 a1 a2 a3 a4 up l = some b ∧ (b = false → up.length ≤ 300 ∧ l.length ≤ 300 ∧ ∀ j : Nat, i ≤ j → j < l.length → (rd_T54 l (j : Int)).f1.f2.length ≤ 300) := by
    intro k i h h2
    simp only [sakialaw38_long.j3]
    rw [if_neg (by decide)]
    by_cases hu : (up.length : Int) > 300
    · rw [if_pos hu]; exact ⟨true, rfl, fun h => by cases h⟩
    · rw [if_neg hu]
      refine ⟨_, rfl, fun hb => ?_⟩
      rw [decide_eq_false_iff_not] at hb
      exact ⟨by omega, by omega, fun j h3 h4 => by omega⟩
  induction d with
  | zero =>
    intro k i hi hk
    obtain ⟨k, rfl⟩ : ∃ m, k = m + 1 + 1 := ⟨k - 2, by omega⟩
    rw [sakialaw38_long.l1]
    rw [decide_eq_false (show ¬ ((i : Int) < 300) by omega), ite_self]
    exact hend k i (by omega) (by omega)
  | succ d ih =>
    intro k i hi hk
    obtain ⟨k, rfl⟩ : ∃ m, k = m + 1 + 1 := ⟨k - 2, by omega⟩
    rw [sakialaw38_long.l1]
    by_cases h1 : (i : Int) < (l.length : Int)
    · rw [if_pos h1, decide_eq_true (show ((i : Int) < 300) by omega)]
      simp only [sakialaw38_long.j3]
      rw [if_pos trivial, if_pos (by omega), if_pos h1]
      by_cases h2 : ((rd_T54 l (i : Int)).f1.f2.length : Int) > 300
      · rw [if_pos h2]; exact ⟨true, rfl, fun h => by cases h⟩
      · rw [if_neg h2, wrap_succ i (by omega)]
        obtain ⟨b, hb, hf⟩ := ih k (i + 1) (by omega) (by omega)
        refine ⟨b, hb, fun h => ⟨(hf h).1, (hf h).2.1, fun j h3 h4 => ?_⟩⟩
        by_cases hj : j = i
        · subst hj; omega
        · exact (hf h).2.2 j (by omega) h4
    · rw [if_neg h1]
      exact hend k i (by omega) (by omega)
theorem long_l0 (a0 a1 a2 a3 a4 : Int) (up : List (List Int)) (l : List S54) (d : Nat) : ∀ (k i : Nat), i + d = 300 → 2 * d + 610 ≤ k → ∃ b, sakialaw38_long.l0 k i a0 a1 a2 a3 a4 up l = some b ∧ (b = false → up.length ≤ 300 ∧ l.length ≤ 300 ∧ (∀ j : Nat, i ≤ j → j < up.length → (rd_L1 up (j : Int)).length ≤ 300) ∧ ∀ j : Nat, j < l.length → (rd_T54 l (j : Int)).f1.f2.length ≤ 300) := by
  have hend : ∀ (k i : Nat), 602 ≤ k → ¬ (i < up.length ∧ i < 300) → i ≤ 300 → ∃ b, sakialaw38_long.j1 (k + 1) i false a0 a1 a2 a3 a4 up l = some b ∧ (b = false → up.length ≤ 300 ∧ l.length ≤ 300 ∧ (∀ j : Nat, i ≤ j → j < up.length → (rd_L1 up (j : Int)).length ≤ 300) ∧ ∀ j : Nat, j < l.length → (rd_T54 l (j : Int)).f1.f2.length ≤ 300) := by
    intro k i hk h h2
    simp only [sakialaw38_long.j1]
    rw [if_neg (by decide)]
    obtain ⟨b, hb, hf⟩ := long_l1 a0 a1 a2 a3 a4 up l 300 k 0 (by omega) (by omega)
    refine ⟨b, hb, fun h => ⟨(hf h).1, (hf h).2.1, fun j h3 h4 => ?_, fun j h3 => (hf h).2.2 j (by omega) h3⟩⟩
    have := (hf h).1
    omega
  induction d with
  | zero =>
    intro k i hi hk
    obtain ⟨k, rfl⟩ : ∃ m, k = m + 1 + 1 := ⟨k - 2, by omega⟩
    rw [sakialaw38_long.l0]
    rw [decide_eq_false (show ¬ ((i : Int) < 300) by omega), ite_self]
    exact hend k i (by omega) (by omega) (by omega)
  | succ d ih =>
    intro k i hi hk
    obtain ⟨k, rfl⟩ : ∃ m, k = m + 1 + 1 := ⟨k - 2, by omega⟩
    rw [sakialaw38_long.l0]
    by_cases h1 : (i : Int) < (up.length : Int)
    · rw [if_pos h1, decide_eq_true (show ((i : Int) < 300) by omega)]
      simp only [sakialaw38_long.j1]
      rw [if_pos trivial, if_pos (by omega), if_pos h1]
      by_cases h2 : ((rd_L1 up (i : Int)).length : Int) > 300
      · rw [if_pos h2]; exact ⟨true, rfl, fun h => by cases h⟩
      · rw [if_neg h2, wrap_succ i (by omega)]
        obtain ⟨b, hb, hf⟩ := ih k (i + 1) (by omega) (by omega)
        refine ⟨b, hb, fun h => ⟨(hf h).1, (hf h).2.1, fun j h3 h4 => ?_, (hf h).2.2.2⟩⟩
        by_cases hj : j = i
        · subst hj; omega
        · exact (hf h).2.2.1 j (by omega) h4
    · rw [if_neg h1]
      exact hend k i (by omega) (by omega) (by omega)
theorem logs_l0 (l : List S56) (d : Nat) : ∀ (k i : Nat), i + d = 300 → 2 * d + 2 ≤ k → ∃ b, sakialaw38_logs.l0 k l i = some b ∧ (b = false → l.length ≤ 300 ∧ ∀ j : Nat, i ≤ j → j < l.length → (rd_T56 l (j : Int)).f6.length ≤ 300) := by
  have hend : ∀ (k i : Nat), ¬ (i < l.length ∧ i < 300) → i ≤ 300 → ∃ b, sakialaw38_logs.j1 (k + 1) l i false = some b ∧ (b = false → l.length ≤ 300 ∧ ∀ j : Nat, i ≤ j → j < l.length → (rd_T56 l (j : Int)).f6.length ≤ 300) := by
    intro k i h h2
    simp only [sakialaw38_logs.j1]
    rw [if_neg (by decide)]
    refine ⟨_, rfl, fun hb => ?_⟩
    rw [decide_eq_false_iff_not] at hb
    exact ⟨by omega, fun j h3 h4 => by omega⟩
  induction d with
  | zero =>
    intro k i hi hk
    obtain ⟨k, rfl⟩ : ∃ m, k = m + 1 + 1 := ⟨k - 2, by omega⟩
    rw [sakialaw38_logs.l0]
    rw [decide_eq_false (show ¬ ((i : Int) < 300) by omega), ite_self]
    exact hend k i (by omega) (by omega)
  | succ d ih =>
    intro k i hi hk
    obtain ⟨k, rfl⟩ : ∃ m, k = m + 1 + 1 := ⟨k - 2, by omega⟩
    rw [sakialaw38_logs.l0]
    by_cases h1 : (i : Int) < (l.length : Int)
    · rw [if_pos h1, decide_eq_true (show ((i : Int) < 300) by omega)]
      simp only [sakialaw38_logs.j1]
      rw [if_pos trivial, if_pos (by omega), if_pos h1]
      by_cases h2 : ((rd_T56 l (i : Int)).f6.length : Int) > 300
      · rw [if_pos h2]; exact ⟨true, rfl, fun h => by cases h⟩
      · rw [if_neg h2, wrap_succ i (by omega)]
        obtain ⟨b, hb, hf⟩ := ih k (i + 1) (by omega) (by omega)
        refine ⟨b, hb, fun h => ⟨(hf h).1, fun j h3 h4 => ?_⟩⟩
        by_cases hj : j = i
        · subst hj; omega
        · exact (hf h).2 j (by omega) h4
    · rw [if_neg h1]
      exact hend k i (by omega) (by omega)
/-- the numbers of a script, and of events, are of their kinds -/
def wfA (a : S54) : Prop := i64b a.f0 = true ∧ i64b a.f1.f0 = true ∧ i64b a.f1.f1 = true ∧ ∀ n ∈ a.f1.f2, i64b n = true
def wfE (e : S56) : Prop := i64b e.f0 = true ∧ i64b e.f1 = true ∧ i64b e.f2 = true ∧ i64b e.f3 = true ∧ 0 ≤ e.f4 ∧ e.f4 < 18446744073709551616 ∧ i64b e.f5 = true ∧ ∀ n ∈ e.f6, i64b n = true
theorem all_T54 {l : List S54} {p : S54 → Prop} (h : ∀ j : Nat, j < l.length → p (rd_T54 l (j : Int))) : ∀ a ∈ l, p a := by
  intro a ha
  obtain ⟨j, hj, rfl⟩ := List.getElem_of_mem ha
  have := h j hj
  simpa [rd_T54, List.getD_eq_getElem?_getD, hj] using this
theorem all_T56 {l : List S56} {p : S56 → Prop} (h : ∀ j : Nat, j < l.length → p (rd_T56 l (j : Int))) : ∀ a ∈ l, p a := by
  intro a ha
  obtain ⟨j, hj, rfl⟩ := List.getElem_of_mem ha
  have := h j hj
  simpa [rd_T56, List.getD_eq_getElem?_getD, hj] using this
theorem all_L1 {l : List (List Int)} {p : List Int → Prop} (h : ∀ j : Nat, j < l.length → p (rd_L1 l (j : Int))) : ∀ a ∈ l, p a := by
  intro a ha
  obtain ⟨j, hj, rfl⟩ := List.getElem_of_mem ha
  have := h j hj
  simpa [rd_L1, List.getD_eq_getElem?_getD, hj] using this
/-- where a script is not too long to be gone through, it is fit for pack.Script -/
theorem long_yes (a0 a1 a2 a3 a4 : Int) (up : List (List Int)) (l : List S54) (hu : ∀ u ∈ up, ∀ n ∈ u, i64b n = true) (ha : ∀ a ∈ l, wfA a) (k : Nat) (hk : 1300 ≤ k) : ∃ b, sakialaw38_long.f k a0 a1 a2 a3 a4 up l = some b ∧ (b = false → (up.length ≤ 1000 ∧ l.length ≤ 1000) ∧ (up.all okL && l.all okA) = true) := by
  unfold sakialaw38_long.f
  obtain ⟨b, hb, hf⟩ := long_l0 a0 a1 a2 a3 a4 up l 300 k 0 (by omega) (by omega)
  refine ⟨b, hb, fun h => ?_⟩
  obtain ⟨h1, h2, h3, h4⟩ := hf h
  refine ⟨⟨by omega, by omega⟩, ?_⟩
  rw [Bool.and_eq_true, List.all_eq_true, List.all_eq_true]
  have k1 := all_L1 (p := fun u => u.length ≤ 300) (fun j hj => h3 j (by omega) hj)
  have k2 := all_T54 (p := fun a => a.f1.f2.length ≤ 300) h4
  refine ⟨fun u hu' => ?_, fun a ha' => ?_⟩
  · have := k1 u hu'
    simp only [okL, Bool.and_eq_true, decide_eq_true_eq, List.all_eq_true]
    exact ⟨by omega, hu u hu'⟩
  · have := k2 a ha'
    obtain ⟨w0, w1, w2, w3⟩ := ha a ha'
    simp only [okA, okL, Bool.and_eq_true, decide_eq_true_eq, List.all_eq_true]
    exact ⟨⟨⟨w0, w1⟩, w2⟩, by omega, w3⟩
theorem logs_yes (l : List S56) (he : ∀ e ∈ l, wfE e) (k : Nat) (hk : 1300 ≤ k) : ∃ b, sakialaw38_logs.f k l = some b ∧ (b = false → l.length ≤ 1000 ∧ l.all okE = true) := by
  unfold sakialaw38_logs.f
  obtain ⟨b, hb, hf⟩ := logs_l0 l 300 k 0 (by omega) (by omega)
  refine ⟨b, hb, fun h => ?_⟩
  obtain ⟨h1, h2⟩ := hf h
  refine ⟨by omega, ?_⟩
  rw [List.all_eq_true]
  have k1 := all_T56 (p := fun e => e.f6.length ≤ 300) (fun j hj => h2 j (by omega) hj)
  intro e he'
  have := k1 e he'
  obtain ⟨w0, w1, w2, w3, w4, w5, w6, w7⟩ := he e he'
  simp only [okE, Bool.and_eq_true, decide_eq_true_eq, List.all_eq_true]
  exact ⟨⟨⟨⟨⟨⟨⟨⟨w0, w1⟩, w2⟩, w3⟩, w6⟩, w4⟩, w5⟩, by omega⟩, w7⟩
theorem wordP_err {l : List Int} {e : Int} (h : wordP l = .error e) : e ≠ 0 := by
  unfold wordP at h
  split at h
  · cases h
  · rename_i hn
    injection h with h
    rwa [← h]
theorem numP_err {l : List Int} {e : Int} (h : numP l = .error e) : e ≠ 0 := by
  unfold numP at h
  split at h
  · cases h
  · rename_i e' he
    injection h with h
    rw [← h]
    exact wordP_err he
theorem manyP_err {m : Nat} {l : List Int} {e : Int} (h : manyP m l = .error e) : e ≠ 0 := by
  unfold manyP at h
  split at h
  · split at h
    · injection h with h
      rw [← h]
      decide
    · cases h
  · rename_i e' he
    injection h with h
    rw [← h]
    exact wordP_err he
theorem listP_err {l : List Int} {e : Int} (h : listP l = .error e) : e ≠ 0 := by
  unfold listP at h
  split at h
  · cases h
  · rename_i hn
    injection h with h
    rwa [← h]
theorem actP_err {l : List Int} {e : Int} (h : actP l = .error e) : e ≠ 0 := by
  unfold actP at h
  repeat' split at h
  all_goals first
    | (rename_i he; injection h with h; subst h; first | exact numP_err he | exact listP_err he)
    | cases h
theorem evP_err {l : List Int} {e : Int} (h : evP l = .error e) : e ≠ 0 := by
  unfold evP at h
  repeat' split at h
  all_goals first
    | (rename_i he; injection h with h; subst h; first | exact numP_err he | exact wordP_err he | exact listP_err he)
    | cases h
theorem listsP_err : ∀ (n : Nat) {l : List Int} {e : Int}, listsP n l = .error e → e ≠ 0
  | 0, l, e, h => by cases h
  | n + 1, l, e, h => by
    simp only [listsP] at h
    split at h
    · rename_i he
      injection h with h
      subst h
      exact listP_err he
    · split at h
      · rename_i he
        injection h with h
        subst h
        exact listsP_err n he
      · cases h
theorem actsP_err : ∀ (n : Nat) {l : List Int} {e : Int}, actsP n l = .error e → e ≠ 0
  | 0, l, e, h => by cases h
  | n + 1, l, e, h => by
    simp only [actsP] at h
    split at h
    · rename_i he
      injection h with h
      subst h
      exact actP_err he
    · split at h
      · rename_i he
        injection h with h
        subst h
        exact actsP_err n he
      · cases h
theorem evsP_err : ∀ (n : Nat) {l : List Int} {e : Int}, evsP n l = .error e → e ≠ 0
  | 0, l, e, h => by cases h
  | n + 1, l, e, h => by
    simp only [evsP] at h
    split at h
    · rename_i he
      injection h with h
      subst h
      exact evP_err he
    · split at h
      · rename_i he
        injection h with h
        subst h
        exact evsP_err n he
      · cases h
theorem unlogP_err {l : List Int} {e : Int} (h : unlogP l = .error e) : e ≠ 0 := by
  unfold unlogP at h
  split at h
  · rename_i he
    injection h with h
    subst h
    exact manyP_err he
  · rename_i n l1 h1
    cases h2 : evsP n l1 with
    | error e' =>
      rw [h2] at h
      simp only [finP] at h
      injection h with h
      subst h
      exact evsP_err n h2
    | ok q =>
      obtain ⟨xs, r⟩ := q
      rw [h2] at h
      cases r with
      | nil => cases h
      | cons c r =>
        simp only [finP] at h
        injection h with h
        subst h
        decide
theorem unscriptP_err {l : List Int} {e : Int} (h : unscriptP l = .error e) : e ≠ 0 := by
  unfold unscriptP at h
  repeat' split at h
  all_goals first
    | (rename_i he; injection h with h; subst h; first | exact numP_err he | exact wordP_err he | exact manyP_err he)
    | skip
  rename_i n l6 _
  cases h2 : listsP n l6 with
  | error e' =>
    rw [h2] at h
    simp only [finU] at h
    injection h with h
    subst h
    exact listsP_err n h2
  | ok q =>
    obtain ⟨us, r⟩ := q
    rw [h2] at h
    simp only [finU] at h
    split at h
    · rename_i he
      injection h with h
      subst h
      exact manyP_err he
    · rename_i m l8 _
      cases h3 : actsP m l8 with
      | error e' =>
        rw [h3] at h
        simp only [finA] at h
        injection h with h
        subst h
        exact actsP_err m h3
      | ok q =>
        obtain ⟨xs, r⟩ := q
        rw [h3] at h
        cases r with
        | nil => cases h
        | cons c r =>
          simp only [finA] at h
          injection h with h
          subst h
          decide
theorem bytes_all {b : List Int} (hb : bytes b) : (b.all fun c => decide (0 ≤ c) && decide (c ≤ 255)) = true := by
  rw [List.all_eq_true]
  intro c hc
  have := hb c hc
  simp only [this.1, this.2, decide_true, Bool.and_self]
theorem unscript_f {b : List Int} (hb : bytes b) (hl : b.length ≤ 2000000) : pack_Unscript.f b = some (outP zScr (unscriptP b)) := by
  unfold pack_Unscript.f
  rw [if_pos ⟨hl, bytes_all hb⟩]
theorem unlog_f {b : List Int} (hb : bytes b) (hl : b.length ≤ 2000000) : pack_Unlog.f b = some (outP [] (unlogP b)) := by
  unfold pack_Unlog.f
  rw [if_pos ⟨hl, bytes_all hb⟩]
theorem enc_one (x : Nat) : 1 ≤ (enc x).length := enc_pos x
theorem acts_count (l : List S54) : 4 * l.length ≤ (acts l).length := by
  induction l with
  | nil => exact Nat.le_refl _
  | cons a l ih =>
    have e : acts (a :: l) = actB a ++ acts l := by simp [acts]
    have h1 := enc_one (zigI a.f0)
    have h2 := enc_one (zigI a.f1.f0)
    have h3 := enc_one (zigI a.f1.f1)
    have h4 := enc_one a.f1.f2.length
    rw [e, List.length_append, List.length_cons]
    simp only [actB, nums_cons, nums_nil, lst, List.length_append, List.length_nil]
    omega
theorem evs_count (l : List S56) : 7 * l.length ≤ (evs l).length := by
  induction l with
  | nil => exact Nat.le_refl _
  | cons a l ih =>
    have e : evs (a :: l) = evB a ++ evs l := by simp [evs]
    have h1 := enc_one (zigI a.f0)
    have h2 := enc_one (zigI a.f1)
    have h3 := enc_one (zigI a.f2)
    have h4 := enc_one (zigI a.f3)
    have h5 := enc_one a.f4.toNat
    have h6 := enc_one (zigI a.f5)
    have h7 := enc_one a.f6.length
    rw [e, List.length_append, List.length_cons]
    simp only [evB, nums_cons, nums_nil, lst, List.length_append, List.length_nil]
    omega
theorem fineL_ok {l : List Int} (h : fineL l) : okL l = true := by
  simp only [okL, Bool.and_eq_true, decide_eq_true_eq, List.all_eq_true]
  exact ⟨by have := h.1; omega, h.2⟩
theorem fineA_ok {a : S54} (h : fineA a) : okA a = true := by
  obtain ⟨h1, h2, h3, h4, h5⟩ := h
  simp only [okA, h1, h2, h3, fineL_ok ⟨h4, h5⟩, Bool.and_self]
theorem fineE_ok {a : S56} (h : fineE a) : okE a = true := by
  obtain ⟨h1, h2, h3, h4, h5, h6, h7, h8, h9⟩ := h
  simp only [okE, Bool.and_eq_true, decide_eq_true_eq, List.all_eq_true]
  exact ⟨⟨⟨⟨⟨⟨⟨⟨h1, h2⟩, h3⟩, h4⟩, h7⟩, h5⟩, h6⟩, by omega⟩, h9⟩
theorem script_f {s : Scr} (h : FineS s) (ha : s.acts.length ≤ 1000) : pack_Script.f s.a s.b s.c s.d s.p s.up s.acts = some (scrB s.a s.b s.c s.d s.p s.up s.acts, 0) := by
  have hu := h.un
  unfold pack_Script.f
  rw [if_pos (by simp only [h.a, h.b, h.c, h.d, h.p0, h.p1, decide_true, Bool.and_self]), if_pos ⟨by omega, ha⟩, if_pos, if_neg]
  · simp only [scrLong, upLong, actLong, Bool.or_eq_true, decide_eq_true_eq, List.any_eq_true, not_or, not_exists, not_and]
    refine ⟨⟨⟨by omega, fun x hx => ?_⟩, by omega⟩, fun x hx => ?_⟩
    · have := (h.u x hx).1
      omega
    · have := (h.s x hx).2.2.2.1
      omega
  · simp only [Bool.and_eq_true, List.all_eq_true]
    exact ⟨fun x hx => fineL_ok (h.u x hx), fun x hx => fineA_ok (h.s x hx)⟩
theorem log_f {l : List S56} (h : ∀ e ∈ l, fineE e) (hl : l.length ≤ 1000) : pack_Log.f l = some (enc l.length ++ evs l, 0) := by
  unfold pack_Log.f
  rw [if_pos hl, if_pos (List.all_eq_true.2 (fun e he => fineE_ok (h e he))), if_neg]
  simp only [evLong, Bool.or_eq_true, decide_eq_true_eq, List.any_eq_true, not_or, not_exists, not_and]
  refine ⟨by omega, fun x hx => ?_⟩
  have := (h x hx).2.2.2.2.2.2.2.1
  omega
theorem once_script {b : List Int} (hb : bytes b) (hl : b.length ≤ 4000) {s : Scr} (h : unscriptP b = .ok s) : pack_Script.f s.a s.b s.c s.d s.p s.up s.acts = some (b, 0) := by
  obtain ⟨e, hf⟩ := unscriptP_sound hb h
  have hc := acts_count s.acts
  have hle : (acts s.acts).length ≤ b.length := by
    rw [e]
    simp only [scrB, List.length_append]
    omega
  rw [script_f hf (by omega), ← e]
theorem once_log {b : List Int} (hb : bytes b) (hl : b.length ≤ 4000) {l : List S56} (h : unlogP b = .ok l) : pack_Log.f l = some (b, 0) := by
  obtain ⟨e, _, hf⟩ := unlogP_sound hb h
  have hc := evs_count l
  have hle : (evs l).length ≤ b.length := by
    rw [e, List.length_append]
    omega
  rw [log_f hf (by omega), ← e]
/-! What PackBack needs: the bytes written are bytes and not too many; what is the same is told the same. -/
theorem bytes_app {p r : List Int} (h : bytes p) (k : bytes r) : bytes (p ++ r) := fun c hc => by
  rcases List.mem_append.1 hc with hc | hc
  · exact h c hc
  · exact k c hc
theorem bytes_enc (x : Nat) : bytes (enc x) := enc_range x
theorem bytes_nums : ∀ l : List Int, bytes (nums l)
  | [] => fun c hc => absurd hc (by simp [nums_nil])
  | n :: l => by rw [nums_cons]; exact bytes_app (bytes_enc _) (bytes_nums l)
theorem bytes_lst (l : List Int) : bytes (lst l) := bytes_app (bytes_enc _) (bytes_nums l)
theorem bytes_flat {α : Type} (f : α → List Int) (h : ∀ x, bytes (f x)) : ∀ l : List α, bytes ((l.map f).flatten)
  | [] => fun c hc => absurd hc (by simp)
  | x :: l => by
    rw [List.map_cons, List.flatten_cons]
    exact bytes_app (h x) (bytes_flat f h l)
theorem bytes_scr (a b c d p : Int) (up : List (List Int)) (l : List S54) : bytes (scrB a b c d p up l) :=
  bytes_app (bytes_app (bytes_app (bytes_app (bytes_app (bytes_nums _) (bytes_enc _)) (bytes_enc _)) (bytes_flat _ bytes_lst _)) (bytes_enc _)) (bytes_flat _ (fun a => bytes_app (bytes_nums _) (bytes_lst _)) _)
theorem bytes_log (l : List S56) : bytes (enc l.length ++ evs l) :=
  bytes_app (bytes_enc _) (bytes_flat _ (fun a => bytes_app (bytes_app (bytes_app (bytes_nums _) (bytes_enc _)) (bytes_nums _)) (bytes_lst _)) _)
theorem len_nums : ∀ l : List Int, (∀ n ∈ l, i64b n = true) → (nums l).length ≤ 10 * l.length
  | [], _ => by simp [nums_nil]
  | n :: l, h => by
    have h1 := (i64b_iff n).1 (h n List.mem_cons_self)
    have h2 := enc_len10 (zig_lt h1.1 h1.2)
    have h3 := len_nums l (fun m hm => h m (List.mem_cons_of_mem _ hm))
    rw [nums_cons, List.length_append, List.length_cons]
    omega
theorem len_lst {l : List Int} (h : fineL l) : (lst l).length ≤ 2570 := by
  have h1 := len_nums l h.2
  have h2 := h.1
  have h3 := enc_len10 (x := l.length) (by omega)
  unfold lst
  rw [List.length_append]
  omega
theorem len_flat {α : Type} (f : α → List Int) (B : Nat) : ∀ l : List α, (∀ x ∈ l, (f x).length ≤ B) → ((l.map f).flatten).length ≤ B * l.length
  | [], _ => by simp
  | x :: l, h => by
    have h1 := h x List.mem_cons_self
    have h2 := len_flat f B l (fun y hy => h y (List.mem_cons_of_mem _ hy))
    rw [List.map_cons, List.flatten_cons, List.length_append, List.length_cons, Nat.mul_succ]
    omega
theorem len_act {a : S54} (h : fineA a) : (actB a).length ≤ 2600 := by
  obtain ⟨h1, h2, h3, h4, h5⟩ := h
  have e1 := len_nums [a.f0, a.f1.f0, a.f1.f1] (fun n hn => by
    simp only [List.mem_cons, List.not_mem_nil, or_false] at hn
    rcases hn with rfl | rfl | rfl <;> assumption)
  have e2 := len_lst ⟨h4, h5⟩
  simp only [List.length_cons, List.length_nil] at e1
  unfold actB
  rw [List.length_append]
  omega
theorem len_ev {a : S56} (h : fineE a) : (evB a).length ≤ 2640 := by
  obtain ⟨h1, h2, h3, h4, h5, h6, h7, h8, h9⟩ := h
  have e1 := len_nums [a.f0, a.f1, a.f2, a.f3] (fun n hn => by
    simp only [List.mem_cons, List.not_mem_nil, or_false] at hn
    rcases hn with rfl | rfl | rfl | rfl <;> assumption)
  have e3 := len_nums [a.f5] (fun n hn => by
    simp only [List.mem_cons, List.not_mem_nil, or_false] at hn
    rcases hn with rfl
    assumption)
  have e2 := len_lst ⟨h8, h9⟩
  have e4 := enc_len10 (x := a.f4.toNat) (by omega)
  simp only [List.length_cons, List.length_nil] at e1 e3
  unfold evB
  simp only [List.length_append]
  omega
theorem fineL_of {l : List Int} (h : okL l = true) (hl : ¬ (l.length : Int) > 256) : fineL l := by
  simp only [okL, Bool.and_eq_true, decide_eq_true_eq, List.all_eq_true] at h
  exact ⟨by omega, h.2⟩
theorem fineA_of {a : S54} (h : okA a = true) (hl : ¬ (a.f1.f2.length : Int) > 256) : fineA a := by
  simp only [okA, Bool.and_eq_true] at h
  have := fineL_of h.2 hl
  exact ⟨h.1.1.1, h.1.1.2, h.1.2, this.1, this.2⟩
theorem fineE_of {a : S56} (h : okE a = true) (hl : ¬ (a.f6.length : Int) > 256) : fineE a := by
  simp only [okE, Bool.and_eq_true, decide_eq_true_eq, List.all_eq_true] at h
  obtain ⟨⟨⟨⟨⟨⟨⟨⟨w0, w1⟩, w2⟩, w3⟩, w6⟩, w4⟩, w5⟩, _⟩, w7⟩ := h
  exact ⟨w0, w1, w2, w3, w4, w5, w6, by omega, w7⟩
theorem back_script (a b c d p : Int) (up : List (List Int)) (l : List S54) (h0 : (i64b a && i64b b && i64b c && i64b d && decide (0 ≤ p) && decide (p < 18446744073709551616)) = true) (h1 : up.length ≤ 300) (h2 : l.length ≤ 300) (h3 : (up.all okL && l.all okA) = true) :
    pack_Script.f a b c d p up l = some ([], 21) ∨ (pack_Script.f a b c d p up l = some (scrB a b c d p up l, 0) ∧ FineS ⟨a, b, c, d, p, up, l⟩ ∧ (scrB a b c d p up l).length ≤ 2000000) := by
  unfold pack_Script.f
  rw [if_pos h0, if_pos ⟨by omega, by omega⟩, if_pos h3]
  by_cases hs : scrLong up l = true
  · rw [if_pos hs]
    exact .inl rfl
  · rw [if_neg hs]
    refine .inr ⟨rfl, ?_⟩
    simp only [scrLong, upLong, actLong, Bool.or_eq_true, decide_eq_true_eq, List.any_eq_true, not_or, not_exists, not_and] at hs
    obtain ⟨⟨⟨k1, k2⟩, k3⟩, k4⟩ := hs
    rw [Bool.and_eq_true, List.all_eq_true, List.all_eq_true] at h3
    simp only [Bool.and_eq_true, decide_eq_true_eq] at h0
    obtain ⟨⟨⟨⟨⟨i1, i2⟩, i3⟩, i4⟩, i5⟩, i6⟩ := h0
    have f1 : ∀ x ∈ up, fineL x := fun x hx => fineL_of (h3.1 x hx) (k2 x hx)
    have f2 : ∀ x ∈ l, fineA x := fun x hx => fineA_of (h3.2 x hx) (k4 x hx)
    refine ⟨⟨i1, i2, i3, i4, i5, i6, by simp only; omega, f1, by simp only; omega, f2⟩, ?_⟩
    have n1 := len_nums [a, b, c, d] (fun n hn => by
      simp only [List.mem_cons, List.not_mem_nil, or_false] at hn
      rcases hn with rfl | rfl | rfl | rfl <;> assumption)
    have n2 := enc_len10 (x := p.toNat) (by omega)
    have n3 := enc_len10 (x := up.length) (by omega)
    have n4 := enc_len10 (x := l.length) (by omega)
    have n5 := len_flat lst 2570 up (fun x hx => len_lst (f1 x hx))
    have n6 := len_flat actB 2600 l (fun x hx => len_act (f2 x hx))
    simp only [List.length_cons, List.length_nil] at n1
    have n7 : (ups up).length ≤ 2570 * up.length := n5
    have n8 : (acts l).length ≤ 2600 * l.length := n6
    simp only [scrB, List.length_append]
    omega
theorem back_log (l : List S56) (h1 : l.length ≤ 300) (h2 : l.all okE = true) :
    pack_Log.f l = some ([], 21) ∨ (pack_Log.f l = some (enc l.length ++ evs l, 0) ∧ (∀ e ∈ l, fineE e) ∧ (enc l.length ++ evs l).length ≤ 2000000) := by
  unfold pack_Log.f
  rw [if_pos (by omega), if_pos h2]
  by_cases hs : (decide ((l.length : Int) > 65536) || evLong l) = true
  · rw [if_pos hs]
    exact .inl rfl
  · rw [if_neg hs]
    refine .inr ⟨rfl, ?_⟩
    simp only [evLong, Bool.or_eq_true, decide_eq_true_eq, List.any_eq_true, not_or, not_exists, not_and] at hs
    rw [List.all_eq_true] at h2
    have f : ∀ e ∈ l, fineE e := fun x hx => fineE_of (h2 x hx) (hs.2 x hx)
    refine ⟨f, ?_⟩
    have n5 : (evs l).length ≤ 2640 * l.length := len_flat evB 2640 l (fun x hx => len_ev (f x hx))
    have n4 := enc_len10 (x := l.length) (by omega)
    rw [List.length_append]
    omega
theorem same05_loop (l : List Int) (hl : l.length ≤ 100000) (d : Nat) : ∀ (k i : Nat), i + d = l.length → d + 1 ≤ k → sakiaref05_Same.l0 k l l i = some true := by
  induction d with
  | zero =>
    intro k i hi hk
    obtain ⟨k, rfl⟩ : ∃ m, k = m + 1 := ⟨k - 1, by omega⟩
    simp only [sakiaref05_Same.l0]
    rw [if_neg (by omega)]
  | succ d ih =>
    intro k i hi hk
    obtain ⟨k, rfl⟩ : ∃ m, k = m + 1 := ⟨k - 1, by omega⟩
    simp only [sakiaref05_Same.l0]
    rw [if_pos (by omega), if_pos (by omega), if_pos (by omega), if_pos trivial, wrap_succ i (by omega)]
    exact ih k (i + 1) (by omega) (by omega)
theorem same05_refl (l : List Int) (hl : l.length ≤ 1000) (k : Nat) (hk : 1001 ≤ k) : sakiaref05_Same.f k l l = some true := by
  unfold sakiaref05_Same.f
  rw [if_pos rfl]
  exact same05_loop l (by omega) l.length k 0 (by omega) (by omega)
theorem mem_L1 {l : List (List Int)} {i : Nat} (h : i < l.length) : rd_L1 l (i : Int) ∈ l := by
  simp [rd_L1, List.getD_eq_getElem?_getD, h]
theorem mem_T54 {l : List S54} {i : Nat} (h : i < l.length) : rd_T54 l (i : Int) ∈ l := by
  simp [rd_T54, List.getD_eq_getElem?_getD, h]
theorem mem_T56 {l : List S56} {i : Nat} (h : i < l.length) : rd_T56 l (i : Int) ∈ l := by
  simp [rd_T56, List.getD_eq_getElem?_getD, h]
theorem graphs_loop (l : List (List Int)) (hl : l.length ≤ 100000) (hu : ∀ u ∈ l, u.length ≤ 1000) (d : Nat) : ∀ (k i : Nat), i + d = l.length → d + 1010 ≤ k → sakiaref10_Graphs.l0 k l l i = some true := by
  induction d with
  | zero =>
    intro k i hi hk
    obtain ⟨k, rfl⟩ : ∃ m, k = m + 1 := ⟨k - 1, by omega⟩
    simp only [sakiaref10_Graphs.l0]
    rw [if_neg (by omega)]
  | succ d ih =>
    intro k i hi hk
    obtain ⟨k, rfl⟩ : ∃ m, k = m + 1 := ⟨k - 1, by omega⟩
    simp only [sakiaref10_Graphs.l0]
    rw [if_pos (by omega), if_pos (by omega), if_pos (by omega), same05_refl _ (hu _ (mem_L1 (by omega))) k (by omega), Option.bind_some, if_pos rfl, wrap_succ i (by omega)]
    exact ih k (i + 1) (by omega) (by omega)
theorem same10_refl (a b c d p : Int) (l : List (List Int)) (hl : l.length ≤ 1000) (hu : ∀ u ∈ l, u.length ≤ 1000) (k : Nat) (hk : 3000 ≤ k) : sakiaref10_Same.f k a b c d p l a b c d p l = some true := by
  unfold sakiaref10_Same.f sakiaref10_Graphs.f
  rw [if_pos rfl, if_pos rfl, if_pos rfl, if_pos rfl, if_pos rfl, if_pos rfl]
  have := graphs_loop l (by omega) hu l.length k 0 (by omega) (by omega)
  rw [show ((0 : Nat) : Int) = 0 from rfl] at this
  rw [this, Option.bind_some]
theorem acts_loop (l : List S54) (hl : l.length ≤ 100000) (hu : ∀ u ∈ l, u.f1.f2.length ≤ 1000) (d : Nat) : ∀ (k i : Nat), i + d = l.length → d + 1010 ≤ k → sakiaref36_Acts.l0 k l l i = some true := by
  induction d with
  | zero =>
    intro k i hi hk
    obtain ⟨k, rfl⟩ : ∃ m, k = m + 1 := ⟨k - 1, by omega⟩
    simp only [sakiaref36_Acts.l0]
    rw [if_neg (by omega)]
  | succ d ih =>
    intro k i hi hk
    obtain ⟨k, rfl⟩ : ∃ m, k = m + 1 := ⟨k - 1, by omega⟩
    simp only [sakiaref36_Acts.l0]
    rw [if_pos (by omega), if_pos (by omega), if_pos (by omega), if_pos trivial, if_pos trivial, if_pos trivial, same05_refl _ (hu _ (mem_T54 (by omega))) k (by omega), Option.bind_some, if_pos rfl, wrap_succ i (by omega)]
    exact ih k (i + 1) (by omega) (by omega)
theorem acts_refl (l : List S54) (hl : l.length ≤ 5000) (hu : ∀ u ∈ l, u.f1.f2.length ≤ 1000) (k : Nat) (hk : 7000 ≤ k) : sakiaref36_Acts.f k l l = some true := by
  unfold sakiaref36_Acts.f
  rw [if_pos rfl]
  exact acts_loop l (by omega) hu l.length k 0 (by omega) (by omega)
theorem evs_loop (l : List S56) (hl : l.length ≤ 100000) (hu : ∀ u ∈ l, u.f6.length ≤ 1000) (d : Nat) : ∀ (k i : Nat), i + d = l.length → d + 1010 ≤ k → sakiaref15_Same.l0 k l l i = some true := by
  induction d with
  | zero =>
    intro k i hi hk
    obtain ⟨k, rfl⟩ : ∃ m, k = m + 1 := ⟨k - 1, by omega⟩
    simp only [sakiaref15_Same.l0]
    rw [if_neg (by omega)]
  | succ d ih =>
    intro k i hi hk
    obtain ⟨k, rfl⟩ : ∃ m, k = m + 1 := ⟨k - 1, by omega⟩
    simp only [sakiaref15_Same.l0, sakiaref15_One.f]
    rw [if_pos (by omega), if_pos (by omega), if_pos (by omega), if_pos trivial, if_pos trivial, if_pos trivial, if_pos trivial, if_pos trivial, if_pos trivial, same05_refl _ (hu _ (mem_T56 (by omega))) k (by omega), Option.bind_some, Option.bind_some, if_pos rfl, wrap_succ i (by omega)]
    exact ih k (i + 1) (by omega) (by omega)
theorem same15_refl (l : List S56) (hl : l.length ≤ 66000) (hu : ∀ u ∈ l, u.f6.length ≤ 1000) (k : Nat) (hk : 70000 ≤ k) : sakiaref15_Same.f k l l = some true := by
  unfold sakiaref15_Same.f
  rw [if_pos rfl]
  exact evs_loop l (by omega) hu l.length k 0 (by omega) (by omega)
theorem long_more (a0 a1 a2 a3 a4 : Int) (up : List (List Int)) (l : List S54) (hu : ∀ u ∈ up, ∀ n ∈ u, i64b n = true) (ha : ∀ a ∈ l, wfA a) : ∃ b, sakialaw38_long.f 1300 a0 a1 a2 a3 a4 up l = some b ∧ (b = false → up.length ≤ 300 ∧ l.length ≤ 300 ∧ (up.all okL && l.all okA) = true) := by
  obtain ⟨b, hb, hf⟩ := long_yes a0 a1 a2 a3 a4 up l hu ha 1300 (by omega)
  obtain ⟨b', hb', hf'⟩ := long_l0 a0 a1 a2 a3 a4 up l 300 1300 0 (by omega) (by omega)
  have e : b = b' := Option.some.inj (hb.symm.trans hb')
  subst e
  exact ⟨b, hb, fun h => ⟨(hf' h).1, (hf' h).2.1, (hf h).2⟩⟩
theorem logs_more (l : List S56) (he : ∀ e ∈ l, wfE e) : ∃ b, sakialaw38_logs.f 1300 l = some b ∧ (b = false → l.length ≤ 300 ∧ l.all okE = true) := by
  obtain ⟨b, hb, hf⟩ := logs_yes l he 1300 (by omega)
  obtain ⟨b', hb', hf'⟩ := logs_l0 l 300 1300 0 (by omega) (by omega)
  have e : b = b' := Option.some.inj (hb.symm.trans hb')
  subst e
  exact ⟨b, hb, fun h => ⟨(hf' h).1, (hf h).2⟩⟩
theorem back_log2 (l : List S56) (h1 : l.length ≤ 300) (h2 : l.all okE = true) : pack_Log.f l = some ([], 21) ∨ ∃ b, pack_Log.f l = some (b, 0) ∧ pack_Unlog.f b = some (l, 0) ∧ sakiaref15_Same.f 70000 l l = some true := by
  rcases back_log l h1 h2 with h | ⟨h, hF, hlen⟩
  · exact .inl h
  · exact .inr ⟨_, h, by rw [unlog_f (bytes_log l) hlen, unlogP_back (by omega) hF]; rfl, same15_refl l (by omega) (fun u hu => by have := (hF u hu).2.2.2.2.2.2.2.1; omega) 70000 (by omega)⟩
theorem back_script2 (a b c d p : Int) (up : List (List Int)) (l : List S54) (h0 : (i64b a && i64b b && i64b c && i64b d && decide (0 ≤ p) && decide (p < 18446744073709551616)) = true) (h1 : up.length ≤ 300) (h2 : l.length ≤ 300) (h3 : (up.all okL && l.all okA) = true) :
    pack_Script.f a b c d p up l = some ([], 21) ∨ ∃ x, pack_Script.f a b c d p up l = some (x, 0) ∧ pack_Unscript.f x = some (⟨a, b, c, d, p, up, l⟩, 0) ∧ sakiaref10_Same.f 7000 a b c d p up a b c d p up = some true ∧ sakiaref36_Acts.f 7000 l l = some true := by
  rcases back_script a b c d p up l h0 h1 h2 h3 with h | ⟨h, hF, hlen⟩
  · exact .inl h
  · exact .inr ⟨_, h, by rw [unscript_f (bytes_scr _ _ _ _ _ _ _) hlen, unscriptP_back hF]; rfl, same10_refl a b c d p up (by omega) (fun u hu => by have := (hF.u u hu).1; omega) 7000 (by omega), acts_refl l (by omega) (fun u hu => by have := (hF.s u hu).2.2.2.1; omega) 7000 (by omega)⟩
end Go.Proofs.Ytoobhpgkecplmaa.QPackBack
