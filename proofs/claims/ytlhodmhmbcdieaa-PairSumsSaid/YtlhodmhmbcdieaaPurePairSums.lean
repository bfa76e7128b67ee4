/- It is proved that the law PairSums answers true for every input: the sum of any number of pairs is what the reference tells, or nothing where it is too great on the way. Conditions: none. -/
import Derived.Test.YtlhodmhmbcdieaaQPairSumsx3
namespace Go.Proofs.Ytlhodmhmbcdieaa.Pure
open Go Go.RowKit Go.Proofs.Ytlhodmhmbcdieaa.QPairSums Go.Proofs.YtlhodmhmbcdieaaW.PrintWords Go.Proofs.YtlhodmhmbcdieaaW.PrintLast Go.Proofs.YtlhodmhmbcdieaaW.PrintMore
set_option linter.unusedVariables false
set_option linter.unusedSimpArgs false

open Pair (Cnt mkC ofC dec dec_mk decs sumP cnt_and timesC)
theorem live_true : sakialaw04_live.f = some true := by kernel_rfl
/-- The two counts that Of keeps. -/
def ofP (a b : Int) : Int × Int := if Cnt a ∧ Cnt b then (a, b) else (0, 0)
theorem ofP_cnt (a b : Int) : Cnt (ofP a b).1 ∧ Cnt (ofP a b).2 := by
  unfold ofP
  by_cases h : Cnt a ∧ Cnt b
  · rw [if_pos h]; exact h
  · rw [if_neg h]; exact ⟨⟨by decide, by decide⟩, ⟨by decide, by decide⟩⟩
theorem ofC_P (a b : Int) : ofC a b = mkC (ofP a b).1 (ofP a b).2 := by
  unfold ofC ofP
  by_cases h : Cnt a ∧ Cnt b
  · rw [if_pos h, if_pos h]
  · rw [if_neg h, if_neg h]
theorem dec_of (a b : Int) : dec (ofC a b) = some (ofP a b) := by
  rw [ofC_P, dec_mk (ofP_cnt a b).1 (ofP_cnt a b).2]
theorem ofP_id {a b : Int} (ha : Cnt a) (hb : Cnt b) : ofP a b = (a, b) := by
  unfold ofP
  rw [if_pos ⟨ha, hb⟩]
theorem refcount (a : Int) : sakiaref04_Count.f a = some (decide (Cnt a)) := by
  unfold sakiaref04_Count.f
  rw [cnt_and]
  by_cases h : -1099511627776 ≤ a
  · rw [if_pos (show a ≥ -1099511627776 from h), decide_eq_true h, Bool.true_and]
  · rw [if_neg (show ¬ a ≥ -1099511627776 from h), decide_eq_false h, Bool.false_and]
theorem refof (a b : Int) : sakiaref04_Of.f a b = some ((ofP a b).1, (ofP a b).2, false) := by
  unfold sakiaref04_Of.f ofP
  rw [refcount, refcount]
  simp only [Option.bind_some, decide_eq_true_eq]
  by_cases ha : Cnt a
  · rw [if_pos ha]
    by_cases hb : Cnt b
    · rw [if_pos hb, if_pos ⟨ha, hb⟩]
    · rw [if_neg hb, if_neg (fun h => hb h.2)]
  · rw [if_neg ha, if_neg (fun h => ha h.1)]
theorem wrap_sum {a b : Int} (ha : Cnt a) (hb : Cnt b) : wrap64 (a + b) = a + b := by
  unfold Cnt at ha hb
  unfold wrap64
  omega

def op (x : S36) : Int × Int := ofP x.f0 x.f1
def cx (x : S36) : Cx := ofC x.f0 x.f1
def p32 (x : S36) : S32 := ⟨(op x).1, (op x).2, false⟩
theorem made_loop (l : List S36) (hl : l.length ≤ 100) (d : Nat) : ∀ k i : Nat, i + d = l.length → d < k → sakialaw04_made.l0 k l ((l.take i).map cx) ((l.take i).map p32) (i : Int) = some (l.map cx, l.map p32) := by
  induction d with
  | zero =>
    intro k i hi hk
    obtain ⟨k, rfl⟩ : ∃ m, k = m + 1 := ⟨k - 1, by omega⟩
    simp only [sakialaw04_made.l0]
    rw [if_neg (by omega), List.take_of_length_le (by omega)]
  | succ d ih =>
    intro k i hi hk
    obtain ⟨k, rfl⟩ : ∃ m, k = m + 1 := ⟨k - 1, by omega⟩
    have hlt : i < l.length := by omega
    have hr : rd_T36 l (i : Int) = l[i] := by simp [rd_T36, hlt]
    simp only [sakialaw04_made.l0]
    rw [if_pos (by omega), if_pos (by omega), hr, refof]
    unfold pair_Of.f
    simp only [Option.bind_some]
    rw [if_pos (by simp; omega), if_pos (by simp; omega), show wrap64 ((i : Int) + 1) = ((i + 1 : Nat) : Int) by unfold wrap64; omega]
    have := ih k (i + 1) (by omega) (by omega)
    rw [List.take_succ_eq_append_getElem hlt, List.map_append, List.map_append] at this
    exact this
theorem made_yes (l : List S36) (hl : l.length ≤ 100) (k : Nat) (hk : 101 ≤ k) : sakialaw04_made.f k l = some (l.map cx, l.map p32) :=
  made_loop l hl l.length k 0 (by omega) (by omega)
theorem decs_cx (l : List S36) : decs (l.map cx) = some (l.map op) := by
  induction l with
  | nil => rfl
  | cons a l ih =>
    rw [List.map_cons, decs, ih]
    unfold cx
    rw [dec_of]
    rfl
theorem op_cnt (x : S36) : Cnt (op x).1 ∧ Cnt (op x).2 := ofP_cnt _ _
theorem sumP_cnt (ps : List (Int × Int)) : ∀ x y, Cnt x → Cnt y → Cnt (sumP x y ps).1 ∧ Cnt (sumP x y ps).2 := by
  induction ps with
  | nil => intro x y hx hy; exact ⟨hx, hy⟩
  | cons p ps ih =>
    intro x y hx hy
    rw [sumP]
    by_cases h : Cnt (x + p.1) ∧ Cnt (y + p.2)
    · rw [if_pos h]; exact ih _ _ h.1 h.2
    · rw [if_neg h]; exact ⟨⟨by decide, by decide⟩, ⟨by decide, by decide⟩⟩
theorem refsum_loop (l : List S36) (hl : l.length ≤ 100) (d : Nat) : ∀ (k i : Nat) (x y : Int), i + d = l.length → d < k → Cnt x → Cnt y →
    sakiaref04_Sum.l0 k (l.map p32) (i : Int) x y false = some ((sumP x y ((l.drop i).map op)).1, (sumP x y ((l.drop i).map op)).2, false) := by
  induction d with
  | zero =>
    intro k i x y hi hk hx hy
    obtain ⟨k, rfl⟩ : ∃ m, k = m + 1 := ⟨k - 1, by omega⟩
    simp only [sakiaref04_Sum.l0]
    rw [if_neg (by simp; omega), List.drop_of_length_le (by omega)]
    rfl
  | succ d ih =>
    intro k i x y hi hk hx hy
    obtain ⟨k, rfl⟩ : ∃ m, k = m + 1 := ⟨k - 1, by omega⟩
    have hlt : i < l.length := by omega
    have hr : rd_T32 (l.map p32) (i : Int) = p32 l[i] := by simp [rd_T32, hlt]
    have hc := op_cnt l[i]
    simp only [sakiaref04_Sum.l0]
    rw [if_pos (by simp; omega), if_pos (by omega), hr, List.drop_eq_getElem_cons hlt, List.map_cons, sumP]
    generalize l[i] = z at *
    show (sakiaref04_Count.f (wrap64 (x + (op z).1))).bind _ = _
    rw [wrap_sum hx hc.1, refcount, Option.bind_some]
    show (if decide (Cnt (x + (op z).1)) = true then (sakiaref04_Count.f (wrap64 (y + (op z).2))).bind _ else _) = _
    rw [wrap_sum hy hc.2, refcount, Option.bind_some]
    by_cases h1 : Cnt (x + (op z).1)
    · rw [decide_eq_true h1, if_pos rfl]
      by_cases h2 : Cnt (y + (op z).2)
      · rw [decide_eq_true h2, if_pos rfl, if_pos ⟨h1, h2⟩, show wrap64 ((i : Int) + 1) = ((i + 1 : Nat) : Int) by unfold wrap64; omega]
        show sakiaref04_Sum.l0 k (l.map p32) ((i + 1 : Nat) : Int) (wrap64 (x + (op z).1)) (wrap64 (y + (op z).2)) false = _
        rw [wrap_sum hx hc.1, wrap_sum hy hc.2]
        exact ih k (i + 1) _ _ (by omega) (by omega) h1 h2
      · rw [decide_eq_false h2, if_neg (by decide), if_neg (fun h => h2 h.2)]
    · rw [decide_eq_false h1, if_neg (by decide), if_neg (fun h => h1 h.1)]
theorem refsum (l : List S36) (hl : l.length ≤ 100) (k : Nat) (hk : 101 ≤ k) : sakiaref04_Sum.f k (l.map p32) = some ((sumP 0 0 (l.map op)).1, (sumP 0 0 (l.map op)).2, false) := by
  have := refsum_loop l hl l.length k 0 0 0 (by omega) (by omega) ⟨by decide, by decide⟩ ⟨by decide, by decide⟩
  rwa [List.drop_zero] at this

theorem PairSums : sakialaw04_PairSums.Pure := by
  intro l h1 h2 h3
  refine ⟨200, ?_⟩
  unfold sakialaw04_PairSums.f
  by_cases hl : (l.length : Int) > 100
  · rw [if_pos hl, live_true]
    rfl
  · rw [if_neg hl, made_yes l (by omega) 200 (by omega), Option.bind_some, refsum l (by omega) 200 (by omega)]
    unfold pair_Sum.f sakialaw04_is.f
    rw [decs_cx]
    simp only [Option.bind_some]
    obtain ⟨c1, c2⟩ := sumP_cnt (l.map op) 0 0 ⟨by decide, by decide⟩ ⟨by decide, by decide⟩
    rw [dec_of, ofP_id c1 c2, Option.bind_some, if_pos rfl, Option.bind_some, if_pos rfl, live_true]
    rfl


end Go.Proofs.Ytlhodmhmbcdieaa.Pure
