/- It is proved that the law PairTells answers true for every input: the pair of any two numbers, its counts, turned, mirrored and multiplied, are what the reference tells. Conditions: none. -/
import Derived.Test.YtlhodmhmbcdieaaQPairTellsx2
namespace Go.Proofs.Ytlhodmhmbcdieaa.Pure
open Go Go.RowKit Go.Proofs.Ytlhodmhmbcdieaa.QPairTells Go.Proofs.YtlhodmhmbcdieaaW.PrintWords Go.Proofs.YtlhodmhmbcdieaaW.PrintLast Go.Proofs.YtlhodmhmbcdieaaW.PrintMore
set_option linter.unusedVariables false
set_option linter.unusedSimpArgs false

open Pair (Cnt mkC ofC dec dec_mk decs sumP cnt_and timesC)
theorem live_true : sakialaw04_live.f = some true := by kernel_rfl
/-- The two counts that Of keeps. -/
def ofP (a b : Int) : Int × Int := if Cnt a ∧ Cnt b then (a, b) else (0, 0)
theorem ofP_cnt (a b : Int) : Cnt (ofP a b).1 ∧ Cnt (ofP a b).2 := by
  unfold ofP
  by_cases h : Cnt a ∧ Cnt b
  · rw [if_pos h]; exact h
  · rw [if_neg h]; exact ⟨⟨by decide, by decide⟩, ⟨by decide, by decide⟩⟩
theorem ofC_P (a b : Int) : ofC a b = mkC (ofP a b).1 (ofP a b).2 := by
  unfold ofC ofP
  by_cases h : Cnt a ∧ Cnt b
  · rw [if_pos h, if_pos h]
  · rw [if_neg h, if_neg h]
theorem dec_of (a b : Int) : dec (ofC a b) = some (ofP a b) := by
  rw [ofC_P, dec_mk (ofP_cnt a b).1 (ofP_cnt a b).2]
theorem ofP_id {a b : Int} (ha : Cnt a) (hb : Cnt b) : ofP a b = (a, b) := by
  unfold ofP
  rw [if_pos ⟨ha, hb⟩]
theorem refcount (a : Int) : sakiaref04_Count.f a = some (decide (Cnt a)) := by
  unfold sakiaref04_Count.f
  rw [cnt_and]
  by_cases h : -1099511627776 ≤ a
  · rw [if_pos (show a ≥ -1099511627776 from h), decide_eq_true h, Bool.true_and]
  · rw [if_neg (show ¬ a ≥ -1099511627776 from h), decide_eq_false h, Bool.false_and]
theorem refof (a b : Int) : sakiaref04_Of.f a b = some ((ofP a b).1, (ofP a b).2, false) := by
  unfold sakiaref04_Of.f ofP
  rw [refcount, refcount]
  simp only [Option.bind_some, decide_eq_true_eq]
  by_cases ha : Cnt a
  · rw [if_pos ha]
    by_cases hb : Cnt b
    · rw [if_pos hb, if_pos ⟨ha, hb⟩]
    · rw [if_neg hb, if_neg (fun h => hb h.2)]
  · rw [if_neg ha, if_neg (fun h => ha h.1)]
theorem wrap_sum {a b : Int} (ha : Cnt a) (hb : Cnt b) : wrap64 (a + b) = a + b := by
  unfold Cnt at ha hb
  unfold wrap64
  omega

theorem cnt_neg {a : Int} (h : Cnt a) : Cnt (-a) := by
  unfold Cnt at *
  omega
theorem cnt_mn {a b : Int} (h : Cnt a) (h2 : Cnt b) : Cnt (mn a b) := by
  unfold Cnt mn at *
  split <;> omega
theorem dec_times {x y : Int} (k : Int) : dec (timesC x y k) = some (Pair.timesP x y k) := by
  unfold timesC Pair.timesP
  by_cases hk : Cnt k
  · rw [if_pos hk, dec_of]
    unfold ofP
    by_cases h : Cnt (x * k) ∧ Cnt (y * k)
    · rw [if_pos h, if_pos ⟨hk, h.1, h.2⟩]
    · rw [if_neg h, if_neg (fun h2 => h h2.2)]
  · rw [if_neg hk, if_neg (fun h => hk h.1), dec_mk ⟨by decide, by decide⟩ ⟨by decide, by decide⟩]
theorem is_yes (c : Cx) (x y : Int) (b : Bool) (h : dec c = some (x, y)) : sakialaw04_is.f c x y b = some true := by
  unfold sakialaw04_is.f
  rw [h, Option.bind_some, if_pos rfl]
theorem PairTells : sakialaw04_PairTells.Pure := by
  intro a b a1 b1 k w0 w1 w2 w3 w4
  have hp := ofP_cnt a b
  have hq := ofP_cnt a1 b1
  have d1 := dec_of a b
  have d2 := dec_of a1 b1
  unfold sakialaw04_PairTells.f pair_Of.f
  rw [refof, refof]
  simp only [Option.bind_some]
  generalize ofC a b = c at *
  generalize ofC a1 b1 = d at *
  generalize ofP a b = p at *
  generalize ofP a1 b1 = q at *
  obtain ⟨x, y⟩ := p
  obtain ⟨u, v⟩ := q
  have hy := cnt_neg hp.2
  have e1 : wrap64 (-y) = -y := by
    unfold Cnt at hy
    unfold wrap64
    simp only at hy
    omega
  have e2 : wrap64 (x + y) = x + y := wrap_sum hp.1 hp.2
  unfold pair_Whole.f pair_Turn.f pair_Mirror.f pair_Total.f pair_Times.f pair_Least.f sakiaref04_Times.f
  simp only [d1, d2, Option.bind_some, if_pos hp]
  rw [is_yes c x y false d1, Option.bind_some, if_pos rfl, if_pos trivial, e1, is_yes _ (-y) x false (by rw [dec_of, ofP_id hy hp.1]), Option.bind_some, if_pos rfl, is_yes _ y x false (by rw [dec_of, ofP_id hp.2 hp.1]), Option.bind_some, if_pos rfl, e2, if_pos rfl, is_yes _ (Pair.timesP x y k).1 (Pair.timesP x y k).2 false (dec_times k), Option.bind_some, if_pos rfl,
    is_yes _ _ _ false (by rw [dec_of, ofP_id (cnt_mn hp.1 hq.1) (cnt_mn hp.2 hq.2)]), Option.bind_some, if_pos rfl, live_true]
  rfl


end Go.Proofs.Ytlhodmhmbcdieaa.Pure
