/- It is proved that the law PairRing answers true for every input: sums can be taken in any order; four quarters of a turn, and two mirrors, change nothing. Conditions: none. -/
import Derived.Test.YtlhodmhmbcdieaaQPairRingx2
namespace Go.Proofs.Ytlhodmhmbcdieaa.Pure
open Go Go.RowKit Go.Proofs.Ytlhodmhmbcdieaa.QPairRing Go.Proofs.YtlhodmhmbcdieaaW.PrintWords Go.Proofs.YtlhodmhmbcdieaaW.PrintLast Go.Proofs.YtlhodmhmbcdieaaW.PrintMore
set_option linter.unusedVariables false
set_option linter.unusedSimpArgs false

open Pair (Cnt mkC ofC dec dec_mk decs sumP cnt_and timesC)
theorem live_true : sakialaw04_live.f = some true := by kernel_rfl
/-- The two counts that Of keeps. -/
def ofP (a b : Int) : Int × Int := if Cnt a ∧ Cnt b then (a, b) else (0, 0)
theorem ofP_cnt (a b : Int) : Cnt (ofP a b).1 ∧ Cnt (ofP a b).2 := by
  unfold ofP
  by_cases h : Cnt a ∧ Cnt b
  · rw [if_pos h]; exact h
  · rw [if_neg h]; exact ⟨⟨by decide, by decide⟩, ⟨by decide, by decide⟩⟩
theorem ofC_P (a b : Int) : ofC a b = mkC (ofP a b).1 (ofP a b).2 := by
  unfold ofC ofP
  by_cases h : Cnt a ∧ Cnt b
  · rw [if_pos h, if_pos h]
  · rw [if_neg h, if_neg h]
theorem dec_of (a b : Int) : dec (ofC a b) = some (ofP a b) := by
  rw [ofC_P, dec_mk (ofP_cnt a b).1 (ofP_cnt a b).2]
theorem ofP_id {a b : Int} (ha : Cnt a) (hb : Cnt b) : ofP a b = (a, b) := by
  unfold ofP
  rw [if_pos ⟨ha, hb⟩]
theorem refcount (a : Int) : sakiaref04_Count.f a = some (decide (Cnt a)) := by
  unfold sakiaref04_Count.f
  rw [cnt_and]
  by_cases h : -1099511627776 ≤ a
  · rw [if_pos (show a ≥ -1099511627776 from h), decide_eq_true h, Bool.true_and]
  · rw [if_neg (show ¬ a ≥ -1099511627776 from h), decide_eq_false h, Bool.false_and]
theorem refof (a b : Int) : sakiaref04_Of.f a b = some ((ofP a b).1, (ofP a b).2, false) := by
  unfold sakiaref04_Of.f ofP
  rw [refcount, refcount]
  simp only [Option.bind_some, decide_eq_true_eq]
  by_cases ha : Cnt a
  · rw [if_pos ha]
    by_cases hb : Cnt b
    · rw [if_pos hb, if_pos ⟨ha, hb⟩]
    · rw [if_neg hb, if_neg (fun h => hb h.2)]
  · rw [if_neg ha, if_neg (fun h => ha h.1)]
theorem wrap_sum {a b : Int} (ha : Cnt a) (hb : Cnt b) : wrap64 (a + b) = a + b := by
  unfold Cnt at ha hb
  unfold wrap64
  omega

def op (x : S36) : Int × Int := ofP x.f0 x.f1
def cx (x : S36) : Cx := ofC x.f0 x.f1
def p32 (x : S36) : S32 := ⟨(op x).1, (op x).2, false⟩
theorem made_loop (l : List S36) (hl : l.length ≤ 100) (d : Nat) : ∀ k i : Nat, i + d = l.length → d < k → sakialaw04_made.l0 k l ((l.take i).map cx) ((l.take i).map p32) (i : Int) = some (l.map cx, l.map p32) := by
  induction d with
  | zero =>
    intro k i hi hk
    obtain ⟨k, rfl⟩ : ∃ m, k = m + 1 := ⟨k - 1, by omega⟩
    simp only [sakialaw04_made.l0]
    rw [if_neg (by omega), List.take_of_length_le (by omega)]
  | succ d ih =>
    intro k i hi hk
    obtain ⟨k, rfl⟩ : ∃ m, k = m + 1 := ⟨k - 1, by omega⟩
    have hlt : i < l.length := by omega
    have hr : rd_T36 l (i : Int) = l[i] := by simp [rd_T36, hlt]
    simp only [sakialaw04_made.l0]
    rw [if_pos (by omega), if_pos (by omega), hr, refof]
    unfold pair_Of.f
    simp only [Option.bind_some]
    rw [if_pos (by simp; omega), if_pos (by simp; omega), show wrap64 ((i : Int) + 1) = ((i + 1 : Nat) : Int) by unfold wrap64; omega]
    have := ih k (i + 1) (by omega) (by omega)
    rw [List.take_succ_eq_append_getElem hlt, List.map_append, List.map_append] at this
    exact this
theorem made_yes (l : List S36) (hl : l.length ≤ 100) (k : Nat) (hk : 101 ≤ k) : sakialaw04_made.f k l = some (l.map cx, l.map p32) :=
  made_loop l hl l.length k 0 (by omega) (by omega)
theorem decs_cx (l : List S36) : decs (l.map cx) = some (l.map op) := by
  induction l with
  | nil => rfl
  | cons a l ih =>
    rw [List.map_cons, decs, ih]
    unfold cx
    rw [dec_of]
    rfl
theorem op_cnt (x : S36) : Cnt (op x).1 ∧ Cnt (op x).2 := ofP_cnt _ _
theorem sumP_cnt (ps : List (Int × Int)) : ∀ x y, Cnt x → Cnt y → Cnt (sumP x y ps).1 ∧ Cnt (sumP x y ps).2 := by
  induction ps with
  | nil => intro x y hx hy; exact ⟨hx, hy⟩
  | cons p ps ih =>
    intro x y hx hy
    rw [sumP]
    by_cases h : Cnt (x + p.1) ∧ Cnt (y + p.2)
    · rw [if_pos h]; exact ih _ _ h.1 h.2
    · rw [if_neg h]; exact ⟨⟨by decide, by decide⟩, ⟨by decide, by decide⟩⟩

def Small (x : S36) : Prop := -1073741824 ≤ x.f0 ∧ x.f0 ≤ 1073741824 ∧ -1073741824 ≤ x.f1 ∧ x.f1 ≤ 1073741824
def s0 (l : List S36) : Int := (l.map (·.f0)).sum
def s1 (l : List S36) : Int := (l.map (·.f1)).sum
theorem s0_cons (x : S36) (l : List S36) : s0 (x :: l) = x.f0 + s0 l := by simp [s0]
theorem s1_cons (x : S36) (l : List S36) : s1 (x :: l) = x.f1 + s1 l := by simp [s1]
theorem s0_app (l m : List S36) : s0 (l ++ m) = s0 l + s0 m := by simp [s0]
theorem s1_app (l m : List S36) : s1 (l ++ m) = s1 l + s1 m := by simp [s1]
theorem s_bound (l : List S36) (h : ∀ x ∈ l, Small x) : -(1073741824 * (l.length : Int)) ≤ s0 l ∧ s0 l ≤ 1073741824 * (l.length : Int) ∧ -(1073741824 * (l.length : Int)) ≤ s1 l ∧ s1 l ≤ 1073741824 * (l.length : Int) := by
  induction l with
  | nil => simp [s0, s1]
  | cons x l ih =>
    have h1 := ih (fun y hy => h y (by simp [hy]))
    have h2 := h x (by simp)
    unfold Small at h2
    rw [s0_cons, s1_cons, List.length_cons]
    omega
theorem op_small (x : S36) (h : Small x) : op x = (x.f0, x.f1) := by
  unfold Small at h
  unfold op
  exact ofP_id ⟨by omega, by omega⟩ ⟨by omega, by omega⟩
theorem sum_small (l : List S36) (h : ∀ x ∈ l, Small x) : ∀ x y : Int, -(1073741824 * (200 - (l.length : Int))) ≤ x → x ≤ 1073741824 * (200 - (l.length : Int)) → -(1073741824 * (200 - (l.length : Int))) ≤ y → y ≤ 1073741824 * (200 - (l.length : Int)) → l.length ≤ 100 →
    sumP x y (l.map op) = (x + s0 l, y + s1 l) := by
  induction l with
  | nil => intro x y _ _ _ _ _; simp [sumP, s0, s1]
  | cons z l ih =>
    intro x y h1 h2 h3 h4 h5
    have hz := h z (by simp)
    rw [List.map_cons, op_small z hz, sumP, s0_cons, s1_cons]
    unfold Small at hz
    rw [List.length_cons] at h1 h2 h3 h4 h5
    rw [if_pos ⟨⟨by show _ ≤ x + z.f0; omega, by show x + z.f0 ≤ _; omega⟩, ⟨by show _ ≤ y + z.f1; omega, by show y + z.f1 ≤ _; omega⟩⟩]
    rw [ih (fun q hq => h q (by simp [hq])) _ _ (by show _ ≤ x + z.f0; omega) (by show x + z.f0 ≤ _; omega) (by show _ ≤ y + z.f1; omega) (by show y + z.f1 ≤ _; omega) (by omega)]
    simp only [Int.add_assoc]
theorem cnt_of {n : Int} {k : Nat} (h1 : -(1073741824 * (k : Int)) ≤ n) (h2 : n ≤ 1073741824 * (k : Int)) (hk : k ≤ 100) : Cnt n := by
  unfold Cnt
  omega
/-- What Sum tells of small pairs. -/
theorem Sum_small (l : List S36) (h : ∀ x ∈ l, Small x) (hl : l.length ≤ 100) : pair_Sum.f (l.map cx) = some (ofC (s0 l) (s1 l)) := by
  unfold pair_Sum.f
  rw [decs_cx, Option.bind_some, sum_small l h 0 0 (by omega) (by omega) (by omega) (by omega) hl, Int.zero_add, Int.zero_add]
theorem eq_self {x y : Int} (hx : Cnt x) (hy : Cnt y) : (FloatKind.f64.format.order (ofC x y).re (ofC x y).re == some Ordering.eq && FloatKind.f64.format.order (ofC x y).im (ofC x y).im == some Ordering.eq) = true := by
  rw [ofC_P, ofP_id hx hy]
  have h := Pair.has_mk x y hx hy
  rw [show FloatKind.f64.format.order (mkC x y).re (mkC x y).re = some (compare x x) from Flt.val_order h.1 h.1, show FloatKind.f64.format.order (mkC x y).im (mkC x y).im = some (compare y y) from Flt.val_order h.2.1 h.2.1, Flt.cmp_eq, Flt.cmp_eq]
  simp
def rotd (c : List Cx) (a i : Nat) : List Cx := (List.range i).map fun j => c.getD ((j + a) % c.length) ⟨0, 0⟩
theorem rotd_len (c : List Cx) (a i : Nat) : (rotd c a i).length = i := by simp [rotd]
theorem rotd_succ (c : List Cx) (a i : Nat) : rotd c a (i + 1) = rotd c a i ++ [c.getD ((i + a) % c.length) ⟨0, 0⟩] := by simp [rotd, List.range_succ]
theorem rotd_all (c : List Cx) (a : Nat) (ha : a < c.length) : rotd c a c.length = c.drop a ++ c.take a := by
  apply List.ext_getElem
  · rw [rotd_len]
    simp
    omega
  · intro j h1 h2
    rw [rotd_len] at h1
    simp only [rotd, List.getElem_map, List.getElem_range]
    by_cases hj : j < c.length - a
    · rw [List.getElem_append_left (by simp; omega), List.getElem_drop, Nat.mod_eq_of_lt (by omega), List.getD_eq_getElem?_getD, List.getElem?_eq_getElem (by omega), Option.getD_some]
      congr 1
      omega
    · rw [List.getElem_append_right (by simp; omega), List.getElem_take, Nat.mod_eq_sub_mod (by omega), Nat.mod_eq_of_lt (by omega), List.getD_eq_getElem?_getD, List.getElem?_eq_getElem (by omega), Option.getD_some]
      congr 1
      simp
      omega
/-- All behind the second loop. -/
theorem l1_loop (l : List S36) (h : ∀ x ∈ l, Small x) (hl : l.length ≤ 100) (a : Nat) (ha : a < l.length) (d : Nat) : ∀ k i : Nat, i + d = l.length → d < k →
    sakialaw04_PairRing.l1 k (a : Int) (l.map cx) (ofC (s0 l) (s1 l)) (rotd (l.map cx) a i) (i : Int) = some true := by
  have hb := s_bound l h
  have c0 : Cnt (s0 l) := cnt_of hb.1 hb.2.1 hl
  have c1 : Cnt (s1 l) := cnt_of hb.2.2.1 hb.2.2.2 hl
  have n0 : Cnt (-(s0 l)) := by unfold Cnt at *; omega
  have n1 : Cnt (-(s1 l)) := by unfold Cnt at *; omega
  induction d with
  | zero =>
    intro k i hi hk
    obtain ⟨k, rfl⟩ : ∃ m, k = m + 1 := ⟨k - 1, by omega⟩
    obtain rfl : i = l.length := by omega
    have hr : rotd (l.map cx) a l.length = (l.drop a ++ l.take a).map cx := by
      have := rotd_all (l.map cx) a (by simpa using ha)
      rw [List.length_map] at this
      rw [this, List.map_append, List.map_drop, List.map_take]
    have t1 : pair_Turn.f (ofC (s0 l) (s1 l)) = some (ofC (-(s1 l)) (s0 l)) := by unfold pair_Turn.f; rw [dec_of, ofP_id c0 c1]; rfl
    have t2 : pair_Turn.f (ofC (-(s1 l)) (s0 l)) = some (ofC (-(s0 l)) (-(s1 l))) := by unfold pair_Turn.f; rw [dec_of, ofP_id n1 c0]; rfl
    have t3 : pair_Turn.f (ofC (-(s0 l)) (-(s1 l))) = some (ofC (s1 l) (-(s0 l))) := by unfold pair_Turn.f; rw [dec_of, ofP_id n0 n1, Option.bind_some, Int.neg_neg]
    have t4 : pair_Turn.f (ofC (s1 l) (-(s0 l))) = some (ofC (s0 l) (s1 l)) := by unfold pair_Turn.f; rw [dec_of, ofP_id c1 n0, Option.bind_some, Int.neg_neg]
    have m1 : pair_Mirror.f (ofC (s0 l) (s1 l)) = some (ofC (s1 l) (s0 l)) := by unfold pair_Mirror.f; rw [dec_of, ofP_id c0 c1]; rfl
    have m2 : pair_Mirror.f (ofC (s1 l) (s0 l)) = some (ofC (s0 l) (s1 l)) := by unfold pair_Mirror.f; rw [dec_of, ofP_id c1 c0]; rfl
    have hd : ∀ x ∈ l.drop a, Small x := fun x hx => h x (List.mem_of_mem_drop hx)
    have ht : ∀ x ∈ l.take a, Small x := fun x hx => h x (List.mem_of_mem_take hx)
    have hl1 : (l.drop a).length ≤ 100 := by simp; omega
    have hl2 : (l.take a).length ≤ 100 := by simp; omega
    have bd := s_bound _ hd
    have bt := s_bound _ ht
    have e0 : s0 (l.take a) + s0 (l.drop a) = s0 l := by rw [← s0_app, List.take_append_drop]
    have e1 : s1 (l.take a) + s1 (l.drop a) = s1 l := by rw [← s1_app, List.take_append_drop]
    have S1 : pair_Sum.f ((l.drop a ++ l.take a).map cx) = some (ofC (s0 l) (s1 l)) := by
      rw [Sum_small _ (fun x hx => by rcases List.mem_append.1 hx with q | q; exact hd x q; exact ht x q) (by simp; omega), s0_app, s1_app, Int.add_comm, e0, Int.add_comm (s1 (l.drop a)), e1]
    have ct0 : Cnt (s0 (l.take a)) := cnt_of bt.1 bt.2.1 hl2
    have ct1 : Cnt (s1 (l.take a)) := cnt_of bt.2.2.1 bt.2.2.2 hl2
    have cd0 : Cnt (s0 (l.drop a)) := cnt_of bd.1 bd.2.1 hl1
    have cd1 : Cnt (s1 (l.drop a)) := cnt_of bd.2.2.1 bd.2.2.2 hl1
    have S2 : pair_Sum.f ((l.map cx).take (a : Int).toNat) = some (ofC (s0 (l.take a)) (s1 (l.take a))) := by
      rw [Int.toNat_natCast, ← List.map_take]
      exact Sum_small _ ht hl2
    have S3 : pair_Sum.f ((l.map cx).drop (a : Int).toNat) = some (ofC (s0 (l.drop a)) (s1 (l.drop a))) := by
      rw [Int.toNat_natCast, ← List.map_drop]
      exact Sum_small _ hd hl1
    have S4 : pair_Sum.f [ofC (s0 (l.take a)) (s1 (l.take a)), ofC (s0 (l.drop a)) (s1 (l.drop a))] = some (ofC (s0 l) (s1 l)) := by
      unfold pair_Sum.f
      have : decs [ofC (s0 (l.take a)) (s1 (l.take a)), ofC (s0 (l.drop a)) (s1 (l.drop a))] = some [(s0 (l.take a), s1 (l.take a)), (s0 (l.drop a), s1 (l.drop a))] := by
        simp only [decs]
        rw [dec_of, dec_of, ofP_id ct0 ct1, ofP_id cd0 cd1]
        rfl
      rw [this, Option.bind_some]
      have k1 : sumP 0 0 [(s0 (l.take a), s1 (l.take a)), (s0 (l.drop a), s1 (l.drop a))] = (s0 l, s1 l) := by
        simp only [sumP, Int.zero_add]
        rw [if_pos ⟨ct0, ct1⟩, e0, e1, if_pos ⟨c0, c1⟩]
      rw [k1]
    simp only [sakialaw04_PairRing.l1]
    rw [if_neg (by simp), t1, Option.bind_some, t2, Option.bind_some, t3, Option.bind_some, t4, Option.bind_some, hr, S1, Option.bind_some, eq_self c0 c1, if_pos rfl, if_pos rfl, m1, Option.bind_some, m2, Option.bind_some, if_pos (eq_self c0 c1), if_pos (by omega), if_pos (by simp; omega), S2, Option.bind_some, S3, Option.bind_some, S4, Option.bind_some, if_pos (eq_self c0 c1), live_true]
    rfl
  | succ d ih =>
    intro k i hi hk
    obtain ⟨k, rfl⟩ : ∃ m, k = m + 1 := ⟨k - 1, by omega⟩
    have hw : wrap64 ((i : Int) + (a : Int)) = ((i + a : Nat) : Int) := by unfold wrap64; omega
    have hm : Int.tmod (wrap64 ((i : Int) + (a : Int))) ((l.map cx).length : Int) = (((i + a) % (l.map cx).length : Nat) : Int) := by
      rw [hw]
      rfl
    have hml : (i + a) % (l.map cx).length < (l.map cx).length := Nat.mod_lt _ (by simp; omega)
    simp only [sakialaw04_PairRing.l1]
    rw [if_pos (show (i : Int) < ((l.map cx).length : Int) by rw [List.length_map]; omega), if_neg (show ¬ ((l.map cx).length : Int) = 0 by rw [List.length_map]; omega), hm, if_pos (Int.natCast_nonneg _), if_pos (Int.ofNat_lt.2 hml), if_pos (by rw [rotd_len]; omega), show wrap64 ((i : Int) + 1) = ((i + 1 : Nat) : Int) by unfold wrap64; omega]
    have := ih k (i + 1) (by omega) (by omega)
    rw [rotd_succ] at this
    exact this
theorem l0_loop (l : List S36) (hl : l.length ≤ 100) (a : Nat) (ha : a < l.length) (d : Nat) : ∀ k i : Nat, i + d = l.length → d + 200 < k → (∀ x ∈ l.take i, Small x) → sakialaw04_PairRing.l0 k l (a : Int) (i : Int) = some true := by
  induction d with
  | zero =>
    intro k i hi hk hs
    obtain ⟨k, rfl⟩ : ∃ m, k = m + 1 := ⟨k - 1, by omega⟩
    have hs2 : ∀ x ∈ l, Small x := by
      rw [List.take_of_length_le (by omega)] at hs
      exact hs
    simp only [sakialaw04_PairRing.l0]
    rw [if_neg (by omega), made_yes l hl k (by omega), Option.bind_some]
    show (pair_Sum.f (l.map cx)).bind _ = _
    rw [Sum_small l hs2 hl, Option.bind_some]
    exact l1_loop l hs2 hl a ha l.length k 0 (by omega) (by omega)
  | succ d ih =>
    intro k i hi hk hs
    obtain ⟨k, rfl⟩ : ∃ m, k = m + 1 := ⟨k - 1, by omega⟩
    have hlt : i < l.length := by omega
    have hr : rd_T36 l (i : Int) = l[i] := by simp [rd_T36, hlt]
    have hlive : ((sakialaw04_live.f).bind fun t => some t) = some true := by rw [live_true]; rfl
    simp only [sakialaw04_PairRing.l0]
    rw [if_pos (by omega), if_pos (by omega), hr]
    by_cases h1 : l[i].f0 < -1073741824
    · rw [if_pos h1]; exact hlive
    rw [if_neg h1]
    by_cases h2 : l[i].f0 > 1073741824
    · rw [if_pos h2]; exact hlive
    rw [if_neg h2]
    by_cases h3 : l[i].f1 < -1073741824
    · rw [if_pos h3]; exact hlive
    rw [if_neg h3]
    by_cases h4 : l[i].f1 > 1073741824
    · rw [if_pos h4]; exact hlive
    rw [if_neg h4, show wrap64 ((i : Int) + 1) = ((i + 1 : Nat) : Int) by unfold wrap64; omega]
    refine ih k (i + 1) (by omega) (by omega) ?_
    intro x hx
    rw [List.take_succ_eq_append_getElem hlt] at hx
    rcases List.mem_append.1 hx with hx | hx
    · exact hs x hx
    · simp at hx
      subst hx
      exact ⟨by omega, by omega, by omega, by omega⟩
theorem PairRing : sakialaw04_PairRing.Pure := by
  intro l a h1 h2 h3 h4
  refine ⟨1000, ?_⟩
  have hj : sakialaw04_PairRing.j0 1000 l a true = some true := by
    simp only [sakialaw04_PairRing.j0]
    rw [if_pos trivial, live_true]
    rfl
  unfold sakialaw04_PairRing.f
  by_cases g1 : (l.length : Int) > 100
  · rw [if_pos g1]; exact hj
  rw [if_neg g1]
  by_cases g2 : (l.length : Int) = 0
  · rw [if_pos g2]; exact hj
  rw [if_neg g2]
  by_cases g3 : a < 0
  · rw [if_pos g3]; exact hj
  rw [if_neg g3]
  by_cases g4 : a ≥ (l.length : Int)
  · rw [decide_eq_true g4]; exact hj
  rw [decide_eq_false g4]
  obtain ⟨m, rfl⟩ := Int.eq_ofNat_of_zero_le (show 0 ≤ a by omega)
  simp only [sakialaw04_PairRing.j0]
  rw [if_neg (by decide)]
  exact l0_loop l (by omega) m (by omega) l.length 999 0 (by omega) (by omega) (by simp)


end Go.Proofs.Ytlhodmhmbcdieaa.Pure
