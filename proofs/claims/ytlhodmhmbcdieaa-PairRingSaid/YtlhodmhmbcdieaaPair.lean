import Derived.Test.YtlhodmhmbcdieaaProg
import Derived.Below
import Derived.Deep.Draws
import Derived.Deep.AppendLies
import Derived.Maps.AppendAt
import Derived.OwnWalk
import Derived.Laws.BytesArg
import Derived.Laws.MakeOwn
import Derived.Laws.OwnMore
import Derived.Deep.OwnRows
import Derived.Tactics
import Derived.Lib.ConvBytes
import Derived.Laws.Slices
import Derived.WalkKit
import Derived.KernelRfl
import Derived.RowKit3
import Derived.Deep.LoopGhost
import Derived.Deep.QuietTactic
import Derived.BigQuiet
import Derived.WideLaws
import Derived.Deep.DeepCutAuto
import Derived.Deep.CutBlock
import Derived.Deep.RegionHeld3
import Derived.Laws.Rows
import Derived.Lib.AppendStr
import Derived.ArgAppend
import Derived.Laws.IdiomCopy
import Derived.OrdersHeld
import Derived.Laws.BitsLemmas
import Derived.RowKit
import Derived.Test.YtlhodmhmbcdieaaWWords
import Derived.Test.YtlhodmhmbcdieaaWLast
import Derived.Test.YtlhodmhmbcdieaaWTab
import Derived.Test.YtlhodmhmbcdieaaWFour
import Derived.Test.YtlhodmhmbcdieaaWQPut
import Derived.Test.YtlhodmhmbcdieaaWApart
import Derived.Test.YtlhodmhmbcdieaaWArr
import Derived.Test.YtlhodmhmbcdieaaWZeros
import Derived.Test.YtlhodmhmbcdieaaWFoot
import Derived.Test.YtlhodmhmbcdieaaWKept
import Derived.Test.YtlhodmhmbcdieaaWShare
import Derived.Test.YtlhodmhmbcdieaaWN
import Derived.Test.YtlhodmhmbcdieaaWFootNe
import Derived.Test.YtlhodmhmbcdieaaWAt
import Derived.Test.YtlhodmhmbcdieaaWEqStruct
import Derived.Test.YtlhodmhmbcdieaaWRepsOne
import Derived.Test.YtlhodmhmbcdieaaWInv
import Derived.Test.YtlhodmhmbcdieaaWInvWords
import Derived.Test.YtlhodmhmbcdieaaWGuard
import Derived.Test.YtlhodmhmbcdieaaWNEv
import Derived.Test.YtlhodmhmbcdieaaWMore
import Derived.Test.YtlhodmhmbcdieaaProg
import Derived.Tactics
import Derived.LoopTactic
import Derived.BigQuiet
import Derived.Deep.QuietTactic
import Derived.WalkKit
import Derived.Test.YtlhodmhmbcdieaaCx
import Derived.Test.YtlhodmhmbcdieaaFlt
import Derived.Laws.ComplexArith
namespace Go.Proofs.Ytlhodmhmbcdieaa.Pair
open Go Go.RowKit Go.Proofs.YtlhodmhmbcdieaaW.PrintWords Go.Proofs.YtlhodmhmbcdieaaW.PrintLast Go.Proofs.YtlhodmhmbcdieaaW.PrintMore
attribute [local go_sem] max2_int min2_int max_two min_two max_three min_three max_four min_four
set_option linter.unusedVariables false
set_option linter.unusedSimpArgs false
def Cnt (n : Int) : Prop := -1099511627776 ≤ n ∧ n ≤ 1099511627776
instance (n : Int) : Decidable (Cnt n) := inferInstanceAs (Decidable (_ ∧ _))
theorem cnt_and (n : Int) : decide (Cnt n) = (decide (-1099511627776 ≤ n) && decide (n ≤ 1099511627776)) := by
  unfold Cnt
  exact Bool.decide_and _ _
/-- The pair of two counts. -/
def mkC (a b : Int) : Cx := ⟨floatOfInt .f64 a, floatOfInt .f64 b⟩
/-- A complex number whose parts are whole, and no greater than twice a count. -/
def Has (c : Cx) (a b : Int) : Prop := Flt.Val c.re a ∧ Flt.Val c.im b ∧ a.natAbs < 2 ^ 53 ∧ b.natAbs < 2 ^ 53
theorem has_mk (a b : Int) (ha : Cnt a) (hb : Cnt b) : Has (mkC a b) a b := by
  unfold Cnt at ha hb
  exact ⟨Flt.val_ofInt a (by omega), Flt.val_ofInt b (by omega), by omega, by omega⟩
theorem within_v (x : Nat) (n : Int) (b : Bool) (hv : Flt.Val x n) (hn : n.natAbs < 2 ^ 53) (hb : decide (Cnt n) = b) (w : World) : Calls Try.prog 26 #[.float .f64 x] w fun e w' => e = .returned (.bool b) ∧ w = w' := by
  have h1 : (FloatKind.f64.format.order x 14010698440749613056 == some Ordering.gt || FloatKind.f64.format.order x 14010698440749613056 == some Ordering.eq) = decide (-1099511627776 ≤ n) := by
    have := Flt.val_order hv Flt.val_down
    rw [show FloatKind.f64.format.order x 14010698440749613056 = some (compare n (-1099511627776)) from this]
    exact Flt.cmp_ge _ _
  have h2 : (FloatKind.f64.format.order x 4787326403894837248 == some Ordering.lt || FloatKind.f64.format.order x 4787326403894837248 == some Ordering.eq) = decide (n ≤ 1099511627776) := by
    have := Flt.val_order hv Flt.val_up
    rw [show FloatKind.f64.format.order x 4787326403894837248 = some (compare n 1099511627776) from this]
    exact Flt.cmp_le _ _
  have hc : ∀ w, (convert 47 3 (.float .f64 x)).run Try.prog w = .ok (.int .i64 n) w := fun w => run_convert_float_int w 47 3 .f64 .i64 x n (by rw [Try.underlying47]; rfl) Try.underlying3 (Flt.val_toInt hv (by omega))
  have he : (FloatKind.f64.format.order x (floatOfInt .f64 n) == some Ordering.eq) = true := by
    have := Flt.val_order hv (Flt.val_ofInt n hn)
    rw [show FloatKind.f64.format.order x (floatOfInt .f64 n) = some (compare n n) from this, Flt.cmp_eq]
    simp
  have hb' : b = (decide (-1099511627776 ≤ n) && decide (n ≤ 1099511627776)) := by
    rw [← hb]
    unfold Cnt
    exact Bool.decide_and _ _
  clear hb hv hn
  cases e1 : decide (-1099511627776 ≤ n) with
  | false =>
    rw [e1] at h1 hb'
    subst hb'
    clear e1 h2 hc he
    go_enter Try.func26, Try.ntmps26
    go_wp2
    go_ret
    exact ⟨rfl, rfl⟩
  | true =>
    cases e2 : decide (n ≤ 1099511627776) with
    | false =>
      rw [e1] at h1 hb'
      rw [e2] at h2 hb'
      subst hb'
      clear e1 e2 hc he
      go_enter Try.func26, Try.ntmps26
      go_wp2
      go_ret
      exact ⟨rfl, rfl⟩
    | true =>
      rw [e1] at h1 hb'
      rw [e2] at h2 hb'
      subst hb'
      clear e1 e2
      go_enter Try.func26, Try.ntmps26
      go_wp2
      go_ret
      exact ⟨rfl, rfl⟩
theorem whole_v (c : Cx) (a b : Int) (r : Bool) (h : Has c a b) (hr : (decide (Cnt a) && decide (Cnt b)) = r) (w : World) : Calls Try.prog 16 #[Cx.v c] w fun e w' => e = .returned (.bool r) ∧ w = w' := by
  obtain ⟨h1, h2, h3, h4⟩ := h
  cases ea : decide (Cnt a) with
  | false =>
    rw [ea] at hr
    subst hr
    go_enter Try.func16, Try.ntmps16
    go_wp2_with (go_at_call 26; refine (within_v c.re a false h1 h3 ea _).mono ?_; rintro e w' ⟨rfl, rfl⟩)
    go_ret
    exact ⟨rfl, rfl⟩
  | true =>
    rw [ea] at hr
    cases eb : decide (Cnt b) with
    | false =>
      rw [eb] at hr
      subst hr
      go_enter Try.func16, Try.ntmps16
      go_wp2_with (go_at_call 26; first | ((with_reducible refine (within_v c.re a true h1 h3 ea _).mono ?_); rintro e w' ⟨rfl, rfl⟩) | ((with_reducible refine (within_v c.im b false h2 h4 eb _).mono ?_); rintro e w' ⟨rfl, rfl⟩))
      go_ret
      exact ⟨rfl, rfl⟩
    | true =>
      rw [eb] at hr
      subst hr
      go_enter Try.func16, Try.ntmps16
      go_wp2_with (go_at_call 26; first | ((with_reducible refine (within_v c.re a true h1 h3 ea _).mono ?_); rintro e w' ⟨rfl, rfl⟩) | ((with_reducible refine (within_v c.im b true h2 h4 eb _).mono ?_); rintro e w' ⟨rfl, rfl⟩))
      go_ret
      exact ⟨rfl, rfl⟩
theorem first_v (c : Cx) (a b : Int) (h : Has c a b) (w : World) : Calls Try.prog 21 #[Cx.v c] w fun e w' => e = .returned (.int .i64 (if Cnt a ∧ Cnt b then a else 0)) ∧ w = w' := by
  have hc : ∀ w, (convert 47 3 (.float .f64 c.re)).run Try.prog w = .ok (.int .i64 a) w := fun w => run_convert_float_int w 47 3 .f64 .i64 c.re a (by rw [Try.underlying47]; rfl) Try.underlying3 (Flt.val_toInt h.1 (by have := h.2.2.1; omega))
  by_cases hb : Cnt a ∧ Cnt b
  · rw [if_pos hb]
    have hr : (decide (Cnt a) && decide (Cnt b)) = true := by simp [hb.1, hb.2]
    clear hb
    go_enter Try.func21, Try.ntmps21
    go_wp2_with (go_at_call 16; refine (whole_v c a b true h hr _).mono ?_; rintro e w' ⟨rfl, rfl⟩)
    go_ret
    exact ⟨rfl, rfl⟩
  · rw [if_neg hb]
    have hr : (decide (Cnt a) && decide (Cnt b)) = false := by
      rw [← Bool.decide_and]
      exact decide_eq_false hb
    clear hb hc
    go_enter Try.func21, Try.ntmps21
    go_wp2_with (go_at_call 16; refine (whole_v c a b false h hr _).mono ?_; rintro e w' ⟨rfl, rfl⟩)
    go_ret
    exact ⟨rfl, rfl⟩
theorem second_v (c : Cx) (a b : Int) (h : Has c a b) (w : World) : Calls Try.prog 22 #[Cx.v c] w fun e w' => e = .returned (.int .i64 (if Cnt a ∧ Cnt b then b else 0)) ∧ w = w' := by
  have hc : ∀ w, (convert 47 3 (.float .f64 c.im)).run Try.prog w = .ok (.int .i64 b) w := fun w => run_convert_float_int w 47 3 .f64 .i64 c.im b (by rw [Try.underlying47]; rfl) Try.underlying3 (Flt.val_toInt h.2.1 (by have := h.2.2.2; omega))
  by_cases hb : Cnt a ∧ Cnt b
  · rw [if_pos hb]
    have hr : (decide (Cnt a) && decide (Cnt b)) = true := by simp [hb.1, hb.2]
    clear hb
    go_enter Try.func22, Try.ntmps22
    go_wp2_with (go_at_call 16; refine (whole_v c a b true h hr _).mono ?_; rintro e w' ⟨rfl, rfl⟩)
    go_ret
    exact ⟨rfl, rfl⟩
  · rw [if_neg hb]
    have hr : (decide (Cnt a) && decide (Cnt b)) = false := by
      rw [← Bool.decide_and]
      exact decide_eq_false hb
    clear hb hc
    go_enter Try.func22, Try.ntmps22
    go_wp2_with (go_at_call 16; refine (whole_v c a b false h hr _).mono ?_; rintro e w' ⟨rfl, rfl⟩)
    go_ret
    exact ⟨rfl, rfl⟩
theorem count_v (n : Int) (r : Bool) (hr : decide (Cnt n) = r) (w : World) : Calls Try.prog 25 #[.int .i64 n] w fun e w' => e = .returned (.bool r) ∧ w = w' := by
  rw [cnt_and] at hr
  by_cases h1 : -1099511627776 ≤ n
  · have e1 : decide (-1099511627776 ≤ n) = true := decide_eq_true h1
    have hr2 : r = decide (n ≤ 1099511627776) := by
      rw [← hr, e1, Bool.true_and]
    clear hr h1
    subst hr2
    go_enter Try.func25, Try.ntmps25
    go_wp2
    go_ret
    exact ⟨rfl, rfl⟩
  · have e1 : decide (-1099511627776 ≤ n) = false := decide_eq_false h1
    have hr2 : r = false := by
      rw [← hr, e1, Bool.false_and]
    clear hr h1
    subst hr2
    go_enter Try.func25, Try.ntmps25
    go_wp2
    go_ret
    exact ⟨rfl, rfl⟩
/-- What Of comes to. -/
def ofC (a b : Int) : Cx := if Cnt a ∧ Cnt b then mkC a b else mkC 0 0
theorem mk00 : mkC 0 0 = ⟨0, 0⟩ := by
  unfold mkC
  rw [show floatOfInt .f64 0 = 0 by kernel_rfl]
theorem of_v (a b : Int) (w : World) : Calls Try.prog 14 #[.int .i64 a, .int .i64 b] w fun e w' => e = .returned (Cx.v (ofC a b)) ∧ w = w' := by
  unfold ofC
  by_cases ha : Cnt a
  · have ea : decide (Cnt a) = true := decide_eq_true ha
    by_cases hb : Cnt b
    · have eb : decide (Cnt b) = true := decide_eq_true hb
      rw [if_pos ⟨ha, hb⟩]
      clear ha hb
      go_enter Try.func14, Try.ntmps14
      go_wp2_with (go_at_call 25; first | ((with_reducible refine (count_v a true ea _).mono ?_); rintro e w' ⟨rfl, rfl⟩) | ((with_reducible refine (count_v b true eb _).mono ?_); rintro e w' ⟨rfl, rfl⟩))
      go_ret
      exact ⟨rfl, rfl⟩
    · have eb : decide (Cnt b) = false := decide_eq_false hb
      rw [if_neg (fun h => hb h.2), mk00]
      clear ha hb
      go_enter Try.func14, Try.ntmps14
      go_wp2_with (go_at_call 25; first | ((with_reducible refine (count_v a true ea _).mono ?_); rintro e w' ⟨rfl, rfl⟩) | ((with_reducible refine (count_v b false eb _).mono ?_); rintro e w' ⟨rfl, rfl⟩))
      go_ret
      exact ⟨rfl, rfl⟩
  · have ea : decide (Cnt a) = false := decide_eq_false ha
    rw [if_neg (fun h => ha h.1), mk00]
    clear ha
    go_enter Try.func14, Try.ntmps14
    go_wp2_with (go_at_call 25; (with_reducible refine (count_v a false ea _).mono ?_); rintro e w' ⟨rfl, rfl⟩)
    go_ret
    exact ⟨rfl, rfl⟩
theorem has_of (a b : Int) : Has (ofC a b) (if Cnt a ∧ Cnt b then a else 0) (if Cnt a ∧ Cnt b then b else 0) := by
  unfold ofC
  by_cases h : Cnt a ∧ Cnt b
  · rw [if_pos h, if_pos h, if_pos h]
    exact has_mk a b h.1 h.2
  · rw [if_neg h, if_neg h, if_neg h]
    exact has_mk 0 0 ⟨by decide, by decide⟩ ⟨by decide, by decide⟩
/-- What clean comes to. -/
theorem clean_v (c : Cx) (a b : Int) (h : Has c a b) (w : World) : Calls Try.prog 23 #[Cx.v c] w fun e w' => e = .returned (Cx.v (ofC a b)) ∧ w = w' := by
  by_cases hb : Cnt a ∧ Cnt b
  · have h1 := first_v c a b h
    have h2 := second_v c a b h
    rw [if_pos hb] at h1 h2
    clear hb h
    go_enter Try.func23, Try.ntmps23
    go_wp2_with (first | (go_at_call 21; refine (h1 _).mono ?_; rintro e w' ⟨rfl, rfl⟩) | (go_at_call 22; refine (h2 _).mono ?_; rintro e w' ⟨rfl, rfl⟩) | (go_at_call 14; refine (of_v a b _).mono ?_; rintro e w' ⟨rfl, rfl⟩))
    go_ret
    exact ⟨rfl, rfl⟩
  · have h1 := first_v c a b h
    have h2 := second_v c a b h
    have e : ofC a b = ofC 0 0 := by
      unfold ofC
      rw [if_neg hb, if_pos ⟨⟨by decide, by decide⟩, ⟨by decide, by decide⟩⟩]
    rw [if_neg hb] at h1 h2
    rw [e]
    clear hb h e
    go_enter Try.func23, Try.ntmps23
    go_wp2_with (first | (go_at_call 21; refine (h1 _).mono ?_; rintro e w' ⟨rfl, rfl⟩) | (go_at_call 22; refine (h2 _).mono ?_; rintro e w' ⟨rfl, rfl⟩) | (go_at_call 14; refine (of_v 0 0 _).mono ?_; rintro e w' ⟨rfl, rfl⟩))
    go_ret
    exact ⟨rfl, rfl⟩
theorem mirror_v (a b : Int) (ha : Cnt a) (hb : Cnt b) (c : Cx) (h : Has c a b) (w : World) : Calls Try.prog 13 #[Cx.v c] w fun e w' => e = .returned (Cx.v (ofC b a)) ∧ w = w' := by
  have h1 := first_v c a b h
  have h2 := second_v c a b h
  rw [if_pos ⟨ha, hb⟩] at h1 h2
  clear h ha hb
  go_enter Try.func13, Try.ntmps13
  go_wp2_with (first | (go_at_call 21; refine (h1 _).mono ?_; rintro e w' ⟨rfl, rfl⟩) | (go_at_call 22; refine (h2 _).mono ?_; rintro e w' ⟨rfl, rfl⟩) | (go_at_call 14; refine (of_v b a _).mono ?_; rintro e w' ⟨rfl, rfl⟩))
  go_ret
  exact ⟨rfl, rfl⟩
theorem total_v (a b : Int) (ha : Cnt a) (hb : Cnt b) (c : Cx) (h : Has c a b) (w : World) : Calls Try.prog 17 #[Cx.v c] w fun e w' => e = .returned (.int .i64 (a + b)) ∧ w = w' := by
  have h1 := first_v c a b h
  have h2 := second_v c a b h
  rw [if_pos ⟨ha, hb⟩] at h1 h2
  unfold Cnt at ha hb
  obtain ⟨ha1, ha2⟩ := ha
  obtain ⟨hb1, hb2⟩ := hb
  clear h
  go_enter Try.func17, Try.ntmps17
  go_wp2_with (first | (go_at_call 21; refine (h1 _).mono ?_; rintro e w' ⟨rfl, rfl⟩) | (go_at_call 22; refine (h2 _).mono ?_; rintro e w' ⟨rfl, rfl⟩))
  go_ret
  exact ⟨rfl, rfl⟩
theorem turn_v (a b : Int) (ha : Cnt a) (hb : Cnt b) (c : Cx) (h : Has c a b) (w : World) : Calls Try.prog 12 #[Cx.v c] w fun e w' => e = .returned (Cx.v (ofC (-b) a)) ∧ w = w' := by
  have hw : (decide (Cnt a) && decide (Cnt b)) = true := by simp [ha, hb]
  have hp : ∃ r i, cMulBits c.re c.im 0 4607182418800017408 = some (r, i) ∧ Flt.Val r (-b) ∧ Flt.Val i a := by
    unfold Cnt at ha hb
    obtain ⟨x1, e1, v1⟩ := Flt.val_mul h.1 Flt.val_zero (by simp)
    obtain ⟨x2, e2, v2⟩ := Flt.val_mul h.2.1 Flt.val_one (by rw [Int.mul_one]; omega)
    obtain ⟨x3, e3, v3⟩ := Flt.val_sub v1 v2 (by rw [Int.mul_zero, Int.mul_one]; omega)
    obtain ⟨x4, e4, v4⟩ := Flt.val_mul h.1 Flt.val_one (by rw [Int.mul_one]; omega)
    obtain ⟨x5, e5, v5⟩ := Flt.val_mul h.2.1 Flt.val_zero (by simp)
    obtain ⟨x6, e6, v6⟩ := Flt.val_add v4 v5 (by rw [Int.mul_zero, Int.mul_one]; omega)
    refine ⟨x3, x6, ?_, by simpa using v3, by simpa using v6⟩
    unfold cMulBits
    simp only [e1, e2, e3, e4, e5, e6, Option.bind_some]
  obtain ⟨r, i, hm, v1, v2⟩ := hp
  have hrun : ∀ w, (binOp .mul 29 (.complex .f64 c.re c.im) (.complex .f64 0 4607182418800017408)).run Try.prog w = .ok (.complex .f64 r i) w := fun w => run_complex_mul w 29 _ _ _ _ _ _ hm
  have hs : Has ⟨r, i⟩ (-b) a := ⟨v1, v2, by unfold Cnt at hb; omega, by unfold Cnt at ha; omega⟩
  have hcl := clean_v ⟨r, i⟩ (-b) a hs
  have hwh := whole_v c a b true h hw
  clear hm v1 v2 hs hw ha hb h
  go_enter Try.func12, Try.ntmps12
  go_wp2_with (first | (go_at_call 16; refine (hwh _).mono ?_; rintro e w' ⟨rfl, rfl⟩) | (go_at_call 23; refine (hcl _).mono ?_; rintro e w' ⟨rfl, rfl⟩))
  go_ret
  exact ⟨rfl, rfl⟩
theorem least_v (a b a2 b2 : Int) (ha : Cnt a) (hb : Cnt b) (ha2 : Cnt a2) (hb2 : Cnt b2) (c d : Cx) (h : Has c a b) (h' : Has d a2 b2) (w : World) :
    Calls Try.prog 20 #[Cx.v c, Cx.v d] w fun e w' => e = .returned (Cx.v (ofC (mn a a2) (mn b b2))) ∧ w = w' := by
  have c1 := first_v c a b h
  have c2 := second_v c a b h
  have d1 := first_v d a2 b2 h'
  have d2 := second_v d a2 b2 h'
  have w1 := whole_v c a b true h (by simp [ha, hb])
  have w2 := whole_v d a2 b2 true h' (by simp [ha2, hb2])
  rw [if_pos ⟨ha, hb⟩] at c1 c2
  rw [if_pos ⟨ha2, hb2⟩] at d1 d2
  clear h h' ha hb ha2 hb2
  go_enter Try.func20, Try.ntmps20
  go_wp2_with (first | (go_at_call 16; first | ((with_reducible refine (w1 _).mono ?_); rintro e w' ⟨rfl, rfl⟩; clear w1) | ((with_reducible refine (w2 _).mono ?_); rintro e w' ⟨rfl, rfl⟩)) | (go_at_call 21; first | ((with_reducible refine (c1 _).mono ?_); rintro e w' ⟨rfl, rfl⟩; clear c1) | ((with_reducible refine (d1 _).mono ?_); rintro e w' ⟨rfl, rfl⟩)) | (go_at_call 22; first | ((with_reducible refine (c2 _).mono ?_); rintro e w' ⟨rfl, rfl⟩; clear c2) | ((with_reducible refine (d2 _).mono ?_); rintro e w' ⟨rfl, rfl⟩)) | (go_at_call 14; (with_reducible refine (of_v _ _ _).mono ?_); rintro e w' ⟨rfl, rfl⟩))
  all_goals
    go_ret
    refine ⟨?_, rfl⟩
    simp only [mn]
    (repeat' split) <;> first | rfl | omega
theorem far_v (a k : Int) (r : Bool) (ha : Cnt a) (hk : Cnt k) (hr : (!decide (Cnt (a * k))) = r) (w : World) : Calls Try.prog 27 #[.int .i64 a, .int .i64 k] w fun e w' => e = .returned (.bool r) ∧ w = w' := by
  have ha' := ha
  have hk' := hk
  unfold Cnt at ha' hk'
  have v1 := Flt.val_ofInt a (by omega)
  have v2 := Flt.val_ofInt k (by omega)
  have hx : ∃ x, floatBits .mul .f64 (floatOfInt .f64 a) (floatOfInt .f64 k) = some x ∧ (FloatKind.f64.format.order x 4787326403894837248 == some Ordering.gt || FloatKind.f64.format.order x 14010698440749613056 == some Ordering.lt) = r := by
    by_cases hs : (a * k).natAbs < 2 ^ 53
    · obtain ⟨x, e, v⟩ := Flt.val_mul v1 v2 hs
      refine ⟨x, e, ?_⟩
      rw [show FloatKind.f64.format.order x 4787326403894837248 = some (compare (a * k) 1099511627776) from Flt.val_order v Flt.val_up, show FloatKind.f64.format.order x 14010698440749613056 = some (compare (a * k) (-1099511627776)) from Flt.val_order v Flt.val_down, Flt.cmp_gt, Flt.cmp_lt, ← hr, cnt_and]
      generalize a * k = p
      by_cases h1 : 1099511627776 < p
      · simp [h1]
      · by_cases h2 : p < -1099511627776
        · simp [h2]
        · have h3 : -1099511627776 ≤ p := by omega
          have h4 : p ≤ 1099511627776 := by omega
          simp [h1, h2, h3, h4]
    · have hlt : (a * k).natAbs < 2 ^ 100 := by
        rw [Int.natAbs_mul]
        have h1 : a.natAbs ≤ 2 ^ 40 := by omega
        have h2 : k.natAbs ≤ 2 ^ 40 := by omega
        exact Nat.lt_of_le_of_lt (Nat.mul_le_mul h1 h2) (by decide)
      obtain ⟨x, s, M, P, e, h1, h2, h3⟩ := Flt.mul_big v1 v2 (by omega) hlt
      refine ⟨x, e, ?_⟩
      rw [show FloatKind.f64.format.order x 4787326403894837248 = some (if s then .lt else .gt) from Flt.order_big h1 h2 h3 Flt.val_up (by decide), show FloatKind.f64.format.order x 14010698440749613056 = some (if s then .lt else .gt) from Flt.order_big h1 h2 h3 Flt.val_down (by decide), ← hr]
      have hn : ¬ Cnt (a * k) := by
        unfold Cnt
        omega
      rw [decide_eq_false hn]
      cases s <;> rfl
  obtain ⟨x, e, ho⟩ := hx
  have hrun : ∀ w, (binOp .mul 47 (.float .f64 (floatOfInt .f64 a)) (.float .f64 (floatOfInt .f64 k))).run Try.prog w = .ok (.float .f64 x) w := fun w => run_float_arith w .mul 47 .f64 _ _ _ e
  clear e hr ha hk ha' hk' v1 v2
  cases o1 : (FloatKind.f64.format.order x 4787326403894837248 == some Ordering.gt) with
  | true =>
    rw [o1, Bool.true_or] at ho
    subst ho
    go_enter Try.func27, Try.ntmps27
    go_wp2
    go_ret
    exact ⟨rfl, rfl⟩
  | false =>
    rw [o1, Bool.false_or] at ho
    subst ho
    go_enter Try.func27, Try.ntmps27
    go_wp2
    go_ret
    exact ⟨rfl, rfl⟩
/-- What Times comes to. -/
def timesC (a b k : Int) : Cx := if Cnt k then ofC (a * k) (b * k) else mkC 0 0
theorem ofC_no {a b : Int} (h : ¬ (Cnt a ∧ Cnt b)) : ofC a b = ⟨0, 0⟩ := by
  unfold ofC
  rw [if_neg h, mk00]
theorem wrap_cnt {n : Int} (h : Cnt n) : wrap64 n = n := by
  unfold Cnt at h
  unfold wrap64
  omega
theorem times_v (a b k : Int) (ha : Cnt a) (hb : Cnt b) (c : Cx) (h : Has c a b) (w : World) : Calls Try.prog 18 #[Cx.v c, .int .i64 k] w fun e w' => e = .returned (Cx.v (timesC a b k)) ∧ w = w' := by
  have w1 := whole_v c a b true h (by simp [ha, hb])
  have c1 := first_v c a b h
  have c2 := second_v c a b h
  rw [if_pos ⟨ha, hb⟩] at c1 c2
  unfold timesC
  by_cases hk : Cnt k
  · have ek : decide (Cnt k) = true := decide_eq_true hk
    have f1 := far_v a k
    have f2 := far_v b k
    rw [if_pos hk]
    by_cases hk0 : k = 0
    · subst hk0
      simp only [Int.mul_zero]
      clear h ha hb f1 f2
      go_enter Try.func18, Try.ntmps18
      go_wp2_with (first | (go_at_call 16; refine (w1 _).mono ?_; rintro e w' ⟨rfl, rfl⟩) | (go_at_call 25; refine (count_v 0 true ek _).mono ?_; rintro e w' ⟨rfl, rfl⟩) | (go_at_call 21; refine (c1 _).mono ?_; rintro e w' ⟨rfl, rfl⟩) | (go_at_call 22; refine (c2 _).mono ?_; rintro e w' ⟨rfl, rfl⟩) | (go_at_call 14; (with_reducible refine (of_v _ _ _).mono ?_); rintro e w' ⟨rfl, rfl⟩))
      go_ret
      exact ⟨rfl, rfl⟩
    · have hkb : (k == 0) = false := beq_eq_false_iff_ne.2 hk0
      have hkn : (k != 0) = true := bne_iff_ne.2 hk0
      by_cases h1 : Cnt (a * k)
      · have g1 := f1 false ha hk (by rw [decide_eq_true h1]; rfl)
        have e1 := wrap_cnt h1
        by_cases h2 : Cnt (b * k)
        · have g2 := f2 false hb hk (by rw [decide_eq_true h2]; rfl)
          have e2 := wrap_cnt h2
          have o := of_v (a * k) (b * k)
          clear f1 f2 h ha hb h1 h2 hk hk0
          go_enter Try.func18, Try.ntmps18
          go_wp2_with (first | (go_at_call 16; refine (w1 _).mono ?_; rintro e w' ⟨rfl, rfl⟩) | (go_at_call 25; refine (count_v k true ek _).mono ?_; rintro e w' ⟨rfl, rfl⟩) | (go_at_call 21; refine (c1 _).mono ?_; rintro e w' ⟨rfl, rfl⟩) | (go_at_call 22; refine (c2 _).mono ?_; rintro e w' ⟨rfl, rfl⟩) | (go_at_call 27; first | ((with_reducible refine (g1 _).mono ?_); rintro e w' ⟨rfl, rfl⟩) | ((with_reducible refine (g2 _).mono ?_); rintro e w' ⟨rfl, rfl⟩)) | (go_at_call 14; (with_reducible refine (o _).mono ?_); rintro e w' ⟨rfl, rfl⟩))
          go_ret
          exact ⟨rfl, rfl⟩
        · have g2 := f2 true hb hk (by rw [decide_eq_false h2]; rfl)
          rw [ofC_no (fun h => h2 h.2)]
          clear f1 f2 h ha hb h1 h2 hk hk0 e1
          go_enter Try.func18, Try.ntmps18
          go_wp2_with (first | (go_at_call 16; refine (w1 _).mono ?_; rintro e w' ⟨rfl, rfl⟩) | (go_at_call 25; refine (count_v k true ek _).mono ?_; rintro e w' ⟨rfl, rfl⟩) | (go_at_call 21; refine (c1 _).mono ?_; rintro e w' ⟨rfl, rfl⟩) | (go_at_call 22; refine (c2 _).mono ?_; rintro e w' ⟨rfl, rfl⟩) | (go_at_call 27; first | ((with_reducible refine (g1 _).mono ?_); rintro e w' ⟨rfl, rfl⟩) | ((with_reducible refine (g2 _).mono ?_); rintro e w' ⟨rfl, rfl⟩)))
          go_ret
          exact ⟨rfl, rfl⟩
      · have g1 := f1 true ha hk (by rw [decide_eq_false h1]; rfl)
        rw [ofC_no (fun h => h1 h.1)]
        clear f1 f2 h ha hb h1 hk hk0
        go_enter Try.func18, Try.ntmps18
        go_wp2_with (first | (go_at_call 16; refine (w1 _).mono ?_; rintro e w' ⟨rfl, rfl⟩) | (go_at_call 25; refine (count_v k true ek _).mono ?_; rintro e w' ⟨rfl, rfl⟩) | (go_at_call 21; refine (c1 _).mono ?_; rintro e w' ⟨rfl, rfl⟩) | (go_at_call 22; refine (c2 _).mono ?_; rintro e w' ⟨rfl, rfl⟩) | (go_at_call 27; (with_reducible refine (g1 _).mono ?_); rintro e w' ⟨rfl, rfl⟩))
        go_ret
        exact ⟨rfl, rfl⟩
  · have ek : decide (Cnt k) = false := decide_eq_false hk
    rw [if_neg hk, mk00]
    clear h ha hb hk c1 c2
    go_enter Try.func18, Try.ntmps18
    go_wp2_with (first | (go_at_call 16; refine (w1 _).mono ?_; rintro e w' ⟨rfl, rfl⟩) | (go_at_call 25; refine (count_v k false ek _).mono ?_; rintro e w' ⟨rfl, rfl⟩))
    go_ret
    exact ⟨rfl, rfl⟩
/-- What Sum comes to, from a sum on. -/
def sumP : Int → Int → List (Int × Int) → Int × Int
  | x, y, [] => (x, y)
  | x, y, p :: l => if Cnt (x + p.1) ∧ Cnt (y + p.2) then sumP (x + p.1) (y + p.2) l else (0, 0)
/-- Numbers that are pairs. -/
def Pairs (l : List Cx) (ps : List (Int × Int)) : Prop := l.length = ps.length ∧ ∀ (i : Nat) c p, l[i]? = some c → ps[i]? = some p → Has c p.1 p.2 ∧ Cnt p.1 ∧ Cnt p.2
theorem sum_v (l : List Cx) (ps : List (Int × Int)) (hl : Pairs l ps) (A : Option Addr) (cap : Nat) (w : World) (hr : (Kd.scalar Cx.v Cx.one).C w A l.length l) (hlen : l.length ≤ 9223372036854775807) :
    Calls Try.prog 10 #[.slice A l.length cap] w fun e w' => e = .returned (Cx.v (ofC (sumP 0 0 ps).1 (sumP 0 0 ps).2)) ∧ w = w' := by
  have HR := Aside0.mk hr
  have HL := Aside0.mk hl
  clear hr hl
  go_enter Try.func10, Try.ntmps10
  go_wp2
  go_loop [3, 8] (fun s i => ∃ (k : Nat) (q : Cx) (x y : Int), k ≤ l.length ∧ i = .int .i64 k ∧ s = Cx.v q ∧ Aside0 (Has q x y ∧ Cnt x ∧ Cnt y ∧ sumP x y (ps.drop k) = sumP 0 0 ps)) (fun _ i => l.length - (intOf i).toNat)
  case atStart => exact ⟨0, ⟨0, 0⟩, 0, 0, by omega, rfl, rfl, ⟨by rw [← mk00]; exact has_mk 0 0 ⟨by decide, by decide⟩ ⟨by decide, by decide⟩, ⟨by decide, by decide⟩, ⟨by decide, by decide⟩, rfl⟩⟩
  case round =>
    obtain ⟨k, q, x, y, hk, rfl, rfl, HH⟩ := hrel
    by_cases hlt : k < l.length
    · obtain ⟨ad, e1, hx⟩ := Cx.at_cx HR.out (k : Int) (by omega) (by omega)
      cases e1
      have hlp : k < ps.length := by rw [← HL.out.1]; exact hlt
      obtain ⟨hc, hp1, hp2⟩ := HL.out.2 k l[k] ps[k] (List.getElem?_eq_getElem hlt) (List.getElem?_eq_getElem hlp)
      obtain ⟨hq, hx0, hy0, hrest⟩ := HH.out
      have hrd : rdOf (⟨0, 0⟩ : Cx) l (k : Int) = l[k] := by simp [rdOf, hlt]
      rw [hrd, Int.toNat_natCast] at hx
      rw [List.drop_eq_getElem_cons hlp] at hrest
      clear hrd HH
      generalize l[k] = c at *
      generalize ps[k] = p at *
      have hsum : ∃ r i, cSumBits .add .f64 q.re q.im c.re c.im = some (r, i) ∧ Has ⟨r, i⟩ (x + p.1) (y + p.2) := by
        unfold Cnt at hx0 hy0 hp1 hp2
        obtain ⟨r, e1, v1⟩ := Flt.val_add hq.1 hc.1 (by omega)
        obtain ⟨i, e2, v2⟩ := Flt.val_add hq.2.1 hc.2.1 (by omega)
        refine ⟨r, i, ?_, v1, v2, by omega, by omega⟩
        unfold cSumBits
        simp only [e1, e2, Option.bind_some]
      obtain ⟨r, i, hsb, hs⟩ := hsum
      have hrun : ∀ w, (binOp .add 29 (.complex .f64 q.re q.im) (.complex .f64 c.re c.im)).run Try.prog w = .ok (.complex .f64 r i) w := fun w => run_complex_sum w .add (Or.inl rfl) 29 .f64 _ _ _ _ _ _ hsb
      have wc := whole_v c p.1 p.2 true hc (by simp [hp1, hp2])
      have hlt' : decide ((k : Int) < (l.length : Int)) = true := decide_eq_true (by omega)
      by_cases hok : Cnt (x + p.1) ∧ Cnt (y + p.2)
      · have ws := whole_v ⟨r, i⟩ (x + p.1) (y + p.2) true hs (by simp [hok])
        have HN : Aside0 (Has ⟨r, i⟩ (x + p.1) (y + p.2) ∧ Cnt (x + p.1) ∧ Cnt (y + p.2) ∧ sumP (x + p.1) (y + p.2) (ps.drop (k + 1)) = sumP 0 0 ps) := ⟨hs, hok.1, hok.2, by rw [← hrest, sumP, if_pos hok]⟩
        clear hsb hs hc hq hrest hok hp1 hp2 hx0 hy0
        go_wp2_with (go_at_call 16; first | ((with_reducible refine (wc _).mono ?_); rintro e w' ⟨rfl, rfl⟩) | ((with_reducible refine (ws _).mono ?_); rintro e w' ⟨rfl, rfl⟩))
        go_round
        case rel => exact ⟨k + 1, ⟨r, i⟩, _, _, by omega, by go_num, rfl, HN⟩
        case measure => simp [intOf]; omega
      · have ws := whole_v ⟨r, i⟩ (x + p.1) (y + p.2) false hs (by rw [← Bool.decide_and]; exact decide_eq_false hok)
        have HE : Aside0 (ofC (sumP 0 0 ps).1 (sumP 0 0 ps).2 = ⟨0, 0⟩) := ⟨by
          rw [← hrest, sumP, if_neg hok, ← mk00]
          unfold ofC
          rw [if_pos ⟨⟨by decide, by decide⟩, ⟨by decide, by decide⟩⟩]⟩
        clear hsb hs hc hq hrest hok hp1 hp2 hx0 hy0
        go_wp2_with (go_at_call 16; first | ((with_reducible refine (wc _).mono ?_); rintro e w' ⟨rfl, rfl⟩) | ((with_reducible refine (ws _).mono ?_); rintro e w' ⟨rfl, rfl⟩))
        go_ret
        exact ⟨by rw [HE.out] <;> rfl, rfl⟩
    · obtain ⟨hq, hx0, hy0, hrest⟩ := HH.out
      have hd : ps.drop k = [] := List.drop_of_length_le (by have := HL.out.1; omega)
      rw [hd, sumP] at hrest
      have HE : Aside0 (sumP 0 0 ps = (x, y)) := ⟨hrest.symm⟩
      have cl := clean_v q x y hq
      have hlt' : decide ((k : Int) < (l.length : Int)) = false := decide_eq_false (by omega)
      clear hq hx0 hy0 hrest hd HH
      go_wp2_with (go_at_call 23; (with_reducible refine (cl _).mono ?_); rintro e w' ⟨rfl, rfl⟩)
      go_ret
      exact ⟨by rw [HE.out] <;> rfl, rfl⟩
/-- The counts of a pair. -/
def dec (c : Cx) : Option (Int × Int) := (floatToIntVal .f64 c.re .i64).bind fun a => (floatToIntVal .f64 c.im .i64).bind fun b => if c = mkC a b ∧ Cnt a ∧ Cnt b then some (a, b) else none
theorem dec_some {c : Cx} {p : Int × Int} (h : dec c = some p) : c = mkC p.1 p.2 ∧ Has (mkC p.1 p.2) p.1 p.2 ∧ Cnt p.1 ∧ Cnt p.2 := by
  unfold dec at h
  obtain ⟨a, _, h⟩ := Option.bind_eq_some_iff.1 h
  obtain ⟨b, _, h⟩ := Option.bind_eq_some_iff.1 h
  split at h
  · rename_i e
    obtain rfl := Option.some.inj h
    exact ⟨e.1, has_mk a b e.2.1 e.2.2, e.2.1, e.2.2⟩
  · simp at h
theorem dec_mk {a b : Int} (ha : Cnt a) (hb : Cnt b) : dec (mkC a b) = some (a, b) := by
  have h := has_mk a b ha hb
  have ha' := ha
  have hb' := hb
  unfold Cnt at ha' hb'
  unfold dec
  rw [Flt.val_toInt h.1 (by omega), Option.bind_some, Flt.val_toInt h.2.1 (by omega), Option.bind_some, if_pos ⟨rfl, ha, hb⟩]
def decs : List Cx → Option (List (Int × Int))
  | [] => some []
  | c :: l => (dec c).bind fun p => (decs l).bind fun ps => some (p :: ps)
theorem decs_some {l : List Cx} {ps : List (Int × Int)} (h : decs l = some ps) : Pairs l ps := by
  induction l generalizing ps with
  | nil =>
    simp only [decs] at h
    obtain rfl := Option.some.inj h
    exact ⟨rfl, fun i c p hc _ => by simp at hc⟩
  | cons c l ih =>
    simp only [decs] at h
    obtain ⟨p, hp, h⟩ := Option.bind_eq_some_iff.1 h
    obtain ⟨qs, hq, h⟩ := Option.bind_eq_some_iff.1 h
    obtain rfl := Option.some.inj h
    obtain ⟨h1, h2⟩ := ih hq
    refine ⟨by simp [h1], fun i d q hd hq2 => ?_⟩
    match i, hd, hq2 with
    | 0, hd, hq2 =>
      simp at hd hq2
      subst hd hq2
      obtain ⟨e, hh, c1, c2⟩ := dec_some hp
      rw [e]
      exact ⟨hh, c1, c2⟩
    | i + 1, hd, hq2 => exact h2 i d q (by simpa using hd) (by simpa using hq2)
theorem is_v (a b : Int) (x : Bool) (ha : Cnt a) (hb : Cnt b) (w : World) : Calls Try.prog 9 #[Cx.v (mkC a b), .agg #[.int .i64 a, .int .i64 b, .bool x]] w fun e w' => e = .returned (.bool true) ∧ Below w.heap.size w w' := by
  have hu32 := Try.underlying32
  have c1 := first_v _ a b (has_mk a b ha hb)
  have c2 := second_v _ a b (has_mk a b ha hb)
  rw [if_pos ⟨ha, hb⟩] at c1 c2
  have e1 : (FloatKind.f64.format.order (mkC a b).re (floatOfInt .f64 a) == some Ordering.eq) = true := by
    have h := (has_mk a b ha hb).1
    rw [show FloatKind.f64.format.order (mkC a b).re (floatOfInt .f64 a) = some (compare a a) from Flt.val_order h h, Flt.cmp_eq]
    simp
  have e2 : (FloatKind.f64.format.order (mkC a b).im (floatOfInt .f64 b) == some Ordering.eq) = true := by
    have h := (has_mk a b ha hb).2.1
    rw [show FloatKind.f64.format.order (mkC a b).im (floatOfInt .f64 b) = some (compare b b) from Flt.val_order h h, Flt.cmp_eq]
    simp
  clear ha hb
  generalize mkC a b = c at *
  have hc0 : (w.alloc (.cells #[.int .i64 a, .int .i64 b, .bool x] 32)).cell? ⟨w.heap.size, 0, none⟩ = some (.int .i64 a) := (blk_cell (blk_new w _) 0).trans rfl
  have hc1 : (w.alloc (.cells #[.int .i64 a, .int .i64 b, .bool x] 32)).cell? ⟨w.heap.size, 1, none⟩ = some (.int .i64 b) := (blk_cell (blk_new w _) 1).trans rfl
  have hB : Below w.heap.size w (w.alloc (.cells #[.int .i64 a, .int .i64 b, .bool x] 32)) := below_alloc (Below.refl _ _) _
  go_enter Try.func9, Try.ntmps9
  go_wp2
  go_quiet ((first | (go_at_call 21; exact Calls.quiet_of_same ((c1 _).mono fun _ _ h => ⟨h.1, h.2.symm⟩)) | (go_at_call 22; exact Calls.quiet_of_same ((c2 _).mono fun _ _ h => ⟨h.1, h.2.symm⟩))))
  go_wp2
  go_ret
  exact ⟨rfl, pw_below_drewN hB _⟩
end Go.Proofs.Ytlhodmhmbcdieaa.Pair
