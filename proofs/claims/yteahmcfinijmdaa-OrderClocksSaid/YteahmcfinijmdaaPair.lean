import Derived.Test.YteahmcfinijmdaaProg
import Derived.Below
import Derived.Deep.Draws
import Derived.Deep.AppendLies
import Derived.Maps.AppendAt
import Derived.OwnWalk
import Derived.Laws.BytesArg
import Derived.Laws.MakeOwn
import Derived.Laws.OwnMore
import Derived.Deep.OwnRows
import Derived.Tactics
import Derived.Lib.ConvBytes
import Derived.Laws.Slices
import Derived.WalkKit
import Derived.KernelRfl
import Derived.RowKit3
import Derived.Deep.LoopGhost
import Derived.Deep.QuietTactic
import Derived.BigQuiet
import Derived.WideLaws
import Derived.Deep.DeepCutAuto
import Derived.Deep.CutBlock
import Derived.Deep.RegionHeld3
import Derived.Laws.Rows
import Derived.Lib.AppendStr
import Derived.ArgAppend
import Derived.Laws.IdiomCopy
import Derived.OrdersHeld
import Derived.Laws.BitsLemmas
import Derived.RowKit
import Derived.Test.YteahmcfinijmdaaWWords
import Derived.Test.YteahmcfinijmdaaWLast
import Derived.Test.YteahmcfinijmdaaWTab
import Derived.Test.YteahmcfinijmdaaWQPut
import Derived.Test.YteahmcfinijmdaaWApart
import Derived.Test.YteahmcfinijmdaaWArr
import Derived.Test.YteahmcfinijmdaaWZeros
import Derived.Test.YteahmcfinijmdaaWFoot
import Derived.Test.YteahmcfinijmdaaWKept
import Derived.Test.YteahmcfinijmdaaWShare
import Derived.Test.YteahmcfinijmdaaWN
import Derived.Test.YteahmcfinijmdaaWFootNe
import Derived.Test.YteahmcfinijmdaaWAt
import Derived.Test.YteahmcfinijmdaaWRepsOne
import Derived.Test.YteahmcfinijmdaaWGuard
import Derived.Test.YteahmcfinijmdaaWNEv
import Derived.Test.YteahmcfinijmdaaWMore
import Derived.Test.YteahmcfinijmdaaProg
import Derived.Tactics
import Derived.LoopTactic
import Derived.BigQuiet
import Derived.Deep.QuietTactic
import Derived.WalkKit
import Derived.Test.YteahmcfinijmdaaCx
import Derived.Test.YteahmcfinijmdaaFlt
import Derived.Laws.ComplexArith
namespace Go.Proofs.Yteahmcfinijmdaa.Pair
open Go Go.RowKit Go.Proofs.YteahmcfinijmdaaW.PrintWords Go.Proofs.YteahmcfinijmdaaW.PrintLast Go.Proofs.YteahmcfinijmdaaW.PrintMore
attribute [local go_sem] max2_int min2_int max_two min_two max_three min_three max_four min_four
set_option linter.unusedVariables false
set_option linter.unusedSimpArgs false
def Cnt (n : Int) : Prop := -1099511627776 ≤ n ∧ n ≤ 1099511627776
instance (n : Int) : Decidable (Cnt n) := inferInstanceAs (Decidable (_ ∧ _))
theorem cnt_and (n : Int) : decide (Cnt n) = (decide (-1099511627776 ≤ n) && decide (n ≤ 1099511627776)) := by
  unfold Cnt
  exact Bool.decide_and _ _
/-- The pair of two counts. -/
def mkC (a b : Int) : Cx := ⟨floatOfInt .f64 a, floatOfInt .f64 b⟩
/-- A complex number whose parts are whole, and no greater than twice a count. -/
def Has (c : Cx) (a b : Int) : Prop := Flt.Val c.re a ∧ Flt.Val c.im b ∧ a.natAbs < 2 ^ 53 ∧ b.natAbs < 2 ^ 53
theorem has_mk (a b : Int) (ha : Cnt a) (hb : Cnt b) : Has (mkC a b) a b := by
  unfold Cnt at ha hb
  exact ⟨Flt.val_ofInt a (by omega), Flt.val_ofInt b (by omega), by omega, by omega⟩
theorem within_v (x : Nat) (n : Int) (b : Bool) (hv : Flt.Val x n) (hn : n.natAbs < 2 ^ 53) (hb : decide (Cnt n) = b) (w : World) : Calls Try.prog 49 #[.float .f64 x] w fun e w' => e = .returned (.bool b) ∧ w = w' := by
  have h1 : (FloatKind.f64.format.order x 14010698440749613056 == some Ordering.gt || FloatKind.f64.format.order x 14010698440749613056 == some Ordering.eq) = decide (-1099511627776 ≤ n) := by
    have := Flt.val_order hv Flt.val_down
    rw [show FloatKind.f64.format.order x 14010698440749613056 = some (compare n (-1099511627776)) from this]
    exact Flt.cmp_ge _ _
  have h2 : (FloatKind.f64.format.order x 4787326403894837248 == some Ordering.lt || FloatKind.f64.format.order x 4787326403894837248 == some Ordering.eq) = decide (n ≤ 1099511627776) := by
    have := Flt.val_order hv Flt.val_up
    rw [show FloatKind.f64.format.order x 4787326403894837248 = some (compare n 1099511627776) from this]
    exact Flt.cmp_le _ _
  have hc : ∀ w, (convert 64 3 (.float .f64 x)).run Try.prog w = .ok (.int .i64 n) w := fun w => run_convert_float_int w 64 3 .f64 .i64 x n (by rw [Try.underlying64]; rfl) Try.underlying3 (Flt.val_toInt hv (by omega))
  have he : (FloatKind.f64.format.order x (floatOfInt .f64 n) == some Ordering.eq) = true := by
    have := Flt.val_order hv (Flt.val_ofInt n hn)
    rw [show FloatKind.f64.format.order x (floatOfInt .f64 n) = some (compare n n) from this, Flt.cmp_eq]
    simp
  have hb' : b = (decide (-1099511627776 ≤ n) && decide (n ≤ 1099511627776)) := by
    rw [← hb]
    unfold Cnt
    exact Bool.decide_and _ _
  clear hb hv hn
  cases e1 : decide (-1099511627776 ≤ n) with
  | false =>
    rw [e1] at h1 hb'
    subst hb'
    clear e1 h2 hc he
    go_enter Try.func49, Try.ntmps49
    go_wp2
    go_ret
    exact ⟨rfl, rfl⟩
  | true =>
    cases e2 : decide (n ≤ 1099511627776) with
    | false =>
      rw [e1] at h1 hb'
      rw [e2] at h2 hb'
      subst hb'
      clear e1 e2 hc he
      go_enter Try.func49, Try.ntmps49
      go_wp2
      go_ret
      exact ⟨rfl, rfl⟩
    | true =>
      rw [e1] at h1 hb'
      rw [e2] at h2 hb'
      subst hb'
      clear e1 e2
      go_enter Try.func49, Try.ntmps49
      go_wp2
      go_ret
      exact ⟨rfl, rfl⟩
theorem whole_v (c : Cx) (a b : Int) (r : Bool) (h : Has c a b) (hr : (decide (Cnt a) && decide (Cnt b)) = r) (w : World) : Calls Try.prog 43 #[Cx.v c] w fun e w' => e = .returned (.bool r) ∧ w = w' := by
  obtain ⟨h1, h2, h3, h4⟩ := h
  cases ea : decide (Cnt a) with
  | false =>
    rw [ea] at hr
    subst hr
    go_enter Try.func43, Try.ntmps43
    go_wp2_with (go_at_call 49; refine (within_v c.re a false h1 h3 ea _).mono ?_; rintro e w' ⟨rfl, rfl⟩)
    go_ret
    exact ⟨rfl, rfl⟩
  | true =>
    rw [ea] at hr
    cases eb : decide (Cnt b) with
    | false =>
      rw [eb] at hr
      subst hr
      go_enter Try.func43, Try.ntmps43
      go_wp2_with (go_at_call 49; first | ((with_reducible refine (within_v c.re a true h1 h3 ea _).mono ?_); rintro e w' ⟨rfl, rfl⟩) | ((with_reducible refine (within_v c.im b false h2 h4 eb _).mono ?_); rintro e w' ⟨rfl, rfl⟩))
      go_ret
      exact ⟨rfl, rfl⟩
    | true =>
      rw [eb] at hr
      subst hr
      go_enter Try.func43, Try.ntmps43
      go_wp2_with (go_at_call 49; first | ((with_reducible refine (within_v c.re a true h1 h3 ea _).mono ?_); rintro e w' ⟨rfl, rfl⟩) | ((with_reducible refine (within_v c.im b true h2 h4 eb _).mono ?_); rintro e w' ⟨rfl, rfl⟩))
      go_ret
      exact ⟨rfl, rfl⟩
theorem first_v (c : Cx) (a b : Int) (h : Has c a b) (w : World) : Calls Try.prog 19 #[Cx.v c] w fun e w' => e = .returned (.int .i64 (if Cnt a ∧ Cnt b then a else 0)) ∧ w = w' := by
  have hc : ∀ w, (convert 64 3 (.float .f64 c.re)).run Try.prog w = .ok (.int .i64 a) w := fun w => run_convert_float_int w 64 3 .f64 .i64 c.re a (by rw [Try.underlying64]; rfl) Try.underlying3 (Flt.val_toInt h.1 (by have := h.2.2.1; omega))
  by_cases hb : Cnt a ∧ Cnt b
  · rw [if_pos hb]
    have hr : (decide (Cnt a) && decide (Cnt b)) = true := by simp [hb.1, hb.2]
    clear hb
    go_enter Try.func19, Try.ntmps19
    go_wp2_with (go_at_call 43; refine (whole_v c a b true h hr _).mono ?_; rintro e w' ⟨rfl, rfl⟩)
    go_ret
    exact ⟨rfl, rfl⟩
  · rw [if_neg hb]
    have hr : (decide (Cnt a) && decide (Cnt b)) = false := by
      rw [← Bool.decide_and]
      exact decide_eq_false hb
    clear hb hc
    go_enter Try.func19, Try.ntmps19
    go_wp2_with (go_at_call 43; refine (whole_v c a b false h hr _).mono ?_; rintro e w' ⟨rfl, rfl⟩)
    go_ret
    exact ⟨rfl, rfl⟩
theorem second_v (c : Cx) (a b : Int) (h : Has c a b) (w : World) : Calls Try.prog 20 #[Cx.v c] w fun e w' => e = .returned (.int .i64 (if Cnt a ∧ Cnt b then b else 0)) ∧ w = w' := by
  have hc : ∀ w, (convert 64 3 (.float .f64 c.im)).run Try.prog w = .ok (.int .i64 b) w := fun w => run_convert_float_int w 64 3 .f64 .i64 c.im b (by rw [Try.underlying64]; rfl) Try.underlying3 (Flt.val_toInt h.2.1 (by have := h.2.2.2; omega))
  by_cases hb : Cnt a ∧ Cnt b
  · rw [if_pos hb]
    have hr : (decide (Cnt a) && decide (Cnt b)) = true := by simp [hb.1, hb.2]
    clear hb
    go_enter Try.func20, Try.ntmps20
    go_wp2_with (go_at_call 43; refine (whole_v c a b true h hr _).mono ?_; rintro e w' ⟨rfl, rfl⟩)
    go_ret
    exact ⟨rfl, rfl⟩
  · rw [if_neg hb]
    have hr : (decide (Cnt a) && decide (Cnt b)) = false := by
      rw [← Bool.decide_and]
      exact decide_eq_false hb
    clear hb hc
    go_enter Try.func20, Try.ntmps20
    go_wp2_with (go_at_call 43; refine (whole_v c a b false h hr _).mono ?_; rintro e w' ⟨rfl, rfl⟩)
    go_ret
    exact ⟨rfl, rfl⟩
theorem count_v (n : Int) (r : Bool) (hr : decide (Cnt n) = r) (w : World) : Calls Try.prog 47 #[.int .i64 n] w fun e w' => e = .returned (.bool r) ∧ w = w' := by
  rw [cnt_and] at hr
  by_cases h1 : -1099511627776 ≤ n
  · have e1 : decide (-1099511627776 ≤ n) = true := decide_eq_true h1
    have hr2 : r = decide (n ≤ 1099511627776) := by
      rw [← hr, e1, Bool.true_and]
    clear hr h1
    subst hr2
    go_enter Try.func47, Try.ntmps47
    go_wp2
    go_ret
    exact ⟨rfl, rfl⟩
  · have e1 : decide (-1099511627776 ≤ n) = false := decide_eq_false h1
    have hr2 : r = false := by
      rw [← hr, e1, Bool.false_and]
    clear hr h1
    subst hr2
    go_enter Try.func47, Try.ntmps47
    go_wp2
    go_ret
    exact ⟨rfl, rfl⟩
/-- What Of comes to. -/
def ofC (a b : Int) : Cx := if Cnt a ∧ Cnt b then mkC a b else mkC 0 0
theorem mk00 : mkC 0 0 = ⟨0, 0⟩ := by
  unfold mkC
  rw [show floatOfInt .f64 0 = 0 by kernel_rfl]
theorem of_v (a b : Int) (w : World) : Calls Try.prog 39 #[.int .i64 a, .int .i64 b] w fun e w' => e = .returned (Cx.v (ofC a b)) ∧ w = w' := by
  unfold ofC
  by_cases ha : Cnt a
  · have ea : decide (Cnt a) = true := decide_eq_true ha
    by_cases hb : Cnt b
    · have eb : decide (Cnt b) = true := decide_eq_true hb
      rw [if_pos ⟨ha, hb⟩]
      clear ha hb
      go_enter Try.func39, Try.ntmps39
      go_wp2_with (go_at_call 47; first | ((with_reducible refine (count_v a true ea _).mono ?_); rintro e w' ⟨rfl, rfl⟩) | ((with_reducible refine (count_v b true eb _).mono ?_); rintro e w' ⟨rfl, rfl⟩))
      go_ret
      exact ⟨rfl, rfl⟩
    · have eb : decide (Cnt b) = false := decide_eq_false hb
      rw [if_neg (fun h => hb h.2), mk00]
      clear ha hb
      go_enter Try.func39, Try.ntmps39
      go_wp2_with (go_at_call 47; first | ((with_reducible refine (count_v a true ea _).mono ?_); rintro e w' ⟨rfl, rfl⟩) | ((with_reducible refine (count_v b false eb _).mono ?_); rintro e w' ⟨rfl, rfl⟩))
      go_ret
      exact ⟨rfl, rfl⟩
  · have ea : decide (Cnt a) = false := decide_eq_false ha
    rw [if_neg (fun h => ha h.1), mk00]
    clear ha
    go_enter Try.func39, Try.ntmps39
    go_wp2_with (go_at_call 47; (with_reducible refine (count_v a false ea _).mono ?_); rintro e w' ⟨rfl, rfl⟩)
    go_ret
    exact ⟨rfl, rfl⟩
theorem has_of (a b : Int) : Has (ofC a b) (if Cnt a ∧ Cnt b then a else 0) (if Cnt a ∧ Cnt b then b else 0) := by
  unfold ofC
  by_cases h : Cnt a ∧ Cnt b
  · rw [if_pos h, if_pos h, if_pos h]
    exact has_mk a b h.1 h.2
  · rw [if_neg h, if_neg h, if_neg h]
    exact has_mk 0 0 ⟨by decide, by decide⟩ ⟨by decide, by decide⟩
/-- What clean comes to. -/
theorem clean_v (c : Cx) (a b : Int) (h : Has c a b) (w : World) : Calls Try.prog 48 #[Cx.v c] w fun e w' => e = .returned (Cx.v (ofC a b)) ∧ w = w' := by
  by_cases hb : Cnt a ∧ Cnt b
  · have h1 := first_v c a b h
    have h2 := second_v c a b h
    rw [if_pos hb] at h1 h2
    clear hb h
    go_enter Try.func48, Try.ntmps48
    go_wp2_with (first | (go_at_call 19; refine (h1 _).mono ?_; rintro e w' ⟨rfl, rfl⟩) | (go_at_call 20; refine (h2 _).mono ?_; rintro e w' ⟨rfl, rfl⟩) | (go_at_call 39; refine (of_v a b _).mono ?_; rintro e w' ⟨rfl, rfl⟩))
    go_ret
    exact ⟨rfl, rfl⟩
  · have h1 := first_v c a b h
    have h2 := second_v c a b h
    have e : ofC a b = ofC 0 0 := by
      unfold ofC
      rw [if_neg hb, if_pos ⟨⟨by decide, by decide⟩, ⟨by decide, by decide⟩⟩]
    rw [if_neg hb] at h1 h2
    rw [e]
    clear hb h e
    go_enter Try.func48, Try.ntmps48
    go_wp2_with (first | (go_at_call 19; refine (h1 _).mono ?_; rintro e w' ⟨rfl, rfl⟩) | (go_at_call 20; refine (h2 _).mono ?_; rintro e w' ⟨rfl, rfl⟩) | (go_at_call 39; refine (of_v 0 0 _).mono ?_; rintro e w' ⟨rfl, rfl⟩))
    go_ret
    exact ⟨rfl, rfl⟩
theorem ofC_no {a b : Int} (h : ¬ (Cnt a ∧ Cnt b)) : ofC a b = ⟨0, 0⟩ := by
  unfold ofC
  rw [if_neg h, mk00]
theorem wrap_cnt {n : Int} (h : Cnt n) : wrap64 n = n := by
  unfold Cnt at h
  unfold wrap64
  omega
/-- What Sum comes to, from a sum on. -/
def sumP : Int → Int → List (Int × Int) → Int × Int
  | x, y, [] => (x, y)
  | x, y, p :: l => if Cnt (x + p.1) ∧ Cnt (y + p.2) then sumP (x + p.1) (y + p.2) l else (0, 0)
/-- Numbers that are pairs. -/
def Pairs (l : List Cx) (ps : List (Int × Int)) : Prop := l.length = ps.length ∧ ∀ (i : Nat) c p, l[i]? = some c → ps[i]? = some p → Has c p.1 p.2 ∧ Cnt p.1 ∧ Cnt p.2
theorem sum_v (l : List Cx) (ps : List (Int × Int)) (hl : Pairs l ps) (A : Option Addr) (cap : Nat) (w : World) (hr : (Kd.scalar Cx.v Cx.one).C w A l.length l) (hlen : l.length ≤ 9223372036854775807) :
    Calls Try.prog 40 #[.slice A l.length cap] w fun e w' => e = .returned (Cx.v (ofC (sumP 0 0 ps).1 (sumP 0 0 ps).2)) ∧ w = w' := by
  have HR := Aside0.mk hr
  have HL := Aside0.mk hl
  clear hr hl
  go_enter Try.func40, Try.ntmps40
  go_wp2
  go_loop [3, 8] (fun s i => ∃ (k : Nat) (q : Cx) (x y : Int), k ≤ l.length ∧ i = .int .i64 k ∧ s = Cx.v q ∧ Aside0 (Has q x y ∧ Cnt x ∧ Cnt y ∧ sumP x y (ps.drop k) = sumP 0 0 ps)) (fun _ i => l.length - (intOf i).toNat)
  case atStart => exact ⟨0, ⟨0, 0⟩, 0, 0, by omega, rfl, rfl, ⟨by rw [← mk00]; exact has_mk 0 0 ⟨by decide, by decide⟩ ⟨by decide, by decide⟩, ⟨by decide, by decide⟩, ⟨by decide, by decide⟩, rfl⟩⟩
  case round =>
    obtain ⟨k, q, x, y, hk, rfl, rfl, HH⟩ := hrel
    by_cases hlt : k < l.length
    · obtain ⟨ad, e1, hx⟩ := Cx.at_cx HR.out (k : Int) (by omega) (by omega)
      cases e1
      have hlp : k < ps.length := by rw [← HL.out.1]; exact hlt
      obtain ⟨hc, hp1, hp2⟩ := HL.out.2 k l[k] ps[k] (List.getElem?_eq_getElem hlt) (List.getElem?_eq_getElem hlp)
      obtain ⟨hq, hx0, hy0, hrest⟩ := HH.out
      have hrd : rdOf (⟨0, 0⟩ : Cx) l (k : Int) = l[k] := by simp [rdOf, hlt]
      rw [hrd, Int.toNat_natCast] at hx
      rw [List.drop_eq_getElem_cons hlp] at hrest
      clear hrd HH
      generalize l[k] = c at *
      generalize ps[k] = p at *
      have hsum : ∃ r i, cSumBits .add .f64 q.re q.im c.re c.im = some (r, i) ∧ Has ⟨r, i⟩ (x + p.1) (y + p.2) := by
        unfold Cnt at hx0 hy0 hp1 hp2
        obtain ⟨r, e1, v1⟩ := Flt.val_add hq.1 hc.1 (by omega)
        obtain ⟨i, e2, v2⟩ := Flt.val_add hq.2.1 hc.2.1 (by omega)
        refine ⟨r, i, ?_, v1, v2, by omega, by omega⟩
        unfold cSumBits
        simp only [e1, e2, Option.bind_some]
      obtain ⟨r, i, hsb, hs⟩ := hsum
      have hrun : ∀ w, (binOp .add 47 (.complex .f64 q.re q.im) (.complex .f64 c.re c.im)).run Try.prog w = .ok (.complex .f64 r i) w := fun w => run_complex_sum w .add (Or.inl rfl) 47 .f64 _ _ _ _ _ _ hsb
      have wc := whole_v c p.1 p.2 true hc (by simp [hp1, hp2])
      have hlt' : decide ((k : Int) < (l.length : Int)) = true := decide_eq_true (by omega)
      by_cases hok : Cnt (x + p.1) ∧ Cnt (y + p.2)
      · have ws := whole_v ⟨r, i⟩ (x + p.1) (y + p.2) true hs (by simp [hok])
        have HN : Aside0 (Has ⟨r, i⟩ (x + p.1) (y + p.2) ∧ Cnt (x + p.1) ∧ Cnt (y + p.2) ∧ sumP (x + p.1) (y + p.2) (ps.drop (k + 1)) = sumP 0 0 ps) := ⟨hs, hok.1, hok.2, by rw [← hrest, sumP, if_pos hok]⟩
        clear hsb hs hc hq hrest hok hp1 hp2 hx0 hy0
        go_wp2_with (go_at_call 43; first | ((with_reducible refine (wc _).mono ?_); rintro e w' ⟨rfl, rfl⟩) | ((with_reducible refine (ws _).mono ?_); rintro e w' ⟨rfl, rfl⟩))
        go_round
        case rel => exact ⟨k + 1, ⟨r, i⟩, _, _, by omega, by go_num, rfl, HN⟩
        case measure => simp [intOf]; omega
      · have ws := whole_v ⟨r, i⟩ (x + p.1) (y + p.2) false hs (by rw [← Bool.decide_and]; exact decide_eq_false hok)
        have HE : Aside0 (ofC (sumP 0 0 ps).1 (sumP 0 0 ps).2 = ⟨0, 0⟩) := ⟨by
          rw [← hrest, sumP, if_neg hok, ← mk00]
          unfold ofC
          rw [if_pos ⟨⟨by decide, by decide⟩, ⟨by decide, by decide⟩⟩]⟩
        clear hsb hs hc hq hrest hok hp1 hp2 hx0 hy0
        go_wp2_with (go_at_call 43; first | ((with_reducible refine (wc _).mono ?_); rintro e w' ⟨rfl, rfl⟩) | ((with_reducible refine (ws _).mono ?_); rintro e w' ⟨rfl, rfl⟩))
        go_ret
        exact ⟨by rw [HE.out] <;> rfl, rfl⟩
    · obtain ⟨hq, hx0, hy0, hrest⟩ := HH.out
      have hd : ps.drop k = [] := List.drop_of_length_le (by have := HL.out.1; omega)
      rw [hd, sumP] at hrest
      have HE : Aside0 (sumP 0 0 ps = (x, y)) := ⟨hrest.symm⟩
      have cl := clean_v q x y hq
      have hlt' : decide ((k : Int) < (l.length : Int)) = false := decide_eq_false (by omega)
      clear hq hx0 hy0 hrest hd HH
      go_wp2_with (go_at_call 48; (with_reducible refine (cl _).mono ?_); rintro e w' ⟨rfl, rfl⟩)
      go_ret
      exact ⟨by rw [HE.out] <;> rfl, rfl⟩
/-- The counts of a pair. -/
def dec (c : Cx) : Option (Int × Int) := (floatToIntVal .f64 c.re .i64).bind fun a => (floatToIntVal .f64 c.im .i64).bind fun b => if c = mkC a b ∧ Cnt a ∧ Cnt b then some (a, b) else none
theorem dec_some {c : Cx} {p : Int × Int} (h : dec c = some p) : c = mkC p.1 p.2 ∧ Has (mkC p.1 p.2) p.1 p.2 ∧ Cnt p.1 ∧ Cnt p.2 := by
  unfold dec at h
  obtain ⟨a, _, h⟩ := Option.bind_eq_some_iff.1 h
  obtain ⟨b, _, h⟩ := Option.bind_eq_some_iff.1 h
  split at h
  · rename_i e
    obtain rfl := Option.some.inj h
    exact ⟨e.1, has_mk a b e.2.1 e.2.2, e.2.1, e.2.2⟩
  · simp at h
theorem dec_mk {a b : Int} (ha : Cnt a) (hb : Cnt b) : dec (mkC a b) = some (a, b) := by
  have h := has_mk a b ha hb
  have ha' := ha
  have hb' := hb
  unfold Cnt at ha' hb'
  unfold dec
  rw [Flt.val_toInt h.1 (by omega), Option.bind_some, Flt.val_toInt h.2.1 (by omega), Option.bind_some, if_pos ⟨rfl, ha, hb⟩]
def decs : List Cx → Option (List (Int × Int))
  | [] => some []
  | c :: l => (dec c).bind fun p => (decs l).bind fun ps => some (p :: ps)
theorem decs_some {l : List Cx} {ps : List (Int × Int)} (h : decs l = some ps) : Pairs l ps := by
  induction l generalizing ps with
  | nil =>
    simp only [decs] at h
    obtain rfl := Option.some.inj h
    exact ⟨rfl, fun i c p hc _ => by simp at hc⟩
  | cons c l ih =>
    simp only [decs] at h
    obtain ⟨p, hp, h⟩ := Option.bind_eq_some_iff.1 h
    obtain ⟨qs, hq, h⟩ := Option.bind_eq_some_iff.1 h
    obtain rfl := Option.some.inj h
    obtain ⟨h1, h2⟩ := ih hq
    refine ⟨by simp [h1], fun i d q hd hq2 => ?_⟩
    match i, hd, hq2 with
    | 0, hd, hq2 =>
      simp at hd hq2
      subst hd hq2
      obtain ⟨e, hh, c1, c2⟩ := dec_some hp
      rw [e]
      exact ⟨hh, c1, c2⟩
    | i + 1, hd, hq2 => exact h2 i d q (by simpa using hd) (by simpa using hq2)
end Go.Proofs.Yteahmcfinijmdaa.Pair
