/- Floats that are no counts, complex numbers that are no pairs: what the functions of pair answer. No conditions but those that the theorems name. -/
import Derived.Test.YtlhodmhmbcdieaaPair
import Derived.Test.YtlhodmhmbcdieaaRaw
namespace Go.Proofs.Ytlhodmhmbcdieaa.Pair
open Go Go.RowKit Go.Proofs.YtlhodmhmbcdieaaW.PrintWords
set_option linter.unusedVariables false
set_option linter.unusedSimpArgs false
/-- A float that is no count. -/
theorem within_no (x : Nat) (h : (∃ le, Flt.Tests x false le) ∨ Flt.Tests x true false ∨ (Flt.Tests x true true ∧ ∃ n, Flt.Near x n false)) (w : World) : Calls Try.prog 26 #[.float .f64 x] w fun e w' => e = .returned (.bool false) ∧ w = w' := by
  rcases h with ⟨le, T⟩ | T | ⟨T, n, N⟩
  · have h1 := T.h1
    clear T
    go_enter Try.func26, Try.ntmps26
    go_wp2
    go_ret
    exact ⟨rfl, rfl⟩
  · have h1 := T.h1
    have h2 := T.h2
    clear T
    go_enter Try.func26, Try.ntmps26
    go_wp2
    go_ret
    exact ⟨rfl, rfl⟩
  · have h1 := T.h1
    have h2 := T.h2
    have h4 := N.h4
    have hc : ∀ w, (convert 47 3 (.float .f64 x)).run Try.prog w = .ok (.int .i64 n) w := fun w => run_convert_float_int w 47 3 .f64 .i64 x n (by rw [Try.underlying47]; rfl) Try.underlying3 N.h3
    clear T N
    go_enter Try.func26, Try.ntmps26
    go_wp2
    go_ret
    exact ⟨rfl, rfl⟩
/-- A complex number that is no pair. -/
def NoPair (c : Cx) : Prop := ∀ w : World, Calls Try.prog 16 #[Cx.v c] w fun e w' => e = .returned (.bool false) ∧ w = w'
theorem whole_no1 (c : Cx) (h : ∀ w : World, Calls Try.prog 26 #[.float .f64 c.re] w fun e w' => e = .returned (.bool false) ∧ w = w') : NoPair c := by
  intro w
  go_enter Try.func16, Try.ntmps16
  go_wp2_with (go_at_call 26; refine (h _).mono ?_; rintro e w' ⟨rfl, rfl⟩)
  go_ret
  exact ⟨rfl, rfl⟩
theorem whole_no2 (c : Cx) (a : Int) (hv : Flt.Val c.re a) (ha : Cnt a) (h : ∀ w : World, Calls Try.prog 26 #[.float .f64 c.im] w fun e w' => e = .returned (.bool false) ∧ w = w') : NoPair c := by
  intro w
  have h1 := within_v c.re a true hv (by unfold Cnt at ha; omega) (decide_eq_true ha)
  clear hv ha
  go_enter Try.func16, Try.ntmps16
  go_wp2_with (go_at_call 26; first | ((with_reducible refine (h1 _).mono ?_); rintro e w' ⟨rfl, rfl⟩) | ((with_reducible refine (h _).mono ?_); rintro e w' ⟨rfl, rfl⟩))
  go_ret
  exact ⟨rfl, rfl⟩
theorem first_no (c : Cx) (h : NoPair c) (w : World) : Calls Try.prog 21 #[Cx.v c] w fun e w' => e = .returned (.int .i64 0) ∧ w = w' := by
  have h := h
  unfold NoPair at h
  go_enter Try.func21, Try.ntmps21
  go_wp2_with (go_at_call 16; refine (h _).mono ?_; rintro e w' ⟨rfl, rfl⟩)
  go_ret
  exact ⟨rfl, rfl⟩
theorem second_no (c : Cx) (h : NoPair c) (w : World) : Calls Try.prog 22 #[Cx.v c] w fun e w' => e = .returned (.int .i64 0) ∧ w = w' := by
  have h := h
  unfold NoPair at h
  go_enter Try.func22, Try.ntmps22
  go_wp2_with (go_at_call 16; refine (h _).mono ?_; rintro e w' ⟨rfl, rfl⟩)
  go_ret
  exact ⟨rfl, rfl⟩
theorem turn_no (c : Cx) (h : NoPair c) (w : World) : Calls Try.prog 12 #[Cx.v c] w fun e w' => e = .returned (Cx.v ⟨0, 0⟩) ∧ w = w' := by
  have h := h
  unfold NoPair at h
  go_enter Try.func12, Try.ntmps12
  go_wp2_with (go_at_call 16; refine (h _).mono ?_; rintro e w' ⟨rfl, rfl⟩)
  go_ret
  exact ⟨rfl, rfl⟩
theorem times_no (c : Cx) (k : Int) (h : NoPair c) (w : World) : Calls Try.prog 18 #[Cx.v c, .int .i64 k] w fun e w' => e = .returned (Cx.v ⟨0, 0⟩) ∧ w = w' := by
  have h := h
  unfold NoPair at h
  go_enter Try.func18, Try.ntmps18
  go_wp2_with (go_at_call 16; refine (h _).mono ?_; rintro e w' ⟨rfl, rfl⟩)
  go_ret
  exact ⟨rfl, rfl⟩
theorem least_no (c d : Cx) (h : NoPair c) (w : World) : Calls Try.prog 20 #[Cx.v c, Cx.v d] w fun e w' => e = .returned (Cx.v ⟨0, 0⟩) ∧ w = w' := by
  have h := h
  unfold NoPair at h
  go_enter Try.func20, Try.ntmps20
  go_wp2_with (go_at_call 16; refine (h _).mono ?_; rintro e w' ⟨rfl, rfl⟩)
  go_ret
  exact ⟨rfl, rfl⟩
theorem of00 (w : World) : Calls Try.prog 14 #[.int .i64 0, .int .i64 0] w fun e w' => e = .returned (Cx.v ⟨0, 0⟩) ∧ w = w' := by
  have := of_v 0 0 w
  rwa [show ofC 0 0 = ⟨0, 0⟩ by unfold ofC; rw [if_pos ⟨⟨by decide, by decide⟩, ⟨by decide, by decide⟩⟩, mk00]] at this
theorem mirror_no (c : Cx) (h : NoPair c) (w : World) : Calls Try.prog 13 #[Cx.v c] w fun e w' => e = .returned (Cx.v ⟨0, 0⟩) ∧ w = w' := by
  have h1 := first_no c h
  have h2 := second_no c h
  clear h
  go_enter Try.func13, Try.ntmps13
  go_wp2_with (first | (go_at_call 21; refine (h1 _).mono ?_; rintro e w' ⟨rfl, rfl⟩) | (go_at_call 22; refine (h2 _).mono ?_; rintro e w' ⟨rfl, rfl⟩) | (go_at_call 14; (with_reducible refine (of00 _).mono ?_); rintro e w' ⟨rfl, rfl⟩))
  go_ret
  exact ⟨rfl, rfl⟩
theorem total_no (c : Cx) (h : NoPair c) (w : World) : Calls Try.prog 17 #[Cx.v c] w fun e w' => e = .returned (.int .i64 0) ∧ w = w' := by
  have h1 := first_no c h
  have h2 := second_no c h
  clear h
  go_enter Try.func17, Try.ntmps17
  go_wp2_with (first | (go_at_call 21; refine (h1 _).mono ?_; rintro e w' ⟨rfl, rfl⟩) | (go_at_call 22; refine (h2 _).mono ?_; rintro e w' ⟨rfl, rfl⟩))
  go_ret
  exact ⟨rfl, rfl⟩
theorem sum_no (c : Cx) (h : NoPair c) (A : Option Addr) (cap : Nat) (w : World) (hr : (Kd.scalar Cx.v Cx.one).C w A 1 [c]) : Calls Try.prog 10 #[.slice A 1 cap] w fun e w' => e = .returned (Cx.v ⟨0, 0⟩) ∧ w = w' := by
  obtain ⟨ad, e1, hx⟩ := Cx.at_cx hr (0 : Int) (by omega) (by omega)
  have hrd : rdOf (⟨0, 0⟩ : Cx) [c] (0 : Int) = c := rfl
  rw [hrd] at hx
  cases e1
  have hx0 : w.cell? ad = some c.v := by simpa [Addr.add] using hx
  have hx1 : w.cell? (ad.add 0) = some c.v := hx
  clear hr hx hrd
  have h := h
  unfold NoPair at h
  go_enter Try.func10, Try.ntmps10
  go_wp2
  go_loop [3, 8] (fun s i => s = Cx.v ⟨0, 0⟩ ∧ i = .int .i64 0) (fun _ i => 1 - (intOf i).toNat)
  case atStart => exact ⟨rfl, rfl⟩
  case round =>
    obtain ⟨rfl, rfl⟩ := hrel
    go_wp2_with (go_at_call 16; refine (h _).mono ?_; rintro e w' ⟨rfl, rfl⟩)
    go_ret
    exact ⟨rfl, rfl⟩
end Go.Proofs.Ytlhodmhmbcdieaa.Pair
