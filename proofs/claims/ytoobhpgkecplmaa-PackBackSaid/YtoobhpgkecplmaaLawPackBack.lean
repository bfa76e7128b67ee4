-- Written for this claim by a program of this session.
import Derived.Test.YtoobhpgkecplmaaRows
import Derived.Test.YtoobhpgkecplmaaBwk
import Derived.WalkKit
import Derived.ProofKit
import Derived.OpenShut
import Derived.ShutString
import Derived.ChangeOld
import Derived.Below
import Derived.SizedLaws
import Derived.Test.YtoobhpgkecplmaaOpn
namespace Go.Proofs.Ytoobhpgkecplmaa.packBack
open Go.ChangeShapes Go.WideShapes Go.ChangeAt Go.RowKit Go.Proofs.YtoobhpgkecplmaaW.PrintWords
set_option linter.unusedVariables false
theorem own : ownKnob Try.prog.godebug = none := by kernel_rfl
theorem laidOut : laidOutB Try.prog = true := by kernel_rfl
abbrev W64 (n : Int) : Prop := (Lit.int .i64 n).wf = true
abbrev Wu (n : Int) : Prop := (Lit.int .u64 n).wf = true
section
variable {H : Type} {enc : TypeId × Value → H} {w : World} {base : Nat} {spare : Nat → Bool} {held : Bool}
theorem o3 : Opn.Opens enc Try.prog w base spare held 3 (Kd.int .i64) W64 := Opn.opens_int Try.underlying3
theorem o22 : Opn.Opens enc Try.prog w base spare held 22 (Kd.int .u64) Wu := Opn.opens_int Try.underlying22
theorem o34 : Opn.Opens enc Try.prog w base spare held 34 (Kd.int .i64) W64 := Opn.opens_int Try.underlying34
theorem o50 : Opn.Opens enc Try.prog w base spare held 50 (Kd.slice 3 (Kd.int .i64)) (fun xs => ∀ x ∈ xs, W64 x) := Opn.opens_slice Try.underlying50 (by kernel_rfl) o3
theorem o23 : Opn.Opens enc Try.prog w base spare held 23 (Kd.slice 50 (Kd.slice 3 (Kd.int .i64))) (fun xs => ∀ x ∈ xs, ∀ n ∈ x, W64 n) := Opn.opens_slice Try.underlying23 (by kernel_rfl) o50
theorem o52 : Opn.Opens enc Try.prog w base spare held 52 QPackBack.k52 (fun x => W64 x.f0 ∧ W64 x.f1 ∧ ∀ n ∈ x.f2, W64 n) :=
  Opn.opens_iso (fun x : QPackBack.S52 => (x.f0, x.f1, x.f2)) (fun x => ⟨x.1, x.2.1, x.2.2⟩) (fun _ => rfl)
    (Opn.opens_struct Try.underlying52 (by kernel_rfl) (Opn.flds_cons rfl (by kernel_rfl) o3 (Opn.flds_cons rfl (by kernel_rfl) o3 (Opn.flds_one rfl (by kernel_rfl) o50))))
theorem o54 : Opn.Opens enc Try.prog w base spare held 54 QPackBack.k54 (fun x => W64 x.f0 ∧ W64 x.f1.f0 ∧ W64 x.f1.f1 ∧ ∀ n ∈ x.f1.f2, W64 n) :=
  Opn.opens_iso (fun x : QPackBack.S54 => (x.f0, x.f1)) (fun x => ⟨x.1, x.2⟩) (fun _ => rfl)
    (Opn.opens_struct Try.underlying54 (by kernel_rfl) (Opn.flds_cons rfl (by kernel_rfl) o3 (Opn.flds_one rfl (by kernel_rfl) o52)))
theorem o56 : Opn.Opens enc Try.prog w base spare held 56 QPackBack.k56 (fun x => W64 x.f0 ∧ W64 x.f1 ∧ W64 x.f2 ∧ W64 x.f3 ∧ Wu x.f4 ∧ W64 x.f5 ∧ ∀ n ∈ x.f6, W64 n) :=
  Opn.opens_iso (fun x : QPackBack.S56 => (x.f0, x.f1, x.f2, x.f3, x.f4, x.f5, x.f6)) (fun x => ⟨x.1, x.2.1, x.2.2.1, x.2.2.2.1, x.2.2.2.2.1, x.2.2.2.2.2.1, x.2.2.2.2.2.2⟩) (fun _ => rfl)
    (Opn.opens_struct Try.underlying56 (by kernel_rfl) (Opn.flds_cons rfl (by kernel_rfl) o3 (Opn.flds_cons rfl (by kernel_rfl) o3 (Opn.flds_cons rfl (by kernel_rfl) o3 (Opn.flds_cons rfl (by kernel_rfl) o3 (Opn.flds_cons rfl (by kernel_rfl) o22 (Opn.flds_cons rfl (by kernel_rfl) o34 (Opn.flds_one rfl (by kernel_rfl) o50))))))))
abbrev kC : Kd (Int × Int × Int × Int × Int × List (List Int)) := Kd.pair (Kd.int .i64) (Kd.pair (Kd.int .i64) (Kd.pair (Kd.int .i64) (Kd.pair (Kd.int .i64) (Kd.pair (Kd.int .u64) (Kd.slice 50 (Kd.slice 3 (Kd.int .i64)))))))
theorem o25 : Opn.Opens enc Try.prog w base spare held 25 kC (fun x => W64 x.1 ∧ W64 x.2.1 ∧ W64 x.2.2.1 ∧ W64 x.2.2.2.1 ∧ Wu x.2.2.2.2.1 ∧ ∀ u ∈ x.2.2.2.2.2, ∀ n ∈ u, W64 n) :=
  Opn.opens_imp (Opn.opens_struct (d := kC) Try.underlying25 (by kernel_rfl) (Opn.flds_cons rfl (by kernel_rfl) o3 (Opn.flds_cons rfl (by kernel_rfl) o3 (Opn.flds_cons rfl (by kernel_rfl) o3 (Opn.flds_cons rfl (by kernel_rfl) o3 (Opn.flds_cons rfl (by kernel_rfl) o22 (Opn.flds_one rfl (by kernel_rfl) o23))))))) (fun _ h => h)
theorem o26 : Opn.Opens enc Try.prog w base spare held 26 (Kd.slice 54 QPackBack.k54) (fun xs => ∀ x ∈ xs, W64 x.f0 ∧ W64 x.f1.f0 ∧ W64 x.f1.f1 ∧ ∀ n ∈ x.f1.f2, W64 n) := Opn.opens_slice Try.underlying26 (by kernel_rfl) o54
theorem o29 : Opn.Opens enc Try.prog w base spare held 29 (Kd.slice 56 QPackBack.k56) (fun xs => ∀ x ∈ xs, W64 x.f0 ∧ W64 x.f1 ∧ W64 x.f2 ∧ W64 x.f3 ∧ Wu x.f4 ∧ W64 x.f5 ∧ ∀ n ∈ x.f6, W64 n) := Opn.opens_slice Try.underlying29 (by kernel_rfl) o56
theorem o28 : Opn.Opens enc Try.prog w base spare held 28 (Kd.pair kC (Kd.slice 54 QPackBack.k54)) (fun x : (Int × Int × Int × Int × Int × List (List Int)) × List QPackBack.S54 => (W64 x.1.1 ∧ W64 x.1.2.1 ∧ W64 x.1.2.2.1 ∧ W64 x.1.2.2.2.1 ∧ Wu x.1.2.2.2.2.1 ∧ ∀ u ∈ x.1.2.2.2.2.2, ∀ n ∈ u, W64 n) ∧ ∀ y ∈ x.2, W64 y.f0 ∧ W64 y.f1.f0 ∧ W64 y.f1.f1 ∧ ∀ n ∈ y.f1.f2, W64 n) :=
  Opn.opens_imp (Opn.opens_struct (d := Kd.pair kC (Kd.slice 54 QPackBack.k54)) Try.underlying28 (by kernel_rfl) (Opn.flds_cons rfl (by kernel_rfl) o25 (Opn.flds_one rfl (by kernel_rfl) o26))) (fun _ h => h)
end
theorem w64 {n : Int} (h : W64 n) : QPackBack.i64b n = true := by
  unfold W64 Lit.wf at h
  rw [Bool.and_eq_true, decide_eq_true_eq, decide_eq_true_eq] at h
  have h1 : (IntKind.i64).min = -9223372036854775808 := by decide
  have h2 : (IntKind.i64).max = 9223372036854775807 := by decide
  rw [h1, h2] at h
  exact (QPackBack.i64b_iff n).2 h
theorem wu {n : Int} (h : Wu n) : 0 ≤ n ∧ n < 18446744073709551616 := by
  unfold Wu Lit.wf at h
  rw [Bool.and_eq_true, decide_eq_true_eq, decide_eq_true_eq] at h
  have h1 : (IntKind.u64).min = 0 := by decide
  have h2 : (IntKind.u64).max = 18446744073709551615 := by decide
  rw [h1, h2] at h
  omega
set_option maxRecDepth 100000 in
theorem lifted (os : Os) (started : os.Started) (H : Type) (enc : TypeId × Value → H) :
    ReturnsInHanded {} Try.checked os 5 .any (Rows.packBackSpec.pre6 enc Try.prog Try.f5 Rows.packBackRow.domain false) (Rows.packBackSpec.post enc Try.prog Try.f5 false true false false) := by
  refine returnsInHanded_of_change_sized (C := Try.checked) own started (by kernel_rfl) Try.func5
    (ChangeSpec.witness6 (enc := enc) (C := Try.checked) false ⟨#[], #[.agg #[.int .i64 0, .int .i64 0, .int .i64 0, .int .i64 0, .int .u64 0, .slice none 0 0, .slice none 0 0], .slice none 0 0], []⟩ 8 (by kernel_rfl) (by kernel_rfl) (by kernel_rfl) (by kernel_rfl)) ?_
  intro W base args ds gs before hval0 hW hcnd hsz0 _
  have hval : ∀ (j : Nat) t v, Try.f5.params[j]? = some t → args[j]? = some v → Value.okWide Try.prog W .any base t v := hval0
  have hW' := hW
  obtain ⟨p, q, hA0, hV, rfl, hfz, hnd⟩ := hW
  have hA : DataW.TrodAll enc Try.prog W 0 (fun _ => true) true Try.f5.params.toList args.toList ds p := hA0
  rw [Try.params5] at hA hval
  obtain ⟨v0, vs0, d0, ds0, p0, q0, hargs, rfl, rfl, h0, r0⟩ := trodAll_cons hA
  obtain ⟨v1, vs1, d1, ds1, p1, q1, rfl, rfl, rfl, h1, r1⟩ := trodAll_cons r0
  obtain ⟨rfl, rfl, rfl⟩ := trodAll_nil r1
  obtain rfl : args = #[v0, v1] := by cases args; simp_all
  obtain ⟨rfl, rfl⟩ := trodVars_none hV
  have k0 := h0
  have lt0 : ∀ x ∈ p0, x.block < W.heap.size := by obtain ⟨m, hm⟩ := k0; exact DataW.trod_lt m _ _ _ hm
  have k1 := h1
  have lt1 : ∀ x ∈ p1, x.block < W.heap.size := by obtain ⟨m, hm⟩ := k1; exact DataW.trod_lt m _ _ _ hm
  obtain ⟨cs0, rfl, ⟨⟨a0, a1, a2, a3, a4, up⟩, l⟩, hK, ⟨g0, g1, g2, g3, g4, gu⟩, ga⟩ := Opn.open_agg Try.underlying28 o28 (hval 0 28 v0 rfl rfl) h0
  obtain ⟨A1, c1, m, rfl, hc1, hr1, ge⟩ := Opn.open_sl Try.underlying29 o29 (hval 1 29 v1 rfl rfl) h1
  obtain ⟨_, _, rfl, ⟨_, _, rfl, rfl, ⟨_, _, rfl, rfl, ⟨_, _, rfl, rfl, ⟨_, _, rfl, rfl, ⟨_, _, rfl, rfl, ⟨A5, c5, rfl, hc5, hr5⟩⟩⟩⟩⟩⟩, ⟨A6, c6, rfl, hc6, hr6⟩⟩ := hK
  clear hA0 hval0 hsz0
  have hb : (QPackBack.i64b a0 && QPackBack.i64b a1 && QPackBack.i64b a2 && QPackBack.i64b a3 && decide (0 ≤ a4) && decide (a4 < 18446744073709551616)) = true := by
    have z0 := w64 g0
    have z1 := w64 g1
    have z2 := w64 g2
    have z3 := w64 g3
    have z4 := wu g4
    simp only [z0, z1, z2, z3, z4.1, z4.2, decide_true, Bool.and_self]
  refine (QPackBack.back_calls a0 a1 a2 a3 a4 A5 c5 up A6 c6 l A1 c1 m W hr5 hc5 hr6 hc6 hr1 hc1 hb (fun u hu n hn => w64 (gu u hu n hn)) (fun a ha => by
    obtain ⟨y0, y1, y2, y3⟩ := ga a ha
    exact ⟨w64 y0, w64 y1, w64 y2, fun n hn => w64 (y3 n hn)⟩) (fun e he => by
    obtain ⟨y0, y1, y2, y3, y4, y5, y6⟩ := ge e he
    exact ⟨w64 y0, w64 y1, w64 y2, w64 y3, (wu y4).1, (wu y4).2, w64 y5, fun n hn => w64 (y6 n hn)⟩)).mono fun e W' ⟨he, bel⟩ => ?_
  subst he
  exact ⟨_, rfl, _, _, _, [], _, [], hW', trodAll_mk1 (shut_bool Try.underlying4 _), (trodAll_cons_mk (Below.trod laidOut (by kernel_rfl) (of_decide_eq_true (by kernel_rfl)) k0 bel lt0) (trodAll_cons_mk (Below.trod laidOut (by kernel_rfl) (of_decide_eq_true (by kernel_rfl)) k1 bel lt1) trodAll_mk0)), rfl, bel.frame _, fun h => by cases h⟩
theorem over : Rows.packBackRow.holds Try.pinned (OpenSpec.ofChange Rows.packBackSpec) :=
  OpenClaim.holds_of_wide 5 Try.f5 rfl rfl rfl rfl rfl rfl rfl ⟨rfl, rfl, rfl, rfl, rfl⟩ rfl rfl rfl rfl rfl (by kernel_rfl) Try.func5 (by kernel_rfl)
    (of_decide_eq_true (by kernel_rfl)) (by unfold Func.isWrapper; first | (rw [if_pos (by decide +kernel)]; kernel_rfl) | (rw [if_neg (by decide +kernel)]; exact ⟨rfl, rfl⟩))
    (fun os started H enc _ => lifted os started H enc)
theorem proved : Rows.PackBackSaid := over
#print axioms proved
end Go.Proofs.Ytoobhpgkecplmaa.packBack
namespace Go.Proofs.Ytoobhpgkecplmaa
/-- The row, under a short name, for the claim. -/
theorem packBack_holds : Rows.PackBackSaid := packBack.proved
end Go.Proofs.Ytoobhpgkecplmaa
