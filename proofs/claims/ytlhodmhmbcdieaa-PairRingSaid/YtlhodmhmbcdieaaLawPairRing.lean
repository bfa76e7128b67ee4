-- Written for this claim by a program of this session.
import Derived.Test.YtlhodmhmbcdieaaRows
import Derived.Test.YtlhodmhmbcdieaaQPairRingx2
import Derived.Test.YtlhodmhmbcdieaaPurePairRing
import Derived.WalkKit
import Derived.ProofKit
import Derived.OpenShut
import Derived.ShutString
import Derived.ChangeOld
import Derived.Below
import Derived.SizedLaws
import Derived.Test.YtlhodmhmbcdieaaWSized
import Derived.Test.YtlhodmhmbcdieaaRecs
namespace Go.Proofs.Ytlhodmhmbcdieaa.pairRing
open Go.ChangeShapes Go.WideShapes Go.ChangeAt Go.RowKit
open Go.ChangeMaps (open_string shut_string)
set_option linter.unusedVariables false
theorem own : ownKnob Try.prog.godebug = none := by kernel_rfl
theorem laidOut : laidOutB Try.prog = true := by kernel_rfl
def IsRow (k : IntKind) (w : World) (a : Option Addr) (len cap : Nat) (zs : List Int) : Prop :=
  (a = none ∧ len = 0 ∧ cap = 0 ∧ zs = []) ∨
  ∃ x, a = some x ∧ len ≤ cap ∧ cap ≤ maxLen ∧ zs.length = cap ∧ (∀ i, i < zs.length → w.cell? (x.add i) = some (.int k (zs.getD i 0))) ∧ ∀ n ∈ zs, (Lit.int k n).wf = true
set_option maxRecDepth 100000 in
theorem lifted (os : Os) (started : os.Started) (H : Type) (enc : TypeId × Value → H) :
    ReturnsInHanded {} Try.checked os 4 .any (Rows.pairRingSpec.pre6 enc Try.prog Try.f4 Rows.pairRingRow.domain false) (Rows.pairRingSpec.post enc Try.prog Try.f4 false true false false) := by
  refine returnsInHanded_of_change_sized (C := Try.checked) own started (by kernel_rfl) Try.func4
    (ChangeSpec.witness6 (enc := enc) (C := Try.checked) false ⟨#[], #[.slice none 0 0, .int .i64 0], []⟩ 8 (by kernel_rfl) (by kernel_rfl) (by kernel_rfl) (by kernel_rfl)) ?_
  intro W base args ds gs before hval0 hW hcnd hsz0 _
  have hsz : (DataW.weightsEach Try.prog (Try.f4.params.toList ++ Rows.pairRingSpec.plain.varTypes Try.prog) (ds ++ gs)).all (· ≤ reachBytes) = true := hsz0
  have hval : ∀ (j : Nat) t v, Try.f4.params[j]? = some t → args[j]? = some v → Value.okWide Try.prog W .any base t v := hval0
  have hW' := hW
  obtain ⟨p, q, hA0, hV, rfl, hfz, hnd⟩ := hW
  have hA : DataW.TrodAll enc Try.prog W 0 (fun _ => true) true Try.f4.params.toList args.toList ds p := hA0
  rw [Try.params4] at hA hval hsz
  obtain ⟨v0, vs0, d0, ds0, p0, q0, hargs, rfl, rfl, h0, r0⟩ := trodAll_cons hA
  obtain ⟨v1, vs1, d1, ds1, p1, q1, rfl, rfl, rfl, h1, r1⟩ := trodAll_cons r0
  obtain ⟨rfl, rfl, rfl⟩ := trodAll_nil r1
  obtain rfl : args = #[v0, v1] := by cases args; simp_all
  obtain ⟨rfl, rfl⟩ := trodVars_none hV
  obtain ⟨a0, len0, cap0, rfl⟩ := okWide_slice Try.underlying22 (hval 0 22 v0 rfl rfl)
  have k0 := h0
  have lt0 : ∀ x ∈ p0, x.block < W.heap.size := by obtain ⟨m, hm⟩ := k0; exact DataW.trod_lt m _ _ _ hm
  obtain ⟨l0, e0, hc0, hm0, hq0⟩ := Recs.open_recs (R := fun (x : QPairRing.S36) cs => cs = [.int .i64 x.f0, .int .i64 x.f1] ∧ (Lit.int .i64 x.f0).wf = true ∧ (Lit.int .i64 x.f1).wf = true) (size := 2) Try.underlying22 (by kernel_rfl) (fun n cs y hy => by
    obtain ⟨a, b, e, wa, wb⟩ := Recs.rec2 Try.underlying36 Try.underlying3 Try.underlying3 rfl rfl (by kernel_rfl) (by kernel_rfl) (by kernel_rfl) hy
    exact ⟨⟨a, b⟩, e, wa, wb⟩) h0
  have y0 : len0 * 16 ≤ 140737488351232 := Recs.sized_recs hsz (j := 0) (t := 22) rfl rfl Try.underlying22 (by kernel_rfl) h0
  subst e0
  have hr0 : Go.Proofs.YtlhodmhmbcdieaaW.PrintWords.Kd.C QPairRing.k36 W a0 l0.length l0 := ⟨rfl, hm0, fun h0 => by
    obtain ⟨ad, e, hh⟩ := hq0 h0
    exact ⟨ad, e, fun j p hj => by
      obtain ⟨c, hl, ⟨hc, _⟩, hcell⟩ := hh j p hj
      exact ⟨c, hl, hc ▸ QPairRing.k36_mk W p, hcell⟩⟩⟩
  have hw0 : ∀ x ∈ l0, (Lit.int .i64 x.f0).wf = true ∧ (Lit.int .i64 x.f1).wf = true := by
    intro x hx
    obtain ⟨j, hj⟩ := List.getElem?_of_mem hx
    obtain ⟨ad, e, hh⟩ := hq0 (by have := (List.getElem?_eq_some_iff.1 hj).1; omega)
    obtain ⟨c, _, ⟨_, hw⟩, _⟩ := hh j x hj
    exact hw
  obtain ⟨a1, rfl, rfl, rfl, w1⟩ := open_int Try.underlying3 (hval 1 3 v1 rfl rfl) h1
  clear hA0 hval0 hsz0 hsz
  refine (QPairRing.sakialaw04_PairRing.walk Pure.PairRing a0 cap0 l0 a1 W hr0 hc0 (Nat.le_trans hm0 (by decide)) y0 hw0 w1).mono fun e W' ⟨he, bel⟩ => ?_
  subst he
  exact ⟨_, rfl, _, _, _, [], _, [], hW', trodAll_mk1 (shut_bool Try.underlying4 _), (trodAll_cons_mk (Below.trod laidOut (by kernel_rfl) (of_decide_eq_true (by kernel_rfl)) k0 bel lt0) (trodAll_cons_mk (shut_int Try.underlying3 w1) trodAll_mk0)), rfl, bel.frame _, fun h => by cases h⟩
theorem over : Rows.pairRingRow.holds Try.pinned (OpenSpec.ofChange Rows.pairRingSpec) :=
  OpenClaim.holds_of_wide 4 Try.f4 rfl rfl rfl rfl rfl rfl rfl ⟨rfl, rfl, rfl, rfl, rfl⟩ rfl rfl rfl rfl rfl (by kernel_rfl) Try.func4 (by kernel_rfl)
    (of_decide_eq_true (by kernel_rfl)) (by unfold Func.isWrapper; first | (rw [if_pos (by decide +kernel)]; kernel_rfl) | (rw [if_neg (by decide +kernel)]; exact ⟨rfl, rfl⟩))
    (fun os started H enc _ => lifted os started H enc)
theorem proved : Rows.PairRingSaid := over
#print axioms proved
end Go.Proofs.Ytlhodmhmbcdieaa.pairRing
namespace Go.Proofs.Ytlhodmhmbcdieaa
/-- The row, under a short name, for the claim. -/
theorem pairRing_holds : Rows.PairRingSaid := pairRing.proved
end Go.Proofs.Ytlhodmhmbcdieaa
