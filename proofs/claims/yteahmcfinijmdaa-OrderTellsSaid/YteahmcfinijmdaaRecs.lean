/- Lemmas: records of two whole numbers, and slices whose elements can be told, opened as arguments of a law. No conditions. -/
import Derived.OpenShut
import Derived.Lib.SmallJoins
import Derived.ProofKit
import Derived.ChangeArms
import Derived.ChangeSame
import Derived.SizedLaws
namespace Go.Proofs.Yteahmcfinijmdaa.Recs
open Go Go.ChangeShapes Go.WideShapes Go.Joins
/-! Slices of records, and records, as arguments of a law. -/
section
variable {H : Type} {enc : TypeId × Value → H} {P : Program} {w : World} {base : Nat} {spare : Nat → Bool} {held : Bool}
/-- A slice whose elements can be told, opened. -/
theorem open_recs {α : Type} {R : α → List Value → Prop} {t e : TypeId} {size : Nat} {a : Option Addr} {len cap : Nat} {d : DataW H} {ps : List MemPlace} (ht : P.underlying t = some (.slice e)) (hc : P.cellsOf e = size)
    (hel : ∀ (n : Nat) (cs : List Value) (y : DataW H × List MemPlace), DataW.trod enc P w base spare held n e cs = some y → ∃ p, R p cs) (h : DataW.Trod enc P w base spare held t (.slice a len cap) d ps) :
    ∃ zs : List α, zs.length = len ∧ len ≤ cap ∧ len ≤ 9223372036854775807 ∧ (0 < len → ∃ ad, a = some ad ∧ ∀ j p, zs[j]? = some p → ∃ c, c.length = size ∧ R p c ∧ ∀ i u, c[i]? = some u → w.cell? (ad.add (j * size + i)) = some u) := by
  obtain ⟨fuel, hf⟩ := h
  rcases DataW.trod_slice ht hf with ⟨hcs, _⟩ | ⟨x, l, c, elems, rest, n, _, hcs, _, _, hl, hm, hlen, hel2, _, _⟩
  · simp [Value.cells] at hcs
    obtain ⟨rfl, rfl, rfl⟩ := hcs
    exact ⟨[], rfl, Nat.le_refl _, by omega, fun h => absurd h (by omega)⟩
  · simp [Value.cells] at hcs
    obtain ⟨rfl, rfl, rfl⟩ := hcs
    have each : ∀ i, i < len → ∃ p cs, w.cells? base (x.add (i * size)) size = some cs ∧ R p cs := by
      intro i hi
      have := hel2 i hi
      rw [List.getElem?_eq_getElem (by omega), hc] at this
      obtain ⟨cs, h1, h2⟩ := Option.bind_eq_some_iff.1 this
      obtain ⟨p, hp⟩ := hel n cs _ h2
      exact ⟨p, cs, h1, hp⟩
    unfold maxLen at hm
    rcases Nat.eq_zero_or_pos len with h0 | h0
    · subst h0
      exact ⟨[], rfl, by omega, by omega, fun h => absurd h (by omega)⟩
    · obtain ⟨p0, _⟩ := each 0 h0
      have ch : ∀ i, ∃ p, ∀ hi : i < len, ∃ cs, w.cells? base (x.add (i * size)) size = some cs ∧ R p cs := by
        intro i
        by_cases hi : i < len
        · obtain ⟨p, cs, h1, h2⟩ := each i hi
          exact ⟨p, fun _ => ⟨cs, h1, h2⟩⟩
        · exact ⟨p0, fun h => absurd h hi⟩
      refine ⟨(List.range len).map fun i => Classical.choose (ch i), by simp, hl, by omega, fun _ => ⟨x, rfl, ?_⟩⟩
      intro j p hj
      rw [List.getElem?_map] at hj
      obtain ⟨i, hi, rfl⟩ := Option.map_eq_some_iff.1 hj
      have hlt : j < len := by
        have := (List.getElem?_eq_some_iff.1 hi).1
        simpa using this
      have hij : i = j := by
        rw [List.getElem?_range hlt] at hi
        exact (Option.some.inj hi).symm
      subst hij
      obtain ⟨cs, h1, h2⟩ := Classical.choose_spec (ch i) hlt
      obtain ⟨hb, hl3, hg⟩ := World.cells?_some h1
      refine ⟨cs, hl3, h2, ?_⟩
      intro m u hm2
      have hlt2 : m < size := by
        have := (List.getElem?_eq_some_iff.1 hm2).1
        omega
      have := hg m hlt2
      rw [hm2] at this
      rw [← this]
      congr 1
      unfold Addr.add
      by_cases h3 : i * size = 0
      · simp [h3]
      · by_cases h4 : m = 0
        · subst h4
          simp [h3]
        · simp [h3, h4, Nat.add_assoc]
/-- A slice's length, by its weight. -/
theorem sized_recs {t e : TypeId} {a : Option Addr} {len cap : Nat} {d : DataW H} {ps : List MemPlace} {ts : List TypeId} {ds : List (DataW H)} {j : Nat}
    (hsz : (DataW.weightsEach P ts ds).all (· ≤ reachBytes) = true) (ht : ts[j]? = some t) (hd : ds[j]? = some d) (hu : P.underlying t = some (.slice e)) {B : Nat} (hB : P.bytesOf e = B)
    (h : DataW.Trod enc P w base spare held t (.slice a len cap) d ps) : len * B ≤ 140737488351232 := by
  obtain ⟨fuel, hf⟩ := h
  rcases DataW.trod_slice hu hf with ⟨hcs, _⟩ | ⟨x, l, c, elems, rest, n, _, hcs, hx, _, _, _, hlen, _, _, _⟩
  · simp [Value.cells] at hcs
    obtain ⟨rfl, rfl, rfl⟩ := hcs
    simp
  · simp [Value.cells] at hcs
    obtain ⟨rfl, rfl, rfl⟩ := hcs
    obtain ⟨hx, _⟩ := Prod.mk.inj hx
    subst hx
    have z := sized_slice hsz ht hd hu
    rw [hB] at z
    refine Nat.le_trans (Nat.mul_le_mul_right _ ?_) z
    simp
    omega
theorem rec2 {t : TypeId} {f0 f1 : Field} {k0 k1 : IntKind} {fuel : Nat} {cs : List Value} {x : DataW H × List MemPlace} (ht : P.underlying t = some (.struct #[f0, f1])) (h0 : P.underlying f0.type = some (.int k0)) (h1 : P.underlying f1.type = some (.int k1))
    (o0 : f0.offset = 0) (o1 : f1.offset = 1) (c0 : P.cellsOf f0.type = 1) (c1 : P.cellsOf f1.type = 1) (hC : P.cellsOf t = 2) (h : DataW.trod enc P w base spare held fuel t cs = some x) :
    ∃ a b : Int, cs = [.int k0 a, .int k1 b] ∧ (Lit.int k0 a).wf = true ∧ (Lit.int k1 b).wf = true := by
  obtain ⟨y0, y1, n, _, hl, e0, e1⟩ := trod_struct2 ht h
  rw [hC] at hl
  match cs, hl with
  | [u, v], _ =>
    rw [o0, c0] at e0
    rw [o1, c1] at e1
    obtain ⟨a, e2, _, wa⟩ := DataW.trod_int h0 e0
    obtain ⟨b, e3, _, wb⟩ := DataW.trod_int h1 e1
    simp at e2 e3
    subst e2 e3
    exact ⟨a, b, rfl, wa, wb⟩
/-- A record of two whole numbers, by value, opened. -/
theorem open_rec2 {t : TypeId} {r : Reach} {b0 : Nat} {f0 f1 : Field} {k0 k1 : IntKind} {v : Value} {d : DataW H} {p : List MemPlace} (ht : P.underlying t = some (.struct #[f0, f1])) (h0 : P.underlying f0.type = some (.int k0)) (h1 : P.underlying f1.type = some (.int k1))
    (o0 : f0.offset = 0) (o1 : f1.offset = 1) (c0 : P.cellsOf f0.type = 1) (c1 : P.cellsOf f1.type = 1) (hC : P.cellsOf t = 2) (hv : Value.okWide P w r b0 t v) (h : DataW.Trod enc P w base spare held t v d p) :
    ∃ a b : Int, v = .agg #[.int k0 a, .int k1 b] ∧ (Lit.int k0 a).wf = true ∧ (Lit.int k1 b).wf = true := by
  unfold Value.okWide at hv
  rw [ht] at hv
  obtain ⟨cs, rfl, hsz, _⟩ := hv
  obtain ⟨fuel, hf⟩ := h
  obtain ⟨a, b, e, wa, wb⟩ := rec2 ht h0 h1 o0 o1 c0 c1 hC hf
  refine ⟨a, b, ?_, wa, wb⟩
  congr 1
  apply Array.ext'
  simpa [Value.cells] using e
/-- A record of five whole numbers, its cells opened. -/
theorem rec5 {t : TypeId} {f0 f1 f2 f3 f4 : Field} {k0 k1 k2 k3 k4 : IntKind} {fuel : Nat} {cs : List Value} {x : DataW H × List MemPlace} (ht : P.underlying t = some (.struct #[f0, f1, f2, f3, f4]))
    (h0 : P.underlying f0.type = some (.int k0)) (h1 : P.underlying f1.type = some (.int k1)) (h2 : P.underlying f2.type = some (.int k2)) (h3 : P.underlying f3.type = some (.int k3)) (h4 : P.underlying f4.type = some (.int k4))
    (ho : [f0.offset, f1.offset, f2.offset, f3.offset, f4.offset] = [0, 1, 2, 3, 4]) (hc : [P.cellsOf f0.type, P.cellsOf f1.type, P.cellsOf f2.type, P.cellsOf f3.type, P.cellsOf f4.type] = [1, 1, 1, 1, 1]) (hC : P.cellsOf t = 5) (h : DataW.trod enc P w base spare held fuel t cs = some x) :
    ∃ a b c d e : Int, cs = [.int k0 a, .int k1 b, .int k2 c, .int k3 d, .int k4 e] ∧ (Lit.int k0 a).wf = true ∧ (Lit.int k1 b).wf = true ∧ (Lit.int k2 c).wf = true ∧ (Lit.int k3 d).wf = true ∧ (Lit.int k4 e).wf = true := by
  obtain ⟨xs, n, _, rfl, hl, hlen, hf⟩ := DataW.trod_struct ht h
  rw [hC] at hl
  simp only [List.cons.injEq, and_true] at ho hc
  obtain ⟨o0, o1, o2, o3, o4⟩ := ho
  obtain ⟨c0, c1, c2, c3, c4⟩ := hc
  match cs, hl, xs, hlen with
  | [u0, u1, u2, u3, u4], _, [y0, y1, y2, y3, y4], _ =>
    have e0 := hf 0 f0 rfl
    have e1 := hf 1 f1 rfl
    have e2 := hf 2 f2 rfl
    have e3 := hf 3 f3 rfl
    have e4 := hf 4 f4 rfl
    rw [o0, c0] at e0
    rw [o1, c1] at e1
    rw [o2, c2] at e2
    rw [o3, c3] at e3
    rw [o4, c4] at e4
    obtain ⟨a, g0, _, wa⟩ := DataW.trod_int h0 e0
    obtain ⟨b, g1, _, wb⟩ := DataW.trod_int h1 e1
    obtain ⟨c, g2, _, wc⟩ := DataW.trod_int h2 e2
    obtain ⟨d, g3, _, wd⟩ := DataW.trod_int h3 e3
    obtain ⟨e, g4, _, we⟩ := DataW.trod_int h4 e4
    simp at g0 g1 g2 g3 g4
    subst g0 g1 g2 g3 g4
    exact ⟨a, b, c, d, e, rfl, wa, wb, wc, wd, we⟩
end
end Go.Proofs.Yteahmcfinijmdaa.Recs
