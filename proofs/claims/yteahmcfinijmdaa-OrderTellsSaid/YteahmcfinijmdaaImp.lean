/- Lemmas: a map from ints to slices, as a function from ints to values. No conditions but those that the theorems name. -/
import Derived.Maps.OwnOps
import Derived.Maps.OwnSet
import Derived.Maps.Own
import Derived.Maps.Views
import Derived.Maps.Keyed
namespace Go.Proofs.Yteahmcfinijmdaa.Imp
open Go
set_option linter.unusedVariables false
/-! A map from ints to slices, as a function from ints to values. -/
section
variable {P : Program}
/-- an element reads as itself -/
def asIs (v : Value) : Option (DataW Value × List MemPlace) := some (.held v, [])
def key_ (x : Int) : Lit := .int .i64 x
/-- block b is a map of at most n entries; at x it holds m x -/
def MapIs (P : Program) (w : World) (b n : Nat) (m : Int → Option Value) : Prop :=
  ∃ D : DataW Value, w.ownsMap P 3 asIs b n D ∧ Maps.IsMap D ∧ ∀ x, Maps.has D (key_ x) = (m x).isSome ∧ D.atKey (key_ x) (.held (.slice none 0 0)) = .held ((m x).getD (.slice none 0 0))
theorem MapIs.made (w : World) : MapIs P (w.alloc (.map #[] 0)) w.heap.size 0 fun _ => none :=
  ⟨.map [], World.ownsMap_made _ _ _ _, Maps.isMap_empty, fun x => ⟨rfl, rfl⟩⟩
theorem MapIs.kept {w w' : World} {row : Option Nat} {b n : Nat} {m : Int → Option Value} (h : MapIs P w b n m) (hg : w.grownBy w' row) (hne : some b ≠ row) : MapIs P w' b n m := by
  obtain ⟨D, h1, h2, h3⟩ := h
  exact ⟨D, h1.kept hg hne, h2, h3⟩
theorem MapIs.lt {w : World} {b n : Nat} {m : Int → Option Value} (h : MapIs P w b n m) : b < w.heap.size := by
  obtain ⟨D, h1, _⟩ := h
  exact h1.lt
theorem MapIs.move {w w' : World} {b n : Nat} {m : Int → Option Value} (h : MapIs P w b n m) (he : w'.heap[b]? = w.heap[b]?) : MapIs P w' b n m := by
  obtain ⟨D, ⟨es, clock, hb, F, hs, hD⟩, h2, h3⟩ := h
  exact ⟨D, ⟨es, clock, he.trans hb, F, hs, hD⟩, h2, h3⟩
theorem MapIs.mono {w : World} {b n n' : Nat} {m : Int → Option Value} (h : MapIs P w b n m) (hn : n ≤ n') : MapIs P w b n' m := by
  obtain ⟨D, h1, h2, h3⟩ := h
  exact ⟨D, h1.mono hn, h2, h3⟩
theorem key_is (x : Int) (h3 : P.underlying 3 = some (.int .i64)) (hx : (Lit.int .i64 x).wf = true) : keyOf P 3 (.int .i64 x) = some (key_ x) := Maps.keyOf_int_mk h3 hx
variable {ops : Array Oper} {rest : List Oper} {o : Oper} {a : Act} {Q : Exit → Act → World → Prop}
/-- v, ok := m[x] -/
theorem MapIs.look_ok (w : World) (hg : o.guard = none) (mo x : Operand) (t e : TypeId) (hop : o.op = Op.lookup t mo x true) (h3 : P.underlying 3 = some (.int .i64)) (ht : P.underlying t = some (.map 3 e)) (hz : (zeroValue e).run P w = .ok (.slice none 0 0) w)
    (b n : Nat) (m : Int → Option Value) (hm : a.eval mo = .map (some b)) (h : MapIs P w b n m) (i : Int) (hx : a.eval x = .int .i64 i) (hi : (Lit.int .i64 i).wf = true)
    (hK : wpList P ops Q rest (a.put o.dst (.tuple #[(m i).getD (.slice none 0 0), .bool (m i).isSome])) w) : wpList P ops Q (o :: rest) a w := by
  obtain ⟨D, h1, h2, hD⟩ := h
  refine wpList_lookup_own_ok w hg mo x t hop 3 e (Maps.int_keyed h3) ht asIs hz (.held (.slice none 0 0)) [] rfl b n D hm h1 _ (key_ i) hx (key_is i h3 hi) ?_
  intro v ps hv
  obtain ⟨e1, e2⟩ := hD i
  rw [e2] at hv
  have : v = (m i).getD (.slice none 0 0) := by
    have := (Prod.mk.inj (Option.some.inj hv)).1
    exact DataW.held.inj this
  rw [e1, this]
  exact hK
/-- m[x], a nil slice where it isn't there -/
theorem MapIs.look (w : World) (hg : o.guard = none) (mo x : Operand) (t e : TypeId) (hop : o.op = Op.lookup t mo x false) (h3 : P.underlying 3 = some (.int .i64)) (ht : P.underlying t = some (.map 3 e)) (hz : (zeroValue e).run P w = .ok (.slice none 0 0) w)
    (b n : Nat) (m : Int → Option Value) (hm : a.eval mo = .map (some b)) (h : MapIs P w b n m) (i : Int) (hx : a.eval x = .int .i64 i) (hi : (Lit.int .i64 i).wf = true)
    (hK : wpList P ops Q rest (a.put o.dst ((m i).getD (.slice none 0 0))) w) : wpList P ops Q (o :: rest) a w := by
  obtain ⟨D, h1, h2, hD⟩ := h
  refine wpList_plain hg fun K' hK' => ?_
  obtain ⟨v, ps, hrun, hv⟩ := h1.lookup (Maps.int_keyed h3) ht hz (zd := .held (.slice none 0 0)) rfl (key_is i h3 hi)
  obtain ⟨e1, e2⟩ := hD i
  rw [e2] at hv
  have : v = (m i).getD (.slice none 0 0) := by
    have := (Prod.mk.inj (Option.some.inj hv)).1
    exact DataW.held.inj this
  rw [this] at hrun
  unfold Oper.wp
  simp [execOp, hop, hm, hx, hrun, Result.andThen]
  exact hK' _ _ hK
/-- m[x] = v -/
theorem MapIs.put (w : World) (hg : o.guard = none) (mo x vo : Operand) (t e : TypeId) (hop : o.op = Op.mapUpdate t mo x vo) (h3 : P.underlying 3 = some (.int .i64)) (ht : P.underlying t = some (.map 3 e))
    (b n : Nat) (m : Int → Option Value) (hm : a.eval mo = .map (some b)) (h : MapIs P w b n m) (hn : n < maxLen) (i : Int) (hx : a.eval x = .int .i64 i) (hi : (Lit.int .i64 i).wf = true) (v : Value) (hv : a.eval vo = v)
    (hK : ∀ w', MapIs P w' b (n + 1) (fun y => if y = i then some v else m y) → w.grownBy w' (some b) → wpList P ops Q rest (a.put o.dst undef) w') : wpList P ops Q (o :: rest) a w := by
  obtain ⟨D, h1, h2, hD⟩ := h
  refine wpList_mapUpdate_own w hg mo x vo t hop 3 e (Maps.int_keyed h3) ht asIs b n D hm h1 hn _ v (key_ i) hx hv (key_is i h3 hi) (.held v) [] rfl ?_
  intro w' h1' hg'
  refine hK w' ⟨D.put (key_ i) (.held v), h1', h2.put _ _, fun y => ?_⟩ hg'
  by_cases hy : y = i
  · subst hy
    simp only [if_true]
    exact ⟨Maps.has_put_same h2 (by simp [key_, WideAt.IsKeyLit]) _, Maps.atKey_put_same h2 (by simp [key_, WideAt.IsKeyLit]) _ _⟩
  · have hne : key_ y ≠ key_ i := fun e => hy (by simpa [key_] using e)
    simp only [if_neg hy]
    exact ⟨(Maps.has_put_other hne _).trans (hD y).1, (Maps.atKey_put_other hne _ _).trans (hD y).2⟩
end
end Go.Proofs.Yteahmcfinijmdaa.Imp
