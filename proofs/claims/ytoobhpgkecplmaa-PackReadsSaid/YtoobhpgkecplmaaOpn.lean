/- Lemmas: structs and nested slices, opened as arguments of a law. No conditions. -/
import Derived.Test.YtoobhpgkecplmaaWWords
import Derived.OpenShut
import Derived.Lib.SmallJoins
import Derived.ProofKit
import Derived.ChangeArms
import Derived.ChangeSame
import Derived.SizedLaws
namespace Go.Proofs.Ytoobhpgkecplmaa.Opn
open Go Go.RowKit Go.ChangeShapes Go.WideShapes Go.Joins Go.Proofs.YtoobhpgkecplmaaW.PrintWords
set_option linter.unusedVariables false
set_option linter.unusedSimpArgs false
/-! What a value of a type, as an argument of a law, is: composed over structs and nested slices. -/
section
variable {H : Type} {enc : TypeId × Value → H} {P : Program} {w : World} {base : Nat} {spare : Nat → Bool} {held : Bool}
/-- Whatever cells of the type t can be told are a value of kind d that is as ok says. -/
def Opens {α : Type} (enc : TypeId × Value → H) (P : Program) (w : World) (base : Nat) (spare : Nat → Bool) (held : Bool) (t : TypeId) (d : Kd α) (ok : α → Prop) : Prop :=
  ∀ (n : Nat) (cs : List Value) (y : DataW H × List MemPlace), DataW.trod enc P w base spare held n t cs = some y → ∃ p, d.K w p cs ∧ ok p
/-- The fields of a struct from the cell o on. -/
def Flds {α : Type} (enc : TypeId × Value → H) (P : Program) (w : World) (base : Nat) (spare : Nat → Bool) (held : Bool) (fs : List Field) (o : Nat) (d : Kd α) (ok : α → Prop) : Prop :=
  ∀ (n : Nat) (cs : List Value), cs.length = o + d.sz → (∀ f ∈ fs, ∃ y, DataW.trod enc P w base spare held n f.type ((cs.drop f.offset).take (P.cellsOf f.type)) = some y) → ∃ p, d.K w p (cs.drop o) ∧ ok p
theorem opens_int {t : TypeId} {k : IntKind} (ht : P.underlying t = some (.int k)) : Opens enc P w base spare held t (Kd.int k) (fun x => (Lit.int k x).wf = true) := by
  intro n cs y h
  obtain ⟨x, rfl, _, hw⟩ := DataW.trod_int ht h
  exact ⟨x, rfl, hw⟩
theorem opens_slice {α : Type} {t e : TypeId} {d : Kd α} {ok : α → Prop} (ht : P.underlying t = some (.slice e)) (hc : P.cellsOf e = d.sz) (he : Opens enc P w base spare held e d ok) : Opens enc P w base spare held t (Kd.slice e d) (fun xs => ∀ x ∈ xs, ok x) := by
  intro fuel cs y h
  rcases DataW.trod_slice ht h with ⟨rfl, _⟩ | ⟨x, len, cap, elems, rest, n, _, rfl, _, _, hl, hm, hlen, hel2, _, _⟩
  · exact ⟨[], ⟨none, 0, rfl, Nat.le_refl _, rfl, Nat.zero_le _, fun h => absurd h (Nat.lt_irrefl 0)⟩, fun x hx => absurd hx (by simp)⟩
  · have each : ∀ i, i < len → ∃ p cs, w.cells? base (x.add (i * d.sz)) d.sz = some cs ∧ d.K w p cs ∧ ok p := by
      intro i hi
      have := hel2 i hi
      rw [List.getElem?_eq_getElem (by omega), hc] at this
      obtain ⟨cs, h1, h2⟩ := Option.bind_eq_some_iff.1 this
      obtain ⟨p, hp, ho⟩ := he n cs _ h2
      exact ⟨p, cs, h1, hp, ho⟩
    unfold maxLen at hm
    rcases Nat.eq_zero_or_pos len with h0 | h0
    · subst h0
      exact ⟨[], ⟨some x, cap, rfl, Nat.zero_le _, rfl, Nat.zero_le _, fun h => absurd h (Nat.lt_irrefl 0)⟩, fun x hx => absurd hx (by simp)⟩
    · obtain ⟨p0, _⟩ := each 0 h0
      have ch : ∀ i, ∃ p, ∀ hi : i < len, ∃ cs, w.cells? base (x.add (i * d.sz)) d.sz = some cs ∧ d.K w p cs ∧ ok p := by
        intro i
        by_cases hi : i < len
        · obtain ⟨p, cs, h1, h2⟩ := each i hi
          exact ⟨p, fun _ => ⟨cs, h1, h2⟩⟩
        · exact ⟨p0, fun h => absurd h hi⟩
      have hn : ((List.range len).map fun i => Classical.choose (ch i)).length = len := by simp
      have nth : ∀ j p, ((List.range len).map fun i => Classical.choose (ch i))[j]? = some p → j < len ∧ p = Classical.choose (ch j) := by
        intro j p hj
        rw [List.getElem?_map] at hj
        obtain ⟨i, hi, rfl⟩ := Option.map_eq_some_iff.1 hj
        have hlt : j < len := by
          have := (List.getElem?_eq_some_iff.1 hi).1
          simpa using this
        rw [List.getElem?_range hlt] at hi
        exact ⟨hlt, by rw [Option.some.inj hi]⟩
      refine ⟨(List.range len).map fun i => Classical.choose (ch i), ⟨some x, cap, by rw [hn], by rw [hn]; exact hl, rfl, by rw [hn]; omega, fun _ => ⟨x, rfl, ?_⟩⟩, ?_⟩
      · intro j p hj
        obtain ⟨hlt, rfl⟩ := nth j p hj
        obtain ⟨cs, h1, h2, _⟩ := Classical.choose_spec (ch j) hlt
        obtain ⟨hb, hl3, hg⟩ := World.cells?_some h1
        refine ⟨cs, hl3, h2, ?_⟩
        intro m u hm2
        have hlt2 : m < d.sz := by
          have := (List.getElem?_eq_some_iff.1 hm2).1
          omega
        have := hg m hlt2
        rw [hm2] at this
        rw [← this]
        congr 1
        unfold Addr.add
        by_cases h3 : j * d.sz = 0
        · simp [h3]
        · by_cases h4 : m = 0
          · subst h4
            simp [h3]
          · simp [h3, h4, Nat.add_assoc]
      · intro p hp
        obtain ⟨j, hj⟩ := List.getElem?_of_mem hp
        obtain ⟨hlt, rfl⟩ := nth j p hj
        obtain ⟨_, _, _, ho⟩ := Classical.choose_spec (ch j) hlt
        exact ho
theorem flds_one {α : Type} {f : Field} {o : Nat} {d : Kd α} {ok : α → Prop} (ho : f.offset = o) (hc : P.cellsOf f.type = d.sz) (h : Opens enc P w base spare held f.type d ok) : Flds enc P w base spare held [f] o d ok := by
  intro n cs hl hf
  obtain ⟨y, hy⟩ := hf f List.mem_cons_self
  rw [ho, hc, List.take_of_length_le (by rw [List.length_drop]; omega)] at hy
  exact h n _ y hy
theorem flds_cons {α β : Type} {f : Field} {fs : List Field} {o : Nat} {a : Kd α} {b : Kd β} {oka : α → Prop} {okb : β → Prop} (ho : f.offset = o) (hc : P.cellsOf f.type = a.sz) (h : Opens enc P w base spare held f.type a oka)
    (hr : Flds enc P w base spare held fs (o + a.sz) b okb) : Flds enc P w base spare held (f :: fs) o (Kd.pair a b) (fun x => oka x.1 ∧ okb x.2) := by
  intro n cs hl hf
  obtain ⟨y, hy⟩ := hf f List.mem_cons_self
  rw [ho, hc] at hy
  obtain ⟨x, hx, ok1⟩ := h n _ y hy
  obtain ⟨z, hz, ok2⟩ := hr n cs (by rw [hl]; show o + (a.sz + b.sz) = o + a.sz + b.sz; omega) (fun g hg => hf g (List.mem_cons_of_mem _ hg))
  refine ⟨(x, z), ⟨_, _, ?_, hx, hz⟩, ok1, ok2⟩
  rw [← List.drop_drop, List.take_append_drop]
theorem opens_struct {α : Type} {t : TypeId} {fs : Array Field} {d : Kd α} {ok : α → Prop} (ht : P.underlying t = some (.struct fs)) (hc : P.cellsOf t = d.sz) (h : Flds enc P w base spare held fs.toList 0 d ok) : Opens enc P w base spare held t d ok := by
  intro fuel cs x hx
  obtain ⟨xs, n, _, rfl, hl, hlen, hf⟩ := DataW.trod_struct ht hx
  obtain ⟨p, hp, ho⟩ := h n cs (by rw [hl, hc, Nat.zero_add]) (fun f hm => by
    obtain ⟨i, hi⟩ := List.getElem?_of_mem hm
    have hi' : fs[i]? = some f := by simpa using hi
    have := hf i f hi'
    have hlt : i < xs.length := by
      have := (List.getElem?_eq_some_iff.1 hi).1
      rw [hlen]
      simpa using this
    rw [List.getElem?_eq_getElem hlt] at this
    exact ⟨_, this⟩)
  exact ⟨p, hp, ho⟩
theorem opens_iso {α β : Type} {t : TypeId} {d : Kd α} {ok : α → Prop} (f : β → α) (g : α → β) (hg : ∀ x, f (g x) = x) (h : Opens enc P w base spare held t d ok) : Opens enc P w base spare held t (Kd.iso d f) (fun x => ok (f x)) := by
  intro n cs y hy
  obtain ⟨p, hp, ho⟩ := h n cs y hy
  exact ⟨g p, by show d.K w (f (g p)) cs; rw [hg]; exact hp, by show ok (f (g p)); rw [hg]; exact ho⟩
theorem opens_imp {α : Type} {t : TypeId} {d : Kd α} {ok ok' : α → Prop} (h : Opens enc P w base spare held t d ok) (hi : ∀ x, ok x → ok' x) : Opens enc P w base spare held t d ok' := by
  intro n cs y hy
  obtain ⟨p, hp, ho⟩ := h n cs y hy
  exact ⟨p, hp, hi p ho⟩
/-- A struct that is handed over by value. -/
theorem open_agg {α : Type} {t : TypeId} {fs : Array Field} {r : Reach} {b0 : Nat} {d : Kd α} {ok : α → Prop} {v : Value} {x : DataW H} {p : List MemPlace} (ht : P.underlying t = some (.struct fs)) (ho : Opens enc P w base spare held t d ok)
    (hv : Value.okWide P w r b0 t v) (h : DataW.Trod enc P w base spare held t v x p) : ∃ cs : List Value, v = .agg cs.toArray ∧ ∃ a, d.K w a cs ∧ ok a := by
  unfold Value.okWide at hv
  rw [ht] at hv
  obtain ⟨cs, rfl, _, _⟩ := hv
  obtain ⟨fuel, hf⟩ := h
  obtain ⟨a, ha, hok⟩ := ho fuel _ _ hf
  exact ⟨cs.toList, by simp, a, by simpa [Value.cells] using ha, hok⟩
/-- A slice that is handed over. -/
theorem open_sl {α : Type} {t e : TypeId} {r : Reach} {b0 : Nat} {d : Kd α} {ok : α → Prop} {v : Value} {x : DataW H} {p : List MemPlace} (ht : P.underlying t = some (.slice e)) (ho : Opens enc P w base spare held t (Kd.slice e d) (fun xs => ∀ x ∈ xs, ok x))
    (hv : Value.okWide P w r b0 t v) (h : DataW.Trod enc P w base spare held t v x p) : ∃ (A : Option Addr) (c : Nat) (xs : List α), v = .slice A xs.length c ∧ xs.length ≤ c ∧ d.C w A xs.length xs ∧ ∀ x ∈ xs, ok x := by
  obtain ⟨a, len, cap, rfl⟩ := okWide_slice ht hv
  obtain ⟨fuel, hf⟩ := h
  obtain ⟨xs, ⟨A, c, e, hl, hC⟩, hok⟩ := ho fuel _ _ hf
  simp [Value.cells] at e
  obtain ⟨rfl, rfl, rfl⟩ := e
  exact ⟨_, _, xs, rfl, hl, hC, hok⟩
end
end Go.Proofs.Ytoobhpgkecplmaa.Opn
