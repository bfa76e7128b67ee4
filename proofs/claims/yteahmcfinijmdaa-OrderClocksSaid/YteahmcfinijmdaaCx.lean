/- Complex numbers as a kind: their bits, their values, how a slice of them is read. No conditions. -/
import Derived.Test.YteahmcfinijmdaaWWords
import Derived.Laws.Cover3
namespace Go.Proofs.Yteahmcfinijmdaa
open Go
/-- A complex number: the bits of its two parts. -/
structure Cx where
  re : Nat
  im : Nat
instance : DecidableEq Cx := fun a b => if h : a.re = b.re ∧ a.im = b.im then isTrue (by cases a; cases b; simp_all) else isFalse (by rintro rfl; exact h ⟨rfl, rfl⟩)

/-- .. as a value. -/
abbrev Cx.v (c : Cx) : Value := .complex .f64 c.re c.im
theorem Cx.one (c : Cx) : c.v.oneCell' = true := rfl
open Go.Proofs.YteahmcfinijmdaaW.PrintWords in
theorem Cx.at_cx {w : World} {A : Option Addr} {n : Nat} {xs : List Cx} (h : (Kd.scalar Cx.v Cx.one).C w A n xs) (i : Int) (h0 : 0 ≤ i) (h1 : i < n) : ∃ ad, A = some ad ∧ w.cell? (ad.add i.toNat) = some (Cx.v (rdOf (⟨0, 0⟩ : Cx) xs i)) :=
  ReadsOf.at_ (Kd.reads_of_C (enc := Cx.v) (d := (⟨0, 0⟩ : Cx)) (h1 := Cx.one) h) i h0 h1
end Go.Proofs.Yteahmcfinijmdaa
