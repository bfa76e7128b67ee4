/-
  No cell of these rows narrows 'for every input' (looked for: loops, veiled, ifaces, maps, wideKeys, modest, calm, conditions, laid).
  DERIVED. THE GIVEN ROWS OF THIS SEAT. 4 by the template 'for every input the law returns true; each argument reads behind the call as it read before'; 0 by the template 'total and deterministic' (their statements: YteahmcfinijmdaaTotals.lean).
  GIVEN WITH THE SEED: the statements are not yours to turn. If you find one false, say at which input.
  Laid BY PROGRAM, IN A SANDBOX (cutbox-rows.mjs): the forced cells as the released guide's own fill.sh prints them over the translation 1c0af6243753ff83… (all of the seat's roots in one cut). By AI agents, Wed Nov 11 2026. No macro, syntax, notation, axiom, sorry.
-/
import Derived.Test.YteahmcfinijmdaaChecked
import GoSem.Claim
import GoSem.ClaimJoined
import GoSem.ClaimMapViews
import Derived.JoinedTies
import Derived.KernelRfl
namespace Go.Proofs.Yteahmcfinijmdaa
/- THE CELL 'sum', in the pinned program and in every row, IS THE sha256 OF THE DUMP (.gsa) THAT YteahmcfinijmdaaProg.lean LOADS. Nothing in Lean hashes anything: it is a label: what it is worth is what the hold of that sum in a sandbox is worth. -/
noncomputable def Try.pinned : Pinned := { name := "yteahmcfinijmdaa", sum := "1c0af6243753ff83a11e845801fcc53822e60273539c6c6fa7699c259748656e", checked := Try.checked }
namespace Rows
def none {H : Type} : Left H := { results := [], args := [] }

/-- 'sakialaw13.OrderRaces': WHATEVER THE INPUT: true; the input reads as it did. -/
def orderRacesSpec : ChangeSpec := { name := "orderRaces", fn := fun _ => fun
  | [d1, d2] => { results := [.lit (.bool true)], args := [d1, d2] }
  | _ => none }
def orderRacesRow : OpenClaim := { program := "yteahmcfinijmdaa", sum := "1c0af6243753ff83a11e845801fcc53822e60273539c6c6fa7699c259748656e", func := "sakia/sakialaw13.OrderRaces", spec := "orderRaces", apart := false }
def OrderRacesSaid : Prop := orderRacesRow.holds Try.pinned (OpenSpec.ofChange orderRacesSpec)

/-- ITS FALSE NEIGHBOUR: 'it returns false'. Refute it at one input. -/
def orderRacesWrong : ChangeSpec := { name := "orderRaces", fn := fun _ => fun
  | [d1, d2] => { results := [.lit (.bool false)], args := [d1, d2] }
  | _ => none }
def OrderRacesWrongFalsely : Prop := orderRacesRow.holds Try.pinned (OpenSpec.ofChange orderRacesWrong)

/-- 'sakialaw13.OrderGoesOn': WHATEVER THE INPUT: true; the input reads as it did. -/
def orderGoesOnSpec : ChangeSpec := { name := "orderGoesOn", fn := fun _ => fun
  | [d1, d2, d3] => { results := [.lit (.bool true)], args := [d1, d2, d3] }
  | _ => none }
def orderGoesOnRow : OpenClaim := { program := "yteahmcfinijmdaa", sum := "1c0af6243753ff83a11e845801fcc53822e60273539c6c6fa7699c259748656e", func := "sakia/sakialaw13.OrderGoesOn", spec := "orderGoesOn", apart := false }
def OrderGoesOnSaid : Prop := orderGoesOnRow.holds Try.pinned (OpenSpec.ofChange orderGoesOnSpec)

/-- ITS FALSE NEIGHBOUR: 'it returns false'. Refute it at one input. -/
def orderGoesOnWrong : ChangeSpec := { name := "orderGoesOn", fn := fun _ => fun
  | [d1, d2, d3] => { results := [.lit (.bool false)], args := [d1, d2, d3] }
  | _ => none }
def OrderGoesOnWrongFalsely : Prop := orderGoesOnRow.holds Try.pinned (OpenSpec.ofChange orderGoesOnWrong)

/-- 'sakialaw13.OrderClocks': WHATEVER THE INPUT: true; the input reads as it did. -/
def orderClocksSpec : ChangeSpec := { name := "orderClocks", fn := fun _ => fun
  | [d1, d2] => { results := [.lit (.bool true)], args := [d1, d2] }
  | _ => none }
def orderClocksRow : OpenClaim := { program := "yteahmcfinijmdaa", sum := "1c0af6243753ff83a11e845801fcc53822e60273539c6c6fa7699c259748656e", func := "sakia/sakialaw13.OrderClocks", spec := "orderClocks", apart := false }
def OrderClocksSaid : Prop := orderClocksRow.holds Try.pinned (OpenSpec.ofChange orderClocksSpec)

/-- ITS FALSE NEIGHBOUR: 'it returns false'. Refute it at one input. -/
def orderClocksWrong : ChangeSpec := { name := "orderClocks", fn := fun _ => fun
  | [d1, d2] => { results := [.lit (.bool false)], args := [d1, d2] }
  | _ => none }
def OrderClocksWrongFalsely : Prop := orderClocksRow.holds Try.pinned (OpenSpec.ofChange orderClocksWrong)

/-- 'sakialaw13.OrderTells': WHATEVER THE INPUT: true; the input reads as it did. -/
def orderTellsSpec : ChangeSpec := { name := "orderTells", fn := fun _ => fun
  | [d1, d2, d3] => { results := [.lit (.bool true)], args := [d1, d2, d3] }
  | _ => none }
def orderTellsRow : OpenClaim := { program := "yteahmcfinijmdaa", sum := "1c0af6243753ff83a11e845801fcc53822e60273539c6c6fa7699c259748656e", func := "sakia/sakialaw13.OrderTells", spec := "orderTells", recurses := true, apart := false }
def OrderTellsSaid : Prop := orderTellsRow.holds Try.pinned (OpenSpec.ofChange orderTellsSpec)

/-- ITS FALSE NEIGHBOUR: 'it returns false'. Refute it at one input. -/
def orderTellsWrong : ChangeSpec := { name := "orderTells", fn := fun _ => fun
  | [d1, d2, d3] => { results := [.lit (.bool false)], args := [d1, d2, d3] }
  | _ => none }
def OrderTellsWrongFalsely : Prop := orderTellsRow.holds Try.pinned (OpenSpec.ofChange orderTellsWrong)

/- THE SECOND FORM. 'bulk': how many values and letters a reading holds, each counted each time it is reached (what is shared counts as often as it is met; a slice's spare places count too). A statement '..UptoSaid' is the law's where the arguments, and the package variables that the reading takes, are together of bulk at most 1048576: NARROWER than '..Said'. Prove '..Said' where nothing that the law and all that it calls make is longer than what came in: it says more and counts as full. Else prove '..UptoSaid'. A law counts once. -/
mutual
def uptoBulk {H : Type} : DataW H → Nat
  | .lit (.string bytes) => bytes.length + 1
  | .lit _ => 1
  | .nil => 1
  | .ptr d => uptoBulk d + 1
  | .slice elems spare => uptoBulkAll elems + uptoBulkAll spare + 1
  | .agg parts => uptoBulkAll parts + 1
  | .iface _ d => uptoBulk d + 1
  | .map entries => uptoBulkEntries entries + 1
  | .held _ => 1
def uptoBulkAll {H : Type} : List (DataW H) → Nat
  | [] => 0
  | d :: r => uptoBulk d + uptoBulkAll r
def uptoBulkEntries {H : Type} : List (Lit × DataW H) → Nat
  | [] => 0
  | x :: r => uptoBulkEntry x + uptoBulkEntries r
def uptoBulkEntry {H : Type} : Lit × DataW H → Nat
  | (.string bytes, d) => bytes.length + uptoBulk d + 1
  | (_, d) => uptoBulk d + 1
 end
def uptoSmall : (H : Type) → List (DataW H) → Bool := fun _ ds => decide (uptoBulkAll ds ≤ 1048576)
def OpenSpec.upto (s : _root_.Go.ChangeSpec) : _root_.Go.OpenSpec := { _root_.Go.OpenSpec.ofChange s with cond := some uptoSmall }

/-- 'sakialaw13.OrderRaces', WHERE WHAT IT READS IS OF BULK AT MOST 1048576: true; the input reads as it did. -/
def orderRacesUptoRow : OpenClaim := { program := "yteahmcfinijmdaa", sum := "1c0af6243753ff83a11e845801fcc53822e60273539c6c6fa7699c259748656e", func := "sakia/sakialaw13.OrderRaces", spec := "orderRaces", apart := false, narrowed := true }
def OrderRacesUptoSaid : Prop := orderRacesUptoRow.holds Try.pinned (OpenSpec.upto orderRacesSpec)

/-- 'sakialaw13.OrderGoesOn', WHERE WHAT IT READS IS OF BULK AT MOST 1048576: true; the input reads as it did. -/
def orderGoesOnUptoRow : OpenClaim := { program := "yteahmcfinijmdaa", sum := "1c0af6243753ff83a11e845801fcc53822e60273539c6c6fa7699c259748656e", func := "sakia/sakialaw13.OrderGoesOn", spec := "orderGoesOn", apart := false, narrowed := true }
def OrderGoesOnUptoSaid : Prop := orderGoesOnUptoRow.holds Try.pinned (OpenSpec.upto orderGoesOnSpec)

/-- 'sakialaw13.OrderClocks', WHERE WHAT IT READS IS OF BULK AT MOST 1048576: true; the input reads as it did. -/
def orderClocksUptoRow : OpenClaim := { program := "yteahmcfinijmdaa", sum := "1c0af6243753ff83a11e845801fcc53822e60273539c6c6fa7699c259748656e", func := "sakia/sakialaw13.OrderClocks", spec := "orderClocks", apart := false, narrowed := true }
def OrderClocksUptoSaid : Prop := orderClocksUptoRow.holds Try.pinned (OpenSpec.upto orderClocksSpec)

/-- 'sakialaw13.OrderTells', WHERE WHAT IT READS IS OF BULK AT MOST 1048576: true; the input reads as it did. -/
def orderTellsUptoRow : OpenClaim := { program := "yteahmcfinijmdaa", sum := "1c0af6243753ff83a11e845801fcc53822e60273539c6c6fa7699c259748656e", func := "sakia/sakialaw13.OrderTells", spec := "orderTells", recurses := true, apart := false, narrowed := true }
def OrderTellsUptoSaid : Prop := orderTellsUptoRow.holds Try.pinned (OpenSpec.upto orderTellsSpec)

end Rows
end Go.Proofs.Yteahmcfinijmdaa
