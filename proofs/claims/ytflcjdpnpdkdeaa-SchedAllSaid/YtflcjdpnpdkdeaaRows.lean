/-
  No cell of these rows narrows 'for every input' (looked for: loops, veiled, ifaces, maps, wideKeys, modest, calm, conditions, laid).
  DERIVED. THE GIVEN ROWS OF THIS SEAT. 4 by the template 'for every input the law returns true; each argument reads behind the call as it read before'; 0 by the template 'total and deterministic' (their statements: YtflcjdpnpdkdeaaTotals.lean).
  GIVEN WITH THE SEED: the statements are not yours to turn. If you find one false, say at which input.
  Laid BY PROGRAM, IN A SANDBOX (cutbox-rows.mjs): the forced cells as the released guide's own fill.sh prints them over the translation e6782a9c4267f75d… (all of the seat's roots in one cut). By AI agents, Wed Nov 11 2026. No macro, syntax, notation, axiom, sorry.
-/
import Derived.Test.YtflcjdpnpdkdeaaChecked
import GoSem.Claim
import GoSem.ClaimJoined
import GoSem.ClaimMapViews
import Derived.JoinedTies
import Derived.KernelRfl
namespace Go.Proofs.Ytflcjdpnpdkdeaa
/- THE CELL 'sum', in the pinned program and in every row, IS THE sha256 OF THE DUMP (.gsa) THAT YtflcjdpnpdkdeaaProg.lean LOADS. Nothing in Lean hashes anything: it is a label: what it is worth is what the hold of that sum in a sandbox is worth. -/
noncomputable def Try.pinned : Pinned := { name := "ytflcjdpnpdkdeaa", sum := "e6782a9c4267f75db14fe5deabbcb2864e93ebc32b5450e49b958b3c6743cb34", checked := Try.checked }
namespace Rows
def none {H : Type} : Left H := { results := [], args := [] }

/-- 'sakialaw28.SchedMakes': WHATEVER THE INPUT: true; the input reads as it did. -/
def schedMakesSpec : ChangeSpec := { name := "schedMakes", fn := fun _ => fun
  | [d1, d2, d3] => { results := [.lit (.bool true)], args := [d1, d2, d3] }
  | _ => none }
def schedMakesRow : OpenClaim := { program := "ytflcjdpnpdkdeaa", sum := "e6782a9c4267f75db14fe5deabbcb2864e93ebc32b5450e49b958b3c6743cb34", func := "sakia/sakialaw28.SchedMakes", spec := "schedMakes", apart := false }
def SchedMakesSaid : Prop := schedMakesRow.holds Try.pinned (OpenSpec.ofChange schedMakesSpec)

/-- ITS FALSE NEIGHBOUR: 'it returns false'. Refute it at one input. -/
def schedMakesWrong : ChangeSpec := { name := "schedMakes", fn := fun _ => fun
  | [d1, d2, d3] => { results := [.lit (.bool false)], args := [d1, d2, d3] }
  | _ => none }
def SchedMakesWrongFalsely : Prop := schedMakesRow.holds Try.pinned (OpenSpec.ofChange schedMakesWrong)

/-- 'sakialaw28.SchedAll': WHATEVER THE INPUT: true; the input reads as it did. -/
def schedAllSpec : ChangeSpec := { name := "schedAll", fn := fun _ => fun
  | [d1, d2] => { results := [.lit (.bool true)], args := [d1, d2] }
  | _ => none }
def schedAllRow : OpenClaim := { program := "ytflcjdpnpdkdeaa", sum := "e6782a9c4267f75db14fe5deabbcb2864e93ebc32b5450e49b958b3c6743cb34", func := "sakia/sakialaw28.SchedAll", spec := "schedAll", unfollowed := true, recurses := true, apart := false }
def SchedAllSaid : Prop := schedAllRow.holds Try.pinned (OpenSpec.ofChange schedAllSpec)

/-- ITS FALSE NEIGHBOUR: 'it returns false'. Refute it at one input. -/
def schedAllWrong : ChangeSpec := { name := "schedAll", fn := fun _ => fun
  | [d1, d2] => { results := [.lit (.bool false)], args := [d1, d2] }
  | _ => none }
def SchedAllWrongFalsely : Prop := schedAllRow.holds Try.pinned (OpenSpec.ofChange schedAllWrong)

/-- 'sakialaw28.SchedRotates': WHATEVER THE INPUT: true; the input reads as it did. -/
def schedRotatesSpec : ChangeSpec := { name := "schedRotates", fn := fun _ => fun
  | [d1, d2] => { results := [.lit (.bool true)], args := [d1, d2] }
  | _ => none }
def schedRotatesRow : OpenClaim := { program := "ytflcjdpnpdkdeaa", sum := "e6782a9c4267f75db14fe5deabbcb2864e93ebc32b5450e49b958b3c6743cb34", func := "sakia/sakialaw28.SchedRotates", spec := "schedRotates", apart := false }
def SchedRotatesSaid : Prop := schedRotatesRow.holds Try.pinned (OpenSpec.ofChange schedRotatesSpec)

/-- ITS FALSE NEIGHBOUR: 'it returns false'. Refute it at one input. -/
def schedRotatesWrong : ChangeSpec := { name := "schedRotates", fn := fun _ => fun
  | [d1, d2] => { results := [.lit (.bool false)], args := [d1, d2] }
  | _ => none }
def SchedRotatesWrongFalsely : Prop := schedRotatesRow.holds Try.pinned (OpenSpec.ofChange schedRotatesWrong)

/-- 'sakialaw28.SchedTells': WHATEVER THE INPUT: true; the input reads as it did. -/
def schedTellsSpec : ChangeSpec := { name := "schedTells", fn := fun _ => fun
  | [d1, d2, d3] => { results := [.lit (.bool true)], args := [d1, d2, d3] }
  | _ => none }
def schedTellsRow : OpenClaim := { program := "ytflcjdpnpdkdeaa", sum := "e6782a9c4267f75db14fe5deabbcb2864e93ebc32b5450e49b958b3c6743cb34", func := "sakia/sakialaw28.SchedTells", spec := "schedTells", apart := false }
def SchedTellsSaid : Prop := schedTellsRow.holds Try.pinned (OpenSpec.ofChange schedTellsSpec)

/-- ITS FALSE NEIGHBOUR: 'it returns false'. Refute it at one input. -/
def schedTellsWrong : ChangeSpec := { name := "schedTells", fn := fun _ => fun
  | [d1, d2, d3] => { results := [.lit (.bool false)], args := [d1, d2, d3] }
  | _ => none }
def SchedTellsWrongFalsely : Prop := schedTellsRow.holds Try.pinned (OpenSpec.ofChange schedTellsWrong)

/- THE SECOND FORM. 'bulk': how many values and letters a reading holds, each counted each time it is reached (what is shared counts as often as it is met; a slice's spare places count too). A statement '..UptoSaid' is the law's where the arguments, and the package variables that the reading takes, are together of bulk at most 1048576: NARROWER than '..Said'. Prove '..Said' where nothing that the law and all that it calls make is longer than what came in: it says more and counts as full. Else prove '..UptoSaid'. A law counts once. -/
mutual
def uptoBulk {H : Type} : DataW H → Nat
  | .lit (.string bytes) => bytes.length + 1
  | .lit _ => 1
  | .nil => 1
  | .ptr d => uptoBulk d + 1
  | .slice elems spare => uptoBulkAll elems + uptoBulkAll spare + 1
  | .agg parts => uptoBulkAll parts + 1
  | .iface _ d => uptoBulk d + 1
  | .map entries => uptoBulkEntries entries + 1
  | .held _ => 1
def uptoBulkAll {H : Type} : List (DataW H) → Nat
  | [] => 0
  | d :: r => uptoBulk d + uptoBulkAll r
def uptoBulkEntries {H : Type} : List (Lit × DataW H) → Nat
  | [] => 0
  | x :: r => uptoBulkEntry x + uptoBulkEntries r
def uptoBulkEntry {H : Type} : Lit × DataW H → Nat
  | (.string bytes, d) => bytes.length + uptoBulk d + 1
  | (_, d) => uptoBulk d + 1
 end
def uptoSmall : (H : Type) → List (DataW H) → Bool := fun _ ds => decide (uptoBulkAll ds ≤ 1048576)
def OpenSpec.upto (s : _root_.Go.ChangeSpec) : _root_.Go.OpenSpec := { _root_.Go.OpenSpec.ofChange s with cond := some uptoSmall }

/-- 'sakialaw28.SchedMakes', WHERE WHAT IT READS IS OF BULK AT MOST 1048576: true; the input reads as it did. -/
def schedMakesUptoRow : OpenClaim := { program := "ytflcjdpnpdkdeaa", sum := "e6782a9c4267f75db14fe5deabbcb2864e93ebc32b5450e49b958b3c6743cb34", func := "sakia/sakialaw28.SchedMakes", spec := "schedMakes", apart := false, narrowed := true }
def SchedMakesUptoSaid : Prop := schedMakesUptoRow.holds Try.pinned (OpenSpec.upto schedMakesSpec)

/-- 'sakialaw28.SchedAll', WHERE WHAT IT READS IS OF BULK AT MOST 1048576: true; the input reads as it did. -/
def schedAllUptoRow : OpenClaim := { program := "ytflcjdpnpdkdeaa", sum := "e6782a9c4267f75db14fe5deabbcb2864e93ebc32b5450e49b958b3c6743cb34", func := "sakia/sakialaw28.SchedAll", spec := "schedAll", unfollowed := true, recurses := true, apart := false, narrowed := true }
def SchedAllUptoSaid : Prop := schedAllUptoRow.holds Try.pinned (OpenSpec.upto schedAllSpec)

/-- 'sakialaw28.SchedRotates', WHERE WHAT IT READS IS OF BULK AT MOST 1048576: true; the input reads as it did. -/
def schedRotatesUptoRow : OpenClaim := { program := "ytflcjdpnpdkdeaa", sum := "e6782a9c4267f75db14fe5deabbcb2864e93ebc32b5450e49b958b3c6743cb34", func := "sakia/sakialaw28.SchedRotates", spec := "schedRotates", apart := false, narrowed := true }
def SchedRotatesUptoSaid : Prop := schedRotatesUptoRow.holds Try.pinned (OpenSpec.upto schedRotatesSpec)

/-- 'sakialaw28.SchedTells', WHERE WHAT IT READS IS OF BULK AT MOST 1048576: true; the input reads as it did. -/
def schedTellsUptoRow : OpenClaim := { program := "ytflcjdpnpdkdeaa", sum := "e6782a9c4267f75db14fe5deabbcb2864e93ebc32b5450e49b958b3c6743cb34", func := "sakia/sakialaw28.SchedTells", spec := "schedTells", apart := false, narrowed := true }
def SchedTellsUptoSaid : Prop := schedTellsUptoRow.holds Try.pinned (OpenSpec.upto schedTellsSpec)

end Rows
end Go.Proofs.Ytflcjdpnpdkdeaa
