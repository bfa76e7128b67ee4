/-
  No cell of these rows narrows 'for every input' (looked for: loops, veiled, ifaces, maps, wideKeys, modest, calm, conditions, laid).
  DERIVED. THE GIVEN ROWS OF THIS SEAT. 4 by the template 'for every input the law returns true; each argument reads behind the call as it read before'; 0 by the template 'total and deterministic' (their statements: YtlhodmhmbcdieaaTotals.lean).
  GIVEN WITH THE SEED: the statements are not yours to turn. If you find one false, say at which input.
  Laid BY PROGRAM, IN A SANDBOX (cutbox-rows.mjs): the forced cells as the released guide's own fill.sh prints them over the translation 7bac14a55b932b86… (all of the seat's roots in one cut). By AI agents, Wed Nov 11 2026. No macro, syntax, notation, axiom, sorry.
-/
import Derived.Test.YtlhodmhmbcdieaaChecked
import GoSem.Claim
import GoSem.ClaimJoined
import GoSem.ClaimMapViews
import Derived.JoinedTies
import Derived.KernelRfl
namespace Go.Proofs.Ytlhodmhmbcdieaa
/- THE CELL 'sum', in the pinned program and in every row, IS THE sha256 OF THE DUMP (.gsa) THAT YtlhodmhmbcdieaaProg.lean LOADS. Nothing in Lean hashes anything: it is a label: what it is worth is what the hold of that sum in a sandbox is worth. -/
noncomputable def Try.pinned : Pinned := { name := "ytlhodmhmbcdieaa", sum := "7bac14a55b932b864449776f2aeea7a59347f6fc5892ecd20c9d279ac5a9bd5c", checked := Try.checked }
namespace Rows
def none {H : Type} : Left H := { results := [], args := [] }

/-- 'sakialaw04.PairSums': WHATEVER THE INPUT: true; the input reads as it did. -/
def pairSumsSpec : ChangeSpec := { name := "pairSums", fn := fun _ => fun
  | [d] => { results := [.lit (.bool true)], args := [d] }
  | _ => none }
def pairSumsRow : OpenClaim := { program := "ytlhodmhmbcdieaa", sum := "7bac14a55b932b864449776f2aeea7a59347f6fc5892ecd20c9d279ac5a9bd5c", func := "sakia/sakialaw04.PairSums", spec := "pairSums", apart := false }
def PairSumsSaid : Prop := pairSumsRow.holds Try.pinned (OpenSpec.ofChange pairSumsSpec)

/-- ITS FALSE NEIGHBOUR: 'it returns false'. Refute it at one input. -/
def pairSumsWrong : ChangeSpec := { name := "pairSums", fn := fun _ => fun
  | [d] => { results := [.lit (.bool false)], args := [d] }
  | _ => none }
def PairSumsWrongFalsely : Prop := pairSumsRow.holds Try.pinned (OpenSpec.ofChange pairSumsWrong)

/-- 'sakialaw04.PairRing': WHATEVER THE INPUT: true; the input reads as it did. -/
def pairRingSpec : ChangeSpec := { name := "pairRing", fn := fun _ => fun
  | [d1, d2] => { results := [.lit (.bool true)], args := [d1, d2] }
  | _ => none }
def pairRingRow : OpenClaim := { program := "ytlhodmhmbcdieaa", sum := "7bac14a55b932b864449776f2aeea7a59347f6fc5892ecd20c9d279ac5a9bd5c", func := "sakia/sakialaw04.PairRing", spec := "pairRing", apart := false }
def PairRingSaid : Prop := pairRingRow.holds Try.pinned (OpenSpec.ofChange pairRingSpec)

/-- ITS FALSE NEIGHBOUR: 'it returns false'. Refute it at one input. -/
def pairRingWrong : ChangeSpec := { name := "pairRing", fn := fun _ => fun
  | [d1, d2] => { results := [.lit (.bool false)], args := [d1, d2] }
  | _ => none }
def PairRingWrongFalsely : Prop := pairRingRow.holds Try.pinned (OpenSpec.ofChange pairRingWrong)

/-- 'sakialaw04.PairTells': WHATEVER THE INPUT: true; the input reads as it did. -/
def pairTellsSpec : ChangeSpec := { name := "pairTells", fn := fun _ => fun
  | [d1, d2, d3] => { results := [.lit (.bool true)], args := [d1, d2, d3] }
  | _ => none }
def pairTellsRow : OpenClaim := { program := "ytlhodmhmbcdieaa", sum := "7bac14a55b932b864449776f2aeea7a59347f6fc5892ecd20c9d279ac5a9bd5c", func := "sakia/sakialaw04.PairTells", spec := "pairTells", apart := false }
def PairTellsSaid : Prop := pairTellsRow.holds Try.pinned (OpenSpec.ofChange pairTellsSpec)

/-- ITS FALSE NEIGHBOUR: 'it returns false'. Refute it at one input. -/
def pairTellsWrong : ChangeSpec := { name := "pairTells", fn := fun _ => fun
  | [d1, d2, d3] => { results := [.lit (.bool false)], args := [d1, d2, d3] }
  | _ => none }
def PairTellsWrongFalsely : Prop := pairTellsRow.holds Try.pinned (OpenSpec.ofChange pairTellsWrong)

/-- 'sakialaw04.PairRaw': WHATEVER THE INPUT: true; the input reads as it did. -/
def pairRawSpec : ChangeSpec := { name := "pairRaw", fn := fun _ => fun
  | [d1, d2, d3] => { results := [.lit (.bool true)], args := [d1, d2, d3] }
  | _ => none }
def pairRawRow : OpenClaim := { program := "ytlhodmhmbcdieaa", sum := "7bac14a55b932b864449776f2aeea7a59347f6fc5892ecd20c9d279ac5a9bd5c", func := "sakia/sakialaw04.PairRaw", spec := "pairRaw", apart := false }
def PairRawSaid : Prop := pairRawRow.holds Try.pinned (OpenSpec.ofChange pairRawSpec)

/-- ITS FALSE NEIGHBOUR: 'it returns false'. Refute it at one input. -/
def pairRawWrong : ChangeSpec := { name := "pairRaw", fn := fun _ => fun
  | [d1, d2, d3] => { results := [.lit (.bool false)], args := [d1, d2, d3] }
  | _ => none }
def PairRawWrongFalsely : Prop := pairRawRow.holds Try.pinned (OpenSpec.ofChange pairRawWrong)

/- THE SECOND FORM. 'bulk': how many values and letters a reading holds, each counted each time it is reached (what is shared counts as often as it is met; a slice's spare places count too). A statement '..UptoSaid' is the law's where the arguments, and the package variables that the reading takes, are together of bulk at most 1048576: NARROWER than '..Said'. Prove '..Said' where nothing that the law and all that it calls make is longer than what came in: it says more and counts as full. Else prove '..UptoSaid'. A law counts once. -/
mutual
def uptoBulk {H : Type} : DataW H → Nat
  | .lit (.string bytes) => bytes.length + 1
  | .lit _ => 1
  | .nil => 1
  | .ptr d => uptoBulk d + 1
  | .slice elems spare => uptoBulkAll elems + uptoBulkAll spare + 1
  | .agg parts => uptoBulkAll parts + 1
  | .iface _ d => uptoBulk d + 1
  | .map entries => uptoBulkEntries entries + 1
  | .held _ => 1
def uptoBulkAll {H : Type} : List (DataW H) → Nat
  | [] => 0
  | d :: r => uptoBulk d + uptoBulkAll r
def uptoBulkEntries {H : Type} : List (Lit × DataW H) → Nat
  | [] => 0
  | x :: r => uptoBulkEntry x + uptoBulkEntries r
def uptoBulkEntry {H : Type} : Lit × DataW H → Nat
  | (.string bytes, d) => bytes.length + uptoBulk d + 1
  | (_, d) => uptoBulk d + 1
 end
def uptoSmall : (H : Type) → List (DataW H) → Bool := fun _ ds => decide (uptoBulkAll ds ≤ 1048576)
def OpenSpec.upto (s : _root_.Go.ChangeSpec) : _root_.Go.OpenSpec := { _root_.Go.OpenSpec.ofChange s with cond := some uptoSmall }

/-- 'sakialaw04.PairSums', WHERE WHAT IT READS IS OF BULK AT MOST 1048576: true; the input reads as it did. -/
def pairSumsUptoRow : OpenClaim := { program := "ytlhodmhmbcdieaa", sum := "7bac14a55b932b864449776f2aeea7a59347f6fc5892ecd20c9d279ac5a9bd5c", func := "sakia/sakialaw04.PairSums", spec := "pairSums", apart := false, narrowed := true }
def PairSumsUptoSaid : Prop := pairSumsUptoRow.holds Try.pinned (OpenSpec.upto pairSumsSpec)

/-- 'sakialaw04.PairRing', WHERE WHAT IT READS IS OF BULK AT MOST 1048576: true; the input reads as it did. -/
def pairRingUptoRow : OpenClaim := { program := "ytlhodmhmbcdieaa", sum := "7bac14a55b932b864449776f2aeea7a59347f6fc5892ecd20c9d279ac5a9bd5c", func := "sakia/sakialaw04.PairRing", spec := "pairRing", apart := false, narrowed := true }
def PairRingUptoSaid : Prop := pairRingUptoRow.holds Try.pinned (OpenSpec.upto pairRingSpec)

/-- 'sakialaw04.PairTells', WHERE WHAT IT READS IS OF BULK AT MOST 1048576: true; the input reads as it did. -/
def pairTellsUptoRow : OpenClaim := { program := "ytlhodmhmbcdieaa", sum := "7bac14a55b932b864449776f2aeea7a59347f6fc5892ecd20c9d279ac5a9bd5c", func := "sakia/sakialaw04.PairTells", spec := "pairTells", apart := false, narrowed := true }
def PairTellsUptoSaid : Prop := pairTellsUptoRow.holds Try.pinned (OpenSpec.upto pairTellsSpec)

/-- 'sakialaw04.PairRaw', WHERE WHAT IT READS IS OF BULK AT MOST 1048576: true; the input reads as it did. -/
def pairRawUptoRow : OpenClaim := { program := "ytlhodmhmbcdieaa", sum := "7bac14a55b932b864449776f2aeea7a59347f6fc5892ecd20c9d279ac5a9bd5c", func := "sakia/sakialaw04.PairRaw", spec := "pairRaw", apart := false, narrowed := true }
def PairRawUptoSaid : Prop := pairRawUptoRow.holds Try.pinned (OpenSpec.upto pairRawSpec)

end Rows
end Go.Proofs.Ytlhodmhmbcdieaa
