-- Written for this claim by a program of this session.
import Derived.Test.YtlhodmhmbcdieaaProg
import Derived.Below
import Derived.Deep.Draws
import Derived.Deep.AppendLies
import Derived.Maps.AppendAt
import Derived.OwnWalk
import Derived.Laws.BytesArg
import Derived.Laws.MakeOwn
import Derived.Laws.OwnMore
import Derived.Deep.OwnRows
import Derived.Tactics
import Derived.Lib.ConvBytes
import Derived.Laws.Slices
import Derived.WalkKit
import Derived.KernelRfl
import Derived.RowKit3
import Derived.Deep.LoopGhost
import Derived.Deep.QuietTactic
import Derived.BigQuiet
import Derived.WideLaws
import Derived.Deep.DeepCutAuto
import Derived.Deep.CutBlock
import Derived.Deep.RegionHeld3
import Derived.Laws.Rows
import Derived.Lib.AppendStr
import Derived.ArgAppend
import Derived.Laws.IdiomCopy
import Derived.OrdersHeld
import Derived.Laws.BitsLemmas
import Derived.RowKit
import Derived.WalkMore
import Derived.Test.YtlhodmhmbcdieaaPair
import Derived.Test.YtlhodmhmbcdieaaWWords
import Derived.Test.YtlhodmhmbcdieaaWLast
import Derived.Test.YtlhodmhmbcdieaaWTab
import Derived.Test.YtlhodmhmbcdieaaWFour
import Derived.Test.YtlhodmhmbcdieaaWQPut
import Derived.Test.YtlhodmhmbcdieaaWApart
import Derived.Test.YtlhodmhmbcdieaaWArr
import Derived.Test.YtlhodmhmbcdieaaWZeros
import Derived.Test.YtlhodmhmbcdieaaWFoot
import Derived.Test.YtlhodmhmbcdieaaWKept
import Derived.Test.YtlhodmhmbcdieaaWShare
import Derived.Test.YtlhodmhmbcdieaaWN
import Derived.Test.YtlhodmhmbcdieaaWFootNe
import Derived.Test.YtlhodmhmbcdieaaWAt
import Derived.Test.YtlhodmhmbcdieaaWEqStruct
import Derived.Test.YtlhodmhmbcdieaaWRepsOne
import Derived.Test.YtlhodmhmbcdieaaWInv
import Derived.Test.YtlhodmhmbcdieaaWInvWords
import Derived.Test.YtlhodmhmbcdieaaWGuard
import Derived.Test.YtlhodmhmbcdieaaWNEv
import Derived.Test.YtlhodmhmbcdieaaWMore
namespace Go.Proofs.Ytlhodmhmbcdieaa.QPairRaw
open Go.RowKit Go.Proofs.YtlhodmhmbcdieaaW.PrintWords Go.Proofs.YtlhodmhmbcdieaaW.PrintLast Go.Proofs.YtlhodmhmbcdieaaW.PrintMore
attribute [local go_sem] max2_int min2_int max_two min_two max_three min_three max_four min_four   -- for this text's walks alone
set_option linter.unusedVariables false
set_option linter.unusedSimpArgs false



def errW : Option Int → Value
  | none => .nilIface
  | some c => .iface 0 (.int .i64 c)
theorem errW_none : errW none = .nilIface := rfl
theorem errW_some (c : Int) : errW (some c) = .iface 0 (.int .i64 c) := rfl

theorem info29 : (Try.prog.info? 29).map (fun i => (i.zero, i.size, i.bytes)) = some (some (.complex .f64 0 0), 1, 16) := by kernel_rfl
-- the values' own types

end Go.Proofs.Ytlhodmhmbcdieaa.QPairRaw
