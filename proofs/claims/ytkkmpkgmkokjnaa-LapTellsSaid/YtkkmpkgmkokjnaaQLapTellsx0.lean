-- Written for this claim by a program of this session.
import Derived.Test.YtkkmpkgmkokjnaaProg
import Derived.Below
import Derived.Deep.Draws
import Derived.Deep.AppendLies
import Derived.Maps.AppendAt
import Derived.OwnWalk
import Derived.Laws.BytesArg
import Derived.Laws.MakeOwn
import Derived.Laws.OwnMore
import Derived.Deep.OwnRows
import Derived.Tactics
import Derived.Lib.ConvBytes
import Derived.Laws.Slices
import Derived.WalkKit
import Derived.KernelRfl
import Derived.RowKit3
import Derived.Deep.LoopGhost
import Derived.Deep.QuietTactic
import Derived.BigQuiet
import Derived.WideLaws
import Derived.Deep.DeepCutAuto
import Derived.Deep.CutBlock
import Derived.Deep.RegionHeld3
import Derived.Laws.Rows
import Derived.Lib.AppendStr
import Derived.ArgAppend
import Derived.Laws.IdiomCopy
import Derived.OrdersHeld
import Derived.Laws.BitsLemmas
import Derived.RowKit
import Derived.WalkMore
import Derived.Test.YtkkmpkgmkokjnaaWWords
import Derived.Test.YtkkmpkgmkokjnaaWLast
import Derived.Test.YtkkmpkgmkokjnaaWTab
import Derived.Test.YtkkmpkgmkokjnaaWFour
import Derived.Test.YtkkmpkgmkokjnaaWQPut
import Derived.Test.YtkkmpkgmkokjnaaWApart
import Derived.Test.YtkkmpkgmkokjnaaWArr
import Derived.Test.YtkkmpkgmkokjnaaWZeros
import Derived.Test.YtkkmpkgmkokjnaaWFoot
import Derived.Test.YtkkmpkgmkokjnaaWKept
import Derived.Test.YtkkmpkgmkokjnaaWShare
import Derived.Test.YtkkmpkgmkokjnaaWN
import Derived.Test.YtkkmpkgmkokjnaaWFootNe
import Derived.Test.YtkkmpkgmkokjnaaWAt
import Derived.Test.YtkkmpkgmkokjnaaWEqStruct
import Derived.Test.YtkkmpkgmkokjnaaWRepsOne
import Derived.Test.YtkkmpkgmkokjnaaWInv
import Derived.Test.YtkkmpkgmkokjnaaWInvWords
import Derived.Test.YtkkmpkgmkokjnaaWGuard
import Derived.Test.YtkkmpkgmkokjnaaWNEv
import Derived.Test.YtkkmpkgmkokjnaaWMore
namespace Go.Proofs.Ytkkmpkgmkokjnaa.QLapTells
open Go.RowKit Go.Proofs.YtkkmpkgmkokjnaaW.PrintWords Go.Proofs.YtkkmpkgmkokjnaaW.PrintLast Go.Proofs.YtkkmpkgmkokjnaaW.PrintMore
attribute [local go_sem] max2_int min2_int max_two min_two max_three min_three max_four min_four   -- for this text's walks alone
set_option linter.unusedVariables false
set_option linter.unusedSimpArgs false



def errW : Option Int → Value
  | none => .nilIface
  | some c => .iface 0 (.int .i64 c)
theorem errW_none : errW none = .nilIface := rfl
theorem errW_some (c : Int) : errW (some c) = .iface 0 (.int .i64 c) := rfl

theorem info3 : (Try.prog.info? 3).map (fun i => (i.zero, i.size, i.bytes)) = some (some (.int .i64 0), 1, 8) := by kernel_rfl
-- the values' own types

end Go.Proofs.Ytkkmpkgmkokjnaa.QLapTells
