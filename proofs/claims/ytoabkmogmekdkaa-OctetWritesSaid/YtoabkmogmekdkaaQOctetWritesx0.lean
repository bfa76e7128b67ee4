-- Written for this claim by a program of this session.
import Derived.Test.YtoabkmogmekdkaaProg
import Derived.Below
import Derived.Deep.Draws
import Derived.Deep.AppendLies
import Derived.Maps.AppendAt
import Derived.OwnWalk
import Derived.Laws.BytesArg
import Derived.Laws.MakeOwn
import Derived.Laws.OwnMore
import Derived.Deep.OwnRows
import Derived.Tactics
import Derived.Lib.ConvBytes
import Derived.Laws.Slices
import Derived.WalkKit
import Derived.KernelRfl
import Derived.RowKit3
import Derived.Deep.LoopGhost
import Derived.Deep.QuietTactic
import Derived.BigQuiet
import Derived.WideLaws
import Derived.Deep.DeepCutAuto
import Derived.Deep.CutBlock
import Derived.Deep.RegionHeld3
import Derived.Laws.Rows
import Derived.Lib.AppendStr
import Derived.ArgAppend
import Derived.Laws.IdiomCopy
import Derived.OrdersHeld
import Derived.Laws.BitsLemmas
import Derived.RowKit
import Derived.WalkMore
import Derived.Test.YtoabkmogmekdkaaWWords
import Derived.Test.YtoabkmogmekdkaaWLast
import Derived.Test.YtoabkmogmekdkaaWTab
import Derived.Test.YtoabkmogmekdkaaWFour
import Derived.Test.YtoabkmogmekdkaaWQPut
import Derived.Test.YtoabkmogmekdkaaWApart
import Derived.Test.YtoabkmogmekdkaaWArr
import Derived.Test.YtoabkmogmekdkaaWZeros
import Derived.Test.YtoabkmogmekdkaaWFoot
import Derived.Test.YtoabkmogmekdkaaWKept
import Derived.Test.YtoabkmogmekdkaaWShare
import Derived.Test.YtoabkmogmekdkaaWN
import Derived.Test.YtoabkmogmekdkaaWFootNe
import Derived.Test.YtoabkmogmekdkaaWAt
import Derived.Test.YtoabkmogmekdkaaWEqStruct
import Derived.Test.YtoabkmogmekdkaaWRepsOne
import Derived.Test.YtoabkmogmekdkaaWInv
import Derived.Test.YtoabkmogmekdkaaWInvWords
import Derived.Test.YtoabkmogmekdkaaWGuard
import Derived.Test.YtoabkmogmekdkaaWNEv
import Derived.Test.YtoabkmogmekdkaaWMore
namespace Go.Proofs.Ytoabkmogmekdkaa.QOctetWrites
open Go.RowKit Go.Proofs.YtoabkmogmekdkaaW.PrintWords Go.Proofs.YtoabkmogmekdkaaW.PrintLast Go.Proofs.YtoabkmogmekdkaaW.PrintMore
attribute [local go_sem] max2_int min2_int max_two min_two max_three min_three max_four min_four   -- for this text's walks alone
set_option linter.unusedVariables false
set_option linter.unusedSimpArgs false



def errW : Option Int → Value
  | none => .nilIface
  | some c => .iface 0 (.int .i64 c)
theorem errW_none : errW none = .nilIface := rfl
theorem errW_some (c : Int) : errW (some c) = .iface 0 (.int .i64 c) := rfl

theorem info3 : (Try.prog.info? 3).map (fun i => (i.zero, i.size, i.bytes)) = some (some (.int .i64 0), 1, 8) := by kernel_rfl
theorem info5 : (Try.prog.info? 5).map (fun i => (i.zero, i.size, i.bytes)) = some (some (.int .u8 0), 1, 1) := by kernel_rfl
-- the values' own types

end Go.Proofs.Ytoabkmogmekdkaa.QOctetWrites
