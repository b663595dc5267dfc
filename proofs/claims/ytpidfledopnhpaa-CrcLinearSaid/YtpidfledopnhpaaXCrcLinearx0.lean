-- Written by xprint.py of this repo (the kit's print with turns of our own) out of the translation.
import Derived.Test.YtpidfledopnhpaaProg
import Derived.Below
import Derived.Deep.Draws
import Derived.Deep.AppendLies
import Derived.Maps.AppendAt
import Derived.OwnWalk
import Derived.Laws.BytesArg
import Derived.Laws.MakeOwn
import Derived.Laws.OwnMore
import Derived.Deep.OwnRows
import Derived.Tactics
import Derived.Lib.ConvBytes
import Derived.Laws.Slices
import Derived.WalkKit
import Derived.KernelRfl
import Derived.RowKit3
import Derived.Deep.LoopGhost
import Derived.Deep.QuietTactic
import Derived.BigQuiet
import Derived.WideLaws
import Derived.Deep.DeepCutAuto
import Derived.Deep.CutBlock
import Derived.Deep.RegionHeld3
import Derived.Laws.Rows
import Derived.Lib.AppendStr
import Derived.ArgAppend
import Derived.Laws.IdiomCopy
import Derived.OrdersHeld
import Derived.Laws.BitsLemmas
import Derived.RowKit
import Derived.Test.YtpidfledopnhpaaWWords
import Derived.Test.YtpidfledopnhpaaWLast
import Derived.Test.YtpidfledopnhpaaWTab
import Derived.Test.YtpidfledopnhpaaWFour
import Derived.Test.YtpidfledopnhpaaWQPut
import Derived.Test.YtpidfledopnhpaaWApart
import Derived.Test.YtpidfledopnhpaaWArr
import Derived.Test.YtpidfledopnhpaaWZeros
import Derived.Test.YtpidfledopnhpaaWFoot
import Derived.Test.YtpidfledopnhpaaWKept
import Derived.Test.YtpidfledopnhpaaWShare
import Derived.Test.YtpidfledopnhpaaWN
import Derived.Test.YtpidfledopnhpaaWFootNe
import Derived.Test.YtpidfledopnhpaaWAt
import Derived.Test.YtpidfledopnhpaaWEqStruct
import Derived.Test.YtpidfledopnhpaaWRepsOne
import Derived.Test.YtpidfledopnhpaaWInv
import Derived.Test.YtpidfledopnhpaaWInvWords
import Derived.Test.YtpidfledopnhpaaWGuard
import Derived.Test.YtpidfledopnhpaaWNEv
import Derived.Test.YtpidfledopnhpaaWMore
import Derived.Test.YtpidfledopnhpaaXCopy
namespace Go.Proofs.Ytpidfledopnhpaa.XCrcLinear
open Go.RowKit Go.Proofs.YtpidfledopnhpaaW.PrintWords Go.Proofs.YtpidfledopnhpaaW.PrintLast Go.Proofs.YtpidfledopnhpaaW.PrintMore
attribute [local go_sem] max2_int min2_int max_two min_two max_three min_three max_four min_four   -- for this text's walks alone
set_option linter.unusedVariables false
set_option linter.unusedSimpArgs false



def errW : Option Int → Value
  | none => .nilIface
  | some c => .iface 0 (.int .i64 c)
theorem errW_none : errW none = .nilIface := rfl
theorem errW_some (c : Int) : errW (some c) = .iface 0 (.int .i64 c) := rfl

theorem info5 : (Try.prog.info? 5).map (fun i => (i.zero, i.size, i.bytes)) = some (some (.int .u8 0), 1, 1) := by kernel_rfl
-- the values' own types

end Go.Proofs.Ytpidfledopnhpaa.XCrcLinear
