-- Contracts of the functions that the law reaches, written by wip/xprint.py of this repo.
import Derived.Test.YtkjmakddpacffaaProg
import Derived.Below
import Derived.Deep.Draws
import Derived.Deep.AppendLies
import Derived.Maps.AppendAt
import Derived.OwnWalk
import Derived.Laws.BytesArg
import Derived.Laws.MakeOwn
import Derived.Laws.OwnMore
import Derived.Deep.OwnRows
import Derived.Tactics
import Derived.Lib.ConvBytes
import Derived.Laws.Slices
import Derived.WalkKit
import Derived.KernelRfl
import Derived.RowKit3
import Derived.Deep.LoopGhost
import Derived.Deep.QuietTactic
import Derived.BigQuiet
import Derived.WideLaws
import Derived.Deep.DeepCutAuto
import Derived.Deep.CutBlock
import Derived.Deep.RegionHeld3
import Derived.Laws.Rows
import Derived.Lib.AppendStr
import Derived.ArgAppend
import Derived.Laws.IdiomCopy
import Derived.OrdersHeld
import Derived.Laws.BitsLemmas
import Derived.RowKit
import Derived.Shelf.Abstract
import Derived.Test.YtkjmakddpacffaaWWords
import Derived.Test.YtkjmakddpacffaaWLast
import Derived.Test.YtkjmakddpacffaaWTab
import Derived.Test.YtkjmakddpacffaaWFour
import Derived.Test.YtkjmakddpacffaaWQPut
import Derived.Test.YtkjmakddpacffaaWApart
import Derived.Test.YtkjmakddpacffaaWArr
import Derived.Test.YtkjmakddpacffaaWZeros
import Derived.Test.YtkjmakddpacffaaWFoot
import Derived.Test.YtkjmakddpacffaaWKept
import Derived.Test.YtkjmakddpacffaaWShare
import Derived.Test.YtkjmakddpacffaaWN
import Derived.Test.YtkjmakddpacffaaWFootNe
import Derived.Test.YtkjmakddpacffaaWAt
import Derived.Test.YtkjmakddpacffaaWEqStruct
import Derived.Test.YtkjmakddpacffaaWRepsOne
import Derived.Test.YtkjmakddpacffaaWInv
import Derived.Test.YtkjmakddpacffaaWInvWords
import Derived.Test.YtkjmakddpacffaaWGuard
import Derived.Test.YtkjmakddpacffaaWNEv
import Derived.Test.YtkjmakddpacffaaWMore
namespace Go.Proofs.Ytkjmakddpacffaa.PFnExactPlanFault
open Go.RowKit Go.Proofs.YtkjmakddpacffaaW.PrintWords Go.Proofs.YtkjmakddpacffaaW.PrintLast Go.Proofs.YtkjmakddpacffaaW.PrintMore
attribute [local go_sem] max2_int min2_int max_two min_two max_three min_three max_four min_four   -- for this text's walks alone
set_option linter.unusedVariables false
set_option linter.unusedSimpArgs false



def errW : Option Int → Value
  | none => .nilIface
  | some c => .iface 0 (.int .i64 c)
theorem errW_none : errW none = .nilIface := rfl
theorem errW_some (c : Int) : errW (some c) = .iface 0 (.int .i64 c) := rfl

-- the values' own types

end Go.Proofs.Ytkjmakddpacffaa.PFnExactPlanFault
