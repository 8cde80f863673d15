-- Contracts of the functions that the law reaches, written by wip/xprint.py of this repo.
import Derived.Test.YtoepnammegcjeaaProg
import Derived.Below
import Derived.Deep.Draws
import Derived.Deep.AppendLies
import Derived.Maps.AppendAt
import Derived.OwnWalk
import Derived.Laws.BytesArg
import Derived.Laws.MakeOwn
import Derived.Laws.OwnMore
import Derived.Deep.OwnRows
import Derived.Tactics
import Derived.Lib.ConvBytes
import Derived.Laws.Slices
import Derived.WalkKit
import Derived.KernelRfl
import Derived.RowKit3
import Derived.Deep.LoopGhost
import Derived.Deep.QuietTactic
import Derived.BigQuiet
import Derived.WideLaws
import Derived.Deep.DeepCutAuto
import Derived.Deep.CutBlock
import Derived.Deep.RegionHeld3
import Derived.Laws.Rows
import Derived.Lib.AppendStr
import Derived.ArgAppend
import Derived.Laws.IdiomCopy
import Derived.OrdersHeld
import Derived.Laws.BitsLemmas
import Derived.RowKit
import Derived.Shelf.Abstract
import Derived.Lib.SliceRun
import Derived.Test.YtoepnammegcjeaaVSameSendersWords
import Derived.Test.YtoepnammegcjeaaVSameSendersLast
import Derived.Test.YtoepnammegcjeaaVSameSendersTab
import Derived.Test.YtoepnammegcjeaaVSameSendersQPut
import Derived.Test.YtoepnammegcjeaaVSameSendersApart
import Derived.Test.YtoepnammegcjeaaVSameSendersArr
import Derived.Test.YtoepnammegcjeaaVSameSendersZeros
import Derived.Test.YtoepnammegcjeaaVSameSendersFoot
import Derived.Test.YtoepnammegcjeaaVSameSendersKept
import Derived.Test.YtoepnammegcjeaaVSameSendersShare
import Derived.Test.YtoepnammegcjeaaVSameSendersN
import Derived.Test.YtoepnammegcjeaaVSameSendersRepsOne
import Derived.Test.YtoepnammegcjeaaVSameSendersInv
import Derived.Test.YtoepnammegcjeaaVSameSendersNEv
import Derived.Test.YtoepnammegcjeaaVSameSendersMore
namespace Go.Proofs.Ytoepnammegcjeaa.PFnExactSameSenders
open Go.RowKit Go.Proofs.YtoepnammegcjeaaW.PrintWords Go.Proofs.YtoepnammegcjeaaW.PrintLast Go.Proofs.YtoepnammegcjeaaW.PrintMore
attribute [local go_sem] max2_int min2_int max_two min_two max_three min_three max_four min_four   -- for this text's walks alone
set_option linter.unusedVariables false
set_option linter.unusedSimpArgs false



def errW : Option Int → Value
  | none => .nilIface
  | some c => .iface 0 (.int .i64 c)
theorem errW_none : errW none = .nilIface := rfl
theorem errW_some (c : Int) : errW (some c) = .iface 0 (.int .i64 c) := rfl

theorem info2 : (Try.prog.info? 2).map (fun i => (i.zero, i.size, i.bytes)) = some (some (.int .i64 0), 1, 8) := by kernel_rfl
-- the values' own types

end Go.Proofs.Ytoepnammegcjeaa.PFnExactSameSenders
