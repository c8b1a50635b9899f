/- What this text proves: the machine calls of these functions return what the plain functions say. Conditions: as each theorem says. Printed by a program of this session out of the translation. -/
import Derived.Test.YtgdcooiaeeajmaaProg
import Derived.Below
import Derived.Deep.Draws
import Derived.Deep.AppendLies
import Derived.Maps.AppendAt
import Derived.OwnWalk
import Derived.Laws.BytesArg
import Derived.Laws.MakeOwn
import Derived.Laws.OwnMore
import Derived.Deep.OwnRows
import Derived.Tactics
import Derived.Lib.ConvBytes
import Derived.Laws.Slices
import Derived.WalkKit
import Derived.KernelRfl
import Derived.RowKit3
import Derived.Deep.LoopGhost
import Derived.Deep.QuietTactic
import Derived.BigQuiet
import Derived.WideLaws
import Derived.Deep.DeepCutAuto
import Derived.Deep.CutBlock
import Derived.Deep.RegionHeld3
import Derived.Laws.Rows
import Derived.Lib.AppendStr
import Derived.ArgAppend
import Derived.Laws.IdiomCopy
import Derived.OrdersHeld
import Derived.Laws.BitsLemmas
import Derived.RowKit
import Derived.Shelf.Abstract
import Derived.Test.YtgdcooiaeeajmaaGeq
import Derived.Test.YtgdcooiaeeajmaaWWords
import Derived.Test.YtgdcooiaeeajmaaWLast
import Derived.Test.YtgdcooiaeeajmaaWTab
import Derived.Test.YtgdcooiaeeajmaaWFour
import Derived.Test.YtgdcooiaeeajmaaWQPut
import Derived.Test.YtgdcooiaeeajmaaWApart
import Derived.Test.YtgdcooiaeeajmaaWArr
import Derived.Test.YtgdcooiaeeajmaaWZeros
import Derived.Test.YtgdcooiaeeajmaaWFoot
import Derived.Test.YtgdcooiaeeajmaaWKept
import Derived.Test.YtgdcooiaeeajmaaWShare
import Derived.Test.YtgdcooiaeeajmaaWN
import Derived.Test.YtgdcooiaeeajmaaWFootNe
import Derived.Test.YtgdcooiaeeajmaaWAt
import Derived.Test.YtgdcooiaeeajmaaWEqStruct
import Derived.Test.YtgdcooiaeeajmaaWRepsOne
import Derived.Test.YtgdcooiaeeajmaaWInv
import Derived.Test.YtgdcooiaeeajmaaWInvWords
import Derived.Test.YtgdcooiaeeajmaaWGuard
import Derived.Test.YtgdcooiaeeajmaaWNEv
import Derived.Test.YtgdcooiaeeajmaaWMore
namespace Go.Proofs.Ytgdcooiaeeajmaa.PTD
open Go.RowKit Go.Proofs.YtgdcooiaeeajmaaW.PrintWords Go.Proofs.YtgdcooiaeeajmaaW.PrintLast Go.Proofs.YtgdcooiaeeajmaaW.PrintMore
attribute [local go_sem] max2_int min2_int max_two min_two max_three min_three max_four min_four   -- for this text's walks alone
set_option linter.unusedVariables false
set_option linter.unusedSimpArgs false



def errW : Option Int → Value
 | none => .nilIface
 | some c => .iface 0 (.int .i64 c)
theorem errW_none : errW none = .nilIface := rfl
theorem errW_some (c : Int) : errW (some c) = .iface 0 (.int .i64 c) := rfl

theorem info3 : (Try.prog.info? 3).map (fun i => (i.zero, i.size, i.bytes)) = some (some (.int .i64 0), 1, 8) := by kernel_rfl
-- the values' own types

end Go.Proofs.Ytgdcooiaeeajmaa.PTD
