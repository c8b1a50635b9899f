/- What this text proves: the machine calls of these functions return what the plain functions say. Conditions: as each theorem says. Printed by a program of this session out of the translation. -/
import Derived.Test.YthbollaceiffpaaProg
import Derived.Below
import Derived.Deep.Draws
import Derived.Deep.AppendLies
import Derived.Maps.AppendAt
import Derived.OwnWalk
import Derived.Laws.BytesArg
import Derived.Laws.MakeOwn
import Derived.Laws.OwnMore
import Derived.Deep.OwnRows
import Derived.Tactics
import Derived.Lib.ConvBytes
import Derived.Laws.Slices
import Derived.WalkKit
import Derived.KernelRfl
import Derived.RowKit3
import Derived.Deep.LoopGhost
import Derived.Deep.QuietTactic
import Derived.BigQuiet
import Derived.WideLaws
import Derived.Deep.DeepCutAuto
import Derived.Deep.CutBlock
import Derived.Deep.RegionHeld3
import Derived.Laws.Rows
import Derived.Lib.AppendStr
import Derived.ArgAppend
import Derived.Laws.IdiomCopy
import Derived.OrdersHeld
import Derived.Laws.BitsLemmas
import Derived.RowKit
import Derived.Shelf.Abstract
import Derived.Test.YthbollaceiffpaaGeq
import Derived.Test.YthbollaceiffpaaWWords
import Derived.Test.YthbollaceiffpaaWLast
import Derived.Test.YthbollaceiffpaaWTab
import Derived.Test.YthbollaceiffpaaWFour
import Derived.Test.YthbollaceiffpaaWQPut
import Derived.Test.YthbollaceiffpaaWApart
import Derived.Test.YthbollaceiffpaaWArr
import Derived.Test.YthbollaceiffpaaWZeros
import Derived.Test.YthbollaceiffpaaWFoot
import Derived.Test.YthbollaceiffpaaWKept
import Derived.Test.YthbollaceiffpaaWShare
import Derived.Test.YthbollaceiffpaaWN
import Derived.Test.YthbollaceiffpaaWFootNe
import Derived.Test.YthbollaceiffpaaWAt
import Derived.Test.YthbollaceiffpaaWEqStruct
import Derived.Test.YthbollaceiffpaaWRepsOne
import Derived.Test.YthbollaceiffpaaWInv
import Derived.Test.YthbollaceiffpaaWInvWords
import Derived.Test.YthbollaceiffpaaWGuard
import Derived.Test.YthbollaceiffpaaWNEv
import Derived.Test.YthbollaceiffpaaWMore
namespace Go.Proofs.Ythbollaceiffpaa.PMT
open Go.RowKit Go.Proofs.YthbollaceiffpaaW.PrintWords Go.Proofs.YthbollaceiffpaaW.PrintLast Go.Proofs.YthbollaceiffpaaW.PrintMore
attribute [local go_sem] max2_int min2_int max_two min_two max_three min_three max_four min_four   -- for this text's walks alone
set_option linter.unusedVariables false
set_option linter.unusedSimpArgs false



def errW : Option Int → Value
 | none => .nilIface
 | some c => .iface 0 (.int .i64 c)
theorem errW_none : errW none = .nilIface := rfl
theorem errW_some (c : Int) : errW (some c) = .iface 0 (.int .i64 c) := rfl

theorem info3 : (Try.prog.info? 3).map (fun i => (i.zero, i.size, i.bytes)) = some (some (.int .i64 0), 1, 8) := by kernel_rfl
-- the values' own types

end Go.Proofs.Ythbollaceiffpaa.PMT
