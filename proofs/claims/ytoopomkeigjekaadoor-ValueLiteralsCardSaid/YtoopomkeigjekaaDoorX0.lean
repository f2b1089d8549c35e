/- Walks of Go functions of this seat, printed by a program of mine (wip/tools/xprint.py) over the kit's printer: each function as a plain Lean function, and the proof that the call comes to what it says. No conditions but those in each theorem. -/
import Derived.Test.YtoopomkeigjekaaDoorProg
import Derived.Below
import Derived.Deep.Draws
import Derived.Deep.AppendLies
import Derived.Maps.AppendAt
import Derived.OwnWalk
import Derived.Laws.BytesArg
import Derived.Laws.MakeOwn
import Derived.Laws.OwnMore
import Derived.Deep.OwnRows
import Derived.Tactics
import Derived.Lib.ConvBytes
import Derived.Laws.Slices
import Derived.WalkKit
import Derived.KernelRfl
import Derived.RowKit3
import Derived.Deep.LoopGhost
import Derived.Deep.QuietTactic
import Derived.BigQuiet
import Derived.WideLaws
import Derived.Deep.DeepCutAuto
import Derived.Deep.CutBlock
import Derived.Deep.RegionHeld3
import Derived.Laws.Rows
import Derived.Lib.AppendStr
import Derived.ArgAppend
import Derived.Laws.IdiomCopy
import Derived.OrdersHeld
import Derived.Laws.BitsLemmas
import Derived.RowKit
import Derived.WalkLawsBesides
import Derived.Test.YtoopomkeigjekaaDoorStubs
import Derived.Test.YtoopomkeigjekaaDoorWWords
import Derived.Test.YtoopomkeigjekaaDoorWLast
import Derived.Test.YtoopomkeigjekaaDoorWTab
import Derived.Test.YtoopomkeigjekaaDoorWQPut
import Derived.Test.YtoopomkeigjekaaDoorWApart
import Derived.Test.YtoopomkeigjekaaDoorWArr
import Derived.Test.YtoopomkeigjekaaDoorWZeros
import Derived.Test.YtoopomkeigjekaaDoorWFoot
import Derived.Test.YtoopomkeigjekaaDoorWKept
import Derived.Test.YtoopomkeigjekaaDoorWShare
import Derived.Test.YtoopomkeigjekaaDoorWN
import Derived.Test.YtoopomkeigjekaaDoorWEqStruct
import Derived.Test.YtoopomkeigjekaaDoorWRepsOne
import Derived.Test.YtoopomkeigjekaaDoorWGuard
import Derived.Test.YtoopomkeigjekaaDoorWNEv
import Derived.Test.YtoopomkeigjekaaDoorWMore
namespace Go.Proofs.YtoopomkeigjekaaDoor.X
open Go.RowKit Go.Proofs.YtoopomkeigjekaaDoorW.PrintWords Go.Proofs.YtoopomkeigjekaaDoorW.PrintLast Go.Proofs.YtoopomkeigjekaaDoorW.PrintMore
attribute [local go_sem] max2_int min2_int max_two min_two max_three min_three max_four min_four   -- for this text's walks alone
set_option linter.unusedVariables false
set_option linter.unusedSimpArgs false



def errW : Option Int → Value
  | none => .nilIface
  | some c => .iface 0 (.int .i64 c)
theorem errW_none : errW none = .nilIface := rfl
theorem errW_some (c : Int) : errW (some c) = .iface 0 (.int .i64 c) := rfl

theorem info3 : (Tryd.prog.info? 3).map (fun i => (i.zero, i.size, i.bytes)) = some (some (.int .i64 0), 1, 8) := by kernel_rfl
-- the values' own types

end Go.Proofs.YtoopomkeigjekaaDoor.X
