/- Plain lemmas about what the walked Go functions compute (numbers and lists of bytes alone). Conditions: those in each lemma. -/
import Derived.Test.YtoopomkeigjekaaDoorX6
import Derived.Test.YtoopomkeigjekaaDoorPu0
import Derived.Lib.CountLaws
import Derived.Lib.Replace
namespace Go.Proofs.YtoopomkeigjekaaDoor.X
open Go.RowKit Go.Proofs.YtoopomkeigjekaaDoorW.PrintWords Go.Proofs.YtoopomkeigjekaaDoorW.PrintLast Go.Proofs.YtoopomkeigjekaaDoorW.PrintMore
set_option linter.unusedVariables false
set_option linter.unusedSimpArgs false
def bl (b : Bool) : Int × Int × ByteArray := (3, if b then 1 else 0, e0)
theorem bool_eq' (b : Bool) : bitemporalref07_Bool.f b = some (bl b) := by cases b <;> rfl
theorem null_eq' : bitemporalref07_Null.f = some (0, 0, e0) := rfl
end Go.Proofs.YtoopomkeigjekaaDoor.X
