/- Plain lemmas about what the walked Go functions compute (numbers and lists of bytes alone). Conditions: those in each lemma. -/
import Derived.Test.YtoopomkeigjekaaDoorX10
import Derived.Test.YtoopomkeigjekaaDoorPu0
import Derived.Test.YtoopomkeigjekaaDoorPu1
import Derived.Test.YtoopomkeigjekaaDoorPu4
import Derived.Lib.CountLaws
import Derived.Lib.Replace
namespace Go.Proofs.YtoopomkeigjekaaDoor.X
open Go.RowKit Go.Proofs.YtoopomkeigjekaaDoorW.PrintWords Go.Proofs.YtoopomkeigjekaaDoorW.PrintLast Go.Proofs.YtoopomkeigjekaaDoorW.PrintMore
set_option linter.unusedVariables false
set_option linter.unusedSimpArgs false
theorem pure_Constructs (a b : Int) (s : ByteArray) (n : Int) (t : ByteArray) (c : Bool) : bitemporallaw07_ValueConstructs.f 400 a b s n t c = some true := by
  unfold bitemporallaw07_ValueConstructs.f
  simp only [valid_eq 400 (by omega), valid_eq' 400 (by omega), int_eq 400 (by omega), int_eq' 400 (by omega), text_eq 400 (by omega), text_eq' 400 (by omega), null_eq, null_eq', bool_eq, bool_eq', awake_eq 400 (by omega), Option.bind_some, beq_self_eq_true, Bool.and_self, if_true]
end Go.Proofs.YtoopomkeigjekaaDoor.X
