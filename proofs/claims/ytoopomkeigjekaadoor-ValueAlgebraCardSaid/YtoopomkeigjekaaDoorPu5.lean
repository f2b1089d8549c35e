/- Plain lemmas about what the walked Go functions compute (numbers and lists of bytes alone). Conditions: those in each lemma. -/
import Derived.Test.YtoopomkeigjekaaDoorX18
import Derived.Test.YtoopomkeigjekaaDoorPu0
import Derived.Test.YtoopomkeigjekaaDoorPu2
import Derived.Lib.CountLaws
import Derived.Lib.Replace
namespace Go.Proofs.YtoopomkeigjekaaDoor.X
open Go.RowKit Go.Proofs.YtoopomkeigjekaaDoorW.PrintWords Go.Proofs.YtoopomkeigjekaaDoorW.PrintLast Go.Proofs.YtoopomkeigjekaaDoorW.PrintMore
set_option linter.unusedVariables false
set_option linter.unusedSimpArgs false
theorem pure_Algebra (a b c : Int) : bitemporallaw07_ValueAlgebra.f 400 a b c = some true := by
  unfold bitemporallaw07_ValueAlgebra.f
  simp only [not_eq, and_eq 400 (by omega), or_eq 400 (by omega), awake_eq 400 (by omega), Option.bind_some]
  rcases nrm_cases a with ha | ha | ha <;> rcases nrm_cases b with hb | hb | hb <;> rcases nrm_cases c with hc | hc | hc <;> rw [ha, hb, hc] <;> decide
end Go.Proofs.YtoopomkeigjekaaDoor.X
