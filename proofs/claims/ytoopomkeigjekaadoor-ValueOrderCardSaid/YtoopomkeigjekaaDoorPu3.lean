/- Plain lemmas about what the walked Go functions compute (numbers and lists of bytes alone). Conditions: those in each lemma. -/
import Derived.Test.YtoopomkeigjekaaDoorX8
import Derived.Test.YtoopomkeigjekaaDoorPu0
import Derived.Lib.CountLaws
import Derived.Lib.Replace
namespace Go.Proofs.YtoopomkeigjekaaDoor.X
open Go.RowKit Go.Proofs.YtoopomkeigjekaaDoorW.PrintWords Go.Proofs.YtoopomkeigjekaaDoorW.PrintLast Go.Proofs.YtoopomkeigjekaaDoorW.PrintMore
set_option linter.unusedVariables false
set_option linter.unusedSimpArgs false
theorem less_eq (k : Nat) (hk : 4 ≤ k) (a b : Int) (s : ByteArray) (a' b' : Int) (s' : ByteArray) : value_Less.f k a b s a' b' s' = some (tru a a' (decide (cmpV a b s a' b' s' < 0))) := by
  unfold value_Less.f; simp only [compare_eq k hk, Option.bind_some, decide_eq k (show 1 ≤ k by omega)]
end Go.Proofs.YtoopomkeigjekaaDoor.X
