/- Plain lemmas about what the walked Go functions compute (numbers and lists of bytes alone). Conditions: those in each lemma. -/
import Derived.Test.YtoopomkeigjekaaDoorX9
import Derived.Test.YtoopomkeigjekaaDoorPu0
import Derived.Lib.CountLaws
import Derived.Lib.Replace
namespace Go.Proofs.YtoopomkeigjekaaDoor.X
open Go.RowKit Go.Proofs.YtoopomkeigjekaaDoorW.PrintWords Go.Proofs.YtoopomkeigjekaaDoorW.PrintLast Go.Proofs.YtoopomkeigjekaaDoorW.PrintMore
set_option linter.unusedVariables false
set_option linter.unusedSimpArgs false
theorem not_eq (a : Int) : value_Not.f a = some (2 - nrm a) := by
  unfold value_Not.f; simp only [normal_eq, Option.bind_some]
  rw [w64 (by have := nrm_cases a; omega) (by have := nrm_cases a; omega)]
theorem or_eq (k : Nat) (hk : 3 ≤ k) (x y : Int) : value_Or.f k x y = some (2 - mn (2 - nrm x) (2 - nrm y)) := by
  unfold value_Or.f; simp only [not_eq, Option.bind_some, least_eq k hk]
  rcases nrm_cases x with h | h | h <;> rcases nrm_cases y with h' | h' | h' <;> rw [h, h'] <;> rfl
end Go.Proofs.YtoopomkeigjekaaDoor.X
