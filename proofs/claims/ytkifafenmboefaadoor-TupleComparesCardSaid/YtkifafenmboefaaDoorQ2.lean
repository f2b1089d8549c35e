/- The plain law of TupleCompares: it answers true. Conditions: the rows' lengths, as any slice's. -/
import Derived.Test.YtkifafenmboefaaDoorPA
import Derived.Test.YtkifafenmboefaaDoorX24
namespace Go.Proofs.YtkifafenmboefaaDoor.X
open Go.RowKit
theorem pure_Compares (a b : List S33) (ha : a.length ≤ 9223372036854775807) : bitemporallaw08_TupleCompares.f (2 * a.length + 402) a b = some true := by
  unfold bitemporallaw08_TupleCompares.f tuple_Compare.f
  rw [cmpRows_eq _ (by omega), Option.bind_some, refCompare_eq a b ha _ (by omega), Option.bind_some, if_pos rfl, tequal_eq _ (by omega), Option.bind_some, refEqual_eq a b ha _ (by omega), Option.bind_some, if_pos (by simp), awake_eq _ (by omega)]
  rfl
end Go.Proofs.YtkifafenmboefaaDoor.X
