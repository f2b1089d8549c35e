/- The law on errors' names: every error has the defined name. A plain law over the printed functions. -/
import Derived.Test.YthdgjobhofpjeaaDoorR2
import Derived.Test.YthdgjobhofpjeaaDoorX21
namespace Go.Proofs.YthdgjobhofpjeaaDoor.X
open Go Go.Proofs Go.RowKit Go.Proofs.YthdgjobhofpjeaaDoorW.PrintWords Go.Proofs.YthdgjobhofpjeaaDoorW.PrintLast Go.Proofs.YthdgjobhofpjeaaDoorW.PrintMore
set_option linter.unusedVariables false
set_option linter.unusedSimpArgs false
theorem errors_same (a : Int) : bitemporalref55_Error.f a = report_Error.f a := rfl
theorem errors_some (a : Int) : ∃ r, report_Error.f a = some r := by
  unfold report_Error.f
  rw [Option.bind_some]
  by_cases h1 : a < 0
  · rw [if_pos h1]; exact ⟨_, rfl⟩
  · rw [if_neg h1]
    simp only [List.length_cons, List.length_nil]
    by_cases h2 : a ≥ ((0 + 1 + 1 + 1 + 1 + 1 + 1 + 1 + 1 + 1 + 1 + 1 + 1 + 1 + 1 + 1 + 1 + 1 + 1 + 1 + 1 + 1 + 1 + 1 + 1 + 1 + 1 + 1 : Nat) : Int)
    · rw [if_pos h2]; exact ⟨_, rfl⟩
    · rw [if_neg h2, if_pos (by omega), if_pos (by omega)]; exact ⟨_, rfl⟩
theorem pure_Errors (a0 : Int) : ∃ k, bitemporallaw55_ReportErrors.f k a0 = some true := by
  obtain ⟨K, hK⟩ := awake_ev
  obtain ⟨r, hr⟩ := errors_some a0
  refine ⟨K, ?_⟩
  unfold bitemporallaw55_ReportErrors.f
  rw [errors_same, hr, Option.bind_some, Option.bind_some, if_pos rfl, show bitemporallaw55_awake.f K = some true from hK K (Nat.le_refl _)]
  rfl
end Go.Proofs.YthdgjobhofpjeaaDoor.X
