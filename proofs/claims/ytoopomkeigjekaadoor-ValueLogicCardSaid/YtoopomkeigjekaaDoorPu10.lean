/- Plain lemmas about what the walked Go functions compute (numbers and lists of bytes alone). Conditions: those in each lemma. -/
import Derived.Test.YtoopomkeigjekaaDoorX19
import Derived.Test.YtoopomkeigjekaaDoorX20
import Derived.Test.YtoopomkeigjekaaDoorPu0
import Derived.Test.YtoopomkeigjekaaDoorPu1
import Derived.Test.YtoopomkeigjekaaDoorPu2
import Derived.Lib.CountLaws
import Derived.Lib.Replace
namespace Go.Proofs.YtoopomkeigjekaaDoor.X
open Go.RowKit Go.Proofs.YtoopomkeigjekaaDoorW.PrintWords Go.Proofs.YtoopomkeigjekaaDoorW.PrintLast Go.Proofs.YtoopomkeigjekaaDoorW.PrintMore
set_option linter.unusedVariables false
set_option linter.unusedSimpArgs false
theorem not_eq' (a : Int) : bitemporalref07_Not.f a = some (2 - nrm a) := by
  unfold bitemporalref07_Not.f nrm
  by_cases h0 : a = 0 <;> by_cases h2 : a = 2 <;> simp [h0, h2]
theorem and_eq' (k : Nat) (hk : 3 ≤ k) (a b : Int) : bitemporalref07_And.f k a b = some (mn (nrm a) (nrm b)) := by
  obtain ⟨k, rfl⟩ : ∃ m, k = m + 3 := ⟨k - 3, by omega⟩
  unfold bitemporalref07_And.f nrm
  by_cases h0 : a = 0 <;> by_cases h2 : a = 2 <;> by_cases h0' : b = 0 <;> by_cases h2' : b = 2 <;> simp_all [bitemporalref07_And.j0, mn]
theorem or_eq' (k : Nat) (hk : 3 ≤ k) (a b : Int) : bitemporalref07_Or.f k a b = some (2 - mn (2 - nrm a) (2 - nrm b)) := by
  obtain ⟨k, rfl⟩ : ∃ m, k = m + 3 := ⟨k - 3, by omega⟩
  unfold bitemporalref07_Or.f nrm
  by_cases h0 : a = 0 <;> by_cases h2 : a = 2 <;> by_cases h0' : b = 0 <;> by_cases h2' : b = 2 <;> simp_all [bitemporalref07_Or.j0, mn]
theorem truth_eq2 (a b : Int) (s : ByteArray) : value_Truth.f a b s = bitemporalref07_Truth.f a b s := by
  unfold value_Truth.f bitemporalref07_Truth.f
  simp only [bool_eq, bool_eq', Option.bind_some]
theorem truth_some (a b : Int) (s : ByteArray) : ∃ r, bitemporalref07_Truth.f a b s = some r := by
  unfold bitemporalref07_Truth.f
  simp only [bool_eq', Option.bind_some]
  split
  · exact ⟨_, rfl⟩
  · split <;> exact ⟨_, rfl⟩
theorem of_eq (a : Int) : value_Of.f a = some (ofS a) := by
  unfold value_Of.f ofS
  simp only [normal_eq, Option.bind_some, null_eq, bool_eq]
  by_cases h0 : a = 0
  · subst h0; simp [nrm]
  · by_cases h2 : a = 2
    · subst h2; simp [nrm]
    · simp [nrm, h0, h2]
theorem of_eq' (k : Nat) (hk : 3 ≤ k) (a : Int) : bitemporalref07_Of.f k a = some (ofS a) := by
  obtain ⟨k, rfl⟩ : ∃ m, k = m + 3 := ⟨k - 3, by omega⟩
  unfold bitemporalref07_Of.f ofS
  by_cases h0 : a = 0
  · subst h0; simp [bitemporalref07_Of.j0, bool_eq', null_eq']
  · by_cases h2 : a = 2
    · subst h2; simp [bitemporalref07_Of.j0, bool_eq', null_eq']
    · simp [bitemporalref07_Of.j0, bool_eq', null_eq', h0, h2]
theorem pure_Logic (a b x y : Int) (s : ByteArray) : bitemporallaw07_ValueLogic.f 400 a b x y s = some true := by
  unfold bitemporallaw07_ValueLogic.f
  obtain ⟨r, hr⟩ := truth_some x y s
  simp only [not_eq, not_eq', and_eq 400 (by omega), and_eq' 400 (by omega), or_eq 400 (by omega), or_eq' 400 (by omega), truth_eq2, hr, of_eq, of_eq' 400 (by omega), awake_eq 400 (by omega), Option.bind_some, beq_self_eq_true, Bool.and_self, if_true]
end Go.Proofs.YtoopomkeigjekaaDoor.X
