/- Plain lemmas about what the walked Go functions compute (numbers and lists of bytes alone). Conditions: those in each lemma. -/
import Derived.Test.YtoopomkeigjekaaDoorX15
import Derived.Test.YtoopomkeigjekaaDoorX16
import Derived.Test.YtoopomkeigjekaaDoorPu0
import Derived.Test.YtoopomkeigjekaaDoorPu3
import Derived.Lib.CountLaws
import Derived.Lib.Replace
namespace Go.Proofs.YtoopomkeigjekaaDoor.X
open Go.RowKit Go.Proofs.YtoopomkeigjekaaDoorW.PrintWords Go.Proofs.YtoopomkeigjekaaDoorW.PrintLast Go.Proofs.YtoopomkeigjekaaDoorW.PrintMore
set_option linter.unusedVariables false
set_option linter.unusedSimpArgs false
theorem compare_eq' (a b : Int) (s : ByteArray) (a' b' : Int) (s' : ByteArray) : bitemporalref07_Compare.f a b s a' b' s' = some (cmpV a b s a' b' s') := by
  unfold bitemporalref07_Compare.f cmpV bitemporalref07_sign.f
  simp only [toList_bs, bytesLess_cmp, bytesLess_gtr, sg]
  by_cases h1 : a = a'
  · by_cases h2 : b = b'
    · simp only [h1, h2, if_true]
      cases Op.bytesLess (bs s) (bs s') <;> cases Op.bytesLess (bs s') (bs s) <;> rfl
    · simp only [h1, h2, if_true, if_false, decide_eq_true_eq, gt_iff_lt]
      split
      · rfl
      · split <;> rfl
  · simp only [h1, if_false, decide_eq_true_eq, gt_iff_lt]
    split
    · rfl
    · split <;> rfl
theorem truth_eq (k : Nat) (hk : 1 ≤ k) (a b : Int) (s : ByteArray) (a' b' : Int) (s' : ByteArray) (is : Bool) : bitemporalref07_truth.f k a b s a' b' s' is = some (tru a a' is) := by
  obtain ⟨k, rfl⟩ : ∃ m, k = m + 1 := ⟨k - 1, by omega⟩
  unfold bitemporalref07_truth.f tru
  by_cases h0 : a = 0
  · simp [h0, bitemporalref07_truth.j0]
  · by_cases h1 : a = a'
    · subst h1; cases is <;> simp [h0, bitemporalref07_truth.j0]
    · simp [h0, h1, bitemporalref07_truth.j0]
theorem equal_eq' (k : Nat) (hk : 4 ≤ k) (a b : Int) (s : ByteArray) (a' b' : Int) (s' : ByteArray) : bitemporalref07_Equal.f k a b s a' b' s' = some (tru a a' (cmpV a b s a' b' s' == 0)) := by
  unfold bitemporalref07_Equal.f; simp only [compare_eq', Option.bind_some, truth_eq k (show 1 ≤ k by omega)]
theorem less_eq' (k : Nat) (hk : 4 ≤ k) (a b : Int) (s : ByteArray) (a' b' : Int) (s' : ByteArray) : bitemporalref07_Less.f k a b s a' b' s' = some (tru a a' (decide (cmpV a b s a' b' s' < 0))) := by
  unfold bitemporalref07_Less.f; simp only [compare_eq', Option.bind_some, truth_eq k (show 1 ≤ k by omega)]
theorem pure_Compares (a b : Int) (s : ByteArray) (a' b' : Int) (s' : ByteArray) : bitemporallaw07_ValueCompares.f 400 a b s a' b' s' = some true := by
  unfold bitemporallaw07_ValueCompares.f
  simp only [compare_eq 400 (by omega), compare_eq', equal_eq 400 (by omega), equal_eq' 400 (by omega), less_eq 400 (by omega), less_eq' 400 (by omega), awake_eq 400 (by omega), Option.bind_some, if_true]
end Go.Proofs.YtoopomkeigjekaaDoor.X
