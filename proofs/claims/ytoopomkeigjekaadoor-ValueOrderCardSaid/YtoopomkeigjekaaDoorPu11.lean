/- Plain lemmas about what the walked Go functions compute (numbers and lists of bytes alone). Conditions: those in each lemma. -/
import Derived.Test.YtoopomkeigjekaaDoorX17
import Derived.Test.YtoopomkeigjekaaDoorPu0
import Derived.Test.YtoopomkeigjekaaDoorPu3
import Derived.Lib.CountLaws
import Derived.Lib.Replace
namespace Go.Proofs.YtoopomkeigjekaaDoor.X
open Go.RowKit Go.Proofs.YtoopomkeigjekaaDoorW.PrintWords Go.Proofs.YtoopomkeigjekaaDoorW.PrintLast Go.Proofs.YtoopomkeigjekaaDoorW.PrintMore
set_option linter.unusedVariables false
set_option linter.unusedSimpArgs false
theorem order_j1 (a b : Int) (s : ByteArray) (a' b' : Int) (s' : ByteArray) (u : Bool) (hu : (u = true ∧ (a = 0 ∨ a ≠ a')) ∨ (u = false ∧ a ≠ 0 ∧ a = a')) : bitemporallaw07_ValueOrder.j1 400 u a b s a' b' s' = some true := by
  rcases hu with ⟨rfl, h⟩ | ⟨rfl, h0, rfl⟩
  · simp only [bitemporallaw07_ValueOrder.j1, if_true]
    rw [less_eq 399 (by omega), equal_eq 399 (by omega), tru_unknown h, tru_unknown h, awake_eq 399 (by omega)]
    simp
  · simp only [bitemporallaw07_ValueOrder.j1, bitemporallaw07_ValueOrder.j2, bitemporallaw07_ValueOrder.j3, Bool.false_eq_true, if_false]
    rw [less_eq 399 (by omega), equal_eq 398 (by omega), less_eq 397 (by omega), awake_eq 397 (by omega), cmpV_anti a b s a b' s']
    simp only [tru, if_neg h0, if_true, Option.bind_some]
    rcases cmpV_range a b s a b' s' with h | h | h <;> rw [h] <;> simp [wrap64]
theorem order_j0 (a b : Int) (s : ByteArray) (a' b' : Int) (s' : ByteArray) : bitemporallaw07_ValueOrder.j0 401 false a b s a' b' s' = some true := by
  rw [bitemporallaw07_ValueOrder.j0]
  simp only [Bool.false_eq_true, if_false]
  by_cases h1 : a = a'
  · rw [if_pos h1]
    by_cases h0 : a = 0
    · rw [show (a == 0) = true by simpa using h0]; exact order_j1 _ _ _ _ _ _ true (.inl ⟨rfl, .inl h0⟩)
    · rw [show (a == 0) = false by simpa using h0]; exact order_j1 _ _ _ _ _ _ false (.inr ⟨rfl, h0, h1⟩)
  · rw [if_neg h1]; exact order_j1 _ _ _ _ _ _ true (.inl ⟨rfl, .inr h1⟩)
theorem pure_Order (a b : Int) (s : ByteArray) (a' b' : Int) (s' : ByteArray) (a2 b2 : Int) (s2 : ByteArray) : bitemporallaw07_ValueOrder.f 401 a b s a' b' s' a2 b2 s2 = some true := by
  unfold bitemporallaw07_ValueOrder.f
  simp only [compare_eq 401 (by omega), Option.bind_some, order_j0]
  have hr := cmpV_range a b s a' b' s'
  have hz := cmpV_zero a b s a' b' s'
  have ht := @cmpV_trans a b s a' b' s' a2 b2 s2
  rw [if_neg (by omega), if_neg (by omega), if_pos (by rw [cmpV_anti a b s a' b' s', w64 (by omega) (by omega)])]
  have he : ((cmpV a b s a' b' s' == 0) != (a == a' && (b == b' && (s.toList == s'.toList)))) = false := by
    rw [toList_bs, toList_bs]
    by_cases h : cmpV a b s a' b' s' = 0
    · obtain ⟨h1, h2, h3⟩ := hz.1 h
      rw [show (cmpV a b s a' b' s' == 0) = true from beq_iff_eq.2 h, show (a == a') = true from beq_iff_eq.2 h1, show (b == b') = true from beq_iff_eq.2 h2, show (bs s == bs s') = true from beq_iff_eq.2 h3]
      rfl
    · rw [show (cmpV a b s a' b' s' == 0) = false from beq_eq_false_iff_ne.2 h]
      cases hx : (a == a' && (b == b' && (bs s == bs s'))) with
      | false => rfl
      | true =>
        simp only [Bool.and_eq_true, beq_iff_eq] at hx
        exact absurd (hz.2 hx) h
  rw [he]
  simp only [Bool.false_eq_true, if_false]
  by_cases h1 : cmpV a b s a' b' s' ≤ 0
  · rw [if_pos h1]
    by_cases h2 : cmpV a' b' s' a2 b2 s2 ≤ 0
    · rw [if_pos h2, decide_eq_false (by have := ht h1 h2; omega), order_j0]
    · rw [if_neg h2]
  · rw [if_neg h1]
end Go.Proofs.YtoopomkeigjekaaDoor.X
