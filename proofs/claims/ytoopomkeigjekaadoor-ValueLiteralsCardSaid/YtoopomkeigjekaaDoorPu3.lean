/- Plain lemmas about what the walked Go functions compute (numbers and lists of bytes alone). Conditions: those in each lemma. -/
import Derived.Test.YtoopomkeigjekaaDoorX0
import Derived.Test.YtoopomkeigjekaaDoorPu0
import Derived.Lib.CountLaws
import Derived.Lib.Replace
namespace Go.Proofs.YtoopomkeigjekaaDoor.X
open Go.RowKit Go.Proofs.YtoopomkeigjekaaDoorW.PrintWords Go.Proofs.YtoopomkeigjekaaDoorW.PrintLast Go.Proofs.YtoopomkeigjekaaDoorW.PrintMore
set_option linter.unusedVariables false
set_option linter.unusedSimpArgs false
theorem decDigits_small {n : Nat} (h : n < 10) : Lib.decDigits n = [UInt8.ofNat (48 + n)] := by rw [Lib.decDigits, dif_pos h]
theorem decDigits_big {n : Nat} (h : ¬ n < 10) : Lib.decDigits n = Lib.decDigits (n / 10) ++ [UInt8.ofNat (48 + n % 10)] := by rw [Lib.decDigits, dif_neg h]
theorem decDigits_len : ∀ (m n : Nat), n < 10 ^ (m + 1) → (Lib.decDigits n).length ≤ m + 1
  | 0, n, h => by rw [decDigits_small (by omega)]; simp
  | m + 1, n, h => by
    by_cases h9 : n < 10
    · rw [decDigits_small h9]; simp
    · rw [decDigits_big h9, List.length_append]
      have := decDigits_len m (n / 10) (by rw [Nat.pow_succ] at h; omega)
      simp; omega
theorem vl_null {b : Int} {s : ByteArray} (h : vl 0 b s = true) : b = 0 ∧ s = e0 := by
  simp [vl] at h
  exact ⟨h.1, bs_inj h.2⟩
theorem vl_bool {b : Int} {s : ByteArray} (h : vl 3 b s = true) : s = e0 ∧ (b = 0 ∨ b = 1) := by
  simp [vl] at h
  exact ⟨bs_inj h.1, h.2⟩
theorem vl_kind {a b : Int} {s : ByteArray} (h : vl a b s = true) : a = 0 ∨ a = 1 ∨ a = 2 ∨ a = 3 := by
  unfold vl at h
  by_cases h0 : a = 0 <;> by_cases h1 : a = 1 <;> by_cases h2 : a = 2 <;> by_cases h3 : a = 3 <;> simp [h0, h1, h2, h3] at h ⊢
end Go.Proofs.YtoopomkeigjekaaDoor.X
