/- Plain lemmas about what the walked Go functions compute (numbers and lists of bytes alone). Conditions: those in each lemma. -/
import Derived.Test.YtoopomkeigjekaaDoorX6
import Derived.Test.YtoopomkeigjekaaDoorX7
import Derived.Test.YtoopomkeigjekaaDoorPu0
import Derived.Lib.CountLaws
import Derived.Lib.Replace
namespace Go.Proofs.YtoopomkeigjekaaDoor.X
open Go.RowKit Go.Proofs.YtoopomkeigjekaaDoorW.PrintWords Go.Proofs.YtoopomkeigjekaaDoorW.PrintLast Go.Proofs.YtoopomkeigjekaaDoorW.PrintMore
set_option linter.unusedVariables false
set_option linter.unusedSimpArgs false
theorem prn_loop' (s : ByteArray) (hs : s.size < 4611686018427387904) : ∀ (d i k : Nat), i + d = s.size → d < k → bitemporalref07_Printable.l0 k s (i : Int) = some (prn ((bs s).drop i)) := by
  intro d
  induction d with
  | zero =>
    intro i k hi hk
    obtain ⟨k, rfl⟩ : ∃ m, k = m + 1 := ⟨k - 1, by omega⟩
    simp only [bitemporalref07_Printable.l0]
    rw [if_neg (by omega), List.drop_of_length_le (by rw [bs_len]; omega)]
    rfl
  | succ d ih =>
    intro i k hi hk
    obtain ⟨k, rfl⟩ : ∃ m, k = m + 1 := ⟨k - 1, by omega⟩
    have hl : i < (bs s).length := by rw [bs_len]; omega
    simp only [bitemporalref07_Printable.l0]
    rw [if_pos (by omega), if_pos (by omega), bt_nat s i hl, w64 (by omega) (by omega), show ((i : Int) + 1) = ((i + 1 : Nat) : Int) by omega, ih (i + 1) k (by omega) (by omega), bs_drop s i hl]
    exact prn_step _ _
theorem prn_eq' (s : ByteArray) (hs : s.size < 4611686018427387904) (k : Nat) (hk : s.size < k) : bitemporalref07_Printable.f k s = some (prn (bs s)) := by
  have := prn_loop' s hs s.size 0 k (by omega) hk
  simpa [bitemporalref07_Printable.f] using this
theorem valid_eq' (k : Nat) (hk : 200 < k) (a b : Int) (s : ByteArray) : bitemporalref07_Valid.f k a b s = some (vl a b s) := by
  unfold bitemporalref07_Valid.f vl
  simp only [toList_bs]
  by_cases h0 : a = 0
  · subst h0
    by_cases hb : b = 0 <;> simp [hb]
  by_cases h1 : a = 1
  · subst h1
    by_cases hs : bs s = [] <;> by_cases hb : -1125899906842624 ≤ b <;> simp [hs, hb]
  by_cases h2 : a = 2
  · subst h2
    by_cases hb : b = 0 <;> simp [hb]
    by_cases hz : s.size ≤ 200
    · rw [if_pos (by omega), prn_eq' s (by omega) k (by omega)]; simp [hz]
    · rw [if_neg (by omega)]; simp [hz]
  by_cases h3 : a = 3
  · subst h3
    by_cases hs : bs s = [] <;> by_cases hb : b = 0 <;> simp [hs, hb]
    by_cases hb1 : b = 1 <;> simp [hb1]
  simp [h0, h1, h2, h3]
theorem refvalid_eq (k : Nat) (hk : 200 < k) (a b : Int) (s : ByteArray) : bitemporalref07_valid.f k a b s = some (orN a b s) := by
  unfold bitemporalref07_valid.f orN
  rw [valid_eq' k hk]
  cases vl a b s <;> simp [bitemporalref07_Null.f, e0]
theorem int_eq' (k : Nat) (hk : 200 < k) (n : Int) : bitemporalref07_Int.f k n = some (orN 1 n e0) := by
  unfold bitemporalref07_Int.f; rw [show (⟨#[]⟩ : ByteArray) = e0 from rfl, refvalid_eq k hk]; rfl
theorem text_eq' (k : Nat) (hk : 200 < k) (s : ByteArray) : bitemporalref07_Text.f k s = some (orN 2 0 s) := by
  unfold bitemporalref07_Text.f; rw [refvalid_eq k hk]; rfl
end Go.Proofs.YtoopomkeigjekaaDoor.X
