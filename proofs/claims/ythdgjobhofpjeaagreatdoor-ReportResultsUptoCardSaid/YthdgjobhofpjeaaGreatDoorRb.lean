/- A value's length, and a period's text by the reference. Plain laws over the printed functions. Conditions: those in each theorem. -/
import Derived.Test.YthdgjobhofpjeaaGreatDoorR2
import Derived.Test.YthdgjobhofpjeaaGreatDoorVC
namespace Go.Proofs.YthdgjobhofpjeaaGreatDoor.X
open Go Go.Proofs Go.RowKit Go.Proofs.YthdgjobhofpjeaaGreatDoorW.PrintWords Go.Proofs.YthdgjobhofpjeaaGreatDoorW.PrintLast Go.Proofs.YthdgjobhofpjeaaGreatDoorW.PrintMore
set_option linter.unusedVariables false
set_option linter.unusedSimpArgs false
def litV (x : Val) : List UInt8 := litS x.f0 x.f1 x.f2
theorem litV_len (x : Val) : (litV x).length ≤ 402 := by
  unfold litV litS
  split
  · next hv =>
    split
    · next h1 =>
      rw [h1] at hv
      have h2 := (vl_int hv).2
      have := itoa_len x.f1 (by omega) (by omega)
      omega
    · split
      · next h2 =>
        rw [h2] at hv
        have h3 := (vl_text hv).2.1
        have h4 := flat_len (bs x.f2)
        rw [bs_len] at h4
        unfold quo
        simp only [List.length_cons, List.length_append, List.length_nil]
        omega
      · split
        · split <;> decide
        · decide
  · decide
theorem itoa_nat (n : Nat) : Lib.itoa (n : Int) = Lib.decDigits n := by rw [Lib.itoa, if_neg (by omega), show ((n : Int)).toNat = n by omega]
theorem validQ_iff (a b : Int) : validQ a b = true ↔ 0 ≤ a ∧ a < b ∧ b ≤ 1099511627776 := by
  unfold validQ
  simp [Bool.and_eq_true]
theorem ref01_ValidQ (a b : Int) : bitemporalref01_Valid.f a b = some (validQ a b) := ref01_Valid_eq a b
theorem digits_size (n : Nat) (h : n ≤ 1099511627776) : (⟨(Lib.decDigits n).toArray⟩ : ByteArray).size ≤ 20 := by
  rw [size_mk]
  exact decDigits_len 19 n (by omega)
theorem refPer_eq (k : Nat) (hk : 30 ≤ k) (a b : Int) : bitemporalref01_Text.f k a b = some (perS a b) := by
  unfold bitemporalref01_Text.f perS
  rw [ref01_ValidQ, Option.bind_some]
  by_cases hv : validQ a b = true
  · obtain ⟨h0, h1, h2⟩ := (validQ_iff a b).1 hv
    obtain ⟨n, rfl⟩ := Int.eq_ofNat_of_zero_le h0
    obtain ⟨m, rfl⟩ := Int.eq_ofNat_of_zero_le (show 0 ≤ b by omega)
    have d1 := digits_size n (by omega)
    have d2 := digits_size m (by omega)
    have z1 : (⟨#[91]⟩ : ByteArray).size = 1 := rfl
    have z2 : (⟨#[44, 32]⟩ : ByteArray).size = 2 := rfl
    have z3 : (⟨#[102, 111, 114, 101, 118, 101, 114]⟩ : ByteArray).size = 7 := rfl
    rw [if_pos hv, if_pos hv]
    by_cases hb : (m : Int) < 1099511627776
    · rw [if_pos hb, num_eq k hk m (by omega), Option.bind_some, num_eq k hk n (by omega), Option.bind_some, if_pos (by omega), if_pos (by simp only [size_append]; omega), if_pos (by simp only [size_append]; omega), if_pos (by simp only [size_append]; omega), if_neg (by omega)]
      refine congrArg some (bs_inj ?_)
      simp only [bs_append, bs_mk, itoa_nat]
      first | done | simp [bs]
    · rw [if_neg hb, num_eq k hk n (by omega), Option.bind_some, if_pos (by omega), if_pos (by simp only [size_append]; omega), if_pos (by simp only [size_append]; omega), if_pos (by simp only [size_append]; omega), if_pos (by omega)]
      refine congrArg some (bs_inj ?_)
      simp only [bs_append, bs_mk, itoa_nat]
      first | done | simp [bs]
  · rw [if_neg hv, if_neg hv]
theorem perS_size (a b : Int) : (perS a b).size ≤ 60 := by
  unfold perS
  by_cases hv : validQ a b = true
  · obtain ⟨h0, h1, h2⟩ := (validQ_iff a b).1 hv
    have d1 := itoa_len a (by omega) (by omega)
    have d2 := itoa_len b (by omega) (by omega)
    rw [if_pos hv, size_mk]
    simp only [List.length_append, List.length_cons, List.length_nil]
    split
    · simp only [List.length_cons, List.length_nil]
      omega
    · omega
  · rw [if_neg hv]
    exact Nat.zero_le _
end Go.Proofs.YthdgjobhofpjeaaGreatDoor.X
