/- Plain lemmas about the reference's literals and numbers (lists of bytes alone). Conditions: those in each lemma. -/
import Derived.Test.YthdgjobhofpjeaaGreatDoorVA
import Derived.Test.YthdgjobhofpjeaaGreatDoorX14
import Derived.Test.YthdgjobhofpjeaaGreatDoorX8
namespace Go.Proofs.YthdgjobhofpjeaaGreatDoor.X
open Go.RowKit Go.Proofs.YthdgjobhofpjeaaGreatDoorW.PrintWords Go.Proofs.YthdgjobhofpjeaaGreatDoorW.PrintLast Go.Proofs.YthdgjobhofpjeaaGreatDoorW.PrintMore
set_option linter.unusedVariables false
set_option linter.unusedSimpArgs false
theorem bs_extract (a : ByteArray) (i j : Nat) : bs (a.extract i j) = ((bs a).drop i).take (j - i) := by
  simp [bs, ByteArray.data_extract, Array.toList_extract, List.extract_eq_take_drop]
def bl (b : Bool) : Int × Int × ByteArray := (3, if b then 1 else 0, e0)
theorem bool_eq' (b : Bool) : bitemporalref07_Bool.f b = some (bl b) := by cases b <;> rfl
theorem null_eq' : bitemporalref07_Null.f = some (0, 0, e0) := rfl
/-! ### Numbers -/
def tens : ByteArray := ⟨#[48, 49, 50, 51, 52, 53, 54, 55, 56, 57]⟩
theorem digit_cut (n : Nat) (h : n ≤ 9) : bs (tens.extract n (n + 1)) = [UInt8.ofNat (48 + n)] := by
  have : n = 0 ∨ n = 1 ∨ n = 2 ∨ n = 3 ∨ n = 4 ∨ n = 5 ∨ n = 6 ∨ n = 7 ∨ n = 8 ∨ n = 9 := by omega
  rcases this with rfl | rfl | rfl | rfl | rfl | rfl | rfl | rfl | rfl | rfl <;> (rw [bs_extract]; rfl)
theorem num_loop : ∀ (m n : Nat) (s : ByteArray) (k : Nat), n < 10 ^ m → n < 9223372036854775808 → s.size + m < 1000 → m < k → bitemporalref01_Number.l0 k (n : Int) s = some ⟨(Lib.decDigits n ++ bs s).toArray⟩
  | 0, n, s, k, hn, _, hz, hk => by
    obtain ⟨k, rfl⟩ : ∃ m, k = m + 1 := ⟨k - 1, by omega⟩
    have h0 : n = 0 := by omega
    subst h0
    simp only [bitemporalref01_Number.l0]
    rw [show (⟨#[48, 49, 50, 51, 52, 53, 54, 55, 56, 57]⟩ : ByteArray) = tens from rfl, if_neg (by omega), if_pos (by omega), w64 (by omega) (by omega), if_pos (by omega), if_pos (by omega)]
    have hd := digit_cut 0 (by omega)
    rw [show ((0 : Nat) : Int).toNat = 0 from rfl, show (((0 : Nat) : Int) + 1).toNat = 0 + 1 from rfl]
    have hsz : (tens.extract 0 (0 + 1)).size = 1 := by rw [← bs_len, hd]; rfl
    rw [if_pos (by rw [hsz]; omega), decDigits_small (by omega)]
    exact congrArg some (bs_inj (by rw [bs_append, hd]; exact (bs_mk _).symm))
  | m + 1, n, s, k, hn, hb, hz, hk => by
    obtain ⟨k, rfl⟩ : ∃ m, k = m + 1 := ⟨k - 1, by omega⟩
    rw [bitemporalref01_Number.l0, show (⟨#[48, 49, 50, 51, 52, 53, 54, 55, 56, 57]⟩ : ByteArray) = tens from rfl]
    by_cases h9 : n < 10
    · rw [if_neg (by omega), if_pos (by omega), w64 (by omega) (by omega), if_pos (by omega), if_pos (by omega)]
      have hd := digit_cut n (by omega)
      rw [show ((n : Int)).toNat = n by omega, show ((n : Int) + 1).toNat = n + 1 by omega]
      have hsz : (tens.extract n (n + 1)).size = 1 := by rw [← bs_len, hd]; rfl
      rw [if_pos (by rw [hsz]; omega), decDigits_small (by omega)]
      exact congrArg some (bs_inj (by rw [bs_append, hd]; exact (bs_mk _).symm))
    · have e1 : Int.tmod (n : Int) 10 = ((n % 10 : Nat) : Int) := by rw [Int.tmod_eq_emod_of_nonneg (by omega)]; omega
      have e2 : Int.tdiv (n : Int) 10 = ((n / 10 : Nat) : Int) := by rw [Int.tdiv_eq_ediv_of_nonneg (by omega)]; omega
      rw [if_pos (by omega), e1, e2, if_pos (by omega), w64 (by omega) (by omega), if_pos (by omega), if_pos (by omega)]
      have hd := digit_cut (n % 10) (by omega)
      rw [show (((n % 10 : Nat) : Int)).toNat = n % 10 by omega, show (((n % 10 : Nat) : Int) + 1).toNat = n % 10 + 1 by omega]
      have hsz : (tens.extract (n % 10) (n % 10 + 1)).size = 1 := by rw [← bs_len, hd]; rfl
      rw [if_pos (by rw [hsz]; omega), w64 (by omega) (by omega)]
      rw [num_loop m (n / 10) _ k (by rw [Nat.pow_succ] at hn; omega) (by omega) (by rw [size_append, hsz]; omega) (by omega), bs_append, hd, decDigits_big h9]
      simp
theorem num_eq (k : Nat) (hk : 30 ≤ k) (n : Nat) (hn : n < 9223372036854775808) : bitemporalref01_Number.f k (n : Int) = some ⟨(Lib.decDigits n).toArray⟩ := by
  unfold bitemporalref01_Number.f
  rw [num_loop 29 n ⟨#[]⟩ k (by omega) hn (by decide) (by omega)]
  exact congrArg some (bs_inj (by rw [bs_mk (Lib.decDigits n ++ _), bs_mk (Lib.decDigits n)]; exact List.append_nil _))
theorem num07_eq (k : Nat) (hk : 31 ≤ k) (n : Int) (h0 : -9223372036854775808 ≤ n) (h1 : n < 9223372036854775808) : bitemporalref07_Number.f k n = some ⟨(Lib.itoa n).toArray⟩ := by
  obtain ⟨k, rfl⟩ : ∃ m, k = m + 1 := ⟨k - 1, by omega⟩
  have hlen : ∀ m : Nat, m < 9223372036854775808 → (⟨(Lib.decDigits m).toArray⟩ : ByteArray).size ≤ 20 := fun m hm => by rw [size_mk]; exact decDigits_len 19 m (by omega)
  unfold bitemporalref07_Number.f
  by_cases hneg : n < 0
  · rw [if_pos hneg]
    by_cases hs : n > -10
    · obtain ⟨m, rfl⟩ : ∃ m : Nat, n = -(m : Int) := ⟨n.natAbs, by omega⟩
      rw [decide_eq_true hs]
      simp only [bitemporalref07_Number.j0, if_true]
      rw [w64 (by omega) (by omega), show -(-(m : Int)) = (m : Int) by omega, num_eq k (by omega) m (by omega)]
      simp only [Option.bind_some]
      have := hlen m (by omega)
      rw [if_pos (by omega)]
      refine congrArg some (bs_inj ?_)
      rw [bs_append, bs_mk (Lib.decDigits m), bs_mk (Lib.itoa _), Lib.itoa, if_pos hneg, show (-(m : Int)).natAbs = m by omega]
      rfl
    · rw [decide_eq_false hs]
      obtain ⟨m, rfl⟩ : ∃ m : Nat, n = -(m : Int) := ⟨n.natAbs, by omega⟩
      simp only [bitemporalref07_Number.j0, Bool.false_eq_true, if_false]
      have e1 : Int.tdiv (-(m : Int)) 10 = -((m / 10 : Nat) : Int) := by rw [Int.neg_tdiv, Int.tdiv_eq_ediv_of_nonneg (by omega)]; omega
      have e2 : Int.tmod (-(m : Int)) 10 = -((m % 10 : Nat) : Int) := by rw [Int.neg_tmod, Int.tmod_eq_emod_of_nonneg (by omega)]; omega
      rw [if_pos hneg, e1, e2, w64 (n := -((m / 10 : Nat) : Int)) (by omega) (by omega), w64 (by omega) (by omega), w64 (by omega) (by omega), show -(-((m / 10 : Nat) : Int)) = ((m / 10 : Nat) : Int) by omega,
        show -(-((m % 10 : Nat) : Int)) = ((m % 10 : Nat) : Int) by omega, num_eq k (by omega) (m / 10) (by omega), num_eq k (by omega) (m % 10) (by omega)]
      simp only [Option.bind_some]
      have l1 := hlen (m / 10) (by omega)
      have l2 := hlen (m % 10) (by omega)
      have l3 : (⟨#[45]⟩ : ByteArray).size = 1 := rfl
      rw [if_pos (by omega), if_pos (by rw [size_append]; omega)]
      refine congrArg some (bs_inj ?_)
      rw [bs_append, bs_append, bs_mk (Lib.decDigits _), bs_mk (Lib.decDigits _), bs_mk (Lib.itoa _), Lib.itoa, if_pos hneg, show (-(m : Int)).natAbs = m by omega, decDigits_big (n := m) (by omega), decDigits_small (n := m % 10) (by omega)]
      simp [bs]
  · rw [if_neg hneg]
    obtain ⟨m, rfl⟩ : ∃ m : Nat, n = (m : Int) := ⟨n.natAbs, by omega⟩
    simp only [bitemporalref07_Number.j0, Bool.false_eq_true, if_false]
    rw [if_neg hneg, num_eq k (by omega) m (by omega)]
    simp only [Option.bind_some]
    rw [Lib.itoa, if_neg hneg, show ((m : Int)).toNat = m by omega]
theorem quote_loop (s : ByteArray) (hs : s.size < 1152921504606846976) : ∀ (d i : Nat) (t : ByteArray) (k : Nat), i + d = s.size → d < k → t.size ≤ 2 * i + 1 →
    bitemporalref07_Quote.l0 k s t (i : Int) = some ⟨(bs t ++ (((bs s).drop i).flatMap dbl ++ [39])).toArray⟩ := by
  intro d
  induction d with
  | zero =>
    intro i t k hi hk ht
    obtain ⟨k, rfl⟩ : ∃ m, k = m + 1 := ⟨k - 1, by omega⟩
    simp only [bitemporalref07_Quote.l0]
    rw [if_neg (by omega), if_pos (by omega), List.drop_of_length_le (by rw [bs_len]; omega)]
    refine congrArg some (bs_inj ?_)
    rw [bs_append, bs_mk (bs t ++ _)]
    rfl
  | succ d ih =>
    intro i t k hi hk ht
    obtain ⟨k, rfl⟩ : ∃ m, k = m + 1 := ⟨k - 1, by omega⟩
    have hl : i < (bs s).length := by rw [bs_len]; omega
    have hx : bs (s.extract i (i + 1)) = [(bs s)[i]] := by rw [bs_extract, bs_drop s i hl, show i + 1 - i = 1 by omega]; rfl
    have hxs : (s.extract i (i + 1)).size = 1 := by rw [← bs_len, hx]; rfl
    have l1 : (⟨#[39]⟩ : ByteArray).size = 1 := rfl
    simp only [bitemporalref07_Quote.l0]
    rw [if_pos (by omega), if_pos (by omega), bt_nat s i hl, w64 (by omega) (by omega), show ((i : Int)).toNat = i by omega, show ((i : Int) + 1).toNat = i + 1 by omega, show ((i : Int) + 1) = ((i + 1 : Nat) : Int) by omega]
    by_cases hc : (bs s)[i] = 39
    · rw [if_pos (by rw [hc]; rfl), if_pos (by omega), if_pos (by omega), if_pos (by omega), if_pos (by rw [size_append]; omega), ih (i + 1) _ k (by omega) (by omega) (by rw [size_append, size_append]; omega)]
      refine congrArg some (bs_inj ?_)
      rw [bs_mk (bs (_ ++ _) ++ _), bs_mk (bs t ++ _), bs_append, bs_append, hx, bs_drop s i hl, List.flatMap_cons, hc]
      simp [dbl, bs]
    · have hc' : ¬ (((bs s)[i]).toNat : Int) = 39 := fun e => hc (UInt8.toNat.inj (by rw [show ((bs s)[i]).toNat = 39 by omega]; rfl))
      rw [if_neg hc', if_pos (by omega), if_pos (by omega), if_pos (by omega), ih (i + 1) _ k (by omega) (by omega) (by rw [size_append]; omega)]
      refine congrArg some (bs_inj ?_)
      rw [bs_mk (bs (_ ++ _) ++ _), bs_mk (bs t ++ _), bs_append, hx, bs_drop s i hl, List.flatMap_cons]
      simp [dbl, hc]
theorem quote_eq (k : Nat) (s : ByteArray) (hs : s.size < 1152921504606846976) (hk : s.size < k) : bitemporalref07_Quote.f k s = some ⟨(quo (bs s)).toArray⟩ := by
  unfold bitemporalref07_Quote.f
  have := quote_loop s hs s.size 0 ⟨#[39]⟩ k (by omega) hk (by decide)
  rw [show ((0 : Nat) : Int) = 0 from rfl] at this
  rw [this]
  rfl
theorem vl_null {b : Int} {s : ByteArray} (h : vl 0 b s = true) : b = 0 ∧ s = e0 := by
  simp [vl] at h
  exact ⟨h.1, bs_inj h.2⟩
theorem vl_bool {b : Int} {s : ByteArray} (h : vl 3 b s = true) : s = e0 ∧ (b = 0 ∨ b = 1) := by
  simp [vl] at h
  exact ⟨bs_inj h.1, h.2⟩
theorem vl_kind {a b : Int} {s : ByteArray} (h : vl a b s = true) : a = 0 ∨ a = 1 ∨ a = 2 ∨ a = 3 := by
  unfold vl at h
  by_cases h0 : a = 0 <;> by_cases h1 : a = 1 <;> by_cases h2 : a = 2 <;> by_cases h3 : a = 3 <;> simp [h0, h1, h2, h3] at h ⊢
theorem lit_eq' (k : Nat) (hk : 201 < k) (a b : Int) (s : ByteArray) : bitemporalref07_Literal.f k a b s = some ⟨(litS a b s).toArray⟩ := by
  unfold bitemporalref07_Literal.f litS
  rw [valid_eq' k (by omega)]
  cases hv : vl a b s with
  | false => rfl
  | true =>
    simp only [Option.bind_some, if_true, null_eq', bool_eq', toList_bs]
    have e : bs e0 = [] := rfl
    rcases vl_kind hv with rfl | rfl | rfl | rfl
    · obtain ⟨rfl, rfl⟩ := vl_null hv
      simp
    · obtain ⟨rfl, hb0, hb1⟩ := vl_int hv
      simp [bl]
      rw [num07_eq k (by omega) b (by omega) (by omega)]
    · obtain ⟨rfl, hz, _⟩ := vl_text hv
      simp [bl]
      rw [quote_eq k s (by omega) (by omega)]
    · obtain ⟨rfl, rfl | rfl⟩ := vl_bool hv <;> simp [bl]
end Go.Proofs.YthdgjobhofpjeaaGreatDoor.X
