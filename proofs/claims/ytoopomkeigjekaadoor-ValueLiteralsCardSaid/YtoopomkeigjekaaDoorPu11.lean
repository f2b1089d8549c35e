/- Plain lemmas about what the walked Go functions compute (numbers and lists of bytes alone). Conditions: those in each lemma. -/
import Derived.Test.YtoopomkeigjekaaDoorX11
import Derived.Test.YtoopomkeigjekaaDoorX12
import Derived.Test.YtoopomkeigjekaaDoorX13
import Derived.Test.YtoopomkeigjekaaDoorPu0
import Derived.Test.YtoopomkeigjekaaDoorPu1
import Derived.Test.YtoopomkeigjekaaDoorPu3
import Derived.Test.YtoopomkeigjekaaDoorPu5
import Derived.Lib.CountLaws
import Derived.Lib.Replace
namespace Go.Proofs.YtoopomkeigjekaaDoor.X
open Go.RowKit Go.Proofs.YtoopomkeigjekaaDoorW.PrintWords Go.Proofs.YtoopomkeigjekaaDoorW.PrintLast Go.Proofs.YtoopomkeigjekaaDoorW.PrintMore
set_option linter.unusedVariables false
set_option linter.unusedSimpArgs false
/-! ### Numbers -/
def tens : ByteArray := ⟨#[48, 49, 50, 51, 52, 53, 54, 55, 56, 57]⟩
theorem digit_cut (n : Nat) (h : n ≤ 9) : bs (tens.extract n (n + 1)) = [UInt8.ofNat (48 + n)] := by
  have : n = 0 ∨ n = 1 ∨ n = 2 ∨ n = 3 ∨ n = 4 ∨ n = 5 ∨ n = 6 ∨ n = 7 ∨ n = 8 ∨ n = 9 := by omega
  rcases this with rfl | rfl | rfl | rfl | rfl | rfl | rfl | rfl | rfl | rfl <;> (rw [bs_extract]; rfl)
theorem num_loop : ∀ (m n : Nat) (s : ByteArray) (k : Nat), n < 10 ^ m → n < 9223372036854775808 → s.size + m < 1000 → m < k → bitemporalref01_Number.l0 k (n : Int) s = some ⟨(Lib.decDigits n ++ bs s).toArray⟩
  | 0, n, s, k, hn, _, hz, hk => by
    obtain ⟨k, rfl⟩ : ∃ m, k = m + 1 := ⟨k - 1, by omega⟩
    have h0 : n = 0 := by omega
    subst h0
    simp only [bitemporalref01_Number.l0]
    rw [show (⟨#[48, 49, 50, 51, 52, 53, 54, 55, 56, 57]⟩ : ByteArray) = tens from rfl, if_neg (by omega), if_pos (by omega), w64 (by omega) (by omega), if_pos (by omega), if_pos (by omega)]
    have hd := digit_cut 0 (by omega)
    rw [show ((0 : Nat) : Int).toNat = 0 from rfl, show (((0 : Nat) : Int) + 1).toNat = 0 + 1 from rfl]
    have hsz : (tens.extract 0 (0 + 1)).size = 1 := by rw [← bs_len, hd]; rfl
    rw [if_pos (by rw [hsz]; omega), decDigits_small (by omega)]
    exact congrArg some (bs_inj (by rw [bs_append, hd]; exact (bs_mk _).symm))
  | m + 1, n, s, k, hn, hb, hz, hk => by
    obtain ⟨k, rfl⟩ : ∃ m, k = m + 1 := ⟨k - 1, by omega⟩
    rw [bitemporalref01_Number.l0, show (⟨#[48, 49, 50, 51, 52, 53, 54, 55, 56, 57]⟩ : ByteArray) = tens from rfl]
    by_cases h9 : n < 10
    · rw [if_neg (by omega), if_pos (by omega), w64 (by omega) (by omega), if_pos (by omega), if_pos (by omega)]
      have hd := digit_cut n (by omega)
      rw [show ((n : Int)).toNat = n by omega, show ((n : Int) + 1).toNat = n + 1 by omega]
      have hsz : (tens.extract n (n + 1)).size = 1 := by rw [← bs_len, hd]; rfl
      rw [if_pos (by rw [hsz]; omega), decDigits_small (by omega)]
      exact congrArg some (bs_inj (by rw [bs_append, hd]; exact (bs_mk _).symm))
    · have e1 : Int.tmod (n : Int) 10 = ((n % 10 : Nat) : Int) := by rw [Int.tmod_eq_emod_of_nonneg (by omega)]; omega
      have e2 : Int.tdiv (n : Int) 10 = ((n / 10 : Nat) : Int) := by rw [Int.tdiv_eq_ediv_of_nonneg (by omega)]; omega
      rw [if_pos (by omega), e1, e2, if_pos (by omega), w64 (by omega) (by omega), if_pos (by omega), if_pos (by omega)]
      have hd := digit_cut (n % 10) (by omega)
      rw [show (((n % 10 : Nat) : Int)).toNat = n % 10 by omega, show (((n % 10 : Nat) : Int) + 1).toNat = n % 10 + 1 by omega]
      have hsz : (tens.extract (n % 10) (n % 10 + 1)).size = 1 := by rw [← bs_len, hd]; rfl
      rw [if_pos (by rw [hsz]; omega), w64 (by omega) (by omega)]
      rw [num_loop m (n / 10) _ k (by rw [Nat.pow_succ] at hn; omega) (by omega) (by rw [size_append, hsz]; omega) (by omega), bs_append, hd, decDigits_big h9]
      simp
theorem num_eq (k : Nat) (hk : 30 ≤ k) (n : Nat) (hn : n < 9223372036854775808) : bitemporalref01_Number.f k (n : Int) = some ⟨(Lib.decDigits n).toArray⟩ := by
  unfold bitemporalref01_Number.f
  rw [num_loop 29 n ⟨#[]⟩ k (by omega) hn (by decide) (by omega)]
  exact congrArg some (bs_inj (by rw [bs_mk (Lib.decDigits n ++ _), bs_mk (Lib.decDigits n)]; exact List.append_nil _))
theorem num07_eq (k : Nat) (hk : 31 ≤ k) (n : Int) (h0 : -9223372036854775808 ≤ n) (h1 : n < 9223372036854775808) : bitemporalref07_Number.f k n = some ⟨(Lib.itoa n).toArray⟩ := by
  obtain ⟨k, rfl⟩ : ∃ m, k = m + 1 := ⟨k - 1, by omega⟩
  have hlen : ∀ m : Nat, m < 9223372036854775808 → (⟨(Lib.decDigits m).toArray⟩ : ByteArray).size ≤ 20 := fun m hm => by rw [size_mk]; exact decDigits_len 19 m (by omega)
  unfold bitemporalref07_Number.f
  by_cases hneg : n < 0
  · rw [if_pos hneg]
    by_cases hs : n > -10
    · obtain ⟨m, rfl⟩ : ∃ m : Nat, n = -(m : Int) := ⟨n.natAbs, by omega⟩
      rw [decide_eq_true hs]
      simp only [bitemporalref07_Number.j0, if_true]
      rw [w64 (by omega) (by omega), show -(-(m : Int)) = (m : Int) by omega, num_eq k (by omega) m (by omega)]
      simp only [Option.bind_some]
      have := hlen m (by omega)
      rw [if_pos (by omega)]
      refine congrArg some (bs_inj ?_)
      rw [bs_append, bs_mk (Lib.decDigits m), bs_mk (Lib.itoa _), Lib.itoa, if_pos hneg, show (-(m : Int)).natAbs = m by omega]
      rfl
    · rw [decide_eq_false hs]
      obtain ⟨m, rfl⟩ : ∃ m : Nat, n = -(m : Int) := ⟨n.natAbs, by omega⟩
      simp only [bitemporalref07_Number.j0, Bool.false_eq_true, if_false]
      have e1 : Int.tdiv (-(m : Int)) 10 = -((m / 10 : Nat) : Int) := by rw [Int.neg_tdiv, Int.tdiv_eq_ediv_of_nonneg (by omega)]; omega
      have e2 : Int.tmod (-(m : Int)) 10 = -((m % 10 : Nat) : Int) := by rw [Int.neg_tmod, Int.tmod_eq_emod_of_nonneg (by omega)]; omega
      rw [if_pos hneg, e1, e2, w64 (n := -((m / 10 : Nat) : Int)) (by omega) (by omega), w64 (by omega) (by omega), w64 (by omega) (by omega), show -(-((m / 10 : Nat) : Int)) = ((m / 10 : Nat) : Int) by omega,
        show -(-((m % 10 : Nat) : Int)) = ((m % 10 : Nat) : Int) by omega, num_eq k (by omega) (m / 10) (by omega), num_eq k (by omega) (m % 10) (by omega)]
      simp only [Option.bind_some]
      have l1 := hlen (m / 10) (by omega)
      have l2 := hlen (m % 10) (by omega)
      have l3 : (⟨#[45]⟩ : ByteArray).size = 1 := rfl
      rw [if_pos (by omega), if_pos (by rw [size_append]; omega)]
      refine congrArg some (bs_inj ?_)
      rw [bs_append, bs_append, bs_mk (Lib.decDigits _), bs_mk (Lib.decDigits _), bs_mk (Lib.itoa _), Lib.itoa, if_pos hneg, show (-(m : Int)).natAbs = m by omega, decDigits_big (n := m) (by omega), decDigits_small (n := m % 10) (by omega)]
      simp [bs]
  · rw [if_neg hneg]
    obtain ⟨m, rfl⟩ : ∃ m : Nat, n = (m : Int) := ⟨n.natAbs, by omega⟩
    simp only [bitemporalref07_Number.j0, Bool.false_eq_true, if_false]
    rw [if_neg hneg, num_eq k (by omega) m (by omega)]
    simp only [Option.bind_some]
    rw [Lib.itoa, if_neg hneg, show ((m : Int)).toNat = m by omega]
theorem quote_loop (s : ByteArray) (hs : s.size < 1152921504606846976) : ∀ (d i : Nat) (t : ByteArray) (k : Nat), i + d = s.size → d < k → t.size ≤ 2 * i + 1 →
    bitemporalref07_Quote.l0 k s t (i : Int) = some ⟨(bs t ++ (((bs s).drop i).flatMap dbl ++ [39])).toArray⟩ := by
  intro d
  induction d with
  | zero =>
    intro i t k hi hk ht
    obtain ⟨k, rfl⟩ : ∃ m, k = m + 1 := ⟨k - 1, by omega⟩
    simp only [bitemporalref07_Quote.l0]
    rw [if_neg (by omega), if_pos (by omega), List.drop_of_length_le (by rw [bs_len]; omega)]
    refine congrArg some (bs_inj ?_)
    rw [bs_append, bs_mk (bs t ++ _)]
    rfl
  | succ d ih =>
    intro i t k hi hk ht
    obtain ⟨k, rfl⟩ : ∃ m, k = m + 1 := ⟨k - 1, by omega⟩
    have hl : i < (bs s).length := by rw [bs_len]; omega
    have hx : bs (s.extract i (i + 1)) = [(bs s)[i]] := by rw [bs_extract, bs_drop s i hl, show i + 1 - i = 1 by omega]; rfl
    have hxs : (s.extract i (i + 1)).size = 1 := by rw [← bs_len, hx]; rfl
    have l1 : (⟨#[39]⟩ : ByteArray).size = 1 := rfl
    simp only [bitemporalref07_Quote.l0]
    rw [if_pos (by omega), if_pos (by omega), bt_nat s i hl, w64 (by omega) (by omega), show ((i : Int)).toNat = i by omega, show ((i : Int) + 1).toNat = i + 1 by omega, show ((i : Int) + 1) = ((i + 1 : Nat) : Int) by omega]
    by_cases hc : (bs s)[i] = 39
    · rw [if_pos (by rw [hc]; rfl), if_pos (by omega), if_pos (by omega), if_pos (by omega), if_pos (by rw [size_append]; omega), ih (i + 1) _ k (by omega) (by omega) (by rw [size_append, size_append]; omega)]
      refine congrArg some (bs_inj ?_)
      rw [bs_mk (bs (_ ++ _) ++ _), bs_mk (bs t ++ _), bs_append, bs_append, hx, bs_drop s i hl, List.flatMap_cons, hc]
      simp [dbl, bs]
    · have hc' : ¬ (((bs s)[i]).toNat : Int) = 39 := fun e => hc (UInt8.toNat.inj (by rw [show ((bs s)[i]).toNat = 39 by omega]; rfl))
      rw [if_neg hc', if_pos (by omega), if_pos (by omega), if_pos (by omega), ih (i + 1) _ k (by omega) (by omega) (by rw [size_append]; omega)]
      refine congrArg some (bs_inj ?_)
      rw [bs_mk (bs (_ ++ _) ++ _), bs_mk (bs t ++ _), bs_append, hx, bs_drop s i hl, List.flatMap_cons]
      simp [dbl, hc]
theorem quote_eq (k : Nat) (s : ByteArray) (hs : s.size < 1152921504606846976) (hk : s.size < k) : bitemporalref07_Quote.f k s = some ⟨(quo (bs s)).toArray⟩ := by
  unfold bitemporalref07_Quote.f
  have := quote_loop s hs s.size 0 ⟨#[39]⟩ k (by omega) hk (by decide)
  rw [show ((0 : Nat) : Int) = 0 from rfl] at this
  rw [this]
  rfl
theorem lit_eq' (k : Nat) (hk : 201 < k) (a b : Int) (s : ByteArray) : bitemporalref07_Literal.f k a b s = some ⟨(litS a b s).toArray⟩ := by
  unfold bitemporalref07_Literal.f litS
  rw [valid_eq' k (by omega)]
  cases hv : vl a b s with
  | false => rfl
  | true =>
    simp only [Option.bind_some, if_true, null_eq', bool_eq', toList_bs]
    have e : bs e0 = [] := rfl
    rcases vl_kind hv with rfl | rfl | rfl | rfl
    · obtain ⟨rfl, rfl⟩ := vl_null hv
      simp
    · obtain ⟨rfl, hb0, hb1⟩ := vl_int hv
      simp [bl]
      rw [num07_eq k (by omega) b (by omega) (by omega)]
    · obtain ⟨rfl, hz, _⟩ := vl_text hv
      simp [bl]
      rw [quote_eq k s (by omega) (by omega)]
    · obtain ⟨rfl, rfl | rfl⟩ := vl_bool hv <;> simp [bl]
/-! ### The reference's reading -/
def uq (m : List UInt8) : Option (List UInt8) := match inner m with | some t => if prn t then some t else none | none => none
theorem uq_loop (s : ByteArray) (hs : s.size < 4611686018427387904) : ∀ (d i : Nat) (t : ByteArray) (k : Nat), i + d ≤ s.size → s.size ≤ i + d → d + s.size + 1 < k → t.size ≤ i →
    ∃ x : ByteArray × Bool, bitemporalref07_unquote.l0 k t s (i : Int) = some x ∧ x.2 = ((inner ((bs s).drop i)).map fun r => prn (bs t ++ r)).getD false ∧ (x.2 = true → some (bs x.1) = (inner ((bs s).drop i)).map fun r => bs t ++ r) := by
  intro d
  induction d using Nat.strongRecOn with
  | _ d ih =>
  intro i t k hi hi' hk ht
  obtain ⟨k, rfl⟩ : ∃ m, k = m + 1 := ⟨k - 1, by omega⟩
  have hb := bs_len s
  by_cases hd : d = 0
  · simp only [bitemporalref07_unquote.l0]
    rw [if_neg (by omega), List.drop_of_length_le (by omega), prn_eq' t (by omega) k (by omega)]
    exact ⟨_, rfl, by simp [inner], fun _ => by simp [inner]⟩
  have hl : i < (bs s).length := by omega
  have hx1 : ∀ j, j < (bs s).length → ∃ c, (bs s).drop j = c :: (bs s).drop (j + 1) ∧ bt s (j : Int) = (c.toNat : Int) ∧ bs (s.extract j (j + 1)) = [c] ∧ (s.extract j (j + 1)).size = 1 := by
    intro j hj
    have hx : bs (s.extract j (j + 1)) = [(bs s)[j]] := by rw [bs_extract, bs_drop s j hj, show j + 1 - j = 1 by omega]; rfl
    exact ⟨(bs s)[j], bs_drop s j hj, bt_nat s j hj, hx, by rw [← bs_len, hx]; rfl⟩
  obtain ⟨c, hc1, hc2, hc3, hc4⟩ := hx1 i hl
  simp only [bitemporalref07_unquote.l0]
  rw [if_pos (by omega), if_pos (by omega), hc2, w64 (n := (i : Int) + 1) (by omega) (by omega), hc1]
  by_cases hc : c = 39
  · subst hc
    rw [if_pos (by decide)]
    by_cases hd1 : d = 1
    · rw [if_pos (by omega), List.drop_of_length_le (by omega)]
      exact ⟨_, rfl, by simp [inner], fun h => by simp at h⟩
    · obtain ⟨e, he1, he2, he3, he4⟩ := hx1 (i + 1) (by omega)
      rw [if_neg (by omega), if_pos (by omega), if_pos (by omega), show ((i : Int) + 1) = ((i + 1 : Nat) : Int) by omega, he2, he1]
      by_cases he : e = 39
      · subst he
        rw [if_pos (by decide), w64 (by omega) (by omega), show (((i + 1 : Nat) : Int) + 1) = ((i + 1 + 1 : Nat) : Int) by omega]
        simp only [Int.toNat_natCast]
        rw [if_pos (by omega), if_pos (by omega), if_pos (by omega)]
        obtain ⟨x, h1, h2, h3⟩ := ih (d - 2) (by omega) (i + 1 + 1) (t ++ s.extract (i + 1) (i + 1 + 1)) k (by omega) (by omega) (by omega) (by rw [size_append]; omega)
        refine ⟨x, h1, ?_, ?_⟩
        · rw [h2, bs_append, he3]
          simp only [inner, if_true]
          cases inner ((bs s).drop (i + 1 + 1)) <;> simp
        · intro hx
          rw [h3 hx, bs_append, he3]
          simp only [inner, if_true]
          cases inner ((bs s).drop (i + 1 + 1)) <;> simp
      · have he' : ¬ (e.toNat : Int) = 39 := fun z => he (UInt8.toNat.inj (by rw [show e.toNat = 39 by omega]; rfl))
        rw [if_neg he']
        exact ⟨_, rfl, by simp [inner, he], fun h => by simp at h⟩
  · have hc' : ¬ (c.toNat : Int) = 39 := fun z => hc (UInt8.toNat.inj (by rw [show c.toNat = 39 by omega]; rfl))
    rw [if_neg hc', show ((i : Int) + 1) = ((i + 1 : Nat) : Int) by omega]
    simp only [Int.toNat_natCast]
    rw [if_pos (by omega), if_pos (by omega), if_pos (by omega)]
    obtain ⟨x, h1, h2, h3⟩ := ih (d - 1) (by omega) (i + 1) (t ++ s.extract i (i + 1)) k (by omega) (by omega) (by omega) (by rw [size_append]; omega)
    have hin : inner (c :: (bs s).drop (i + 1)) = (inner ((bs s).drop (i + 1))).map (c :: ·) := by
      cases (bs s).drop (i + 1) with
      | nil => simp [inner, hc]
      | cons a l => simp [inner, hc]
    refine ⟨x, h1, ?_, ?_⟩
    · rw [h2, bs_append, hc3, hin]
      cases inner ((bs s).drop (i + 1)) <;> simp
    · intro hx
      rw [h3 hx, bs_append, hc3, hin]
      cases inner ((bs s).drop (i + 1)) <;> simp
theorem unquote_eq (k : Nat) (s : ByteArray) (hs : s.size < 4611686018427387904) (hk : 2 * s.size + 3 < k) :
    ∃ x : ByteArray × Bool, bitemporalref07_unquote.f k s = some x ∧
      (∀ m, bs s = 39 :: (m ++ [39]) → x.2 = (uq m).isSome ∧ (x.2 = true → some (bs x.1) = uq m)) ∧ ((∀ m, bs s ≠ 39 :: (m ++ [39])) → x.2 = false) := by
  obtain ⟨k, rfl⟩ : ∃ m, k = m + 1 := ⟨k - 1, by omega⟩
  have hb := bs_len s
  unfold bitemporalref07_unquote.f
  have hj : ∀ m, bs s = 39 :: (m ++ [39]) → False ∨ True := fun _ _ => Or.inr trivial
  clear hj
  by_cases h2 : (s.size : Int) < 2
  · rw [if_pos h2]
    simp only [bitemporalref07_unquote.j0, if_true]
    refine ⟨_, rfl, fun m hm => ?_, fun _ => rfl⟩
    rw [hm] at hb; simp at hb; omega
  rw [if_neg h2, if_pos (by omega)]
  cases hl : bs s with
  | nil => rw [hl] at hb; simp at hb; omega
  | cons c r =>
    have hb0 : bt s 0 = (c.toNat : Int) := by
      have := bt_nat s 0 (by rw [hl]; simp)
      rw [show ((0 : Nat) : Int) = 0 from rfl] at this
      rw [this]; simp [hl]
    have hz : s.size = r.length + 1 := by rw [← hb, hl]; simp
    rw [hb0]
    by_cases hc : c = 39
    · subst hc
      rw [if_pos (by decide), w64 (by omega) (by omega), if_pos (by omega), if_pos (by omega), show ((s.size : Int) - 1) = ((s.size - 1 : Nat) : Int) by omega, bt_nat s (s.size - 1) (by omega)]
      have hr : r ≠ [] := fun e => by subst e; simp at hz; omega
      have hlast : (bs s)[s.size - 1]'(by omega) = r.getLast hr := by
        have h1 : (bs s)[s.size - 1]? = r.getLast? := by
          rw [hl, hz, Nat.add_sub_cancel, List.getLast?_eq_getElem?]
          cases hrl : r.length with
          | zero => exact absurd (List.length_eq_zero_iff.1 hrl) hr
          | succ n => simp
        rw [List.getElem?_eq_getElem (by omega), List.getLast?_eq_some_getLast hr] at h1
        exact Option.some.inj h1
      rw [hlast]
      have hcat := List.dropLast_concat_getLast hr
      by_cases he : r.getLast hr = 39
      · rw [he] at hcat ⊢
        rw [show (((39 : UInt8).toNat : Int) != 39) = false from rfl]
        simp only [bitemporalref07_unquote.j0, Bool.false_eq_true, if_false]
        rw [w64 (by omega) (by omega), if_pos (by omega), if_pos (by omega), show ((s.size : Int) - 1).toNat = s.size - 1 by omega]
        have hx : bs (s.extract 1 (s.size - 1)) = r.dropLast := by
          rw [bs_extract, hl, hz, ← hcat]; simp
        have hxz : (s.extract 1 (s.size - 1)).size = s.size - 2 := by rw [← bs_len, hx, List.length_dropLast]; omega
        obtain ⟨x, h1, h2', h3⟩ := uq_loop (s.extract 1 (s.size - 1)) (by omega) (s.size - 2) 0 ⟨#[]⟩ k (by omega) (by omega) (by omega) (by decide)
        rw [show ((0 : Nat) : Int) = 0 from rfl] at h1
        rw [hx] at h2' h3
        refine ⟨x, h1, ?_, ?_⟩
        · intro m hm
          have hmr : m = r.dropLast := by
            have := (List.cons.inj hm).2
            rw [this]; simp
          subst hmr
          rw [List.drop_zero] at h2' h3
          have e3 : bs (⟨#[]⟩ : ByteArray) = [] := rfl
          rw [e3] at h2' h3
          unfold uq
          cases hi : inner r.dropLast with
          | none => rw [hi] at h2'; simp at h2'; exact ⟨by simp [h2'], fun hh => by rw [h2'] at hh; simp at hh⟩
          | some t =>
            rw [hi] at h2' h3; simp at h2' h3
            cases hp : prn t with
            | false => rw [hp] at h2'; simp [h2', hp]
            | true => rw [hp] at h2'; simp [h2', hp, h3 h2']
        · intro hno
          exact absurd (by rw [hcat]) (hno r.dropLast)
      · have he' : (((r.getLast hr).toNat : Int) != 39) = true := by
          simp only [bne_iff_ne]
          exact fun z => he (UInt8.toNat.inj (by rw [show (r.getLast hr).toNat = 39 by omega]; rfl))
        rw [he']
        simp only [bitemporalref07_unquote.j0, if_true]
        refine ⟨_, rfl, fun m hm => ?_, fun _ => rfl⟩
        exfalso
        have := (List.cons.inj hm).2
        subst this
        exact he (by simp)
    · have hc' : ¬ (c.toNat : Int) = 39 := fun z => hc (UInt8.toNat.inj (by rw [show c.toNat = 39 by omega]; rfl))
      rw [if_neg hc']
      simp only [bitemporalref07_unquote.j0, if_true]
      exact ⟨_, rfl, fun m hm => absurd (List.cons.inj hm).1 hc, fun _ => rfl⟩
theorem mn_cap (a : Int) : mn a 1125899906842625 = if a > 1125899906842624 then 1125899906842625 else a := by
  unfold mn
  by_cases h : 1125899906842625 < a
  · rw [if_pos h, if_pos (by omega)]
  · rw [if_neg h]
    split
    · omega
    · rfl
def okS (o : Option Int) : Int × Bool := match o with | none => (0, false) | some n => (n, true)
theorem refnum_loop (s : ByteArray) (hs : s.size < 4611686018427387904) : ∀ (d i k : Nat) (n : Int), i + d = s.size → 2 * d < k → 0 ≤ n → n ≤ 1125899906842625 →
    bitemporalref07_number.l0 k s n (i : Int) = some (okS (numS ((bs s).drop i) n)) := by
  intro d
  induction d with
  | zero =>
    intro i k n hi hk h0 h1
    obtain ⟨k, rfl⟩ : ∃ m, k = m + 1 := ⟨k - 1, by omega⟩
    simp only [bitemporalref07_number.l0]
    rw [if_neg (by omega), List.drop_of_length_le (by rw [bs_len]; omega)]
    rfl
  | succ d ih =>
    intro i k n hi hk h0 h1
    obtain ⟨k, rfl⟩ : ∃ m, k = m + 2 := ⟨k - 2, by omega⟩
    have hl : i < (bs s).length := by rw [bs_len]; omega
    simp only [bitemporalref07_number.l0]
    rw [if_pos (by omega), if_pos (by omega), bt_nat s i hl, bs_drop s i hl]
    have hbt := bt_nat s i hl
    have hc := ((bs s)[i]).toNat_lt
    revert hbt
    generalize (bs s)[i] = c at hc ⊢
    intro hbt
    simp only [numS]
    by_cases h2 : c.toNat < 48
    · rw [if_pos (by omega), dig_no (by omega)]; simp [bitemporalref07_number.j2, okS]
    · rw [if_neg (by omega)]
      by_cases h3 : c.toNat > 57
      · rw [decide_eq_true (show (c.toNat : Int) > 57 by omega), dig_no (by omega)]; simp [bitemporalref07_number.j2, okS]
      · rw [decide_eq_false (show ¬ (c.toNat : Int) > 57 by omega), if_pos (dig_yes (by omega) (by omega))]
        simp only [bitemporalref07_number.j2, Bool.false_eq_true, if_false]
        rw [if_pos (by omega), if_pos (by omega), hbt, show ((c.toNat : Int) - 48) % 256 = (c.toNat : Int) - 48 by omega, w64 (n := n * 10) (by omega) (by omega), w64 (n := n * 10 + _) (by omega) (by omega), w64 (n := (i : Int) + 1) (by omega) (by omega),
          show ((i : Int) + 1) = ((i + 1 : Nat) : Int) by omega, mn_cap, show 10 * n = n * 10 by omega]
        split
        · exact ih (i + 1) k _ (by omega) (by omega) (by omega) (by omega)
        · exact ih (i + 1) k _ (by omega) (by omega) (by omega) (by omega)
def numOk (l : List UInt8) : Option Int := if l = [] ∨ (l.head? = some 48 ∧ 1 < l.length) then none else numS l 0
theorem refnum_eq (k : Nat) (s : ByteArray) (hs : s.size < 4611686018427387904) (hk : 2 * s.size + 2 < k) : bitemporalref07_number.f k s = some (okS (numOk (bs s))) := by
  obtain ⟨k, rfl⟩ : ∃ m, k = m + 1 := ⟨k - 1, by omega⟩
  have hb := bs_len s
  have hj : ∀ b : Bool, bitemporalref07_number.j0 (k + 1) s b = some (if b = true then (0, false) else okS (numS (bs s) 0)) := by
    intro b
    simp only [bitemporalref07_number.j0]
    cases b with
    | true => rfl
    | false =>
      have := refnum_loop s (by omega) s.size 0 k 0 (by omega) (by omega) (by omega) (by omega)
      rw [show ((0 : Nat) : Int) = 0 from rfl] at this
      simpa using this
  unfold bitemporalref07_number.f numOk
  rw [toList_bs]
  cases hl : bs s with
  | nil => rw [if_pos rfl, hj]; simp [okS]
  | cons c l =>
    rw [hl] at hb hj
    simp at hb
    rw [if_neg (by simp), if_pos (by omega)]
    have hbt : bt s 0 = (c.toNat : Int) := by
      have := bt_nat s 0 (by rw [hl]; simp)
      rw [show ((0 : Nat) : Int) = 0 from rfl] at this
      rw [this]; simp [hl]
    rw [hbt]
    by_cases hc : c = 48
    · subst hc
      rw [if_pos (by decide), hj, ← hb]
      have e7 : (1 < (l.length : Int) + 1) ↔ (0 < l.length) := by omega
      simp only [e7, gt_iff_lt, Int.natCast_add, Int.cast_ofNat_Int, decide_eq_true_eq]
      by_cases h1 : 0 < l.length
      · simp [h1, okS]
      · simp [h1]
    · rw [if_neg (fun e => hc (UInt8.toNat.inj (by rw [show c.toNat = 48 by omega]; rfl))), hj]
      simp [hc]
theorem numS_pos : ∀ (l : List UInt8) (n m : Int), numS l n = some m → 1 ≤ n → 1 ≤ m
  | [], n, m, h, hn => by simp [numS] at h; omega
  | c :: l, n, m, h, hn => by
    simp only [numS] at h
    by_cases hd : dig c = true
    · rw [if_pos hd] at h
      have hd' : 48 ≤ c.toNat := by simp [dig] at hd; exact hd.1
      exact numS_pos l _ m h (mn_ge (by omega) (by omega))
    · rw [if_neg hd] at h; cases h
theorem numS_range : ∀ (l : List UInt8) (n m : Int), numS l n = some m → 0 ≤ n → n ≤ 1125899906842625 → 0 ≤ m ∧ m ≤ 1125899906842625
  | [], n, m, h, hn, hn' => by simp [numS] at h; omega
  | c :: l, n, m, h, hn, hn' => by
    simp only [numS] at h
    by_cases hd : dig c = true
    · rw [if_pos hd] at h
      have hd' : 48 ≤ c.toNat := by simp [dig] at hd; exact hd.1
      exact numS_range l _ m h (mn_ge (by omega) (by omega)) (mn_le _ _).1
    · rw [if_neg hd] at h; cases h
/-- The two ways to read a signed number agree. -/
theorem intS_ok (neg : Bool) (l : List UInt8) : intS neg l = match numOk l with | none => er 1 | some n => if neg = true ∧ n = 0 then er 1 else fin neg (some n) := by
  unfold intS numOk
  cases l with
  | nil => simp
  | cons c l =>
    by_cases hc : c = 48
    · subst hc
      by_cases h1 : 0 < l.length
      · simp [h1]
      · have : l = [] := List.eq_nil_of_length_eq_zero (by omega)
        subst this
        have : numS [48] 0 = some 0 := by decide
        cases neg <;> simp [this]
    · simp [hc]
      cases hn : numS (c :: l) 0 with
      | none => rfl
      | some n =>
        have hpos : n ≠ 0 := by
          simp only [numS] at hn
          by_cases hd : dig c = true
          · rw [if_pos hd] at hn
            have hd' : 48 ≤ c.toNat := by simp [dig] at hd; exact hd.1
            have hne : c.toNat ≠ 48 := fun e => hc (UInt8.toNat.inj (by rw [e]; rfl))
            have := numS_pos l _ n hn (mn_ge (by omega) (by omega))
            omega
          · rw [if_neg hd] at hn; cases hn
        simp [hpos]
theorem orN_int {n : Int} (h0 : -1125899906842624 ≤ n) (h1 : n ≤ 1125899906842624) : orN 1 n e0 = (1, n, e0) := by
  have h2 : vl 1 n e0 = true := by
    unfold vl
    rw [if_neg (by decide), if_pos rfl, decide_eq_true h0, decide_eq_true h1]; rfl
  unfold orN; rw [h2]; rfl
theorem orN_text {s : ByteArray} (h0 : s.size ≤ 200) (h1 : prn (bs s) = true) : orN 2 0 s = (2, 0, s) := by
  have h2 : vl 2 0 s = true := by
    unfold vl
    rw [if_neg (by decide), if_neg (by decide), if_pos rfl, decide_eq_true h0, h1]; rfl
  unfold orN; rw [h2]; rfl
theorem j1_eq (k : Nat) (s : ByteArray) (neg : Bool) (hs : s.size < 4611686018427387904) (hk : 2 * s.size + 210 < k) : bitemporalref07_Parse.j1 k s neg = some (intS neg (bs s)) := by
  obtain ⟨k, rfl⟩ : ∃ m, k = m + 2 := ⟨k - 2, by omega⟩
  rw [bitemporalref07_Parse.j1, refnum_eq _ s hs (by omega), intS_ok]
  simp only [Option.bind_some]
  cases hn : numOk (bs s) with
  | none => simp [okS, bitemporalref07_Parse.j2, er, e0]
  | some n =>
    have hr : 0 ≤ n ∧ n ≤ 1125899906842625 := by
      unfold numOk at hn
      split at hn
      · cases hn
      · exact numS_range _ _ _ hn (by omega) (by omega)
    cases neg with
    | false =>
      simp only [okS, if_true, Bool.false_eq_true, if_false, false_and, bitemporalref07_Parse.j2, fin]
      by_cases hb : n > 1125899906842624
      · rw [if_pos hb, if_pos hb]; rfl
      · rw [if_neg hb, if_neg hb, int_eq' k (by omega), orN_int (by omega) (by omega)]; rfl
    | true =>
      simp only [okS, if_true, true_and, bitemporalref07_Parse.j2, fin]
      by_cases h0 : n = 0
      · subst h0; rfl
      · rw [if_neg (by simpa using h0), if_neg h0]
        by_cases hb : n > 1125899906842624
        · rw [if_pos hb, if_pos hb]; rfl
        · rw [if_neg hb, if_neg hb, w64 (by omega) (by omega), int_eq' k (by omega), orN_int (by omega) (by omega)]; rfl
theorem j0_eq (k : Nat) (s : ByteArray) (neg : Bool) (hs : s.size < 4611686018427387904) (hk : 2 * s.size + 211 < k) (hneg : neg = true → 1 ≤ s.size) :
    bitemporalref07_Parse.j0 k s neg = some (intS neg (if neg = true then (bs s).drop 1 else bs s)) := by
  obtain ⟨k, rfl⟩ : ∃ m, k = m + 1 := ⟨k - 1, by omega⟩
  rw [bitemporalref07_Parse.j0]
  cases neg with
  | false => simp only [Bool.false_eq_true, if_false]; exact j1_eq k s false hs (by omega)
  | true =>
    have h1 := hneg rfl
    have hx : bs (s.extract 1 s.size) = (bs s).drop 1 := by
      rw [bs_extract, List.take_of_length_le (by rw [List.length_drop, bs_len]; exact Nat.le_refl _)]
    have hxz : (s.extract 1 s.size).size = s.size - 1 := by rw [← bs_len, hx, List.length_drop, bs_len]
    rw [if_pos rfl, if_pos (by omega), j1_eq k _ true (by omega) (by omega), hx]
    rfl
theorem intS_quote (r : List UInt8) : intS false (39 :: r) = er 1 := by
  unfold intS
  rw [if_neg (by simp)]
  simp only [numS, dig_no (c := 39) (by decide), Bool.false_eq_true, if_false]
  rfl
theorem parse_eq' (k : Nat) (s : ByteArray) (hs : s.size < 4611686018427387904) (hk : 2 * s.size + 300 < k) : bitemporalref07_Parse.f k s = some (parS (bs s)) := by
  unfold bitemporalref07_Parse.f parS
  simp only [toList_bs]
  by_cases h1 : bs s = [78, 85, 76, 76]
  · rw [if_pos h1, if_pos h1]; rfl
  rw [if_neg h1, if_neg h1]
  by_cases h2 : bs s = [84, 82, 85, 69]
  · rw [if_pos h2, if_pos h2]; rfl
  rw [if_neg h2, if_neg h2]
  by_cases h3 : bs s = [70, 65, 76, 83, 69]
  · rw [if_pos h3, if_pos h3]; rfl
  rw [if_neg h3, if_neg h3]
  have hb := bs_len s
  obtain ⟨x, hx1, hx2, hx3⟩ := unquote_eq k s hs (by omega)
  rw [hx1]
  simp only [Option.bind_some]
  have htail : x.2 = false → ∀ r4 : R4, (match bs s with | c :: r => if c = 39 then er 1 else intS (signed (bs s)).1 (signed (bs s)).2 | [] => intS (signed (bs s)).1 (signed (bs s)).2) = r4 →
      (if bs s = ([] : List UInt8) then bitemporalref07_Parse.j0 k s false else if 0 < (s.size : Int) then bitemporalref07_Parse.j0 k s (bt s 0 == 45) else none) = some r4 := by
    intro _ r4 hr
    cases hl : bs s with
    | nil =>
      rw [if_pos rfl, j0_eq k s false hs (by omega) (by simp)]
      rw [hl] at hr ⊢
      rw [← hr]; rfl
    | cons c r =>
      rw [hl] at hb hr
      simp at hb
      rw [if_neg (by simp), if_pos (by omega)]
      have hbt : bt s 0 = (c.toNat : Int) := by
        have := bt_nat s 0 (by rw [hl]; simp)
        rw [show ((0 : Nat) : Int) = 0 from rfl] at this
        rw [this]; simp [hl]
      rw [hbt]
      by_cases hc : c = 45
      · subst hc
        rw [show (((45 : UInt8).toNat : Int) == 45) = true from rfl, j0_eq k s true hs (by omega) (fun _ => by omega), ← hr, hl]
        rfl
      · have hc' : ((c.toNat : Int) == 45) = false := by
          simp only [beq_eq_false_iff_ne]
          exact fun e => hc (UInt8.toNat.inj (by rw [show c.toNat = 45 by omega]; rfl))
        rw [hc', j0_eq k s false hs (by omega) (by simp), ← hr, hl]
        simp only [Bool.false_eq_true, if_false]
        by_cases hq : c = 39
        · subst hq
          rw [if_pos rfl, intS_quote]
        · simp only [if_neg hq, signed, if_neg hc]
  by_cases hq : ∃ m, bs s = 39 :: (m ++ [39])
  · obtain ⟨m, hm⟩ := hq
    obtain ⟨ha, hb'⟩ := hx2 m hm
    have hlast : (m ++ [39]).getLast? = some (39 : UInt8) := by simp
    have hdl : (m ++ [39]).dropLast = m := by simp
    have hmz : s.size = m.length + 2 := by rw [← hb, hm]; simp
    cases hu : uq m with
    | none =>
      rw [hu] at ha
      have ha' : x.2 = false := ha
      rw [if_neg (by rw [ha']; simp)]
      refine htail ha' _ ?_
      rw [hm]
      simp only [if_true, hlast, hdl, txtS]
      unfold uq at hu
      cases hi : inner m with
      | none => split <;> rfl
      | some t =>
        rw [hi] at hu
        have hp := (inner_some m t hi).2.2.1
        cases hpt : prn t with
        | true => simp [hpt] at hu
        | false => rw [hpt] at hp; rw [← hp]; rfl
    | some t =>
      rw [hu] at ha hb'
      have ha' : x.2 = true := ha
      have hxt : bs x.1 = t := Option.some.inj (hb' ha')
      rw [if_pos ha', hm]
      simp only [if_true, hlast, hdl, txtS]
      unfold uq at hu
      cases hi : inner m with
      | none => rw [hi] at hu; cases hu
      | some t' =>
        rw [hi] at hu
        obtain ⟨_, _, hp, _, hlen⟩ := inner_some m t' hi
        cases hpt : prn t' with
        | false => simp [hpt] at hu
        | true =>
          simp [hpt] at hu
          subst hu
          rw [hpt] at hp
          rw [← hp]
          simp only [if_true]
          have hxs : x.1.size = t'.length := by rw [← bs_len, hxt]
          rw [hxs]
          by_cases hz : t'.length ≤ 200
          · rw [if_neg (by omega), if_pos hz, text_eq' k (by omega), orN_text (by omega) (by rw [hxt]; exact hpt)]
            simp only [Option.bind_some]
            refine congrArg some ?_
            have : x.1 = ⟨t'.toArray⟩ := bs_inj (by rw [hxt, bs_mk])
            rw [this]
          · rw [if_pos (by omega), if_neg hz]; rfl
  · have hx0 := hx3 (fun m hm => hq ⟨m, hm⟩)
    rw [if_neg (by rw [hx0]; simp)]
    refine htail hx0 _ ?_
    cases hl : bs s with
    | nil => rfl
    | cons c r =>
      by_cases hc : c = 39
      · subst hc
        simp only [if_true]
        have : ¬ r.getLast? = some 39 := fun e => by
          obtain ⟨m, hm⟩ := (last_iff r).1 e
          exact hq ⟨m, by rw [hl, hm]⟩
        rw [if_neg this]
      · simp only [if_neg hc]
theorem pure_Literals (a b : Int) (s t : ByteArray) : bitemporallaw07_ValueLiterals.f 6000 a b s t = some true := by
  unfold bitemporallaw07_ValueLiterals.f
  have hj : bitemporallaw07_ValueLiterals.j0 6000 t true a b s = some true := by
    simp only [bitemporallaw07_ValueLiterals.j0, if_true, awake_eq 5999 (by omega), Option.bind_some]
  by_cases h1 : (s.size : Int) > 2000
  · rw [if_pos h1, hj]
  rw [if_neg h1]
  by_cases h2 : (t.size : Int) > 2000
  · rw [decide_eq_true h2, hj]
  rw [decide_eq_false h2]
  simp only [bitemporallaw07_ValueLiterals.j0, Bool.false_eq_true, if_false]
  rw [parse_eq 5999 t (by omega) (by omega), parse_eq' 5999 t (by omega) (by omega), lit_eq 5999 (by omega), lit_eq' 5999 (by omega), awake_eq 5999 (by omega)]
  simp only [Option.bind_some, beq_self_eq_true, Bool.and_self, if_true]
end Go.Proofs.YtoopomkeigjekaaDoor.X
