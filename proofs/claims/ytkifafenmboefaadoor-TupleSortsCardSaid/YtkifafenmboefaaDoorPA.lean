/- Plain lemmas about values: bytes, comparisons, validity, construction (lists of bytes and numbers alone). Conditions: those in each lemma. / Plain lemmas about values' literals (lists of bytes alone). Conditions: those in each lemma. / Plain lemmas of the tuple chapter: what rows' comparison is; that the chapter's examples come out as said. Conditions: those in each lemma. -/
import Derived.Test.YtkifafenmboefaaDoorX19
import Derived.Test.YtkifafenmboefaaDoorX4
import Derived.Test.YtkifafenmboefaaDoorX3
import Derived.Test.YtkifafenmboefaaDoorX14
import Derived.Test.YtkifafenmboefaaDoorX20
import Derived.Test.YtkifafenmboefaaDoorX21
import Derived.Test.YtkifafenmboefaaDoorX2
import Derived.Test.YtkifafenmboefaaDoorX11
import Derived.Test.YtkifafenmboefaaDoorH3
namespace Go.Proofs.YtkifafenmboefaaDoor.X
open Go.RowKit Go.Proofs.YtkifafenmboefaaDoorW.PrintWords Go.Proofs.YtkifafenmboefaaDoorW.PrintLast Go.Proofs.YtkifafenmboefaaDoorW.PrintMore
set_option linter.unusedVariables false
set_option linter.unusedSimpArgs false
/-! ### Bytes -/
def bs (s : ByteArray) : List UInt8 := s.data.toList
theorem bs_len (s : ByteArray) : (bs s).length = s.size := Array.length_toList
theorem toList_bs (s : ByteArray) : s.toList = bs s := ByteArray.toList_eq s
theorem bs_inj {a b : ByteArray} (h : bs a = bs b) : a = b := ByteArray.ext (Array.toList_inj.1 h)
theorem bs_mk (l : List UInt8) : bs ⟨l.toArray⟩ = l := by simp [bs]
theorem mk_bs (s : ByteArray) : (⟨(bs s).toArray⟩ : ByteArray) = s := bs_inj (by simp [bs])
theorem bs_append (a b : ByteArray) : bs (a ++ b) = bs a ++ bs b := by simp [bs, ByteArray.data_append]
theorem size_append (a b : ByteArray) : (a ++ b).size = a.size + b.size := by rw [← bs_len, bs_append, List.length_append, bs_len, bs_len]
theorem bt_nat (s : ByteArray) (i : Nat) (h : i < (bs s).length) : bt s (i : Int) = (((bs s)[i]).toNat : Int) := by
  have h' : i < s.size := by rw [bs_len] at h; exact h
  unfold bt
  rw [dif_pos (show (i : Int).toNat < s.size by omega)]
  simp [bs, ByteArray.getElem_eq_getElem_data]
theorem w64 {n : Int} (h0 : -9223372036854775808 ≤ n) (h1 : n < 9223372036854775808) : wrap64 n = n := by unfold wrap64; omega
theorem bs_drop (s : ByteArray) (i : Nat) (h : i < (bs s).length) : (bs s).drop i = (bs s)[i] :: (bs s).drop (i + 1) := List.drop_eq_getElem_cons h
/-! ### Printable texts -/
def inR (c : UInt8) : Bool := decide (32 ≤ c.toNat) && decide (c.toNat ≤ 126)
def prn (l : List UInt8) : Bool := l.all inR
theorem prn_step (c : UInt8) (l : List UInt8) : (if (c.toNat : Int) < 32 then some false else if (c.toNat : Int) > 126 then some false else some (prn l)) = some (prn (c :: l)) := by
  simp only [prn, List.all_cons, inR]
  by_cases h1 : c.toNat < 32
  · rw [if_pos (by omega), decide_eq_false (show ¬ 32 ≤ c.toNat by omega)]; rfl
  · rw [if_neg (by omega), decide_eq_true (show 32 ≤ c.toNat by omega)]
    by_cases h2 : 126 < c.toNat
    · rw [if_pos (by omega), decide_eq_false (show ¬ c.toNat ≤ 126 by omega)]; rfl
    · rw [if_neg (by omega), decide_eq_true (show c.toNat ≤ 126 by omega)]; rfl
theorem prn_loop (s : ByteArray) (hs : s.size < 4611686018427387904) : ∀ (d i k : Nat), i + d = s.size → d < k → value_printable.l0 k s (s.size : Int) (i : Int) = some (prn ((bs s).drop i)) := by
  intro d
  induction d with
  | zero =>
    intro i k hi hk
    obtain ⟨k, rfl⟩ : ∃ m, k = m + 1 := ⟨k - 1, by omega⟩
    simp only [value_printable.l0]
    rw [if_neg (by omega), List.drop_of_length_le (by rw [bs_len]; omega)]
    rfl
  | succ d ih =>
    intro i k hi hk
    obtain ⟨k, rfl⟩ : ∃ m, k = m + 1 := ⟨k - 1, by omega⟩
    have hl : i < (bs s).length := by rw [bs_len]; omega
    simp only [value_printable.l0]
    rw [if_pos (by omega), if_pos (by omega), if_pos (by omega), bt_nat s i hl, w64 (by omega) (by omega), show ((i : Int) + 1) = ((i + 1 : Nat) : Int) by omega, ih (i + 1) k (by omega) (by omega), bs_drop s i hl]
    exact prn_step _ _
theorem prn_eq (s : ByteArray) (hs : s.size < 4611686018427387904) (k : Nat) (hk : s.size < k) : value_printable.f k s = some (prn (bs s)) := by
  have := prn_loop s hs s.size 0 k (by omega) hk
  simpa [value_printable.f] using this
/-! ### Values -/
def vl (a b : Int) (s : ByteArray) : Bool :=
  if a = 0 then decide (b = 0) && (bs s).isEmpty
  else if a = 1 then (bs s).isEmpty && (decide (-1125899906842624 ≤ b) && decide (b ≤ 1125899906842624))
  else if a = 2 then decide (b = 0) && (decide (s.size ≤ 200) && prn (bs s))
  else if a = 3 then (bs s).isEmpty && (decide (b = 0) || decide (b = 1)) else false
theorem valid_eq (k : Nat) (hk : 200 < k) (a b : Int) (s : ByteArray) : value_Valid.f k a b s = some (vl a b s) := by
  unfold value_Valid.f vl
  simp only [toList_bs]
  by_cases h0 : a = 0
  · subst h0
    by_cases hb : b = 0 <;> simp [hb]
  by_cases h1 : a = 1
  · subst h1
    by_cases hs : bs s = [] <;> by_cases hb : -1125899906842624 ≤ b <;> simp [hs, hb]
  by_cases h2 : a = 2
  · subst h2
    by_cases hb : b = 0 <;> simp [hb]
    by_cases hz : s.size ≤ 200
    · rw [if_pos (by omega), prn_eq s (by omega) k (by omega)]; simp [hz]
    · rw [if_neg (by omega)]; simp [hz]
  by_cases h3 : a = 3
  · subst h3
    by_cases hs : bs s = [] <;> by_cases hb : b = 0 <;> simp [hs, hb]
    by_cases hb1 : b = 1 <;> simp [hb1]
  simp [h0, h1, h2, h3]
def e0 : ByteArray := ⟨#[]⟩
def orN (a b : Int) (s : ByteArray) : Int × Int × ByteArray := if vl a b s then (a, b, s) else (0, 0, e0)
theorem orNull_eq (k : Nat) (hk : 200 < k) (a b : Int) (s : ByteArray) : value_orNull.f k a b s = some (orN a b s) := by
  unfold value_orNull.f orN
  rw [valid_eq k hk]
  cases vl a b s <;> simp [value_Null.f, e0]
theorem int_eq (k : Nat) (hk : 200 < k) (n : Int) : value_Int.f k n = some (orN 1 n e0) := by
  unfold value_Int.f; rw [show (⟨#[]⟩ : ByteArray) = e0 from rfl, orNull_eq k hk]; rfl
theorem text_eq (k : Nat) (hk : 200 < k) (s : ByteArray) : value_Text.f k s = some (orN 2 0 s) := by
  unfold value_Text.f; rw [orNull_eq k hk]; rfl
theorem null_eq : value_Null.f = some (0, 0, e0) := rfl
/-! ### Comparisons -/
theorem bytesLess_cmp : ∀ a b : List UInt8, Lib.compareBytes a b = if Op.bytesLess a b = true then -1 else if Op.bytesLess b a = true then 1 else 0
  | [], [] => rfl
  | [], _ :: _ => rfl
  | _ :: _, [] => rfl
  | x :: a, y :: b => by
    have ih := bytesLess_cmp a b
    simp only [Lib.compareBytes, Op.bytesLess]
    by_cases h1 : x < y
    · simp [h1]
    · by_cases h2 : y < x
      · have hne : ¬ x = y := fun e => by subst e; exact h1 h2
        simp [h1, h2, hne]
      · have : x = y := by have := UInt8.le_antisymm (UInt8.not_lt.1 h2) (UInt8.not_lt.1 h1); exact this
        subst this
        simp [h1, ih]
theorem bytesLess_gtr : ∀ a b : List UInt8, (!Op.bytesLess a b && !(a == b)) = Op.bytesLess b a
  | [], [] => rfl
  | [], _ :: _ => rfl
  | _ :: _, [] => rfl
  | x :: a, y :: b => by
    have ih := bytesLess_gtr a b
    simp only [Op.bytesLess]
    by_cases h1 : x < y
    · have h2 : ¬ y < x := fun h => absurd (UInt8.lt_trans h1 h) (UInt8.lt_irrefl _)
      have h3 : ¬ y = x := fun e => by subst e; exact h2 h1
      simp [h1, h2, h3]
    · by_cases h2 : y < x
      · have hne : ¬ x = y := fun e => by subst e; exact h1 h2
        simp [h1, h2, hne]
      · have : x = y := UInt8.le_antisymm (UInt8.not_lt.1 h2) (UInt8.not_lt.1 h1)
        subst this
        simpa [h1] using ih
/-- -1, 0 or 1. -/
def sg (a b : Int) : Int := if a < b then -1 else if b < a then 1 else 0
def cmpV (a b : Int) (s : ByteArray) (a' b' : Int) (s' : ByteArray) : Int := if a = a' then (if b = b' then Lib.compareBytes (bs s) (bs s') else sg b b') else sg a a'
theorem cmpInt_eq (a b : Int) : cmp_Compare_int.f a b = some (sg a b) := by
  unfold cmp_Compare_int.f cmp_isNaN_int.f sg
  simp only [Option.bind_some, bne_self_eq_false, Bool.false_eq_true, if_false, gt_iff_lt]
  split
  · rfl
  · split <;> rfl
theorem sg_zero {a b : Int} : sg a b = 0 ↔ a = b := by
  unfold sg
  split
  · simp; omega
  · split
    · simp; omega
    · simp; omega
theorem or3 (k : Nat) (hk : 4 ≤ k) (x y z : Int) : cmp_Or_int.f k [x, y, z] = some (if x = 0 then (if y = 0 then z else y) else x) := by
  obtain ⟨k, rfl⟩ : ∃ m, k = m + 4 := ⟨k - 4, by omega⟩
  simp only [cmp_Or_int.f, cmp_Or_int.l0, List.length_cons, List.length_nil]
  by_cases h1 : x = 0 <;> by_cases h2 : y = 0 <;> by_cases h3 : z = 0 <;> simp [rd, wrap64, h1, h2, h3]
theorem compare_eq (k : Nat) (hk : 4 ≤ k) (a b : Int) (s : ByteArray) (a' b' : Int) (s' : ByteArray) : value_Compare.f k a b s a' b' s' = some (cmpV a b s a' b' s') := by
  unfold value_Compare.f cmpV
  simp only [cmpInt_eq, Option.bind_some, strings_Compare.f, or3 k hk, sg_zero, bs]
theorem compare_eq' (a b : Int) (s : ByteArray) (a' b' : Int) (s' : ByteArray) : bitemporalref07_Compare.f a b s a' b' s' = some (cmpV a b s a' b' s') := by
  unfold bitemporalref07_Compare.f cmpV bitemporalref07_sign.f
  simp only [toList_bs, bytesLess_cmp, bytesLess_gtr, sg]
  by_cases h1 : a = a'
  · by_cases h2 : b = b'
    · simp only [h1, h2, if_true]
      cases Op.bytesLess (bs s) (bs s') <;> cases Op.bytesLess (bs s') (bs s) <;> rfl
    · simp only [h1, h2, if_true, if_false, decide_eq_true_eq, gt_iff_lt]
      split
      · rfl
      · split <;> rfl
  · simp only [h1, if_false, decide_eq_true_eq, gt_iff_lt]
    split
    · rfl
    · split <;> rfl
/-! ### The order of values -/
theorem cb_range : ∀ a b : List UInt8, Lib.compareBytes a b = -1 ∨ Lib.compareBytes a b = 0 ∨ Lib.compareBytes a b = 1
  | [], [] => by simp [Lib.compareBytes]
  | [], _ :: _ => by simp [Lib.compareBytes]
  | _ :: _, [] => by simp [Lib.compareBytes]
  | x :: a, y :: b => by
    simp only [Lib.compareBytes]
    split
    · simp
    · split
      · simp
      · exact cb_range a b
theorem u8_tri {x y : UInt8} (h1 : ¬ x < y) (h2 : ¬ y < x) : x = y := UInt8.le_antisymm (UInt8.not_lt.1 h2) (UInt8.not_lt.1 h1)
theorem u8_asym {x y : UInt8} (h1 : x < y) : ¬ y < x := fun h2 => absurd (UInt8.lt_trans h1 h2) (UInt8.lt_irrefl _)
theorem cb_anti : ∀ a b : List UInt8, Lib.compareBytes b a = -Lib.compareBytes a b
  | [], [] => rfl
  | [], _ :: _ => rfl
  | _ :: _, [] => rfl
  | x :: a, y :: b => by
    simp only [Lib.compareBytes]
    by_cases h1 : x < y
    · rw [if_neg (u8_asym h1), if_pos h1, if_pos h1]; rfl
    · by_cases h2 : y < x
      · rw [if_pos h2, if_neg h1, if_pos h2]
      · rw [if_neg h2, if_neg h1, if_neg h1, if_neg h2]; exact cb_anti a b
theorem cb_zero : ∀ a b : List UInt8, Lib.compareBytes a b = 0 ↔ a = b
  | [], [] => by simp [Lib.compareBytes]
  | [], _ :: _ => by simp [Lib.compareBytes]
  | _ :: _, [] => by simp [Lib.compareBytes]
  | x :: a, y :: b => by
    simp only [Lib.compareBytes]
    by_cases h1 : x < y
    · rw [if_pos h1]
      have : x ≠ y := fun e => by subst e; exact UInt8.lt_irrefl _ h1
      simp [this]
    · by_cases h2 : y < x
      · rw [if_neg h1, if_pos h2]
        have : x ≠ y := fun e => by subst e; exact UInt8.lt_irrefl _ h2
        simp [this]
      · rw [if_neg h1, if_neg h2, u8_tri h1 h2, cb_zero a b]; simp
theorem cb_trans : ∀ a b c : List UInt8, Lib.compareBytes a b ≤ 0 → Lib.compareBytes b c ≤ 0 → Lib.compareBytes a c ≤ 0
  | [], _, [], _, _ => by simp [Lib.compareBytes]
  | [], _, _ :: _, _, _ => by simp [Lib.compareBytes]
  | _ :: _, [], _, h, _ => by simp [Lib.compareBytes] at h
  | _ :: _, _ :: _, [], _, h => by simp [Lib.compareBytes] at h
  | x :: a, y :: b, z :: c, h, h' => by
    simp only [Lib.compareBytes] at h h' ⊢
    by_cases h1 : x < y
    · by_cases h2 : y < z
      · rw [if_pos (UInt8.lt_trans h1 h2)]; decide
      · rw [if_neg h2] at h'
        by_cases h3 : z < y
        · rw [if_pos h3] at h'; exact absurd h' (by decide)
        · have : y = z := u8_tri h2 h3
          subst this
          rw [if_pos h1]; decide
    · rw [if_neg h1] at h
      by_cases h3 : y < x
      · rw [if_pos h3] at h; exact absurd h (by decide)
      · have : x = y := u8_tri h1 h3
        subst this
        rw [if_neg h3] at h
        by_cases h2 : x < z
        · rw [if_pos h2]; decide
        · rw [if_neg h2] at h' ⊢
          by_cases h4 : z < x
          · rw [if_pos h4] at h'; exact absurd h' (by decide)
          · rw [if_neg h4] at h' ⊢
            exact cb_trans a b c h h'
theorem sg_range (a b : Int) : sg a b = -1 ∨ sg a b = 0 ∨ sg a b = 1 := by unfold sg; split; · simp
                                                                           split <;> simp
theorem sg_lt {a b : Int} (h : a < b) : sg a b = -1 := by unfold sg; rw [if_pos h]
theorem sg_gt {a b : Int} (h : b < a) : sg a b = 1 := by unfold sg; rw [if_neg (by omega), if_pos h]
theorem cmpV_range (a b : Int) (s : ByteArray) (a' b' : Int) (s' : ByteArray) : cmpV a b s a' b' s' = -1 ∨ cmpV a b s a' b' s' = 0 ∨ cmpV a b s a' b' s' = 1 := by
  unfold cmpV
  split
  · split
    · exact cb_range _ _
    · exact sg_range _ _
  · exact sg_range _ _
theorem cmpV_anti (a b : Int) (s : ByteArray) (a' b' : Int) (s' : ByteArray) : cmpV a' b' s' a b s = -cmpV a b s a' b' s' := by
  unfold cmpV
  by_cases h1 : a = a'
  · by_cases h2 : b = b'
    · rw [if_pos h1.symm, if_pos h2.symm, if_pos h1, if_pos h2]; exact cb_anti _ _
    · rw [if_pos h1.symm, if_neg (Ne.symm h2), if_pos h1, if_neg h2]
      rcases Int.lt_or_gt_of_ne h2 with h | h
      · rw [sg_lt h, sg_gt h]; rfl
      · rw [sg_gt h, sg_lt h]
  · rw [if_neg (Ne.symm h1), if_neg h1]
    rcases Int.lt_or_gt_of_ne h1 with h | h
    · rw [sg_lt h, sg_gt h]; rfl
    · rw [sg_gt h, sg_lt h]
theorem cmpV_zero (a b : Int) (s : ByteArray) (a' b' : Int) (s' : ByteArray) : cmpV a b s a' b' s' = 0 ↔ a = a' ∧ b = b' ∧ bs s = bs s' := by
  unfold cmpV
  by_cases h1 : a = a'
  · by_cases h2 : b = b'
    · rw [if_pos h1, if_pos h2, cb_zero]; simp [h1, h2]
    · rw [if_pos h1, if_neg h2, sg_zero]; simp [h2]
  · rw [if_neg h1, sg_zero]; simp [h1]
theorem cmpV_le (a b : Int) (s : ByteArray) (a' b' : Int) (s' : ByteArray) : cmpV a b s a' b' s' ≤ 0 ↔ a < a' ∨ (a = a' ∧ (b < b' ∨ (b = b' ∧ Lib.compareBytes (bs s) (bs s') ≤ 0))) := by
  unfold cmpV
  by_cases h1 : a = a'
  · by_cases h2 : b = b'
    · rw [if_pos h1, if_pos h2]; simp [h1, h2]
    · rw [if_pos h1, if_neg h2]
      rcases Int.lt_or_gt_of_ne h2 with h | h
      · rw [sg_lt h]; simp [h1, h]
      · rw [sg_gt h]; simp [h1, h2]; omega
  · rw [if_neg h1]
    rcases Int.lt_or_gt_of_ne h1 with h | h
    · rw [sg_lt h]; simp [h]
    · rw [sg_gt h]; simp [h1]; omega
theorem cmpV_trans {a b : Int} {s : ByteArray} {a' b' : Int} {s' : ByteArray} {a2 b2 : Int} {s2 : ByteArray} (h : cmpV a b s a' b' s' ≤ 0) (h' : cmpV a' b' s' a2 b2 s2 ≤ 0) : cmpV a b s a2 b2 s2 ≤ 0 := by
  rw [cmpV_le] at h h' ⊢
  rcases h with h | ⟨rfl, h | ⟨rfl, h⟩⟩
  · rcases h' with h' | ⟨rfl, _⟩
    · exact .inl (by omega)
    · exact .inl h
  · rcases h' with h' | ⟨rfl, h' | ⟨rfl, h'⟩⟩
    · exact .inl h'
    · exact .inr ⟨rfl, .inl (by omega)⟩
    · exact .inr ⟨rfl, .inl h⟩
  · rcases h' with h' | ⟨rfl, h' | ⟨rfl, h'⟩⟩
    · exact .inl h'
    · exact .inr ⟨rfl, .inl h'⟩
    · exact .inr ⟨rfl, .inr ⟨rfl, cb_trans _ _ _ h h'⟩⟩
end Go.Proofs.YtkifafenmboefaaDoor.X
namespace Go.Proofs.YtkifafenmboefaaDoor.X
open Go.RowKit Go.Proofs.YtkifafenmboefaaDoorW.PrintWords Go.Proofs.YtkifafenmboefaaDoorW.PrintLast Go.Proofs.YtkifafenmboefaaDoorW.PrintMore
set_option linter.unusedVariables false
set_option linter.unusedSimpArgs false
theorem size_mk (l : List UInt8) : (⟨l.toArray⟩ : ByteArray).size = l.length := by rw [← bs_len, bs_mk]
theorem decDigits_small {n : Nat} (h : n < 10) : Lib.decDigits n = [UInt8.ofNat (48 + n)] := by rw [Lib.decDigits, dif_pos h]
theorem decDigits_big {n : Nat} (h : ¬ n < 10) : Lib.decDigits n = Lib.decDigits (n / 10) ++ [UInt8.ofNat (48 + n % 10)] := by rw [Lib.decDigits, dif_neg h]
theorem decDigits_len : ∀ (m n : Nat), n < 10 ^ (m + 1) → (Lib.decDigits n).length ≤ m + 1
  | 0, n, h => by rw [decDigits_small (by omega)]; simp
  | m + 1, n, h => by
    by_cases h9 : n < 10
    · rw [decDigits_small h9]; simp
    · rw [decDigits_big h9, List.length_append]
      have := decDigits_len m (n / 10) (by rw [Nat.pow_succ] at h; omega)
      simp; omega
theorem itoa_len (n : Int) (h0 : -9223372036854775808 ≤ n) (h1 : n < 9223372036854775808) : (Lib.itoa n).length ≤ 25 := by
  have h2 := decDigits_len 19 n.natAbs (by omega)
  have h3 := decDigits_len 19 n.toNat (by omega)
  unfold Lib.itoa
  split <;> simp <;> omega
/-! ### Quotes -/
def dbl (c : UInt8) : List UInt8 := if c = 39 then [39, 39] else [c]
def quo (l : List UInt8) : List UInt8 := 39 :: (l.flatMap dbl ++ [39])
theorem dbl_len (c : UInt8) : (dbl c).length ≤ 2 := by unfold dbl; split <;> simp
theorem flat_len : ∀ l : List UInt8, (l.flatMap dbl).length ≤ 2 * l.length
  | [] => by simp
  | c :: l => by have := flat_len l; have := dbl_len c; simp only [List.flatMap_cons, List.length_append, List.length_cons]; omega
/-! ### Replacing, byte by byte -/
def raS (old new s : List UInt8) : List UInt8 := Lib.replaceK old new (Lib.count s old) s
theorem replaceAll_raS {s old new : List UInt8} (h : (old == new) = false) : Lib.replaceAll s old new = raS old new s := by
  unfold Lib.replaceAll Lib.replace raS Lib.replaceNum
  rw [h, if_pos (Or.inl (by decide))]; rfl
theorem raS_nil {old : List UInt8} (new : List UInt8) (h : old ≠ []) : raS old new [] = [] := by
  have hm : Lib.index [] old = -1 := by
    unfold Lib.index
    cases old with
    | nil => exact absurd rfl h
    | cons => rfl
  unfold raS
  rw [Lib.count_miss hm]; rfl
theorem raS_hit {b : UInt8} {l old : List UInt8} (new : List UInt8) (h : old ≠ []) (hp : old.isPrefixOf (b :: l) = true) : raS old new (b :: l) = new ++ raS old new ((b :: l).drop old.length) := by
  have hi : Lib.index (b :: l) old = ((0 : Nat) : Int) := by unfold Lib.index; rw [if_pos hp]; rfl
  unfold raS
  rw [Lib.count_hit h hi, Nat.add_comm 1, Lib.replaceK_hit _ _ _ _ _ hi, Nat.zero_add]
  rfl
theorem raS_miss {b : UInt8} {l old : List UInt8} (new : List UInt8) (h : old ≠ []) (hp : old.isPrefixOf (b :: l) = false) : raS old new (b :: l) = b :: raS old new l := by
  by_cases hm : Lib.index l old = -1
  · have hi : Lib.index (b :: l) old = -1 := by unfold Lib.index; rw [hp, hm]; rfl
    unfold raS
    rw [Lib.count_miss hi, Lib.count_miss hm]; rfl
  · have hge := Lib.index_ge l old
    obtain ⟨i, hi⟩ : ∃ i : Nat, Lib.index l old = i := ⟨(Lib.index l old).toNat, by omega⟩
    have hi' : Lib.index (b :: l) old = ((i + 1 : Nat) : Int) := by
      unfold Lib.index
      rw [hp, if_neg (by decide), if_neg (by rw [hi]; simp), hi]
      omega
    unfold raS
    rw [Lib.count_hit h hi', Lib.count_hit h hi, Nat.add_comm 1, Nat.add_comm 1, Lib.replaceK_hit _ _ _ _ _ hi', Lib.replaceK_hit _ _ _ _ _ hi, show i + 1 + old.length = (i + old.length) + 1 by omega]
    simp
theorem raS_one (l : List UInt8) : raS [39] [39, 39] l = l.flatMap dbl := by
  induction l with
  | nil => rw [raS_nil _ (by simp)]; rfl
  | cons c l ih =>
    by_cases hc : c = 39
    · subst hc
      rw [raS_hit _ (by simp) (by simp [List.isPrefixOf])]
      simp [dbl, ih]
    · rw [raS_miss _ (by simp) (by simpa [List.isPrefixOf] using fun e => hc e.symm), ih]
      simp [dbl, hc]
/-! ### What a value's literal is -/
def litS (a b : Int) (s : ByteArray) : List UInt8 :=
  if vl a b s then (if a = 1 then Lib.itoa b else if a = 2 then quo (bs s) else if a = 3 then (if b = 1 then [84, 82, 85, 69] else [70, 65, 76, 83, 69]) else [78, 85, 76, 76]) else []
theorem rall_eq (s old new : ByteArray) (h1 : s.size < 4294967281) (h2 : 1 ≤ old.size) (h4 : new.size ≤ 2) (h5 : (bs old == bs new) = false) :
    strings_ReplaceAll.f s old new = some ⟨(raS (bs old) (bs new) (bs s)).toArray⟩ := by
  unfold strings_ReplaceAll.f
  have hc := Lib.count_le (bs s) (bs old)
  rw [bs_len] at hc
  have hm : Lib.countB s old * new.size ≤ (s.size + 1) * 2 := Nat.mul_le_mul hc h4
  rw [if_pos ⟨⟨h1, h2⟩, by omega⟩]
  exact congrArg (fun x => some (⟨x.toArray⟩ : ByteArray)) (replaceAll_raS h5)
theorem vl_text {b : Int} {s : ByteArray} (h : vl 2 b s = true) : b = 0 ∧ s.size ≤ 200 ∧ prn (bs s) = true := by
  simpa [vl] using h
theorem vl_int {b : Int} {s : ByteArray} (h : vl 1 b s = true) : s = e0 ∧ -1125899906842624 ≤ b ∧ b ≤ 1125899906842624 := by
  simp [vl] at h
  exact ⟨bs_inj h.1, h.2⟩
theorem lit_eq (k : Nat) (hk : 200 < k) (a b : Int) (s : ByteArray) : value_Literal.f k a b s = some ⟨(litS a b s).toArray⟩ := by
  unfold value_Literal.f litS
  rw [valid_eq k hk]
  cases hv : vl a b s with
  | false => rfl
  | true =>
    simp only [Option.bind_some, if_true]
    by_cases h1 : a = 1
    · subst h1
      obtain ⟨_, hb0, hb1⟩ := vl_int hv
      rw [if_pos rfl, if_pos rfl]
      unfold strconv_Itoa.f
      rw [if_pos (by omega), if_pos (by omega)]; rfl
    rw [if_neg h1, if_neg h1]
    by_cases h2 : a = 2
    · subst h2
      obtain ⟨_, hz, _⟩ := vl_text hv
      rw [if_pos rfl, if_pos rfl, rall_eq s _ _ (by omega) (by decide) (by decide) (by decide)]
      simp only [Option.bind_some]
      have e1 : bs ⟨#[39]⟩ = [39] := rfl
      have e2 : bs ⟨#[39, 39]⟩ = [39, 39] := rfl
      have l1 : (⟨#[39]⟩ : ByteArray).size = 1 := rfl
      rw [e1, e2, raS_one]
      have hl := flat_len (bs s)
      rw [bs_len] at hl
      rw [if_pos (by rw [size_mk]; omega), if_pos (by have h9 := size_append ⟨#[39]⟩ ⟨(List.flatMap dbl (bs s)).toArray⟩; rw [size_mk (List.flatMap dbl (bs s)), l1] at h9; omega)]
      refine congrArg some (bs_inj ?_)
      rw [bs_append, bs_append, bs_mk (List.flatMap _ _), bs_mk (quo _), e1]
      rfl
    rw [if_neg h2, if_neg h2]
    by_cases h3 : a = 3
    · rw [if_pos h3, if_pos h3]; split <;> rfl
    · rw [if_neg h3, if_neg h3]
end Go.Proofs.YtkifafenmboefaaDoor.X
namespace Go.Proofs.YtkifafenmboefaaDoor.X
open Go.RowKit Go.Sort Go.Proofs.YtkifafenmboefaaDoorW.PrintWords Go.Proofs.YtkifafenmboefaaDoorW.PrintLast Go.Proofs.YtkifafenmboefaaDoorW.PrintMore
open Go.Proofs.YtkifafenmboefaaDoor.Sorts (stableSort passes insBlocks)
open Aw
set_option linter.unusedVariables false
set_option linter.unusedSimpArgs false
theorem upTo {α : Type} {f : Nat → Option α} (h : ∀ k, LeO (f k) (f (k + 1))) : ∀ {k k' : Nat}, k ≤ k' → ∀ {r : α}, f k = some r → f k' = some r := by
  intro k k' hk
  induction hk with
  | refl => exact fun h => h
  | step _ ih => exact fun hr => h _ _ (ih hr)
def cv (x y : S33) : Int := cmpV x.f0 x.f1 x.f2 y.f0 y.f1 y.f2
def cmpR : List S33 → List S33 → Int
  | [], [] => 0
  | [], _ :: _ => -1
  | _ :: _, [] => 1
  | x :: xs, y :: ys => if cv x y = 0 then cmpR xs ys else cv x y
theorem cmpRows_eq (k : Nat) (hk : 4 ≤ k) : ∀ a b : List S33, cmpRows k a b = some (cmpR a b)
  | [], [] => rfl
  | [], _ :: _ => rfl
  | _ :: _, [] => rfl
  | x :: xs, y :: ys => by
    unfold cmpRows cmpR
    rw [compare_eq k hk, Option.bind_some]
    unfold cv
    split
    · exact cmpRows_eq k hk xs ys
    · rfl
theorem tequal_eq (k : Nat) (hk : 4 ≤ k) (a b : List S33) : tuple_Equal.f k a b = some (cmpR a b == 0) := by
  unfold tuple_Equal.f tuple_Compare.f
  rw [cmpRows_eq k hk]
  rfl
theorem refCompare_loop (a b : List S33) (ha : a.length ≤ 9223372036854775807) : ∀ (n i k : Nat), i + n = a.length → i ≤ b.length → 2 * n + 2 ≤ k → bitemporalref08_Compare.l0 k a b (i : Int) = some (cmpR (a.drop i) (b.drop i))
  | n, i, 0, _, _, hk => by omega
  | n, i, 1, _, _, hk => by omega
  | n, i, k + 2, hn, hb, hk => by
    unfold bitemporalref08_Compare.l0 bitemporalref08_Compare.j1
    by_cases h0 : i < a.length
    · rw [if_pos (by omega)]
      by_cases h1 : i < b.length
      · rw [if_pos (by simp; omega), if_pos (by omega), if_pos (by omega), if_pos (by omega), compare_eq', Option.bind_some]
        have e0 : rd_T33 a i = a[i] := by simp [rd_T33, h0]
        have e1 : rd_T33 b i = b[i] := by simp [rd_T33, h1]
        rw [List.drop_eq_getElem_cons h0, List.drop_eq_getElem_cons h1, e0, e1]
        unfold cmpR
        have ec : cv a[i] b[i] = cmpV a[i].f0 a[i].f1 a[i].f2 b[i].f0 b[i].f1 b[i].f2 := rfl
        rw [← ec]
        split
        · next hz =>
          rw [w64 (by omega) (by omega), show ((i : Int) + 1) = ((i + 1 : Nat) : Int) by omega]
          exact refCompare_loop a b ha (n - 1) (i + 1) k (by omega) (by omega) (by omega)
        · rfl
      · rw [if_neg (by simp; omega), if_neg (by omega), if_pos (by omega), List.drop_eq_getElem_cons h0, List.drop_eq_nil_of_le (show b.length ≤ i by omega)]
        rfl
    · rw [if_neg (by omega), if_neg (by decide), List.drop_eq_nil_of_le (show a.length ≤ i by omega)]
      by_cases h1 : i < b.length
      · rw [if_pos (by omega), List.drop_eq_getElem_cons h1]
        rfl
      · rw [if_neg (by omega), if_neg (by omega), List.drop_eq_nil_of_le (show b.length ≤ i by omega)]
        rfl
theorem refCompare_eq (a b : List S33) (ha : a.length ≤ 9223372036854775807) (k : Nat) (hk : 2 * a.length + 2 ≤ k) : bitemporalref08_Compare.f k a b = some (cmpR a b) :=
  refCompare_loop a b ha a.length 0 k (by omega) (by omega) hk
theorem refEqual_eq (a b : List S33) (ha : a.length ≤ 9223372036854775807) (k : Nat) (hk : 2 * a.length + 2 ≤ k) : bitemporalref08_Equal.f k a b = some (cmpR a b == 0) := by
  unfold bitemporalref08_Equal.f
  rw [refCompare_eq a b ha k hk]
  rfl
/-! ### a column of a row, an order's comparison -/
def atS (a : List S33) (i : Int) : S33 := if i < 0 ∨ i ≥ (a.length : Int) then ⟨0, 0, e0⟩ else rd_T33 a i
theorem at_eq (a : List S33) (i : Int) : tuple_at.f a i = some ((atS a i).f0, (atS a i).f1, (atS a i).f2) := by
  unfold tuple_at.f atS
  by_cases h0 : i < 0
  · rw [if_pos h0, if_pos (Or.inl h0)]
    rfl
  · rw [if_neg h0]
    by_cases h1 : i ≥ (a.length : Int)
    · rw [if_pos h1, if_pos (Or.inr h1)]
      rfl
    · rw [if_neg h1, if_pos (by omega), if_pos (by omega), if_neg (by omega)]
def ordS : List S47 → List S33 → List S33 → Int
  | [], a, b => sg (cmpR a b) 0
  | x :: xs, a, b => if (if x.f1 = true then wrap64 (-cv (atS a x.f0) (atS b x.f0)) else cv (atS a x.f0) (atS b x.f0)) = 0 then ordS xs a b else (if x.f1 = true then wrap64 (-cv (atS a x.f0) (atS b x.f0)) else cv (atS a x.f0) (atS b x.f0))
theorem ordRows_eq (k : Nat) (hk : 4 ≤ k) : ∀ (o : List S47) (a b : List S33), ordRows k o a b = some (ordS o a b)
  | [], a, b => by
    unfold ordRows ordS
    rw [cmpRows_eq k hk, Option.bind_some, cmpInt_eq]
  | x :: xs, a, b => by
    unfold ordRows ordS
    rw [at_eq, at_eq]
    simp only [Option.bind_some]
    rw [compare_eq k hk, Option.bind_some]
    have ec : cv (atS a x.f0) (atS b x.f0) = cmpV (atS a x.f0).f0 (atS a x.f0).f1 (atS a x.f0).f2 (atS b x.f0).f0 (atS b x.f0).f1 (atS b x.f0).f2 := rfl
    rw [← ec, ordRows_eq k hk xs a b]
    split <;> split <;> rfl
theorem sortRows_some {c : List S33 → List S33 → Option Int} {s : List S33 → List S33 → Int} (hc : ∀ x y, c x y = some (s x y)) (L : List (List S33)) (h0 : 0 < L.length) (h1 : L.length < 5864062014805) (h2 : ∀ x ∈ L, x.length < 4398046511104) :
    haveI : Inhabited (Fin L.length) := ⟨⟨0, h0⟩⟩
    sortRows c L = some ((stableSort (Go.Proofs.ltOf (fun i j => s (L.get i) (L.get j))) (Array.ofFn (id : Fin L.length → Fin L.length))).toList.map L.get) := by
  unfold sortRows
  rw [dif_pos h0, if_pos ⟨fun x _ y _ => by rw [hc]; rfl, h1, h2⟩]
  simp only [hc, Option.getD_some]
/-! ### the chapter's examples -/
def L3 : List (List S33) := [[x1, xb], [x2, xa], [x1, xa]]
theorem sort3 : haveI : Inhabited (Fin L3.length) := ⟨⟨0, by decide⟩⟩
    (stableSort (Go.Proofs.ltOf (fun i j => ordS [⟨0, true⟩] (L3.get i) (L3.get j))) (Array.ofFn (id : Fin L3.length → Fin L3.length))).toList.map L3.get = [[x2, xa], [x1, xa], [x1, xb]] := by
  letI : Inhabited (Fin L3.length) := ⟨⟨0, by decide⟩⟩
  have e : stableSort (Go.Proofs.ltOf (fun i j => ordS [⟨0, true⟩] (L3.get i) (L3.get j))) (Array.ofFn (id : Fin L3.length → Fin L3.length)) = #[⟨1, by decide⟩, ⟨2, by decide⟩, ⟨0, by decide⟩] := by
    have hs : (Array.ofFn (id : Fin L3.length → Fin L3.length)) = #[⟨0, by decide⟩, ⟨1, by decide⟩, ⟨2, by decide⟩] := rfl
    rw [hs]
    unfold stableSort
    have e1 : ∀ (lt : Fin L3.length → Fin L3.length → Bool) (d : Array (Fin L3.length)), d.size = 3 → insertionSort lt d 0 3 = insInner lt 0 2 (insInner lt 0 1 d) := by
      intro lt d _
      unfold insertionSort
      rw [insOuter, if_pos (by decide), insOuter, if_pos (by decide), insOuter, if_neg (by decide)]
    show passes _ 3 20 (insertionSort _ _ 0 3) = _
    rw [e1 _ _ rfl]
    decide +kernel
  rw [e]
  rfl
theorem pick_loop (a : List S33) (l : List Int) (hl : l.length ≤ 1099511627776) : ∀ (n i k : Nat) (acc : List S33), i + n = l.length → n < k → acc.length + n ≤ 1099511627776 →
    tuple_Pick.l0 k a acc l (l.length : Int) (i : Int) = some (acc ++ (l.drop i).map (atS a))
  | n, i, 0, acc, _, hk, _ => by omega
  | 0, i, k + 1, acc, hn, hk, hc => by
    unfold tuple_Pick.l0
    rw [if_neg (by omega), List.drop_eq_nil_of_le (by omega)]
    simp
  | n + 1, i, k + 1, acc, hn, hk, hc => by
    unfold tuple_Pick.l0
    have hi : i < l.length := by omega
    rw [if_pos (by omega), if_pos (by omega), if_pos (by omega), at_eq, Option.bind_some, if_pos (by omega), w64 (by omega) (by omega), show ((i : Int) + 1) = ((i + 1 : Nat) : Int) by omega]
    rw [pick_loop a l hl n (i + 1) k _ (by omega) (by omega) (by simp; omega), List.drop_eq_getElem_cons hi]
    have e : rd l i = l[i] := by simp [rd, hi]
    rw [e, List.map_cons, List.append_assoc, List.singleton_append]
theorem pick_eq (a : List S33) (l : List Int) (hl : l.length ≤ 1099511627776) (k : Nat) (hk : l.length < k) : tuple_Pick.f k a l = some (l.map (atS a)) := by
  unfold tuple_Pick.f
  rw [if_pos (by omega), if_pos (by simp; omega)]
  have h := pick_loop a l hl l.length 0 k [] (by omega) hk (by simp; omega)
  simpa using h
/-! ### a row's text -/
def litV (x : S33) : List UInt8 := litS x.f0 x.f1 x.f2
def rowT (l : List S33) : List UInt8 := 40 :: (Lib.join (l.map litV) [44, 32] ++ [41])
theorem text_loop (l : List S33) (hl : l.length ≤ 1099511627776) : ∀ (n i k : Nat) (acc : List ByteArray), i + n = l.length → n + 202 ≤ k → acc.length + n ≤ 1099511627776 →
    tuple_Text.l0 k acc l (l.length : Int) (i : Int) = tuple_Text.l0 202 (acc ++ (l.drop i).map fun x => ⟨(litV x).toArray⟩) l (l.length : Int) (l.length : Int)
  | n, i, 0, acc, _, hk, _ => by omega
  | 0, i, k + 1, acc, hn, hk, hc => by
    rw [show (i : Int) = (l.length : Int) by omega, List.drop_eq_nil_of_le (by omega)]
    unfold tuple_Text.l0
    rw [if_neg (by omega), if_neg (by omega)]
    simp
  | n + 1, i, k + 1, acc, hn, hk, hc => by
    rw [tuple_Text.l0]
    have hi : i < l.length := by omega
    rw [if_pos (by omega), if_pos (by omega), if_pos (by omega), lit_eq k (by omega), Option.bind_some, if_pos (by omega), w64 (by omega) (by omega), show ((i : Int) + 1) = ((i + 1 : Nat) : Int) by omega]
    rw [text_loop l hl n (i + 1) k _ (by omega) (by omega) (by simp; omega), List.drop_eq_getElem_cons hi]
    have e : rd_T33 l i = l[i] := by simp [rd_T33, hi]
    rw [e, List.map_cons, List.append_assoc, List.singleton_append]
    rfl
theorem text_eq8 (l : List S33) (hl : l.length ≤ 1099511627776) (k : Nat) (hk : l.length + 202 ≤ k) (hs : (Lib.join (l.map litV) [44, 32]).length ≤ 140737488355328) : tuple_Text.f k l = some ⟨(rowT l).toArray⟩ := by
  unfold tuple_Text.f
  rw [show (0 : Int) = ((0 : Nat) : Int) by rfl, text_loop l hl l.length 0 k [] (by omega) hk (by simp; omega)]
  unfold tuple_Text.l0
  rw [if_neg (by omega), List.nil_append, List.drop_zero]
  have e1 : ((l.map fun x => (⟨(litV x).toArray⟩ : ByteArray)).map fun b => b.data.toList) = l.map litV := by
    rw [List.map_map]
    exact List.map_congr_left fun x _ => by simp
  have e2 : (⟨#[44, 32]⟩ : ByteArray).data.toList = [44, 32] := rfl
  unfold strings_Join.f
  rw [e1, e2, if_pos (by simp; omega), if_pos hs, Option.bind_some]
  have e3 : (⟨(Lib.join (l.map litV) [44, 32]).toArray⟩ : ByteArray).size = (Lib.join (l.map litV) [44, 32]).length := size_mk _
  rw [if_pos (by rw [e3]; omega), if_pos (by rw [size_append, e3]; show 1 + _ + 1 ≤ _; omega)]
  congr 1
theorem awake_is : awakeIs 400 := by
  refine ⟨?_, ?_, ?_, ?_, ?_, ?_, ?_, ?_, ?_, ?_⟩
  · rw [int_eq 400 (by omega)]; decide
  · rw [int_eq 400 (by omega)]; decide
  · rw [text_eq 400 (by omega)]; decide
  · rw [text_eq 400 (by omega)]; decide
  · show tuple_Order.f 400 L3 _ = _
    unfold tuple_Order.f
    rw [sortRows_some (fun x y => ordRows_eq 400 (by omega) _ x y) L3 (by decide) (by decide) (by decide), sort3]
  · rw [pick_eq _ _ (by decide) 400 (by decide)]
    rfl
  · have e : Lib.join ([x1, xa, x0].map litV) [44, 32] = [49, 44, 32, 39, 97, 39, 44, 32, 78, 85, 76, 76] := by
      have l1 : litV x1 = [49] := by
        show litS 1 1 ⟨#[]⟩ = _
        unfold litS
        rw [if_pos (by decide), if_pos rfl]
        decide +kernel
      have l2 : litV xa = [39, 97, 39] := by decide
      have l3 : litV x0 = [78, 85, 76, 76] := by decide
      simp only [List.map_cons, List.map_nil, l1, l2, l3]
      rfl
    rw [text_eq8 _ (by decide) 400 (by decide) (by rw [e]; decide)]
    unfold rowT
    rw [e]
    rfl
  · rw [tequal_eq 400 (by omega)]; decide
  · rw [tequal_eq 400 (by omega)]; decide
  · rw [tequal_eq 400 (by omega)]; decide
theorem awake_eq (k : Nat) (hk : 400 ≤ k) : bitemporallaw08_awake.f k = some true := upTo (f := bitemporallaw08_awake.f) bitemporallaw08_awake.mono hk (by unfold bitemporallaw08_awake.f; rw [if_pos awake_is])
end Go.Proofs.YtkifafenmboefaaDoor.X
