/- Plain lemmas about what the walked Go functions compute (numbers and lists of bytes alone). Conditions: those in each lemma. -/
import Derived.Test.YtoopomkeigjekaaDoorX2
import Derived.Test.YtoopomkeigjekaaDoorX3
import Derived.Test.YtoopomkeigjekaaDoorX4
import Derived.Test.YtoopomkeigjekaaDoorX5
import Derived.Lib.CountLaws
import Derived.Lib.Replace
namespace Go.Proofs.YtoopomkeigjekaaDoor.X
open Go.RowKit Go.Proofs.YtoopomkeigjekaaDoorW.PrintWords Go.Proofs.YtoopomkeigjekaaDoorW.PrintLast Go.Proofs.YtoopomkeigjekaaDoorW.PrintMore
set_option linter.unusedVariables false
set_option linter.unusedSimpArgs false
/-! ### Bytes -/
def bs (s : ByteArray) : List UInt8 := s.data.toList
theorem bs_len (s : ByteArray) : (bs s).length = s.size := Array.length_toList
theorem toList_bs (s : ByteArray) : s.toList = bs s := ByteArray.toList_eq s
theorem bs_inj {a b : ByteArray} (h : bs a = bs b) : a = b := ByteArray.ext (Array.toList_inj.1 h)
theorem bs_mk (l : List UInt8) : bs ⟨l.toArray⟩ = l := by simp [bs]
theorem mk_bs (s : ByteArray) : (⟨(bs s).toArray⟩ : ByteArray) = s := bs_inj (by simp [bs])
theorem size_mk (l : List UInt8) : (⟨l.toArray⟩ : ByteArray).size = l.length := by rw [← bs_len, bs_mk]
theorem bs_append (a b : ByteArray) : bs (a ++ b) = bs a ++ bs b := by simp [bs, ByteArray.data_append]
theorem size_append (a b : ByteArray) : (a ++ b).size = a.size + b.size := by rw [← bs_len, bs_append, List.length_append, bs_len, bs_len]
theorem bs_extract (a : ByteArray) (i j : Nat) : bs (a.extract i j) = ((bs a).drop i).take (j - i) := by
  simp [bs, ByteArray.data_extract, Array.toList_extract, List.extract_eq_take_drop]
theorem bt_nat (s : ByteArray) (i : Nat) (h : i < (bs s).length) : bt s (i : Int) = (((bs s)[i]).toNat : Int) := by
  have h' : i < s.size := by rw [bs_len] at h; exact h
  unfold bt
  rw [dif_pos (show (i : Int).toNat < s.size by omega)]
  simp [bs, ByteArray.getElem_eq_getElem_data]
theorem w64 {n : Int} (h0 : -9223372036854775808 ≤ n) (h1 : n < 9223372036854775808) : wrap64 n = n := by unfold wrap64; omega
theorem bs_drop (s : ByteArray) (i : Nat) (h : i < (bs s).length) : (bs s).drop i = (bs s)[i] :: (bs s).drop (i + 1) := List.drop_eq_getElem_cons h
/-! ### Printable texts -/
def inR (c : UInt8) : Bool := decide (32 ≤ c.toNat) && decide (c.toNat ≤ 126)
def prn (l : List UInt8) : Bool := l.all inR
theorem prn_step (c : UInt8) (l : List UInt8) : (if (c.toNat : Int) < 32 then some false else if (c.toNat : Int) > 126 then some false else some (prn l)) = some (prn (c :: l)) := by
  simp only [prn, List.all_cons, inR]
  by_cases h1 : c.toNat < 32
  · rw [if_pos (by omega), decide_eq_false (show ¬ 32 ≤ c.toNat by omega)]; rfl
  · rw [if_neg (by omega), decide_eq_true (show 32 ≤ c.toNat by omega)]
    by_cases h2 : 126 < c.toNat
    · rw [if_pos (by omega), decide_eq_false (show ¬ c.toNat ≤ 126 by omega)]; rfl
    · rw [if_neg (by omega), decide_eq_true (show c.toNat ≤ 126 by omega)]; rfl
theorem prn_loop (s : ByteArray) (hs : s.size < 4611686018427387904) : ∀ (d i k : Nat), i + d = s.size → d < k → value_printable.l0 k s (s.size : Int) (i : Int) = some (prn ((bs s).drop i)) := by
  intro d
  induction d with
  | zero =>
    intro i k hi hk
    obtain ⟨k, rfl⟩ : ∃ m, k = m + 1 := ⟨k - 1, by omega⟩
    simp only [value_printable.l0]
    rw [if_neg (by omega), List.drop_of_length_le (by rw [bs_len]; omega)]
    rfl
  | succ d ih =>
    intro i k hi hk
    obtain ⟨k, rfl⟩ : ∃ m, k = m + 1 := ⟨k - 1, by omega⟩
    have hl : i < (bs s).length := by rw [bs_len]; omega
    simp only [value_printable.l0]
    rw [if_pos (by omega), if_pos (by omega), if_pos (by omega), bt_nat s i hl, w64 (by omega) (by omega), show ((i : Int) + 1) = ((i + 1 : Nat) : Int) by omega, ih (i + 1) k (by omega) (by omega), bs_drop s i hl]
    exact prn_step _ _
theorem prn_eq (s : ByteArray) (hs : s.size < 4611686018427387904) (k : Nat) (hk : s.size < k) : value_printable.f k s = some (prn (bs s)) := by
  have := prn_loop s hs s.size 0 k (by omega) hk
  simpa [value_printable.f] using this
/-! ### Values -/
def vl (a b : Int) (s : ByteArray) : Bool :=
  if a = 0 then decide (b = 0) && (bs s).isEmpty
  else if a = 1 then (bs s).isEmpty && (decide (-1125899906842624 ≤ b) && decide (b ≤ 1125899906842624))
  else if a = 2 then decide (b = 0) && (decide (s.size ≤ 200) && prn (bs s))
  else if a = 3 then (bs s).isEmpty && (decide (b = 0) || decide (b = 1)) else false
theorem valid_eq (k : Nat) (hk : 200 < k) (a b : Int) (s : ByteArray) : value_Valid.f k a b s = some (vl a b s) := by
  unfold value_Valid.f vl
  simp only [toList_bs]
  by_cases h0 : a = 0
  · subst h0
    by_cases hb : b = 0 <;> simp [hb]
  by_cases h1 : a = 1
  · subst h1
    by_cases hs : bs s = [] <;> by_cases hb : -1125899906842624 ≤ b <;> simp [hs, hb]
  by_cases h2 : a = 2
  · subst h2
    by_cases hb : b = 0 <;> simp [hb]
    by_cases hz : s.size ≤ 200
    · rw [if_pos (by omega), prn_eq s (by omega) k (by omega)]; simp [hz]
    · rw [if_neg (by omega)]; simp [hz]
  by_cases h3 : a = 3
  · subst h3
    by_cases hs : bs s = [] <;> by_cases hb : b = 0 <;> simp [hs, hb]
    by_cases hb1 : b = 1 <;> simp [hb1]
  simp [h0, h1, h2, h3]
def e0 : ByteArray := ⟨#[]⟩
def orN (a b : Int) (s : ByteArray) : Int × Int × ByteArray := if vl a b s then (a, b, s) else (0, 0, e0)
theorem orNull_eq (k : Nat) (hk : 200 < k) (a b : Int) (s : ByteArray) : value_orNull.f k a b s = some (orN a b s) := by
  unfold value_orNull.f orN
  rw [valid_eq k hk]
  cases vl a b s <;> simp [value_Null.f, e0]
theorem int_eq (k : Nat) (hk : 200 < k) (n : Int) : value_Int.f k n = some (orN 1 n e0) := by
  unfold value_Int.f; rw [show (⟨#[]⟩ : ByteArray) = e0 from rfl, orNull_eq k hk]; rfl
theorem text_eq (k : Nat) (hk : 200 < k) (s : ByteArray) : value_Text.f k s = some (orN 2 0 s) := by
  unfold value_Text.f; rw [orNull_eq k hk]; rfl
def bl (b : Bool) : Int × Int × ByteArray := (3, if b then 1 else 0, e0)
theorem bool_eq (b : Bool) : value_Bool.f b = some (bl b) := by cases b <;> rfl
theorem null_eq : value_Null.f = some (0, 0, e0) := rfl
theorem veq (x : Int × Int × ByteArray) : (x.1 == x.1 && (x.2.1 == x.2.1 && (x.2.2.toList == x.2.2.toList))) = true := by simp
/-! ### Comparisons -/
theorem bytesLess_cmp : ∀ a b : List UInt8, Lib.compareBytes a b = if Op.bytesLess a b = true then -1 else if Op.bytesLess b a = true then 1 else 0
  | [], [] => rfl
  | [], _ :: _ => rfl
  | _ :: _, [] => rfl
  | x :: a, y :: b => by
    have ih := bytesLess_cmp a b
    simp only [Lib.compareBytes, Op.bytesLess]
    by_cases h1 : x < y
    · simp [h1]
    · by_cases h2 : y < x
      · have hne : ¬ x = y := fun e => by subst e; exact h1 h2
        simp [h1, h2, hne]
      · have : x = y := by have := UInt8.le_antisymm (UInt8.not_lt.1 h2) (UInt8.not_lt.1 h1); exact this
        subst this
        simp [h1, ih]
theorem bytesLess_gtr : ∀ a b : List UInt8, (!Op.bytesLess a b && !(a == b)) = Op.bytesLess b a
  | [], [] => rfl
  | [], _ :: _ => rfl
  | _ :: _, [] => rfl
  | x :: a, y :: b => by
    have ih := bytesLess_gtr a b
    simp only [Op.bytesLess]
    by_cases h1 : x < y
    · have h2 : ¬ y < x := fun h => absurd (UInt8.lt_trans h1 h) (UInt8.lt_irrefl _)
      have h3 : ¬ y = x := fun e => by subst e; exact h2 h1
      simp [h1, h2, h3]
    · by_cases h2 : y < x
      · have hne : ¬ x = y := fun e => by subst e; exact h1 h2
        simp [h1, h2, hne]
      · have : x = y := UInt8.le_antisymm (UInt8.not_lt.1 h2) (UInt8.not_lt.1 h1)
        subst this
        simpa [h1] using ih
/-- -1, 0 or 1. -/
def sg (a b : Int) : Int := if a < b then -1 else if b < a then 1 else 0
def cmpV (a b : Int) (s : ByteArray) (a' b' : Int) (s' : ByteArray) : Int := if a = a' then (if b = b' then Lib.compareBytes (bs s) (bs s') else sg b b') else sg a a'
theorem cmpInt_eq (a b : Int) : cmp_Compare_int.f a b = some (sg a b) := by
  unfold cmp_Compare_int.f cmp_isNaN_int.f sg
  simp only [Option.bind_some, bne_self_eq_false, Bool.false_eq_true, if_false, gt_iff_lt]
  split
  · rfl
  · split <;> rfl
theorem sg_zero {a b : Int} : sg a b = 0 ↔ a = b := by
  unfold sg
  split
  · simp; omega
  · split
    · simp; omega
    · simp; omega
theorem or3 (k : Nat) (hk : 4 ≤ k) (x y z : Int) : cmp_Or_int.f k [x, y, z] = some (if x = 0 then (if y = 0 then z else y) else x) := by
  obtain ⟨k, rfl⟩ : ∃ m, k = m + 4 := ⟨k - 4, by omega⟩
  simp only [cmp_Or_int.f, cmp_Or_int.l0, List.length_cons, List.length_nil]
  by_cases h1 : x = 0 <;> by_cases h2 : y = 0 <;> by_cases h3 : z = 0 <;> simp [rd, wrap64, h1, h2, h3]
theorem compare_eq (k : Nat) (hk : 4 ≤ k) (a b : Int) (s : ByteArray) (a' b' : Int) (s' : ByteArray) : value_Compare.f k a b s a' b' s' = some (cmpV a b s a' b' s') := by
  unfold value_Compare.f cmpV
  simp only [cmpInt_eq, Option.bind_some, strings_Compare.f, or3 k hk, sg_zero, bs]
/-- The truth value of a comparison. -/
def tru (a a' : Int) (is : Bool) : Int := if a = 0 then 1 else if a = a' then (if is then 2 else 0) else 1
theorem decide_eq (k : Nat) (hk : 1 ≤ k) (a b : Int) (s : ByteArray) (a' b' : Int) (s' : ByteArray) (is : Bool) : value_decide.f k a b s a' b' s' is = some (tru a a' is) := by
  obtain ⟨k, rfl⟩ : ∃ m, k = m + 1 := ⟨k - 1, by omega⟩
  unfold value_decide.f tru
  by_cases h0 : a = 0
  · simp [h0, value_decide.j0]
  · by_cases h1 : a = a'
    · subst h1; cases is <;> simp [h0, value_decide.j0]
    · simp [h0, h1, value_decide.j0]
theorem equal_eq (k : Nat) (hk : 4 ≤ k) (a b : Int) (s : ByteArray) (a' b' : Int) (s' : ByteArray) : value_Equal.f k a b s a' b' s' = some (tru a a' (cmpV a b s a' b' s' == 0)) := by
  unfold value_Equal.f; simp only [compare_eq k hk, Option.bind_some, decide_eq k (by omega)]
/-! ### Logic -/
def nrm (a : Int) : Int := if a = 0 then 0 else if a = 2 then 2 else 1
theorem normal_eq (a : Int) : value_normal.f a = some (nrm a) := by
  unfold value_normal.f nrm
  by_cases h0 : a = 0 <;> by_cases h2 : a = 2 <;> simp [h0, h2]
theorem nrm_cases (a : Int) : nrm a = 0 ∨ nrm a = 1 ∨ nrm a = 2 := by
  unfold nrm
  split
  · simp
  · split <;> simp
theorem least_eq (k : Nat) (hk : 3 ≤ k) (x y : Int) : value_least.f k [x, y] = some (mn (nrm x) (nrm y)) := by
  obtain ⟨k, rfl⟩ : ∃ m, k = m + 3 := ⟨k - 3, by omega⟩
  simp only [value_least.f, value_least.l0, List.length_cons, List.length_nil, normal_eq, Option.bind_some]
  rcases nrm_cases x with h | h | h <;> rcases nrm_cases y with h' | h' | h' <;> simp [rd, wrap64, h, h', mn]
theorem and_eq (k : Nat) (hk : 3 ≤ k) (x y : Int) : value_And.f k x y = some (mn (nrm x) (nrm y)) := by
  unfold value_And.f; simp only [least_eq k hk, Option.bind_some]
/-! ### Numbers -/
def tens : ByteArray := ⟨#[48, 49, 50, 51, 52, 53, 54, 55, 56, 57]⟩
theorem digit_cut (n : Nat) (h : n ≤ 9) : bs (tens.extract n (n + 1)) = [UInt8.ofNat (48 + n)] := by
  have : n = 0 ∨ n = 1 ∨ n = 2 ∨ n = 3 ∨ n = 4 ∨ n = 5 ∨ n = 6 ∨ n = 7 ∨ n = 8 ∨ n = 9 := by omega
  rcases this with rfl | rfl | rfl | rfl | rfl | rfl | rfl | rfl | rfl | rfl <;> (rw [bs_extract]; rfl)
theorem decDigits_small {n : Nat} (h : n < 10) : Lib.decDigits n = [UInt8.ofNat (48 + n)] := by rw [Lib.decDigits, dif_pos h]
theorem decDigits_big {n : Nat} (h : ¬ n < 10) : Lib.decDigits n = Lib.decDigits (n / 10) ++ [UInt8.ofNat (48 + n % 10)] := by rw [Lib.decDigits, dif_neg h]
theorem decDigits_len : ∀ (m n : Nat), n < 10 ^ (m + 1) → (Lib.decDigits n).length ≤ m + 1
  | 0, n, h => by rw [decDigits_small (by omega)]; simp
  | m + 1, n, h => by
    by_cases h9 : n < 10
    · rw [decDigits_small h9]; simp
    · rw [decDigits_big h9, List.length_append]
      have := decDigits_len m (n / 10) (by rw [Nat.pow_succ] at h; omega)
      simp; omega
theorem itoa_len (n : Int) (h0 : -9223372036854775808 ≤ n) (h1 : n < 9223372036854775808) : (Lib.itoa n).length ≤ 25 := by
  have h2 := decDigits_len 19 n.natAbs (by omega)
  have h3 := decDigits_len 19 n.toNat (by omega)
  unfold Lib.itoa
  split <;> simp <;> omega
/-! ### Quotes -/
def dbl (c : UInt8) : List UInt8 := if c = 39 then [39, 39] else [c]
def quo (l : List UInt8) : List UInt8 := 39 :: (l.flatMap dbl ++ [39])
theorem dbl_len (c : UInt8) : (dbl c).length ≤ 2 := by unfold dbl; split <;> simp
theorem flat_len : ∀ l : List UInt8, (l.flatMap dbl).length ≤ 2 * l.length
  | [] => by simp
  | c :: l => by have := flat_len l; have := dbl_len c; simp only [List.flatMap_cons, List.length_append, List.length_cons]; omega
/-! ### Replacing, byte by byte -/
def raS (old new s : List UInt8) : List UInt8 := Lib.replaceK old new (Lib.count s old) s
theorem replaceAll_raS {s old new : List UInt8} (h : (old == new) = false) : Lib.replaceAll s old new = raS old new s := by
  unfold Lib.replaceAll Lib.replace raS Lib.replaceNum
  rw [h, if_pos (Or.inl (by decide))]; rfl
theorem raS_nil {old : List UInt8} (new : List UInt8) (h : old ≠ []) : raS old new [] = [] := by
  have hm : Lib.index [] old = -1 := by
    unfold Lib.index
    cases old with
    | nil => exact absurd rfl h
    | cons => rfl
  unfold raS
  rw [Lib.count_miss hm]; rfl
theorem raS_hit {b : UInt8} {l old : List UInt8} (new : List UInt8) (h : old ≠ []) (hp : old.isPrefixOf (b :: l) = true) : raS old new (b :: l) = new ++ raS old new ((b :: l).drop old.length) := by
  have hi : Lib.index (b :: l) old = ((0 : Nat) : Int) := by unfold Lib.index; rw [if_pos hp]; rfl
  unfold raS
  rw [Lib.count_hit h hi, Nat.add_comm 1, Lib.replaceK_hit _ _ _ _ _ hi, Nat.zero_add]
  rfl
theorem raS_miss {b : UInt8} {l old : List UInt8} (new : List UInt8) (h : old ≠ []) (hp : old.isPrefixOf (b :: l) = false) : raS old new (b :: l) = b :: raS old new l := by
  by_cases hm : Lib.index l old = -1
  · have hi : Lib.index (b :: l) old = -1 := by unfold Lib.index; rw [hp, hm]; rfl
    unfold raS
    rw [Lib.count_miss hi, Lib.count_miss hm]; rfl
  · have hge := Lib.index_ge l old
    obtain ⟨i, hi⟩ : ∃ i : Nat, Lib.index l old = i := ⟨(Lib.index l old).toNat, by omega⟩
    have hi' : Lib.index (b :: l) old = ((i + 1 : Nat) : Int) := by
      unfold Lib.index
      rw [hp, if_neg (by decide), if_neg (by rw [hi]; simp), hi]
      omega
    unfold raS
    rw [Lib.count_hit h hi', Lib.count_hit h hi, Nat.add_comm 1, Nat.add_comm 1, Lib.replaceK_hit _ _ _ _ _ hi', Lib.replaceK_hit _ _ _ _ _ hi, show i + 1 + old.length = (i + old.length) + 1 by omega]
    simp
theorem raS_one (l : List UInt8) : raS [39] [39, 39] l = l.flatMap dbl := by
  induction l with
  | nil => rw [raS_nil _ (by simp)]; rfl
  | cons c l ih =>
    by_cases hc : c = 39
    · subst hc
      rw [raS_hit _ (by simp) (by simp [List.isPrefixOf])]
      simp [dbl, ih]
    · rw [raS_miss _ (by simp) (by simpa [List.isPrefixOf] using fun e => hc e.symm), ih]
      simp [dbl, hc]
def rp (new : List UInt8) : List UInt8 → List UInt8
  | [] => []
  | [c] => [c]
  | c :: d :: l => if c = 39 then (if d = 39 then new ++ rp new l else c :: rp new (d :: l)) else c :: rp new (d :: l)
theorem raS_two (new : List UInt8) : ∀ l : List UInt8, raS [39, 39] new l = rp new l
  | [] => raS_nil _ (by simp)
  | [c] => by rw [raS_miss _ (by simp) (by simp [List.isPrefixOf]), raS_nil _ (by simp)]; rfl
  | c :: d :: l => by
    by_cases hc : c = 39
    · by_cases hd : d = 39
      · subst hc hd
        rw [raS_hit _ (by simp) (by simp [List.isPrefixOf]), rp, if_pos rfl, if_pos rfl]
        exact congrArg _ (raS_two new l)
      · rw [raS_miss _ (by simp) (by simp [List.isPrefixOf]; intro _ e; exact hd e.symm), raS_two new (d :: l), rp, if_pos hc, if_neg hd]
    · rw [raS_miss _ (by simp) (by simp [List.isPrefixOf]; intro e; exact absurd e.symm hc), raS_two new (d :: l), rp, if_neg hc]
def inner : List UInt8 → Option (List UInt8)
  | [] => some []
  | [c] => if c = 39 then none else some [c]
  | c :: d :: l => if c = 39 then (if d = 39 then (inner l).map (39 :: ·) else none) else (inner (d :: l)).map (c :: ·)
theorem inner_some : ∀ (l t : List UInt8), inner l = some t → rp [39] l = t ∧ 39 ∉ rp [] l ∧ prn t = prn l ∧ t.flatMap dbl = l ∧ t.length ≤ l.length
  | [], t, h => by simp [inner] at h; subst h; simp [rp]
  | [c], t, h => by
    by_cases hc : c = 39
    · simp [inner, hc] at h
    · simp [inner, hc] at h; subst h; simp [rp, dbl, hc, Ne.symm hc]
  | c :: d :: l, t, h => by
    by_cases hc : c = 39
    · by_cases hd : d = 39
      · subst hc hd
        simp only [inner, if_true, Option.map_eq_some_iff] at h
        obtain ⟨t, ht, rfl⟩ := h
        obtain ⟨h1, h2, h3, h4, h5⟩ := inner_some l t ht
        refine ⟨by simp [rp, h1], by simpa [rp] using h2, ?_, by simp [dbl, h4], by simp; omega⟩
        have : inR 39 = true := by decide
        simp only [prn, List.all_cons, this, Bool.true_and] at h3 ⊢
        exact h3
      · simp [inner, hc, hd] at h
    · simp only [inner, if_neg hc, Option.map_eq_some_iff] at h
      obtain ⟨t, ht, rfl⟩ := h
      obtain ⟨h1, h2, h3, h4, h5⟩ := inner_some (d :: l) t ht
      refine ⟨by rw [rp, if_neg hc, h1], ?_, ?_, by rw [List.flatMap_cons, h4]; simp [dbl, hc], by simp at h5 ⊢; omega⟩
      · rw [rp, if_neg hc]; simp only [List.mem_cons, not_or]; exact ⟨Ne.symm hc, h2⟩
      · simp only [prn, List.all_cons] at h3 ⊢
        rw [h3]
theorem inner_none : ∀ l : List UInt8, inner l = none → 39 ∈ rp [] l
  | [], h => by simp [inner] at h
  | [c], h => by
    by_cases hc : c = 39
    · simp [rp, hc]
    · simp [inner, hc] at h
  | c :: d :: l, h => by
    by_cases hc : c = 39
    · by_cases hd : d = 39
      · subst hc hd
        simp only [inner, if_true, Option.map_eq_none_iff] at h
        simpa [rp] using inner_none l h
      · rw [rp, if_pos hc, if_neg hd]; simp [hc]
    · simp only [inner, if_neg hc, Option.map_eq_none_iff] at h
      rw [rp, if_neg hc]
      exact List.mem_cons_of_mem _ (inner_none (d :: l) h)
theorem inner_dbl (t : List UInt8) : inner (t.flatMap dbl) = some t := by
  induction t with
  | nil => rfl
  | cons c t ih =>
    by_cases hc : c = 39
    · subst hc
      simp only [List.flatMap_cons, dbl, if_true, List.cons_append, List.nil_append, inner, ih]; rfl
    · simp only [List.flatMap_cons, dbl, if_neg hc, List.cons_append, List.nil_append]
      cases hx : t.flatMap dbl with
      | nil =>
        rw [hx] at ih
        simp [inner] at ih
        subst ih
        simp [inner, hc]
      | cons d l => rw [hx] at ih; simp [inner, hc, ih]
theorem contains_one (l : List UInt8) : Lib.contains l [39] = decide (39 ∈ l) := by
  unfold Lib.contains
  induction l with
  | nil => rfl
  | cons c l ih =>
    unfold Lib.index
    by_cases hc : c = 39
    · subst hc; simp [List.isPrefixOf]
    · rw [if_neg (by simp [List.isPrefixOf]; exact fun e => hc e.symm)]
      have h39 : ¬ 39 = c := fun e => hc e.symm
      by_cases hm : Lib.index l [39] = -1
      · rw [hm] at ih ⊢
        simp at ih
        simp [h39, ih]
      · have := Lib.index_ge l [39]
        rw [decide_eq_true (show 0 ≤ Lib.index l [39] by omega)] at ih
        rw [if_neg (by simpa using hm), decide_eq_true (by omega)]
        simp at ih
        simp [ih]
/-! ### What a value's literal is -/
def litS (a b : Int) (s : ByteArray) : List UInt8 :=
  if vl a b s then (if a = 1 then Lib.itoa b else if a = 2 then quo (bs s) else if a = 3 then (if b = 1 then [84, 82, 85, 69] else [70, 65, 76, 83, 69]) else [78, 85, 76, 76]) else []
theorem countB_bs (a b : ByteArray) : Lib.countB a b = Lib.count (bs a) (bs b) := rfl
theorem rall_eq (s old new : ByteArray) (h1 : s.size < 4294967281) (h2 : 1 ≤ old.size) (h4 : new.size ≤ 2) (h5 : (bs old == bs new) = false) :
    strings_ReplaceAll.f s old new = some ⟨(raS (bs old) (bs new) (bs s)).toArray⟩ := by
  unfold strings_ReplaceAll.f
  have hc := Lib.count_le (bs s) (bs old)
  rw [bs_len] at hc
  have hm : Lib.countB s old * new.size ≤ (s.size + 1) * 2 := Nat.mul_le_mul hc h4
  rw [if_pos ⟨⟨h1, h2⟩, by omega⟩]
  exact congrArg (fun x => some (⟨x.toArray⟩ : ByteArray)) (replaceAll_raS h5)
theorem vl_text {b : Int} {s : ByteArray} (h : vl 2 b s = true) : b = 0 ∧ s.size ≤ 200 ∧ prn (bs s) = true := by
  simpa [vl] using h
theorem vl_int {b : Int} {s : ByteArray} (h : vl 1 b s = true) : s = e0 ∧ -1125899906842624 ≤ b ∧ b ≤ 1125899906842624 := by
  simp [vl] at h
  exact ⟨bs_inj h.1, h.2⟩
theorem vl_null {b : Int} {s : ByteArray} (h : vl 0 b s = true) : b = 0 ∧ s = e0 := by
  simp [vl] at h
  exact ⟨h.1, bs_inj h.2⟩
theorem vl_bool {b : Int} {s : ByteArray} (h : vl 3 b s = true) : s = e0 ∧ (b = 0 ∨ b = 1) := by
  simp [vl] at h
  exact ⟨bs_inj h.1, h.2⟩
theorem vl_kind {a b : Int} {s : ByteArray} (h : vl a b s = true) : a = 0 ∨ a = 1 ∨ a = 2 ∨ a = 3 := by
  unfold vl at h
  by_cases h0 : a = 0 <;> by_cases h1 : a = 1 <;> by_cases h2 : a = 2 <;> by_cases h3 : a = 3 <;> simp [h0, h1, h2, h3] at h ⊢
theorem lit_eq (k : Nat) (hk : 200 < k) (a b : Int) (s : ByteArray) : value_Literal.f k a b s = some ⟨(litS a b s).toArray⟩ := by
  unfold value_Literal.f litS
  rw [valid_eq k hk]
  cases hv : vl a b s with
  | false => rfl
  | true =>
    simp only [Option.bind_some, if_true]
    by_cases h1 : a = 1
    · subst h1
      obtain ⟨_, hb0, hb1⟩ := vl_int hv
      rw [if_pos rfl, if_pos rfl]
      unfold strconv_Itoa.f
      rw [if_pos (by omega), if_pos (by omega)]; rfl
    rw [if_neg h1, if_neg h1]
    by_cases h2 : a = 2
    · subst h2
      obtain ⟨_, hz, _⟩ := vl_text hv
      rw [if_pos rfl, if_pos rfl, rall_eq s _ _ (by omega) (by decide) (by decide) (by decide)]
      simp only [Option.bind_some]
      have e1 : bs ⟨#[39]⟩ = [39] := rfl
      have e2 : bs ⟨#[39, 39]⟩ = [39, 39] := rfl
      have l1 : (⟨#[39]⟩ : ByteArray).size = 1 := rfl
      rw [e1, e2, raS_one]
      have hl := flat_len (bs s)
      rw [bs_len] at hl
      rw [if_pos (by rw [size_mk]; omega), if_pos (by have h9 := size_append ⟨#[39]⟩ ⟨(List.flatMap dbl (bs s)).toArray⟩; rw [size_mk (List.flatMap dbl (bs s)), l1] at h9; omega)]
      refine congrArg some (bs_inj ?_)
      rw [bs_append, bs_append, bs_mk (List.flatMap _ _), bs_mk (quo _), e1]
      rfl
    rw [if_neg h2, if_neg h2]
    by_cases h3 : a = 3
    · rw [if_pos h3, if_pos h3]; split <;> rfl
    · rw [if_neg h3, if_neg h3]
/-! ### Texts in quotes -/
abbrev R4 := Int × Int × ByteArray × Int
def er (e : Int) : R4 := (0, 0, e0, e)
/-- What follows the first quote. -/
def txtS (m : List UInt8) : R4 := if prn m then (match inner m with | some t => if t.length ≤ 200 then (2, 0, ⟨t.toArray⟩, 0) else er 5 | none => er 1) else er 1
theorem cutSuffix_yes (s : ByteArray) (hs : s.size < 4611686018427387904) (m : List UInt8) (h : bs s = m ++ [39]) : strings_CutSuffix.f s ⟨#[39]⟩ = some (⟨m.toArray⟩, true) := by
  have hl : s.size = m.length + 1 := by rw [← bs_len, h]; simp
  have l1 : (⟨#[39]⟩ : ByteArray).size = 1 := rfl
  unfold strings_CutSuffix.f stringslite_CutSuffix.f stringslite_HasSuffix.f
  rw [l1, if_pos (by omega), w64 (by omega) (by omega), if_pos (by omega), if_pos (by omega)]
  simp only [Option.bind_some, toList_bs]
  rw [show ((s.size : Int) - ((1 : Nat) : Int)).toNat = m.length by omega, bs_extract, h, hl]
  have e9 : List.take (m.length + 1 - m.length) (List.drop m.length (m ++ [39])) = [39] := by simp
  have e8 : bs (⟨#[39]⟩ : ByteArray) = [39] := rfl
  rw [e9, e8]
  rw [if_pos (by decide), if_pos (by omega), if_pos (by omega)]
  simp only [Option.bind_some]
  refine congrArg some (Prod.ext (bs_inj ?_) rfl)
  rw [bs_extract, h, bs_mk m]
  simp
theorem cutSuffix_no (s : ByteArray) (hs : s.size < 4611686018427387904) (h : ∀ m, bs s ≠ m ++ [39]) : strings_CutSuffix.f s ⟨#[39]⟩ = some (s, false) := by
  have l1 : (⟨#[39]⟩ : ByteArray).size = 1 := rfl
  unfold strings_CutSuffix.f stringslite_CutSuffix.f stringslite_HasSuffix.f
  rw [l1]
  by_cases h0 : s.size = 0
  · rw [if_neg (by omega)]; simp
  · rw [if_pos (by omega), w64 (by omega) (by omega), if_pos (by omega), if_pos (by omega)]
    simp only [Option.bind_some, toList_bs]
    rw [show ((s.size : Int) - ((1 : Nat) : Int)).toNat = s.size - 1 by omega, bs_extract, show bs (⟨#[39]⟩ : ByteArray) = [39] from rfl]
    have hne : ((bs s).drop (s.size - 1)).take (s.size - (s.size - 1)) ≠ [39] := by
      intro e
      refine h ((bs s).take (s.size - 1)) ?_
      rw [List.take_of_length_le (by rw [List.length_drop, bs_len]; exact Nat.le_refl _)] at e
      rw [← e, List.take_append_drop]
    rw [if_neg (by simpa using hne)]
    simp
theorem parseText_eq (k : Nat) (s : ByteArray) (hs : s.size < 4294967281) (hk : s.size + 1 < k) :
    (∀ m, bs s = m ++ [39] → value_parseText.f k s = some (txtS m)) ∧ ((∀ m, bs s ≠ m ++ [39]) → value_parseText.f k s = some (er 1)) := by
  obtain ⟨k, rfl⟩ : ∃ m, k = m + 1 := ⟨k - 1, by omega⟩
  constructor
  · intro m hm
    have hl : s.size = m.length + 1 := by rw [← bs_len, hm]; simp
    have hsm : (⟨m.toArray⟩ : ByteArray).size = m.length := size_mk m
    unfold value_parseText.f
    rw [cutSuffix_yes s (by omega) m hm]
    simp only [Option.bind_some, if_true]
    rw [prn_eq _ (by omega) _ (by omega), bs_mk m]
    simp only [Option.bind_some, value_parseText.j0, txtS]
    cases hp : prn m with
    | false => simp [null_eq, er]
    | true =>
      have e1 : bs ⟨#[39]⟩ = [39] := rfl
      have e2 : bs ⟨#[39, 39]⟩ = [39, 39] := rfl
      have e3 : bs ⟨#[]⟩ = [] := rfl
      simp only [Bool.not_true, Bool.false_eq_true, if_false, if_true]
      rw [rall_eq ⟨m.toArray⟩ _ _ (by omega) (by decide) (by decide) (by decide), e2, e3, bs_mk m, raS_two]
      simp only [Option.bind_some]
      have hlen : ∀ l : List UInt8, (rp [] l).length ≤ l.length := by
        intro l
        fun_induction rp <;> simp_all <;> omega
      unfold strings_Contains.f
      rw [if_pos (by rw [size_mk]; have := hlen m; omega)]
      simp only [Option.bind_some]
      rw [contains_one]
      cases hi : inner m with
      | none =>
        have := inner_none m hi
        simp [this, null_eq, er]
      | some t =>
        obtain ⟨h1, h2, h3, h4, h5⟩ := inner_some m t hi
        rw [decide_eq_false h2]
        simp only [Bool.false_eq_true, if_false]
        rw [rall_eq ⟨m.toArray⟩ _ _ (by omega) (by decide) (by decide) (by decide), e2, e1, bs_mk m, raS_two, h1]
        simp only [Option.bind_some]
        rw [size_mk]
        by_cases hz : t.length ≤ 200
        · rw [if_neg (by omega), if_pos hz]
        · rw [if_pos (by omega), if_neg hz]; rfl
  · intro hm
    unfold value_parseText.f
    rw [cutSuffix_no s (by omega) hm]
    simp [value_parseText.j0, null_eq, er]
/-! ### Numbers that are read -/
def dig (c : UInt8) : Bool := decide (48 ≤ c.toNat) && decide (c.toNat ≤ 57)
theorem dig_yes {c : UInt8} (h : 48 ≤ c.toNat) (h' : c.toNat ≤ 57) : dig c = true := by simp [dig, h, h']
theorem dig_no {c : UInt8} (h : c.toNat < 48 ∨ 57 < c.toNat) : dig c = false := by simp [dig]; omega
def numS : List UInt8 → Int → Option Int
  | [], n => some n
  | c :: l, n => if dig c then numS l (mn (10 * n + ((c.toNat : Int) - 48)) 1125899906842625) else none
theorem mn_le (a b : Int) : mn a b ≤ b ∧ mn a b ≤ a := by unfold mn; split <;> omega
theorem mn_ge {a b c : Int} (h : c ≤ a) (h' : c ≤ b) : c ≤ mn a b := by unfold mn; split <;> omega
def fin (neg : Bool) : Option Int → R4
  | none => er 1
  | some n => if n > 1125899906842624 then er 6 else (1, if neg then -n else n, e0, 0)
theorem int_loop (s : ByteArray) (neg : Bool) (hs : s.size < 4611686018427387904) : ∀ (d i k : Nat) (n : Int), i + d = s.size → d < k → 0 ≤ n → n ≤ 1125899906842625 →
    value_parseInt.l0 k s neg n (s.size : Int) (i : Int) = some (fin neg (numS ((bs s).drop i) n)) := by
  intro d
  induction d with
  | zero =>
    intro i k n hi hk h0 h1
    obtain ⟨k, rfl⟩ : ∃ m, k = m + 1 := ⟨k - 1, by omega⟩
    simp only [value_parseInt.l0]
    rw [if_neg (by omega), List.drop_of_length_le (by rw [bs_len]; omega)]
    simp only [numS, fin, null_eq, Option.bind_some]
    by_cases hn : n > 1125899906842624
    · rw [if_pos hn, if_pos hn]; rfl
    · rw [if_neg hn, if_neg hn, w64 (by omega) (by omega)]
      cases neg <;> rfl
  | succ d ih =>
    intro i k n hi hk h0 h1
    obtain ⟨k, rfl⟩ : ∃ m, k = m + 1 := ⟨k - 1, by omega⟩
    have hl : i < (bs s).length := by rw [bs_len]; omega
    simp only [value_parseInt.l0]
    rw [if_pos (by omega), if_pos (by omega), if_pos (by omega), bt_nat s i hl, bs_drop s i hl]
    have hc := ((bs s)[i]).toNat_lt
    generalize (bs s)[i] = c at hc ⊢
    simp only [numS, null_eq, Option.bind_some]
    by_cases h2 : c.toNat < 48
    · rw [if_pos (by omega), dig_no (by omega)]; rfl
    · rw [if_neg (by omega)]
      by_cases h3 : c.toNat > 57
      · rw [if_pos (by omega), dig_no (by omega)]; rfl
      · rw [if_neg (by omega), if_pos (dig_yes (by omega) (by omega))]
        rw [show ((c.toNat : Int) - 48) % 256 = (c.toNat : Int) - 48 by omega, w64 (n := 10 * n) (by omega) (by omega), w64 (by omega) (by omega), w64 (by omega) (by omega), show ((i : Int) + 1) = ((i + 1 : Nat) : Int) by omega]
        have hm := mn_le (10 * n + ((c.toNat : Int) - 48)) 1125899906842625
        exact ih (i + 1) k _ (by omega) (by omega) (mn_ge (by omega) (by omega)) hm.1
/-- A number behind its sign. -/
def intS (neg : Bool) (l : List UInt8) : R4 := if l = [] ∨ (l.head? = some 48 ∧ (neg = true ∨ 1 < l.length)) then er 1 else fin neg (numS l 0)
def signed (l : List UInt8) : Bool × List UInt8 := match l with | [] => (false, []) | c :: l => if c = 45 then (true, l) else (false, c :: l)
theorem cutPrefix_eq (s : ByteArray) (hs : s.size < 4611686018427387904) : strings_CutPrefix.f s ⟨#[45]⟩ = some (⟨(signed (bs s)).2.toArray⟩, (signed (bs s)).1) := by
  have l1 : (⟨#[45]⟩ : ByteArray).size = 1 := rfl
  have hb : bs (⟨#[45]⟩ : ByteArray) = [45] := rfl
  unfold strings_CutPrefix.f stringslite_CutPrefix.f stringslite_HasPrefix.f
  rw [l1]
  cases hl : bs s with
  | nil =>
    have : s.size = 0 := by rw [← bs_len, hl]; rfl
    rw [if_neg (by omega)]
    have he : s = ⟨#[]⟩ := bs_inj hl
    subst he
    rfl
  | cons c l =>
    have hz : s.size = l.length + 1 := by rw [← bs_len, hl]; simp
    rw [if_pos (by omega), if_pos (by omega), if_pos (by omega)]
    simp only [Option.bind_some, toList_bs]
    rw [bs_extract, hl, hb, show (((1 : Nat) : Int) : Int).toNat = 1 from rfl]
    simp only [List.drop_zero, Nat.sub_zero, List.take_succ_cons, List.take_zero]
    by_cases hc : c = 45
    · subst hc
      rw [if_pos (by decide), if_pos (by omega), if_pos (by omega)]
      simp only [Option.bind_some, signed, if_true]
      refine congrArg some (Prod.ext (bs_inj ?_) rfl)
      rw [bs_extract, hl, bs_mk l, hz]
      simp
    · rw [if_neg (by simpa using hc)]
      simp only [Option.bind_some, signed, if_neg hc]
      refine congrArg some (Prod.ext (bs_inj ?_) rfl)
      rw [bs_mk (c :: l), hl]
theorem parseInt_eq (k : Nat) (s : ByteArray) (hs : s.size < 4611686018427387904) (hk : s.size + 1 < k) : value_parseInt.f k s = some (intS (signed (bs s)).1 (signed (bs s)).2) := by
  obtain ⟨k, rfl⟩ : ∃ m, k = m + 1 := ⟨k - 1, by omega⟩
  unfold value_parseInt.f
  rw [cutPrefix_eq s hs]
  simp only [Option.bind_some]
  have hlen : (signed (bs s)).2.length ≤ s.size := by
    rw [← bs_len]
    unfold signed
    cases bs s with
    | nil => simp
    | cons c l => simp only; split <;> simp
  generalize (signed (bs s)).1 = neg
  revert hlen
  generalize (signed (bs s)).2 = l
  intro hlen
  have hz : (⟨l.toArray⟩ : ByteArray).size = l.length := size_mk l
  have hb : bs (⟨l.toArray⟩ : ByteArray) = l := bs_mk l
  have hj : ∀ b : Bool, value_parseInt.j0 (k + 1) ⟨l.toArray⟩ neg b = some (if b = true then er 1 else fin neg (numS l 0)) := by
    intro b
    simp only [value_parseInt.j0]
    cases b with
    | true => rfl
    | false =>
      have := int_loop ⟨l.toArray⟩ neg (by omega) l.length 0 k 0 (by omega) (by omega) (by omega) (by omega)
      rw [show ((0 : Nat) : Int) = 0 from rfl, hb] at this
      simpa using this
  rw [toList_bs, hb]
  unfold intS
  cases l with
  | nil => rw [if_pos rfl, hj]; simp
  | cons c l =>
    rw [if_neg (by simp), if_pos (by rw [hz]; simp)]
    have hbt : bt ⟨(c :: l).toArray⟩ 0 = (c.toNat : Int) := by
      have := bt_nat ⟨(c :: l).toArray⟩ 0 (by rw [hb]; simp)
      rw [show ((0 : Nat) : Int) = 0 from rfl] at this
      rw [this]
      simp [hb]
    rw [hbt]
    by_cases hc : c = 48
    · subst hc
      rw [if_pos (by decide)]
      cases neg with
      | true => rw [if_pos rfl, hj]; simp
      | false =>
        rw [if_neg (by simp), hj, hz]
        simp
        have e7 : (1 < (l.length : Int) + 1) ↔ (0 < l.length) := by omega
        simp only [e7]
    · rw [if_neg (fun e => hc (UInt8.toNat.inj (by rw [show c.toNat = 48 by omega]; rfl))), hj]
      simp [hc]
/-! ### What is read -/
def parS (l : List UInt8) : R4 :=
  if l = [78, 85, 76, 76] then er 0 else if l = [84, 82, 85, 69] then (3, 1, e0, 0) else if l = [70, 65, 76, 83, 69] then (3, 0, e0, 0)
  else match l with
    | c :: r => if c = 39 then (if r.getLast? = some 39 then txtS r.dropLast else er 1) else intS (signed l).1 (signed l).2
    | [] => intS (signed l).1 (signed l).2
theorem last_iff (r : List UInt8) : (r.getLast? = some 39) ↔ ∃ m, r = m ++ [39] := by
  constructor
  · intro h
    have hne : r ≠ [] := fun e => by subst e; simp at h
    refine ⟨r.dropLast, ?_⟩
    rw [List.getLast?_eq_some_getLast hne] at h
    have h9 := List.dropLast_concat_getLast hne
    rw [Option.some.inj h] at h9
    exact h9.symm
  · rintro ⟨m, rfl⟩; simp
def isQ : List UInt8 → Bool
  | [] => false
  | c :: _ => c == 39
theorem hasPrefix_q (s : ByteArray) : strings_HasPrefix.f s ⟨#[39]⟩ = some (isQ (bs s)) := by
  have l1 : (⟨#[39]⟩ : ByteArray).size = 1 := rfl
  have hb : bs (⟨#[39]⟩ : ByteArray) = [39] := rfl
  unfold strings_HasPrefix.f stringslite_HasPrefix.f
  rw [l1]
  cases hl : bs s with
  | nil =>
    have : s.size = 0 := by rw [← bs_len, hl]; rfl
    rw [if_neg (by omega)]; rfl
  | cons c l =>
    have hz : s.size = l.length + 1 := by rw [← bs_len, hl]; simp
    rw [if_pos (by omega), if_pos (by omega), if_pos (by omega)]
    simp only [Option.bind_some, toList_bs]
    rw [bs_extract, hl, hb, show (((1 : Nat) : Int) : Int).toNat = 1 from rfl]
    simp [isQ]
theorem parse_eq (k : Nat) (s : ByteArray) (hs : s.size < 4294967281) (hk : s.size + 2 < k) : value_Parse.f k s = some (parS (bs s)) := by
  obtain ⟨k, rfl⟩ : ∃ m, k = m + 1 := ⟨k - 1, by omega⟩
  unfold value_Parse.f parS
  simp only [toList_bs]
  by_cases h1 : bs s = [78, 85, 76, 76]
  · rw [if_pos h1, if_pos h1]; rfl
  rw [if_neg h1, if_neg h1]
  by_cases h2 : bs s = [84, 82, 85, 69]
  · rw [if_pos h2, if_pos h2]
    simp only [value_Parse.j0, if_true, toList_bs, h2]
    rfl
  rw [if_neg h2, if_neg h2]
  by_cases h3 : bs s = [70, 65, 76, 83, 69]
  · rw [if_pos h3, h3]
    simp only [value_Parse.j0, toList_bs, h3]
    rfl
  rw [if_neg h3]
  rw [show (bs s == [70, 65, 76, 83, 69]) = false by simpa using h3]
  simp only [value_Parse.j0, Bool.false_eq_true, if_false]
  rw [hasPrefix_q]
  simp only [Option.bind_some]
  cases hl : bs s with
  | nil =>
    rw [if_neg (show ¬ isQ [] = true by decide), parseInt_eq k s (by omega) (by omega), hl]; rfl
  | cons c r =>
    have hz : s.size = r.length + 1 := by rw [← bs_len, hl]; simp
    have hx : bs (s.extract 1 s.size) = r := by rw [bs_extract, hl, hz]; simp
    have hxz : (s.extract 1 s.size).size = r.length := by rw [← bs_len, hx]
    by_cases hc : c = 39
    · subst hc
      rw [if_pos (show isQ (39 :: r) = true from rfl), if_pos (show 1 ≤ (s.size : Int) by omega)]
      simp only [if_true]
      obtain ⟨p1, p2⟩ := parseText_eq k (s.extract 1 s.size) (by omega) (by omega)
      rw [hx] at p1 p2
      by_cases hr : r.getLast? = some 39
      · obtain ⟨m, rfl⟩ := (last_iff r).1 hr
        rw [if_pos hr, p1 m rfl]
        simp
      · rw [if_neg hr, p2 (fun m e => hr ((last_iff r).2 ⟨m, e⟩))]; rfl
    · rw [if_neg (show ¬ isQ (c :: r) = true by simpa [isQ] using hc), parseInt_eq k s (by omega) (by omega), hl]
      simp only [if_neg hc]; rfl
/-! ### The reference's reading -/
def uq (m : List UInt8) : Option (List UInt8) := match inner m with | some t => if prn t then some t else none | none => none
theorem mn_cap (a : Int) : mn a 1125899906842625 = if a > 1125899906842624 then 1125899906842625 else a := by
  unfold mn
  by_cases h : 1125899906842625 < a
  · rw [if_pos h, if_pos (by omega)]
  · rw [if_neg h]
    split
    · omega
    · rfl
def okS (o : Option Int) : Int × Bool := match o with | none => (0, false) | some n => (n, true)
def numOk (l : List UInt8) : Option Int := if l = [] ∨ (l.head? = some 48 ∧ 1 < l.length) then none else numS l 0
theorem numS_pos : ∀ (l : List UInt8) (n m : Int), numS l n = some m → 1 ≤ n → 1 ≤ m
  | [], n, m, h, hn => by simp [numS] at h; omega
  | c :: l, n, m, h, hn => by
    simp only [numS] at h
    by_cases hd : dig c = true
    · rw [if_pos hd] at h
      have hd' : 48 ≤ c.toNat := by simp [dig] at hd; exact hd.1
      exact numS_pos l _ m h (mn_ge (by omega) (by omega))
    · rw [if_neg hd] at h; cases h
theorem numS_range : ∀ (l : List UInt8) (n m : Int), numS l n = some m → 0 ≤ n → n ≤ 1125899906842625 → 0 ≤ m ∧ m ≤ 1125899906842625
  | [], n, m, h, hn, hn' => by simp [numS] at h; omega
  | c :: l, n, m, h, hn, hn' => by
    simp only [numS] at h
    by_cases hd : dig c = true
    · rw [if_pos hd] at h
      have hd' : 48 ≤ c.toNat := by simp [dig] at hd; exact hd.1
      exact numS_range l _ m h (mn_ge (by omega) (by omega)) (mn_le _ _).1
    · rw [if_neg hd] at h; cases h
/-- The two ways to read a signed number agree. -/
theorem intS_ok (neg : Bool) (l : List UInt8) : intS neg l = match numOk l with | none => er 1 | some n => if neg = true ∧ n = 0 then er 1 else fin neg (some n) := by
  unfold intS numOk
  cases l with
  | nil => simp
  | cons c l =>
    by_cases hc : c = 48
    · subst hc
      by_cases h1 : 0 < l.length
      · simp [h1]
      · have : l = [] := List.eq_nil_of_length_eq_zero (by omega)
        subst this
        have : numS [48] 0 = some 0 := by decide
        cases neg <;> simp [this]
    · simp [hc]
      cases hn : numS (c :: l) 0 with
      | none => rfl
      | some n =>
        have hpos : n ≠ 0 := by
          simp only [numS] at hn
          by_cases hd : dig c = true
          · rw [if_pos hd] at hn
            have hd' : 48 ≤ c.toNat := by simp [dig] at hd; exact hd.1
            have hne : c.toNat ≠ 48 := fun e => hc (UInt8.toNat.inj (by rw [e]; rfl))
            have := numS_pos l _ n hn (mn_ge (by omega) (by omega))
            omega
          · rw [if_neg hd] at hn; cases hn
        simp [hpos]
theorem orN_int {n : Int} (h0 : -1125899906842624 ≤ n) (h1 : n ≤ 1125899906842624) : orN 1 n e0 = (1, n, e0) := by
  have h2 : vl 1 n e0 = true := by
    unfold vl
    rw [if_neg (by decide), if_pos rfl, decide_eq_true h0, decide_eq_true h1]; rfl
  unfold orN; rw [h2]; rfl
theorem orN_text {s : ByteArray} (h0 : s.size ≤ 200) (h1 : prn (bs s) = true) : orN 2 0 s = (2, 0, s) := by
  have h2 : vl 2 0 s = true := by
    unfold vl
    rw [if_neg (by decide), if_neg (by decide), if_pos rfl, decide_eq_true h0, h1]; rfl
  unfold orN; rw [h2]; rfl
theorem intS_quote (r : List UInt8) : intS false (39 :: r) = er 1 := by
  unfold intS
  rw [if_neg (by simp)]
  simp only [numS, dig_no (c := 39) (by decide), Bool.false_eq_true, if_false]
  rfl
/-! ### The chapter's examples -/
theorem orN_bad : orN 1 1125899906842625 e0 = (0, 0, e0) := by decide
theorem awake_eq (k : Nat) (hk : 300 < k) : bitemporallaw07_awake.f k = some true := by
  unfold bitemporallaw07_awake.f
  rw [parse_eq k _ (by decide) (by have : (⟨#[45, 48]⟩ : ByteArray).size = 2 := rfl
                                   omega),
    parse_eq k _ (by decide) (by have : (⟨#[49, 49, 50, 53, 56, 57, 57, 57, 48, 54, 56, 52, 50, 54, 50, 53]⟩ : ByteArray).size = 16 := rfl
                                 omega)]
  simp only [Option.bind_some, int_eq k (show 200 < k by omega), null_eq, text_eq k (show 200 < k by omega), equal_eq k (show 4 ≤ k by omega), and_eq k (show 3 ≤ k by omega), lit_eq k (show 200 < k by omega)]
  have h1 : orN 1 1 e0 = (1, 1, e0) := by decide
  have h2 : orN 2 0 ⟨#[49]⟩ = (2, 0, ⟨#[49]⟩) := by decide
  have h3 : orN 2 0 ⟨#[105, 116, 39, 115]⟩ = (2, 0, ⟨#[105, 116, 39, 115]⟩) := by decide
  have h4 : litS 2 0 ⟨#[105, 116, 39, 115]⟩ = [39, 105, 116, 39, 39, 115, 39] := by decide
  have h5 : parS (bs ⟨#[45, 48]⟩) = er 1 := by decide
  have h6 : parS (bs ⟨#[49, 49, 50, 53, 56, 57, 57, 57, 48, 54, 56, 52, 50, 54, 50, 53]⟩) = er 6 := by decide
  rw [orN_bad, h1, h2, h3, h5, h6]
  simp only [h4, veq, if_true]
  simp only [toList_bs, bs_mk]
  rfl
def ofS (a : Int) : Int × Int × ByteArray := if a = 2 then bl true else if a = 0 then bl false else (0, 0, e0)
theorem nrm_nrm {t : Int} (h : t = 0 ∨ t = 1 ∨ t = 2) : nrm t = t := by rcases h with rfl | rfl | rfl <;> rfl
theorem mn_cases {a b : Int} (ha : a = 0 ∨ a = 1 ∨ a = 2) (hb : b = 0 ∨ b = 1 ∨ b = 2) : mn a b = 0 ∨ mn a b = 1 ∨ mn a b = 2 := by unfold mn; split <;> assumption
/-! ### The order of values -/
theorem cb_range : ∀ a b : List UInt8, Lib.compareBytes a b = -1 ∨ Lib.compareBytes a b = 0 ∨ Lib.compareBytes a b = 1
  | [], [] => by simp [Lib.compareBytes]
  | [], _ :: _ => by simp [Lib.compareBytes]
  | _ :: _, [] => by simp [Lib.compareBytes]
  | x :: a, y :: b => by
    simp only [Lib.compareBytes]
    split
    · simp
    · split
      · simp
      · exact cb_range a b
theorem u8_tri {x y : UInt8} (h1 : ¬ x < y) (h2 : ¬ y < x) : x = y := UInt8.le_antisymm (UInt8.not_lt.1 h2) (UInt8.not_lt.1 h1)
theorem u8_asym {x y : UInt8} (h1 : x < y) : ¬ y < x := fun h2 => absurd (UInt8.lt_trans h1 h2) (UInt8.lt_irrefl _)
theorem cb_anti : ∀ a b : List UInt8, Lib.compareBytes b a = -Lib.compareBytes a b
  | [], [] => rfl
  | [], _ :: _ => rfl
  | _ :: _, [] => rfl
  | x :: a, y :: b => by
    simp only [Lib.compareBytes]
    by_cases h1 : x < y
    · rw [if_neg (u8_asym h1), if_pos h1, if_pos h1]; rfl
    · by_cases h2 : y < x
      · rw [if_pos h2, if_neg h1, if_pos h2]
      · rw [if_neg h2, if_neg h1, if_neg h1, if_neg h2]; exact cb_anti a b
theorem cb_zero : ∀ a b : List UInt8, Lib.compareBytes a b = 0 ↔ a = b
  | [], [] => by simp [Lib.compareBytes]
  | [], _ :: _ => by simp [Lib.compareBytes]
  | _ :: _, [] => by simp [Lib.compareBytes]
  | x :: a, y :: b => by
    simp only [Lib.compareBytes]
    by_cases h1 : x < y
    · rw [if_pos h1]
      have : x ≠ y := fun e => by subst e; exact UInt8.lt_irrefl _ h1
      simp [this]
    · by_cases h2 : y < x
      · rw [if_neg h1, if_pos h2]
        have : x ≠ y := fun e => by subst e; exact UInt8.lt_irrefl _ h2
        simp [this]
      · rw [if_neg h1, if_neg h2, u8_tri h1 h2, cb_zero a b]; simp
theorem cb_trans : ∀ a b c : List UInt8, Lib.compareBytes a b ≤ 0 → Lib.compareBytes b c ≤ 0 → Lib.compareBytes a c ≤ 0
  | [], _, [], _, _ => by simp [Lib.compareBytes]
  | [], _, _ :: _, _, _ => by simp [Lib.compareBytes]
  | _ :: _, [], _, h, _ => by simp [Lib.compareBytes] at h
  | _ :: _, _ :: _, [], _, h => by simp [Lib.compareBytes] at h
  | x :: a, y :: b, z :: c, h, h' => by
    simp only [Lib.compareBytes] at h h' ⊢
    by_cases h1 : x < y
    · by_cases h2 : y < z
      · rw [if_pos (UInt8.lt_trans h1 h2)]; decide
      · rw [if_neg h2] at h'
        by_cases h3 : z < y
        · rw [if_pos h3] at h'; exact absurd h' (by decide)
        · have : y = z := u8_tri h2 h3
          subst this
          rw [if_pos h1]; decide
    · rw [if_neg h1] at h
      by_cases h3 : y < x
      · rw [if_pos h3] at h; exact absurd h (by decide)
      · have : x = y := u8_tri h1 h3
        subst this
        rw [if_neg h3] at h
        by_cases h2 : x < z
        · rw [if_pos h2]; decide
        · rw [if_neg h2] at h' ⊢
          by_cases h4 : z < x
          · rw [if_pos h4] at h'; exact absurd h' (by decide)
          · rw [if_neg h4] at h' ⊢
            exact cb_trans a b c h h'
theorem sg_range (a b : Int) : sg a b = -1 ∨ sg a b = 0 ∨ sg a b = 1 := by unfold sg; split; · simp
                                                                           split <;> simp
theorem sg_lt {a b : Int} (h : a < b) : sg a b = -1 := by unfold sg; rw [if_pos h]
theorem sg_gt {a b : Int} (h : b < a) : sg a b = 1 := by unfold sg; rw [if_neg (by omega), if_pos h]
theorem cmpV_range (a b : Int) (s : ByteArray) (a' b' : Int) (s' : ByteArray) : cmpV a b s a' b' s' = -1 ∨ cmpV a b s a' b' s' = 0 ∨ cmpV a b s a' b' s' = 1 := by
  unfold cmpV
  split
  · split
    · exact cb_range _ _
    · exact sg_range _ _
  · exact sg_range _ _
theorem cmpV_anti (a b : Int) (s : ByteArray) (a' b' : Int) (s' : ByteArray) : cmpV a' b' s' a b s = -cmpV a b s a' b' s' := by
  unfold cmpV
  by_cases h1 : a = a'
  · by_cases h2 : b = b'
    · rw [if_pos h1.symm, if_pos h2.symm, if_pos h1, if_pos h2]; exact cb_anti _ _
    · rw [if_pos h1.symm, if_neg (Ne.symm h2), if_pos h1, if_neg h2]
      rcases Int.lt_or_gt_of_ne h2 with h | h
      · rw [sg_lt h, sg_gt h]; rfl
      · rw [sg_gt h, sg_lt h]
  · rw [if_neg (Ne.symm h1), if_neg h1]
    rcases Int.lt_or_gt_of_ne h1 with h | h
    · rw [sg_lt h, sg_gt h]; rfl
    · rw [sg_gt h, sg_lt h]
theorem cmpV_zero (a b : Int) (s : ByteArray) (a' b' : Int) (s' : ByteArray) : cmpV a b s a' b' s' = 0 ↔ a = a' ∧ b = b' ∧ bs s = bs s' := by
  unfold cmpV
  by_cases h1 : a = a'
  · by_cases h2 : b = b'
    · rw [if_pos h1, if_pos h2, cb_zero]; simp [h1, h2]
    · rw [if_pos h1, if_neg h2, sg_zero]; simp [h2]
  · rw [if_neg h1, sg_zero]; simp [h1]
theorem cmpV_le (a b : Int) (s : ByteArray) (a' b' : Int) (s' : ByteArray) : cmpV a b s a' b' s' ≤ 0 ↔ a < a' ∨ (a = a' ∧ (b < b' ∨ (b = b' ∧ Lib.compareBytes (bs s) (bs s') ≤ 0))) := by
  unfold cmpV
  by_cases h1 : a = a'
  · by_cases h2 : b = b'
    · rw [if_pos h1, if_pos h2]; simp [h1, h2]
    · rw [if_pos h1, if_neg h2]
      rcases Int.lt_or_gt_of_ne h2 with h | h
      · rw [sg_lt h]; simp [h1, h]
      · rw [sg_gt h]; simp [h1, h2]; omega
  · rw [if_neg h1]
    rcases Int.lt_or_gt_of_ne h1 with h | h
    · rw [sg_lt h]; simp [h]
    · rw [sg_gt h]; simp [h1]; omega
theorem cmpV_trans {a b : Int} {s : ByteArray} {a' b' : Int} {s' : ByteArray} {a2 b2 : Int} {s2 : ByteArray} (h : cmpV a b s a' b' s' ≤ 0) (h' : cmpV a' b' s' a2 b2 s2 ≤ 0) : cmpV a b s a2 b2 s2 ≤ 0 := by
  rw [cmpV_le] at h h' ⊢
  rcases h with h | ⟨rfl, h | ⟨rfl, h⟩⟩
  · rcases h' with h' | ⟨rfl, _⟩
    · exact .inl (by omega)
    · exact .inl h
  · rcases h' with h' | ⟨rfl, h' | ⟨rfl, h'⟩⟩
    · exact .inl h'
    · exact .inr ⟨rfl, .inl (by omega)⟩
    · exact .inr ⟨rfl, .inl h⟩
  · rcases h' with h' | ⟨rfl, h' | ⟨rfl, h'⟩⟩
    · exact .inl h'
    · exact .inr ⟨rfl, .inl h'⟩
    · exact .inr ⟨rfl, .inr ⟨rfl, cb_trans _ _ _ h h'⟩⟩
theorem tru_unknown {a a' : Int} (h : a = 0 ∨ a ≠ a') (is : Bool) : tru a a' is = 1 := by
  unfold tru
  by_cases h0 : a = 0
  · rw [if_pos h0]
  · rw [if_neg h0, if_neg (h.resolve_left h0)]
/-! ### Written and read again -/
def val : List UInt8 → Nat → Nat
  | [], n => n
  | c :: l, n => val l (10 * n + (c.toNat - 48))
theorem val_snoc : ∀ (l : List UInt8) (c : UInt8) (n : Nat), val (l ++ [c]) n = 10 * val l n + (c.toNat - 48)
  | [], c, n => rfl
  | x :: l, c, n => val_snoc l c _
theorem val_ge : ∀ (l : List UInt8) (n m : Nat), m ≤ n → m ≤ val l n
  | [], n, m, h => h
  | x :: l, n, m, h => val_ge l _ m (by omega)
theorem dig_iff {c : UInt8} : dig c = true ↔ 48 ≤ c.toNat ∧ c.toNat ≤ 57 := by simp [dig]
theorem numS_val : ∀ (l : List UInt8) (N : Nat), l.all dig = true → numS l (mn N 1125899906842625) = some (mn (val l N) 1125899906842625)
  | [], N, _ => rfl
  | c :: l, N, h => by
    simp only [List.all_cons, Bool.and_eq_true] at h
    have hd := dig_iff.1 h.1
    rw [numS, if_pos h.1, val]
    have e : mn (10 * mn (N : Int) 1125899906842625 + ((c.toNat : Int) - 48)) 1125899906842625 = mn ((10 * N + (c.toNat - 48) : Nat) : Int) 1125899906842625 := by
      have : ((10 * N + (c.toNat - 48) : Nat) : Int) = 10 * (N : Int) + ((c.toNat : Int) - 48) := by omega
      rw [this]
      unfold mn
      by_cases h1 : 1125899906842625 < (N : Int)
      · rw [if_pos h1, if_pos (by omega), if_pos (by omega)]
      · rw [if_neg h1]
    rw [e]
    exact numS_val l _ h.2
theorem numS_all : ∀ (l : List UInt8) (n m : Int), numS l n = some m → l.all dig = true
  | [], _, _, _ => rfl
  | c :: l, n, m, h => by
    rw [numS] at h
    by_cases hd : dig c = true
    · rw [if_pos hd] at h
      simp only [List.all_cons, hd, Bool.true_and]
      exact numS_all l _ m h
    · rw [if_neg hd] at h; cases h
theorem ofNat_toNat (d : Nat) (h : d ≤ 9) : (UInt8.ofNat (48 + d)).toNat = 48 + d := by
  have : d = 0 ∨ d = 1 ∨ d = 2 ∨ d = 3 ∨ d = 4 ∨ d = 5 ∨ d = 6 ∨ d = 7 ∨ d = 8 ∨ d = 9 := by omega
  rcases this with rfl | rfl | rfl | rfl | rfl | rfl | rfl | rfl | rfl | rfl <;> rfl
theorem decDigits_spec (n : Nat) : (Lib.decDigits n).all dig = true ∧ val (Lib.decDigits n) 0 = n ∧ Lib.decDigits n ≠ [] ∧ ((Lib.decDigits n).head? = some 48 → n = 0) := by
  induction n using Nat.strongRecOn with
  | _ n ih =>
    by_cases h : n < 10
    · rw [decDigits_small h]
      have := ofNat_toNat n (by omega)
      refine ⟨?_, ?_, by simp, ?_⟩
      · simp only [List.all_cons, List.all_nil, Bool.and_true]
        exact dig_iff.2 (by omega)
      · simp only [val]; omega
      · intro h0
        simp only [List.head?_cons, Option.some.injEq] at h0
        rw [h0] at this
        have e : (48 : UInt8).toNat = 48 := rfl
        omega
    · rw [decDigits_big h]
      obtain ⟨h1, h2, h3, h4⟩ := ih (n / 10) (by omega)
      have := ofNat_toNat (n % 10) (by omega)
      refine ⟨?_, ?_, by simp, ?_⟩
      · rw [List.all_append, h1]
        simp only [List.all_cons, List.all_nil, Bool.and_true, Bool.true_and]
        exact dig_iff.2 (by omega)
      · rw [val_snoc, h2, this]; omega
      · intro h0
        have h0' : (Lib.decDigits (n / 10)).head? = some 48 := by
          cases hd : Lib.decDigits (n / 10) with
          | nil => exact absurd hd h3
          | cons x l => rw [hd] at h0; exact h0
        have := h4 h0'
        omega
theorem val_decDigits : ∀ (m : Nat) (l : List UInt8), l.length = m + 1 → l.all dig = true → (l.head? = some 48 → l.length = 1) → Lib.decDigits (val l 0) = l := by
  intro m
  induction m with
  | zero =>
    intro l hm ha _
    match l, hm with
    | [c], _ =>
      simp only [List.all_cons, List.all_nil, Bool.and_true] at ha
      have hd := dig_iff.1 ha
      have hof : UInt8.ofNat (48 + (c.toNat - 48)) = c := UInt8.toNat.inj (by rw [ofNat_toNat _ (by omega)]; omega)
      rw [show val [c] 0 = c.toNat - 48 by simp [val], decDigits_small (by omega), hof]
  | succ m ih =>
    intro l0 hm ha hh
    have hne : l0 ≠ [] := fun e => by subst e; simp at hm
    obtain ⟨l, c, rfl⟩ : ∃ l c, l0 = l ++ [c] := ⟨l0.dropLast, l0.getLast hne, (List.dropLast_concat_getLast hne).symm⟩
    rw [List.all_append] at ha
    simp only [List.all_cons, List.all_nil, Bool.and_true, Bool.and_eq_true] at ha
    have hd := dig_iff.1 ha.2
    rw [val_snoc]
    have hof : UInt8.ofNat (48 + (c.toNat - 48)) = c := UInt8.toNat.inj (by rw [ofNat_toNat _ (by omega)]; omega)
    cases l with
    | nil => simp at hm
    | cons x l =>
      have hx : x ≠ 48 := fun e => by subst e; have := hh (by simp); simp at this
      simp only [List.all_cons, Bool.and_eq_true] at ha
      have hdx := dig_iff.1 ha.1.1
      have hx' : x.toNat ≠ 48 := fun e => hx (UInt8.toNat.inj (by rw [e]; rfl))
      have hge : 1 ≤ val (x :: l) 0 := by rw [val]; exact val_ge l _ 1 (by omega)
      have := ih (x :: l) (by simp at hm ⊢; omega) (by simp only [List.all_cons, Bool.and_eq_true]; exact ha.1) (fun e => by simp at e; exact absurd e hx)
      rw [decDigits_big (by omega), show (10 * val (x :: l) 0 + (c.toNat - 48)) / 10 = val (x :: l) 0 by omega, show (10 * val (x :: l) 0 + (c.toNat - 48)) % 10 = c.toNat - 48 by omega, this, hof]
theorem numS_dec (n : Nat) (h : n ≤ 1125899906842624) : numS (Lib.decDigits n) 0 = some (n : Int) := by
  obtain ⟨h1, h2, _, _⟩ := decDigits_spec n
  have := numS_val (Lib.decDigits n) 0 h1
  rw [h2] at this
  rw [show mn ((0 : Nat) : Int) 1125899906842625 = 0 by rfl, show mn (n : Int) 1125899906842625 = n by unfold mn; rw [if_neg (by omega)]] at this
  exact this
theorem dec_numS (l : List UInt8) (n : Int) (hl : l ≠ []) (hh : l.head? = some 48 → l.length = 1) (h : numS l 0 = some n) (hn : n ≤ 1125899906842624) : 0 ≤ n ∧ Lib.decDigits n.toNat = l := by
  have ha := numS_all l 0 n h
  have := numS_val l 0 ha
  rw [show mn ((0 : Nat) : Int) 1125899906842625 = 0 by rfl, h] at this
  have e := Option.some.inj this
  have e2 : n = (val l 0 : Int) := by
    unfold mn at e
    split at e <;> omega
  refine ⟨by omega, ?_⟩
  rw [e2, Int.toNat_natCast]
  exact val_decDigits (l.length - 1) l (by have := List.length_pos_iff.2 hl; omega) ha hh
theorem inner_prn (t : List UInt8) : prn (t.flatMap dbl) = prn t := ((inner_some _ _ (inner_dbl t)).2.2.1).symm
/-- A valid value's literal reads as the value. -/
theorem back1 {a b : Int} {s : ByteArray} (h : vl a b s = true) : parS (litS a b s) = (a, b, s, 0) := by
  unfold litS
  rw [h]
  simp only [if_true]
  rcases vl_kind h with rfl | rfl | rfl | rfl
  · obtain ⟨rfl, rfl⟩ := vl_null h; rfl
  · obtain ⟨rfl, hb0, hb1⟩ := vl_int h
    rw [if_pos rfl]
    unfold Lib.itoa
    by_cases hneg : b < 0
    · rw [if_pos hneg]
      obtain ⟨h1, h2, h3, h4⟩ := decDigits_spec b.natAbs
      have hd := numS_dec b.natAbs (by omega)
      unfold parS
      rw [if_neg (by simp), if_neg (by simp), if_neg (by simp)]
      simp only [signed, if_true]
      rw [if_neg (by decide)]
      unfold intS
      have hh : ¬ (Lib.decDigits b.natAbs).head? = some 48 := fun e => by have := h4 e; omega
      rw [if_neg (by simp [h3, hh]), hd]
      simp only [fin, if_true]
      rw [if_neg (by omega), show -((b.natAbs : Nat) : Int) = b by omega]
    · rw [if_neg hneg]
      obtain ⟨h1, h2, h3, h4⟩ := decDigits_spec b.toNat
      have hd := numS_dec b.toNat (by omega)
      have hlen : (Lib.decDigits b.toNat).head? = some 48 → (Lib.decDigits b.toNat).length = 1 := fun e => by
        rw [h4 e, decDigits_small (by omega)]; rfl
      revert h1 h3 hd hlen
      generalize Lib.decDigits b.toNat = l
      intro h1 h3 hd hlen
      cases l with
      | nil => exact absurd rfl h3
      | cons c l =>
        simp only [List.all_cons, Bool.and_eq_true] at h1
        have hc := dig_iff.1 h1.1
        have hne : ∀ x : UInt8, (x.toNat < 48 ∨ 57 < x.toNat) → c ≠ x := fun x hx e => by subst e; omega
        unfold parS
        rw [if_neg (fun e => hne 78 (by decide) (List.cons.inj e).1), if_neg (fun e => hne 84 (by decide) (List.cons.inj e).1), if_neg (fun e => hne 70 (by decide) (List.cons.inj e).1)]
        simp only [signed, if_neg (hne 39 (by decide)), if_neg (hne 45 (by decide))]
        unfold intS
        rw [if_neg (by
          intro e
          rcases e with e | ⟨e1, e2⟩
          · cases e
          · rcases e2 with e2 | e2
            · cases e2
            · have := hlen e1; omega), hd]
        simp only [fin, Bool.false_eq_true, if_false]
        rw [if_neg (by omega), show ((b.toNat : Nat) : Int) = b by omega]
  · obtain ⟨rfl, hz, hp⟩ := vl_text h
    rw [if_neg (by decide), if_pos rfl]
    unfold quo parS
    rw [if_neg (by simp), if_neg (by simp), if_neg (by simp)]
    simp only [if_true]
    rw [if_pos (by simp), List.dropLast_concat]
    unfold txtS
    rw [inner_prn, hp, inner_dbl]
    simp only [if_true]
    rw [if_pos (by rw [bs_len]; exact hz), mk_bs]
  · obtain ⟨rfl, rfl | rfl⟩ := vl_bool h <;> rfl
theorem fin_ok {neg : Bool} {o : Option Int} {x : R4} (h : fin neg o = x) (h0 : x.2.2.2 = 0) : ∃ n, o = some n ∧ n ≤ 1125899906842624 ∧ x = (1, if neg = true then -n else n, e0, 0) := by
  cases o with
  | none => subst h; exact absurd h0 (show ¬ (1 : Int) = 0 by decide)
  | some n =>
    simp only [fin] at h
    by_cases hn : n > 1125899906842624
    · rw [if_pos hn] at h; subst h; exact absurd h0 (by decide)
    · rw [if_neg hn] at h; exact ⟨n, rfl, by omega, h.symm⟩
theorem vl_of_int {n : Int} (h0 : -1125899906842624 ≤ n) (h1 : n ≤ 1125899906842624) : vl 1 n e0 = true := by
  unfold vl
  rw [if_neg (by decide), if_pos rfl, decide_eq_true h0, decide_eq_true h1]; rfl
theorem intS_back {neg : Bool} {l : List UInt8} (h0 : (intS neg l).2.2.2 = 0) : vl (intS neg l).1 (intS neg l).2.1 (intS neg l).2.2.1 = true ∧ litS (intS neg l).1 (intS neg l).2.1 (intS neg l).2.2.1 = if neg = true then 45 :: l else l := by
  unfold intS at h0 ⊢
  by_cases hc : l = [] ∨ (l.head? = some 48 ∧ (neg = true ∨ 1 < l.length))
  · rw [if_pos hc] at h0; exact absurd h0 (by decide)
  · rw [if_neg hc] at h0 ⊢
    obtain ⟨n, h1, h2, h3⟩ := fin_ok rfl h0
    rw [h3]
    have hl : l ≠ [] := fun e => hc (.inl e)
    have hh : l.head? = some 48 → l.length = 1 := fun e => by
      have hx : ¬ 1 < l.length := fun e2 => hc (.inr ⟨e, .inr e2⟩)
      have := List.length_pos_iff.2 hl
      omega
    obtain ⟨h4, h5⟩ := dec_numS l n hl hh h1 h2
    cases neg with
    | false =>
      simp only [Bool.false_eq_true, if_false]
      have hv := vl_of_int (n := n) (by omega) h2
      refine ⟨hv, ?_⟩
      unfold litS
      rw [hv]
      simp only [if_true]
      unfold Lib.itoa
      rw [if_neg (by omega), h5]
    | true =>
      simp only [if_true]
      have hv := vl_of_int (n := -n) (by omega) (by omega)
      refine ⟨hv, ?_⟩
      have hn0 : n ≠ 0 := fun e => by
        subst e
        have : l = [48] := by rw [← h5]; rw [show (0 : Int).toNat = 0 from rfl, decDigits_small (by omega)]; rfl
        exact hc (.inr ⟨by rw [this]; rfl, .inl rfl⟩)
      unfold litS
      rw [hv]
      simp only [if_true]
      unfold Lib.itoa
      rw [if_pos (by omega), show (-n).natAbs = n.toNat by omega, h5]
/-- What is read without an error is a valid value whose literal is the text. -/
theorem back2 (l : List UInt8) (h0 : (parS l).2.2.2 = 0) : vl (parS l).1 (parS l).2.1 (parS l).2.2.1 = true ∧ litS (parS l).1 (parS l).2.1 (parS l).2.2.1 = l := by
  unfold parS at h0 ⊢
  by_cases h1 : l = [78, 85, 76, 76]
  · subst h1; exact ⟨by decide, by decide⟩
  rw [if_neg h1] at h0 ⊢
  by_cases h2 : l = [84, 82, 85, 69]
  · subst h2; exact ⟨by decide, by decide⟩
  rw [if_neg h2] at h0 ⊢
  by_cases h3 : l = [70, 65, 76, 83, 69]
  · subst h3; exact ⟨by decide, by decide⟩
  rw [if_neg h3] at h0 ⊢
  cases l with
  | nil => exact absurd h0 (by decide)
  | cons c r =>
    by_cases hc : c = 39
    · subst hc
      simp only [if_true] at h0 ⊢
      by_cases hr : r.getLast? = some 39
      · rw [if_pos hr] at h0 ⊢
        obtain ⟨m, rfl⟩ := (last_iff r).1 hr
        rw [List.dropLast_concat] at h0 ⊢
        unfold txtS at h0 ⊢
        by_cases hp : prn m = true
        · rw [if_pos hp] at h0 ⊢
          cases hi : inner m with
          | none => rw [hi] at h0; exact absurd h0 (by decide)
          | some t =>
            rw [hi] at h0
            simp only at h0 ⊢
            by_cases hz : t.length ≤ 200
            · rw [if_pos hz]
              obtain ⟨_, _, g3, g4, _⟩ := inner_some m t hi
              have hv : vl 2 0 ⟨t.toArray⟩ = true := by
                unfold vl
                rw [if_neg (by decide), if_neg (by decide), if_pos rfl, size_mk, decide_eq_true hz, bs_mk, g3, hp]; rfl
              refine ⟨hv, ?_⟩
              unfold litS
              rw [hv]
              simp only [if_true]
              rw [if_neg (by decide), bs_mk]
              unfold quo
              rw [g4]
            · rw [if_neg hz] at h0; exact absurd h0 (by decide)
        · rw [if_neg hp] at h0; exact absurd h0 (by decide)
      · rw [if_neg hr] at h0; exact absurd h0 (by decide)
    · simp only [if_neg hc] at h0 ⊢
      obtain ⟨g1, g2⟩ := intS_back h0
      refine ⟨g1, g2.trans ?_⟩
      unfold signed
      by_cases h45 : c = 45
      · subst h45; rfl
      · simp only [if_neg h45, Bool.false_eq_true, if_false]
theorem fin_bad {neg : Bool} {o : Option Int} (h0 : (fin neg o).2.2.2 ≠ 0) : ∃ e, fin neg o = er e := by
  cases o with
  | none => exact ⟨1, rfl⟩
  | some n =>
    simp only [fin] at h0 ⊢
    by_cases hn : n > 1125899906842624
    · rw [if_pos hn]; exact ⟨6, rfl⟩
    · rw [if_neg hn] at h0; exact absurd rfl h0
theorem parS_bad (l : List UInt8) (h0 : (parS l).2.2.2 ≠ 0) : ∃ e, parS l = er e := by
  have hi : ∀ neg d, (intS neg d).2.2.2 ≠ 0 → ∃ e, intS neg d = er e := fun neg d h => by
    unfold intS at h ⊢
    split at h
    · rename_i hc; rw [if_pos hc]; exact ⟨1, rfl⟩
    · rename_i hc; rw [if_neg hc]; exact fin_bad h
  unfold parS at h0 ⊢
  by_cases h1 : l = [78, 85, 76, 76]
  · rw [if_pos h1]; exact ⟨0, rfl⟩
  rw [if_neg h1] at h0 ⊢
  by_cases h2 : l = [84, 82, 85, 69]
  · rw [if_pos h2] at h0; exact absurd rfl h0
  rw [if_neg h2] at h0 ⊢
  by_cases h3 : l = [70, 65, 76, 83, 69]
  · rw [if_pos h3] at h0; exact absurd rfl h0
  rw [if_neg h3] at h0 ⊢
  cases l with
  | nil => exact hi _ _ h0
  | cons c r =>
    by_cases hc : c = 39
    · simp only [if_pos hc] at h0 ⊢
      by_cases hr : r.getLast? = some 39
      · rw [if_pos hr] at h0 ⊢
        unfold txtS at h0 ⊢
        by_cases hp : prn r.dropLast = true
        · rw [if_pos hp] at h0 ⊢
          cases hin : inner r.dropLast with
          | none => exact ⟨1, rfl⟩
          | some t =>
            rw [hin] at h0
            simp only at h0 ⊢
            by_cases hz : t.length ≤ 200
            · rw [if_pos hz] at h0; exact absurd rfl h0
            · rw [if_neg hz]; exact ⟨5, rfl⟩
        · rw [if_neg hp]; exact ⟨1, rfl⟩
      · rw [if_neg hr]; exact ⟨1, rfl⟩
    · simp only [if_neg hc] at h0 ⊢
      exact hi _ _ h0
end Go.Proofs.YtoopomkeigjekaaDoor.X
