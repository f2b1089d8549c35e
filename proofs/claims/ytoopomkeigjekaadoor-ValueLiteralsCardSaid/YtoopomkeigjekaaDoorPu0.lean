/- Plain lemmas about what the walked Go functions compute (numbers and lists of bytes alone). Conditions: those in each lemma. -/
import Derived.Test.YtoopomkeigjekaaDoorX2
import Derived.Test.YtoopomkeigjekaaDoorX3
import Derived.Test.YtoopomkeigjekaaDoorX4
import Derived.Test.YtoopomkeigjekaaDoorX5
import Derived.Lib.CountLaws
import Derived.Lib.Replace
namespace Go.Proofs.YtoopomkeigjekaaDoor.X
open Go.RowKit Go.Proofs.YtoopomkeigjekaaDoorW.PrintWords Go.Proofs.YtoopomkeigjekaaDoorW.PrintLast Go.Proofs.YtoopomkeigjekaaDoorW.PrintMore
set_option linter.unusedVariables false
set_option linter.unusedSimpArgs false
/-! ### Bytes -/
def bs (s : ByteArray) : List UInt8 := s.data.toList
theorem bs_len (s : ByteArray) : (bs s).length = s.size := Array.length_toList
theorem toList_bs (s : ByteArray) : s.toList = bs s := ByteArray.toList_eq s
theorem bs_inj {a b : ByteArray} (h : bs a = bs b) : a = b := ByteArray.ext (Array.toList_inj.1 h)
theorem bs_mk (l : List UInt8) : bs ⟨l.toArray⟩ = l := by simp [bs]
theorem size_mk (l : List UInt8) : (⟨l.toArray⟩ : ByteArray).size = l.length := by rw [← bs_len, bs_mk]
theorem bs_append (a b : ByteArray) : bs (a ++ b) = bs a ++ bs b := by simp [bs, ByteArray.data_append]
theorem size_append (a b : ByteArray) : (a ++ b).size = a.size + b.size := by rw [← bs_len, bs_append, List.length_append, bs_len, bs_len]
theorem bs_extract (a : ByteArray) (i j : Nat) : bs (a.extract i j) = ((bs a).drop i).take (j - i) := by
  simp [bs, ByteArray.data_extract, Array.toList_extract, List.extract_eq_take_drop]
theorem bt_nat (s : ByteArray) (i : Nat) (h : i < (bs s).length) : bt s (i : Int) = (((bs s)[i]).toNat : Int) := by
  have h' : i < s.size := by rw [bs_len] at h; exact h
  unfold bt
  rw [dif_pos (show (i : Int).toNat < s.size by omega)]
  simp [bs, ByteArray.getElem_eq_getElem_data]
theorem w64 {n : Int} (h0 : -9223372036854775808 ≤ n) (h1 : n < 9223372036854775808) : wrap64 n = n := by unfold wrap64; omega
theorem bs_drop (s : ByteArray) (i : Nat) (h : i < (bs s).length) : (bs s).drop i = (bs s)[i] :: (bs s).drop (i + 1) := List.drop_eq_getElem_cons h
/-! ### Printable texts -/
def inR (c : UInt8) : Bool := decide (32 ≤ c.toNat) && decide (c.toNat ≤ 126)
def prn (l : List UInt8) : Bool := l.all inR
theorem prn_step (c : UInt8) (l : List UInt8) : (if (c.toNat : Int) < 32 then some false else if (c.toNat : Int) > 126 then some false else some (prn l)) = some (prn (c :: l)) := by
  simp only [prn, List.all_cons, inR]
  by_cases h1 : c.toNat < 32
  · rw [if_pos (by omega), decide_eq_false (show ¬ 32 ≤ c.toNat by omega)]; rfl
  · rw [if_neg (by omega), decide_eq_true (show 32 ≤ c.toNat by omega)]
    by_cases h2 : 126 < c.toNat
    · rw [if_pos (by omega), decide_eq_false (show ¬ c.toNat ≤ 126 by omega)]; rfl
    · rw [if_neg (by omega), decide_eq_true (show c.toNat ≤ 126 by omega)]; rfl
theorem prn_loop (s : ByteArray) (hs : s.size < 4611686018427387904) : ∀ (d i k : Nat), i + d = s.size → d < k → value_printable.l0 k s (s.size : Int) (i : Int) = some (prn ((bs s).drop i)) := by
  intro d
  induction d with
  | zero =>
    intro i k hi hk
    obtain ⟨k, rfl⟩ : ∃ m, k = m + 1 := ⟨k - 1, by omega⟩
    simp only [value_printable.l0]
    rw [if_neg (by omega), List.drop_of_length_le (by rw [bs_len]; omega)]
    rfl
  | succ d ih =>
    intro i k hi hk
    obtain ⟨k, rfl⟩ : ∃ m, k = m + 1 := ⟨k - 1, by omega⟩
    have hl : i < (bs s).length := by rw [bs_len]; omega
    simp only [value_printable.l0]
    rw [if_pos (by omega), if_pos (by omega), if_pos (by omega), bt_nat s i hl, w64 (by omega) (by omega), show ((i : Int) + 1) = ((i + 1 : Nat) : Int) by omega, ih (i + 1) k (by omega) (by omega), bs_drop s i hl]
    exact prn_step _ _
theorem prn_eq (s : ByteArray) (hs : s.size < 4611686018427387904) (k : Nat) (hk : s.size < k) : value_printable.f k s = some (prn (bs s)) := by
  have := prn_loop s hs s.size 0 k (by omega) hk
  simpa [value_printable.f] using this
/-! ### Values -/
def vl (a b : Int) (s : ByteArray) : Bool :=
  if a = 0 then decide (b = 0) && (bs s).isEmpty
  else if a = 1 then (bs s).isEmpty && (decide (-1125899906842624 ≤ b) && decide (b ≤ 1125899906842624))
  else if a = 2 then decide (b = 0) && (decide (s.size ≤ 200) && prn (bs s))
  else if a = 3 then (bs s).isEmpty && (decide (b = 0) || decide (b = 1)) else false
theorem valid_eq (k : Nat) (hk : 200 < k) (a b : Int) (s : ByteArray) : value_Valid.f k a b s = some (vl a b s) := by
  unfold value_Valid.f vl
  simp only [toList_bs]
  by_cases h0 : a = 0
  · subst h0
    by_cases hb : b = 0 <;> simp [hb]
  by_cases h1 : a = 1
  · subst h1
    by_cases hs : bs s = [] <;> by_cases hb : -1125899906842624 ≤ b <;> simp [hs, hb]
  by_cases h2 : a = 2
  · subst h2
    by_cases hb : b = 0 <;> simp [hb]
    by_cases hz : s.size ≤ 200
    · rw [if_pos (by omega), prn_eq s (by omega) k (by omega)]; simp [hz]
    · rw [if_neg (by omega)]; simp [hz]
  by_cases h3 : a = 3
  · subst h3
    by_cases hs : bs s = [] <;> by_cases hb : b = 0 <;> simp [hs, hb]
    by_cases hb1 : b = 1 <;> simp [hb1]
  simp [h0, h1, h2, h3]
def e0 : ByteArray := ⟨#[]⟩
def orN (a b : Int) (s : ByteArray) : Int × Int × ByteArray := if vl a b s then (a, b, s) else (0, 0, e0)
theorem orNull_eq (k : Nat) (hk : 200 < k) (a b : Int) (s : ByteArray) : value_orNull.f k a b s = some (orN a b s) := by
  unfold value_orNull.f orN
  rw [valid_eq k hk]
  cases vl a b s <;> simp [value_Null.f, e0]
theorem int_eq (k : Nat) (hk : 200 < k) (n : Int) : value_Int.f k n = some (orN 1 n e0) := by
  unfold value_Int.f; rw [show (⟨#[]⟩ : ByteArray) = e0 from rfl, orNull_eq k hk]; rfl
theorem text_eq (k : Nat) (hk : 200 < k) (s : ByteArray) : value_Text.f k s = some (orN 2 0 s) := by
  unfold value_Text.f; rw [orNull_eq k hk]; rfl
theorem null_eq : value_Null.f = some (0, 0, e0) := rfl
theorem veq (x : Int × Int × ByteArray) : (x.1 == x.1 && (x.2.1 == x.2.1 && (x.2.2.toList == x.2.2.toList))) = true := by simp
/-- -1, 0 or 1. -/
def sg (a b : Int) : Int := if a < b then -1 else if b < a then 1 else 0
def cmpV (a b : Int) (s : ByteArray) (a' b' : Int) (s' : ByteArray) : Int := if a = a' then (if b = b' then Lib.compareBytes (bs s) (bs s') else sg b b') else sg a a'
theorem cmpInt_eq (a b : Int) : cmp_Compare_int.f a b = some (sg a b) := by
  unfold cmp_Compare_int.f cmp_isNaN_int.f sg
  simp only [Option.bind_some, bne_self_eq_false, Bool.false_eq_true, if_false, gt_iff_lt]
  split
  · rfl
  · split <;> rfl
theorem sg_zero {a b : Int} : sg a b = 0 ↔ a = b := by
  unfold sg
  split
  · simp; omega
  · split
    · simp; omega
    · simp; omega
theorem or3 (k : Nat) (hk : 4 ≤ k) (x y z : Int) : cmp_Or_int.f k [x, y, z] = some (if x = 0 then (if y = 0 then z else y) else x) := by
  obtain ⟨k, rfl⟩ : ∃ m, k = m + 4 := ⟨k - 4, by omega⟩
  simp only [cmp_Or_int.f, cmp_Or_int.l0, List.length_cons, List.length_nil]
  by_cases h1 : x = 0 <;> by_cases h2 : y = 0 <;> by_cases h3 : z = 0 <;> simp [rd, wrap64, h1, h2, h3]
theorem compare_eq (k : Nat) (hk : 4 ≤ k) (a b : Int) (s : ByteArray) (a' b' : Int) (s' : ByteArray) : value_Compare.f k a b s a' b' s' = some (cmpV a b s a' b' s') := by
  unfold value_Compare.f cmpV
  simp only [cmpInt_eq, Option.bind_some, strings_Compare.f, or3 k hk, sg_zero, bs]
/-- The truth value of a comparison. -/
def tru (a a' : Int) (is : Bool) : Int := if a = 0 then 1 else if a = a' then (if is then 2 else 0) else 1
theorem decide_eq (k : Nat) (hk : 1 ≤ k) (a b : Int) (s : ByteArray) (a' b' : Int) (s' : ByteArray) (is : Bool) : value_decide.f k a b s a' b' s' is = some (tru a a' is) := by
  obtain ⟨k, rfl⟩ : ∃ m, k = m + 1 := ⟨k - 1, by omega⟩
  unfold value_decide.f tru
  by_cases h0 : a = 0
  · simp [h0, value_decide.j0]
  · by_cases h1 : a = a'
    · subst h1; cases is <;> simp [h0, value_decide.j0]
    · simp [h0, h1, value_decide.j0]
theorem equal_eq (k : Nat) (hk : 4 ≤ k) (a b : Int) (s : ByteArray) (a' b' : Int) (s' : ByteArray) : value_Equal.f k a b s a' b' s' = some (tru a a' (cmpV a b s a' b' s' == 0)) := by
  unfold value_Equal.f; simp only [compare_eq k hk, Option.bind_some, decide_eq k (by omega)]
/-! ### Logic -/
def nrm (a : Int) : Int := if a = 0 then 0 else if a = 2 then 2 else 1
theorem normal_eq (a : Int) : value_normal.f a = some (nrm a) := by
  unfold value_normal.f nrm
  by_cases h0 : a = 0 <;> by_cases h2 : a = 2 <;> simp [h0, h2]
theorem nrm_cases (a : Int) : nrm a = 0 ∨ nrm a = 1 ∨ nrm a = 2 := by
  unfold nrm
  split
  · simp
  · split <;> simp
theorem least_eq (k : Nat) (hk : 3 ≤ k) (x y : Int) : value_least.f k [x, y] = some (mn (nrm x) (nrm y)) := by
  obtain ⟨k, rfl⟩ : ∃ m, k = m + 3 := ⟨k - 3, by omega⟩
  simp only [value_least.f, value_least.l0, List.length_cons, List.length_nil, normal_eq, Option.bind_some]
  rcases nrm_cases x with h | h | h <;> rcases nrm_cases y with h' | h' | h' <;> simp [rd, wrap64, h, h', mn]
theorem and_eq (k : Nat) (hk : 3 ≤ k) (x y : Int) : value_And.f k x y = some (mn (nrm x) (nrm y)) := by
  unfold value_And.f; simp only [least_eq k hk, Option.bind_some]
/-! ### Quotes -/
def dbl (c : UInt8) : List UInt8 := if c = 39 then [39, 39] else [c]
def quo (l : List UInt8) : List UInt8 := 39 :: (l.flatMap dbl ++ [39])
theorem dbl_len (c : UInt8) : (dbl c).length ≤ 2 := by unfold dbl; split <;> simp
theorem flat_len : ∀ l : List UInt8, (l.flatMap dbl).length ≤ 2 * l.length
  | [] => by simp
  | c :: l => by have := flat_len l; have := dbl_len c; simp only [List.flatMap_cons, List.length_append, List.length_cons]; omega
/-! ### Replacing, byte by byte -/
def raS (old new s : List UInt8) : List UInt8 := Lib.replaceK old new (Lib.count s old) s
theorem replaceAll_raS {s old new : List UInt8} (h : (old == new) = false) : Lib.replaceAll s old new = raS old new s := by
  unfold Lib.replaceAll Lib.replace raS Lib.replaceNum
  rw [h, if_pos (Or.inl (by decide))]; rfl
theorem raS_nil {old : List UInt8} (new : List UInt8) (h : old ≠ []) : raS old new [] = [] := by
  have hm : Lib.index [] old = -1 := by
    unfold Lib.index
    cases old with
    | nil => exact absurd rfl h
    | cons => rfl
  unfold raS
  rw [Lib.count_miss hm]; rfl
theorem raS_hit {b : UInt8} {l old : List UInt8} (new : List UInt8) (h : old ≠ []) (hp : old.isPrefixOf (b :: l) = true) : raS old new (b :: l) = new ++ raS old new ((b :: l).drop old.length) := by
  have hi : Lib.index (b :: l) old = ((0 : Nat) : Int) := by unfold Lib.index; rw [if_pos hp]; rfl
  unfold raS
  rw [Lib.count_hit h hi, Nat.add_comm 1, Lib.replaceK_hit _ _ _ _ _ hi, Nat.zero_add]
  rfl
theorem raS_miss {b : UInt8} {l old : List UInt8} (new : List UInt8) (h : old ≠ []) (hp : old.isPrefixOf (b :: l) = false) : raS old new (b :: l) = b :: raS old new l := by
  by_cases hm : Lib.index l old = -1
  · have hi : Lib.index (b :: l) old = -1 := by unfold Lib.index; rw [hp, hm]; rfl
    unfold raS
    rw [Lib.count_miss hi, Lib.count_miss hm]; rfl
  · have hge := Lib.index_ge l old
    obtain ⟨i, hi⟩ : ∃ i : Nat, Lib.index l old = i := ⟨(Lib.index l old).toNat, by omega⟩
    have hi' : Lib.index (b :: l) old = ((i + 1 : Nat) : Int) := by
      unfold Lib.index
      rw [hp, if_neg (by decide), if_neg (by rw [hi]; simp), hi]
      omega
    unfold raS
    rw [Lib.count_hit h hi', Lib.count_hit h hi, Nat.add_comm 1, Nat.add_comm 1, Lib.replaceK_hit _ _ _ _ _ hi', Lib.replaceK_hit _ _ _ _ _ hi, show i + 1 + old.length = (i + old.length) + 1 by omega]
    simp
theorem raS_one (l : List UInt8) : raS [39] [39, 39] l = l.flatMap dbl := by
  induction l with
  | nil => rw [raS_nil _ (by simp)]; rfl
  | cons c l ih =>
    by_cases hc : c = 39
    · subst hc
      rw [raS_hit _ (by simp) (by simp [List.isPrefixOf])]
      simp [dbl, ih]
    · rw [raS_miss _ (by simp) (by simpa [List.isPrefixOf] using fun e => hc e.symm), ih]
      simp [dbl, hc]
def rp (new : List UInt8) : List UInt8 → List UInt8
  | [] => []
  | [c] => [c]
  | c :: d :: l => if c = 39 then (if d = 39 then new ++ rp new l else c :: rp new (d :: l)) else c :: rp new (d :: l)
theorem raS_two (new : List UInt8) : ∀ l : List UInt8, raS [39, 39] new l = rp new l
  | [] => raS_nil _ (by simp)
  | [c] => by rw [raS_miss _ (by simp) (by simp [List.isPrefixOf]), raS_nil _ (by simp)]; rfl
  | c :: d :: l => by
    by_cases hc : c = 39
    · by_cases hd : d = 39
      · subst hc hd
        rw [raS_hit _ (by simp) (by simp [List.isPrefixOf]), rp, if_pos rfl, if_pos rfl]
        exact congrArg _ (raS_two new l)
      · rw [raS_miss _ (by simp) (by simp [List.isPrefixOf]; intro _ e; exact hd e.symm), raS_two new (d :: l), rp, if_pos hc, if_neg hd]
    · rw [raS_miss _ (by simp) (by simp [List.isPrefixOf]; intro e; exact absurd e.symm hc), raS_two new (d :: l), rp, if_neg hc]
def inner : List UInt8 → Option (List UInt8)
  | [] => some []
  | [c] => if c = 39 then none else some [c]
  | c :: d :: l => if c = 39 then (if d = 39 then (inner l).map (39 :: ·) else none) else (inner (d :: l)).map (c :: ·)
theorem inner_some : ∀ (l t : List UInt8), inner l = some t → rp [39] l = t ∧ 39 ∉ rp [] l ∧ prn t = prn l ∧ t.flatMap dbl = l ∧ t.length ≤ l.length
  | [], t, h => by simp [inner] at h; subst h; simp [rp]
  | [c], t, h => by
    by_cases hc : c = 39
    · simp [inner, hc] at h
    · simp [inner, hc] at h; subst h; simp [rp, dbl, hc, Ne.symm hc]
  | c :: d :: l, t, h => by
    by_cases hc : c = 39
    · by_cases hd : d = 39
      · subst hc hd
        simp only [inner, if_true, Option.map_eq_some_iff] at h
        obtain ⟨t, ht, rfl⟩ := h
        obtain ⟨h1, h2, h3, h4, h5⟩ := inner_some l t ht
        refine ⟨by simp [rp, h1], by simpa [rp] using h2, ?_, by simp [dbl, h4], by simp; omega⟩
        have : inR 39 = true := by decide
        simp only [prn, List.all_cons, this, Bool.true_and] at h3 ⊢
        exact h3
      · simp [inner, hc, hd] at h
    · simp only [inner, if_neg hc, Option.map_eq_some_iff] at h
      obtain ⟨t, ht, rfl⟩ := h
      obtain ⟨h1, h2, h3, h4, h5⟩ := inner_some (d :: l) t ht
      refine ⟨by rw [rp, if_neg hc, h1], ?_, ?_, by rw [List.flatMap_cons, h4]; simp [dbl, hc], by simp at h5 ⊢; omega⟩
      · rw [rp, if_neg hc]; simp only [List.mem_cons, not_or]; exact ⟨Ne.symm hc, h2⟩
      · simp only [prn, List.all_cons] at h3 ⊢
        rw [h3]
theorem inner_none : ∀ l : List UInt8, inner l = none → 39 ∈ rp [] l
  | [], h => by simp [inner] at h
  | [c], h => by
    by_cases hc : c = 39
    · simp [rp, hc]
    · simp [inner, hc] at h
  | c :: d :: l, h => by
    by_cases hc : c = 39
    · by_cases hd : d = 39
      · subst hc hd
        simp only [inner, if_true, Option.map_eq_none_iff] at h
        simpa [rp] using inner_none l h
      · rw [rp, if_pos hc, if_neg hd]; simp [hc]
    · simp only [inner, if_neg hc, Option.map_eq_none_iff] at h
      rw [rp, if_neg hc]
      exact List.mem_cons_of_mem _ (inner_none (d :: l) h)
theorem contains_one (l : List UInt8) : Lib.contains l [39] = decide (39 ∈ l) := by
  unfold Lib.contains
  induction l with
  | nil => rfl
  | cons c l ih =>
    unfold Lib.index
    by_cases hc : c = 39
    · subst hc; simp [List.isPrefixOf]
    · rw [if_neg (by simp [List.isPrefixOf]; exact fun e => hc e.symm)]
      have h39 : ¬ 39 = c := fun e => hc e.symm
      by_cases hm : Lib.index l [39] = -1
      · rw [hm] at ih ⊢
        simp at ih
        simp [h39, ih]
      · have := Lib.index_ge l [39]
        rw [decide_eq_true (show 0 ≤ Lib.index l [39] by omega)] at ih
        rw [if_neg (by simpa using hm), decide_eq_true (by omega)]
        simp at ih
        simp [ih]
/-! ### What a value's literal is -/
def litS (a b : Int) (s : ByteArray) : List UInt8 :=
  if vl a b s then (if a = 1 then Lib.itoa b else if a = 2 then quo (bs s) else if a = 3 then (if b = 1 then [84, 82, 85, 69] else [70, 65, 76, 83, 69]) else [78, 85, 76, 76]) else []
theorem rall_eq (s old new : ByteArray) (h1 : s.size < 4294967281) (h2 : 1 ≤ old.size) (h4 : new.size ≤ 2) (h5 : (bs old == bs new) = false) :
    strings_ReplaceAll.f s old new = some ⟨(raS (bs old) (bs new) (bs s)).toArray⟩ := by
  unfold strings_ReplaceAll.f
  have hc := Lib.count_le (bs s) (bs old)
  rw [bs_len] at hc
  have hm : Lib.countB s old * new.size ≤ (s.size + 1) * 2 := Nat.mul_le_mul hc h4
  rw [if_pos ⟨⟨h1, h2⟩, by omega⟩]
  exact congrArg (fun x => some (⟨x.toArray⟩ : ByteArray)) (replaceAll_raS h5)
theorem vl_text {b : Int} {s : ByteArray} (h : vl 2 b s = true) : b = 0 ∧ s.size ≤ 200 ∧ prn (bs s) = true := by
  simpa [vl] using h
theorem vl_int {b : Int} {s : ByteArray} (h : vl 1 b s = true) : s = e0 ∧ -1125899906842624 ≤ b ∧ b ≤ 1125899906842624 := by
  simp [vl] at h
  exact ⟨bs_inj h.1, h.2⟩
theorem lit_eq (k : Nat) (hk : 200 < k) (a b : Int) (s : ByteArray) : value_Literal.f k a b s = some ⟨(litS a b s).toArray⟩ := by
  unfold value_Literal.f litS
  rw [valid_eq k hk]
  cases hv : vl a b s with
  | false => rfl
  | true =>
    simp only [Option.bind_some, if_true]
    by_cases h1 : a = 1
    · subst h1
      obtain ⟨_, hb0, hb1⟩ := vl_int hv
      rw [if_pos rfl, if_pos rfl]
      unfold strconv_Itoa.f
      rw [if_pos (by omega), if_pos (by omega)]; rfl
    rw [if_neg h1, if_neg h1]
    by_cases h2 : a = 2
    · subst h2
      obtain ⟨_, hz, _⟩ := vl_text hv
      rw [if_pos rfl, if_pos rfl, rall_eq s _ _ (by omega) (by decide) (by decide) (by decide)]
      simp only [Option.bind_some]
      have e1 : bs ⟨#[39]⟩ = [39] := rfl
      have e2 : bs ⟨#[39, 39]⟩ = [39, 39] := rfl
      have l1 : (⟨#[39]⟩ : ByteArray).size = 1 := rfl
      rw [e1, e2, raS_one]
      have hl := flat_len (bs s)
      rw [bs_len] at hl
      rw [if_pos (by rw [size_mk]; omega), if_pos (by have h9 := size_append ⟨#[39]⟩ ⟨(List.flatMap dbl (bs s)).toArray⟩; rw [size_mk (List.flatMap dbl (bs s)), l1] at h9; omega)]
      refine congrArg some (bs_inj ?_)
      rw [bs_append, bs_append, bs_mk (List.flatMap _ _), bs_mk (quo _), e1]
      rfl
    rw [if_neg h2, if_neg h2]
    by_cases h3 : a = 3
    · rw [if_pos h3, if_pos h3]; split <;> rfl
    · rw [if_neg h3, if_neg h3]
/-! ### Texts in quotes -/
abbrev R4 := Int × Int × ByteArray × Int
def er (e : Int) : R4 := (0, 0, e0, e)
/-- What follows the first quote. -/
def txtS (m : List UInt8) : R4 := if prn m then (match inner m with | some t => if t.length ≤ 200 then (2, 0, ⟨t.toArray⟩, 0) else er 5 | none => er 1) else er 1
theorem cutSuffix_yes (s : ByteArray) (hs : s.size < 4611686018427387904) (m : List UInt8) (h : bs s = m ++ [39]) : strings_CutSuffix.f s ⟨#[39]⟩ = some (⟨m.toArray⟩, true) := by
  have hl : s.size = m.length + 1 := by rw [← bs_len, h]; simp
  have l1 : (⟨#[39]⟩ : ByteArray).size = 1 := rfl
  unfold strings_CutSuffix.f stringslite_CutSuffix.f stringslite_HasSuffix.f
  rw [l1, if_pos (by omega), w64 (by omega) (by omega), if_pos (by omega), if_pos (by omega)]
  simp only [Option.bind_some, toList_bs]
  rw [show ((s.size : Int) - ((1 : Nat) : Int)).toNat = m.length by omega, bs_extract, h, hl]
  have e9 : List.take (m.length + 1 - m.length) (List.drop m.length (m ++ [39])) = [39] := by simp
  have e8 : bs (⟨#[39]⟩ : ByteArray) = [39] := rfl
  rw [e9, e8]
  rw [if_pos (by decide), if_pos (by omega), if_pos (by omega)]
  simp only [Option.bind_some]
  refine congrArg some (Prod.ext (bs_inj ?_) rfl)
  rw [bs_extract, h, bs_mk m]
  simp
theorem cutSuffix_no (s : ByteArray) (hs : s.size < 4611686018427387904) (h : ∀ m, bs s ≠ m ++ [39]) : strings_CutSuffix.f s ⟨#[39]⟩ = some (s, false) := by
  have l1 : (⟨#[39]⟩ : ByteArray).size = 1 := rfl
  unfold strings_CutSuffix.f stringslite_CutSuffix.f stringslite_HasSuffix.f
  rw [l1]
  by_cases h0 : s.size = 0
  · rw [if_neg (by omega)]; simp
  · rw [if_pos (by omega), w64 (by omega) (by omega), if_pos (by omega), if_pos (by omega)]
    simp only [Option.bind_some, toList_bs]
    rw [show ((s.size : Int) - ((1 : Nat) : Int)).toNat = s.size - 1 by omega, bs_extract, show bs (⟨#[39]⟩ : ByteArray) = [39] from rfl]
    have hne : ((bs s).drop (s.size - 1)).take (s.size - (s.size - 1)) ≠ [39] := by
      intro e
      refine h ((bs s).take (s.size - 1)) ?_
      rw [List.take_of_length_le (by rw [List.length_drop, bs_len]; exact Nat.le_refl _)] at e
      rw [← e, List.take_append_drop]
    rw [if_neg (by simpa using hne)]
    simp
theorem parseText_eq (k : Nat) (s : ByteArray) (hs : s.size < 4294967281) (hk : s.size + 1 < k) :
    (∀ m, bs s = m ++ [39] → value_parseText.f k s = some (txtS m)) ∧ ((∀ m, bs s ≠ m ++ [39]) → value_parseText.f k s = some (er 1)) := by
  obtain ⟨k, rfl⟩ : ∃ m, k = m + 1 := ⟨k - 1, by omega⟩
  constructor
  · intro m hm
    have hl : s.size = m.length + 1 := by rw [← bs_len, hm]; simp
    have hsm : (⟨m.toArray⟩ : ByteArray).size = m.length := size_mk m
    unfold value_parseText.f
    rw [cutSuffix_yes s (by omega) m hm]
    simp only [Option.bind_some, if_true]
    rw [prn_eq _ (by omega) _ (by omega), bs_mk m]
    simp only [Option.bind_some, value_parseText.j0, txtS]
    cases hp : prn m with
    | false => simp [null_eq, er]
    | true =>
      have e1 : bs ⟨#[39]⟩ = [39] := rfl
      have e2 : bs ⟨#[39, 39]⟩ = [39, 39] := rfl
      have e3 : bs ⟨#[]⟩ = [] := rfl
      simp only [Bool.not_true, Bool.false_eq_true, if_false, if_true]
      rw [rall_eq ⟨m.toArray⟩ _ _ (by omega) (by decide) (by decide) (by decide), e2, e3, bs_mk m, raS_two]
      simp only [Option.bind_some]
      have hlen : ∀ l : List UInt8, (rp [] l).length ≤ l.length := by
        intro l
        fun_induction rp <;> simp_all <;> omega
      unfold strings_Contains.f
      rw [if_pos (by rw [size_mk]; have := hlen m; omega)]
      simp only [Option.bind_some]
      rw [contains_one]
      cases hi : inner m with
      | none =>
        have := inner_none m hi
        simp [this, null_eq, er]
      | some t =>
        obtain ⟨h1, h2, h3, h4, h5⟩ := inner_some m t hi
        rw [decide_eq_false h2]
        simp only [Bool.false_eq_true, if_false]
        rw [rall_eq ⟨m.toArray⟩ _ _ (by omega) (by decide) (by decide) (by decide), e2, e1, bs_mk m, raS_two, h1]
        simp only [Option.bind_some]
        rw [size_mk]
        by_cases hz : t.length ≤ 200
        · rw [if_neg (by omega), if_pos hz]
        · rw [if_pos (by omega), if_neg hz]; rfl
  · intro hm
    unfold value_parseText.f
    rw [cutSuffix_no s (by omega) hm]
    simp [value_parseText.j0, null_eq, er]
/-! ### Numbers that are read -/
def dig (c : UInt8) : Bool := decide (48 ≤ c.toNat) && decide (c.toNat ≤ 57)
theorem dig_yes {c : UInt8} (h : 48 ≤ c.toNat) (h' : c.toNat ≤ 57) : dig c = true := by simp [dig, h, h']
theorem dig_no {c : UInt8} (h : c.toNat < 48 ∨ 57 < c.toNat) : dig c = false := by simp [dig]; omega
def numS : List UInt8 → Int → Option Int
  | [], n => some n
  | c :: l, n => if dig c then numS l (mn (10 * n + ((c.toNat : Int) - 48)) 1125899906842625) else none
theorem mn_le (a b : Int) : mn a b ≤ b ∧ mn a b ≤ a := by unfold mn; split <;> omega
theorem mn_ge {a b c : Int} (h : c ≤ a) (h' : c ≤ b) : c ≤ mn a b := by unfold mn; split <;> omega
def fin (neg : Bool) : Option Int → R4
  | none => er 1
  | some n => if n > 1125899906842624 then er 6 else (1, if neg then -n else n, e0, 0)
theorem int_loop (s : ByteArray) (neg : Bool) (hs : s.size < 4611686018427387904) : ∀ (d i k : Nat) (n : Int), i + d = s.size → d < k → 0 ≤ n → n ≤ 1125899906842625 →
    value_parseInt.l0 k s neg n (s.size : Int) (i : Int) = some (fin neg (numS ((bs s).drop i) n)) := by
  intro d
  induction d with
  | zero =>
    intro i k n hi hk h0 h1
    obtain ⟨k, rfl⟩ : ∃ m, k = m + 1 := ⟨k - 1, by omega⟩
    simp only [value_parseInt.l0]
    rw [if_neg (by omega), List.drop_of_length_le (by rw [bs_len]; omega)]
    simp only [numS, fin, null_eq, Option.bind_some]
    by_cases hn : n > 1125899906842624
    · rw [if_pos hn, if_pos hn]; rfl
    · rw [if_neg hn, if_neg hn, w64 (by omega) (by omega)]
      cases neg <;> rfl
  | succ d ih =>
    intro i k n hi hk h0 h1
    obtain ⟨k, rfl⟩ : ∃ m, k = m + 1 := ⟨k - 1, by omega⟩
    have hl : i < (bs s).length := by rw [bs_len]; omega
    simp only [value_parseInt.l0]
    rw [if_pos (by omega), if_pos (by omega), if_pos (by omega), bt_nat s i hl, bs_drop s i hl]
    have hc := ((bs s)[i]).toNat_lt
    generalize (bs s)[i] = c at hc ⊢
    simp only [numS, null_eq, Option.bind_some]
    by_cases h2 : c.toNat < 48
    · rw [if_pos (by omega), dig_no (by omega)]; rfl
    · rw [if_neg (by omega)]
      by_cases h3 : c.toNat > 57
      · rw [if_pos (by omega), dig_no (by omega)]; rfl
      · rw [if_neg (by omega), if_pos (dig_yes (by omega) (by omega))]
        rw [show ((c.toNat : Int) - 48) % 256 = (c.toNat : Int) - 48 by omega, w64 (n := 10 * n) (by omega) (by omega), w64 (by omega) (by omega), w64 (by omega) (by omega), show ((i : Int) + 1) = ((i + 1 : Nat) : Int) by omega]
        have hm := mn_le (10 * n + ((c.toNat : Int) - 48)) 1125899906842625
        exact ih (i + 1) k _ (by omega) (by omega) (mn_ge (by omega) (by omega)) hm.1
/-- A number behind its sign. -/
def intS (neg : Bool) (l : List UInt8) : R4 := if l = [] ∨ (l.head? = some 48 ∧ (neg = true ∨ 1 < l.length)) then er 1 else fin neg (numS l 0)
def signed (l : List UInt8) : Bool × List UInt8 := match l with | [] => (false, []) | c :: l => if c = 45 then (true, l) else (false, c :: l)
theorem cutPrefix_eq (s : ByteArray) (hs : s.size < 4611686018427387904) : strings_CutPrefix.f s ⟨#[45]⟩ = some (⟨(signed (bs s)).2.toArray⟩, (signed (bs s)).1) := by
  have l1 : (⟨#[45]⟩ : ByteArray).size = 1 := rfl
  have hb : bs (⟨#[45]⟩ : ByteArray) = [45] := rfl
  unfold strings_CutPrefix.f stringslite_CutPrefix.f stringslite_HasPrefix.f
  rw [l1]
  cases hl : bs s with
  | nil =>
    have : s.size = 0 := by rw [← bs_len, hl]; rfl
    rw [if_neg (by omega)]
    have he : s = ⟨#[]⟩ := bs_inj hl
    subst he
    rfl
  | cons c l =>
    have hz : s.size = l.length + 1 := by rw [← bs_len, hl]; simp
    rw [if_pos (by omega), if_pos (by omega), if_pos (by omega)]
    simp only [Option.bind_some, toList_bs]
    rw [bs_extract, hl, hb, show (((1 : Nat) : Int) : Int).toNat = 1 from rfl]
    simp only [List.drop_zero, Nat.sub_zero, List.take_succ_cons, List.take_zero]
    by_cases hc : c = 45
    · subst hc
      rw [if_pos (by decide), if_pos (by omega), if_pos (by omega)]
      simp only [Option.bind_some, signed, if_true]
      refine congrArg some (Prod.ext (bs_inj ?_) rfl)
      rw [bs_extract, hl, bs_mk l, hz]
      simp
    · rw [if_neg (by simpa using hc)]
      simp only [Option.bind_some, signed, if_neg hc]
      refine congrArg some (Prod.ext (bs_inj ?_) rfl)
      rw [bs_mk (c :: l), hl]
theorem parseInt_eq (k : Nat) (s : ByteArray) (hs : s.size < 4611686018427387904) (hk : s.size + 1 < k) : value_parseInt.f k s = some (intS (signed (bs s)).1 (signed (bs s)).2) := by
  obtain ⟨k, rfl⟩ : ∃ m, k = m + 1 := ⟨k - 1, by omega⟩
  unfold value_parseInt.f
  rw [cutPrefix_eq s hs]
  simp only [Option.bind_some]
  have hlen : (signed (bs s)).2.length ≤ s.size := by
    rw [← bs_len]
    unfold signed
    cases bs s with
    | nil => simp
    | cons c l => simp only; split <;> simp
  generalize (signed (bs s)).1 = neg
  revert hlen
  generalize (signed (bs s)).2 = l
  intro hlen
  have hz : (⟨l.toArray⟩ : ByteArray).size = l.length := size_mk l
  have hb : bs (⟨l.toArray⟩ : ByteArray) = l := bs_mk l
  have hj : ∀ b : Bool, value_parseInt.j0 (k + 1) ⟨l.toArray⟩ neg b = some (if b = true then er 1 else fin neg (numS l 0)) := by
    intro b
    simp only [value_parseInt.j0]
    cases b with
    | true => rfl
    | false =>
      have := int_loop ⟨l.toArray⟩ neg (by omega) l.length 0 k 0 (by omega) (by omega) (by omega) (by omega)
      rw [show ((0 : Nat) : Int) = 0 from rfl, hb] at this
      simpa using this
  rw [toList_bs, hb]
  unfold intS
  cases l with
  | nil => rw [if_pos rfl, hj]; simp
  | cons c l =>
    rw [if_neg (by simp), if_pos (by rw [hz]; simp)]
    have hbt : bt ⟨(c :: l).toArray⟩ 0 = (c.toNat : Int) := by
      have := bt_nat ⟨(c :: l).toArray⟩ 0 (by rw [hb]; simp)
      rw [show ((0 : Nat) : Int) = 0 from rfl] at this
      rw [this]
      simp [hb]
    rw [hbt]
    by_cases hc : c = 48
    · subst hc
      rw [if_pos (by decide)]
      cases neg with
      | true => rw [if_pos rfl, hj]; simp
      | false =>
        rw [if_neg (by simp), hj, hz]
        simp
        have e7 : (1 < (l.length : Int) + 1) ↔ (0 < l.length) := by omega
        simp only [e7]
    · rw [if_neg (fun e => hc (UInt8.toNat.inj (by rw [show c.toNat = 48 by omega]; rfl))), hj]
      simp [hc]
/-! ### What is read -/
def parS (l : List UInt8) : R4 :=
  if l = [78, 85, 76, 76] then er 0 else if l = [84, 82, 85, 69] then (3, 1, e0, 0) else if l = [70, 65, 76, 83, 69] then (3, 0, e0, 0)
  else match l with
    | c :: r => if c = 39 then (if r.getLast? = some 39 then txtS r.dropLast else er 1) else intS (signed l).1 (signed l).2
    | [] => intS (signed l).1 (signed l).2
theorem last_iff (r : List UInt8) : (r.getLast? = some 39) ↔ ∃ m, r = m ++ [39] := by
  constructor
  · intro h
    have hne : r ≠ [] := fun e => by subst e; simp at h
    refine ⟨r.dropLast, ?_⟩
    rw [List.getLast?_eq_some_getLast hne] at h
    have h9 := List.dropLast_concat_getLast hne
    rw [Option.some.inj h] at h9
    exact h9.symm
  · rintro ⟨m, rfl⟩; simp
def isQ : List UInt8 → Bool
  | [] => false
  | c :: _ => c == 39
theorem hasPrefix_q (s : ByteArray) : strings_HasPrefix.f s ⟨#[39]⟩ = some (isQ (bs s)) := by
  have l1 : (⟨#[39]⟩ : ByteArray).size = 1 := rfl
  have hb : bs (⟨#[39]⟩ : ByteArray) = [39] := rfl
  unfold strings_HasPrefix.f stringslite_HasPrefix.f
  rw [l1]
  cases hl : bs s with
  | nil =>
    have : s.size = 0 := by rw [← bs_len, hl]; rfl
    rw [if_neg (by omega)]; rfl
  | cons c l =>
    have hz : s.size = l.length + 1 := by rw [← bs_len, hl]; simp
    rw [if_pos (by omega), if_pos (by omega), if_pos (by omega)]
    simp only [Option.bind_some, toList_bs]
    rw [bs_extract, hl, hb, show (((1 : Nat) : Int) : Int).toNat = 1 from rfl]
    simp [isQ]
theorem parse_eq (k : Nat) (s : ByteArray) (hs : s.size < 4294967281) (hk : s.size + 2 < k) : value_Parse.f k s = some (parS (bs s)) := by
  obtain ⟨k, rfl⟩ : ∃ m, k = m + 1 := ⟨k - 1, by omega⟩
  unfold value_Parse.f parS
  simp only [toList_bs]
  by_cases h1 : bs s = [78, 85, 76, 76]
  · rw [if_pos h1, if_pos h1]; rfl
  rw [if_neg h1, if_neg h1]
  by_cases h2 : bs s = [84, 82, 85, 69]
  · rw [if_pos h2, if_pos h2]
    simp only [value_Parse.j0, if_true, toList_bs, h2]
    rfl
  rw [if_neg h2, if_neg h2]
  by_cases h3 : bs s = [70, 65, 76, 83, 69]
  · rw [if_pos h3, h3]
    simp only [value_Parse.j0, toList_bs, h3]
    rfl
  rw [if_neg h3]
  rw [show (bs s == [70, 65, 76, 83, 69]) = false by simpa using h3]
  simp only [value_Parse.j0, Bool.false_eq_true, if_false]
  rw [hasPrefix_q]
  simp only [Option.bind_some]
  cases hl : bs s with
  | nil =>
    rw [if_neg (show ¬ isQ [] = true by decide), parseInt_eq k s (by omega) (by omega), hl]; rfl
  | cons c r =>
    have hz : s.size = r.length + 1 := by rw [← bs_len, hl]; simp
    have hx : bs (s.extract 1 s.size) = r := by rw [bs_extract, hl, hz]; simp
    have hxz : (s.extract 1 s.size).size = r.length := by rw [← bs_len, hx]
    by_cases hc : c = 39
    · subst hc
      rw [if_pos (show isQ (39 :: r) = true from rfl), if_pos (show 1 ≤ (s.size : Int) by omega)]
      simp only [if_true]
      obtain ⟨p1, p2⟩ := parseText_eq k (s.extract 1 s.size) (by omega) (by omega)
      rw [hx] at p1 p2
      by_cases hr : r.getLast? = some 39
      · obtain ⟨m, rfl⟩ := (last_iff r).1 hr
        rw [if_pos hr, p1 m rfl]
        simp
      · rw [if_neg hr, p2 (fun m e => hr ((last_iff r).2 ⟨m, e⟩))]; rfl
    · rw [if_neg (show ¬ isQ (c :: r) = true by simpa [isQ] using hc), parseInt_eq k s (by omega) (by omega), hl]
      simp only [if_neg hc]; rfl
/-! ### The chapter's examples -/
theorem orN_bad : orN 1 1125899906842625 e0 = (0, 0, e0) := by decide
theorem awake_eq (k : Nat) (hk : 300 < k) : bitemporallaw07_awake.f k = some true := by
  unfold bitemporallaw07_awake.f
  rw [parse_eq k _ (by decide) (by have : (⟨#[45, 48]⟩ : ByteArray).size = 2 := rfl
                                   omega),
    parse_eq k _ (by decide) (by have : (⟨#[49, 49, 50, 53, 56, 57, 57, 57, 48, 54, 56, 52, 50, 54, 50, 53]⟩ : ByteArray).size = 16 := rfl
                                 omega)]
  simp only [Option.bind_some, int_eq k (show 200 < k by omega), null_eq, text_eq k (show 200 < k by omega), equal_eq k (show 4 ≤ k by omega), and_eq k (show 3 ≤ k by omega), lit_eq k (show 200 < k by omega)]
  have h1 : orN 1 1 e0 = (1, 1, e0) := by decide
  have h2 : orN 2 0 ⟨#[49]⟩ = (2, 0, ⟨#[49]⟩) := by decide
  have h3 : orN 2 0 ⟨#[105, 116, 39, 115]⟩ = (2, 0, ⟨#[105, 116, 39, 115]⟩) := by decide
  have h4 : litS 2 0 ⟨#[105, 116, 39, 115]⟩ = [39, 105, 116, 39, 39, 115, 39] := by decide
  have h5 : parS (bs ⟨#[45, 48]⟩) = er 1 := by decide
  have h6 : parS (bs ⟨#[49, 49, 50, 53, 56, 57, 57, 57, 48, 54, 56, 52, 50, 54, 50, 53]⟩) = er 6 := by decide
  rw [orN_bad, h1, h2, h3, h5, h6]
  simp only [h4, veq, if_true]
  simp only [toList_bs, bs_mk]
  rfl
end Go.Proofs.YtoopomkeigjekaaDoor.X
