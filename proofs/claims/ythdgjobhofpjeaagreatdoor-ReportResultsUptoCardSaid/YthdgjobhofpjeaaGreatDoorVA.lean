/- Plain lemmas about values: bytes, validity, literals, construction (lists of bytes and numbers alone). Conditions: those in each lemma. -/
import Derived.Test.YthdgjobhofpjeaaGreatDoorX4
import Derived.Test.YthdgjobhofpjeaaGreatDoorX10
import Derived.Test.YthdgjobhofpjeaaGreatDoorX11
import Derived.Test.YthdgjobhofpjeaaGreatDoorX8
namespace Go.Proofs.YthdgjobhofpjeaaGreatDoor.X
open Go.RowKit Go.Proofs.YthdgjobhofpjeaaGreatDoorW.PrintWords Go.Proofs.YthdgjobhofpjeaaGreatDoorW.PrintLast Go.Proofs.YthdgjobhofpjeaaGreatDoorW.PrintMore
set_option linter.unusedVariables false
set_option linter.unusedSimpArgs false
/-! ### Bytes -/
def bs (s : ByteArray) : List UInt8 := s.data.toList
theorem bs_len (s : ByteArray) : (bs s).length = s.size := Array.length_toList
theorem toList_bs (s : ByteArray) : s.toList = bs s := ByteArray.toList_eq s
theorem bs_inj {a b : ByteArray} (h : bs a = bs b) : a = b := ByteArray.ext (Array.toList_inj.1 h)
theorem bs_mk (l : List UInt8) : bs ⟨l.toArray⟩ = l := by simp [bs]
theorem mk_bs (s : ByteArray) : (⟨(bs s).toArray⟩ : ByteArray) = s := bs_inj (by simp [bs])
theorem size_mk (l : List UInt8) : (⟨l.toArray⟩ : ByteArray).size = l.length := by rw [← bs_len, bs_mk]
theorem bs_append (a b : ByteArray) : bs (a ++ b) = bs a ++ bs b := by simp [bs, ByteArray.data_append]
theorem size_append (a b : ByteArray) : (a ++ b).size = a.size + b.size := by rw [← bs_len, bs_append, List.length_append, bs_len, bs_len]
theorem bt_nat (s : ByteArray) (i : Nat) (h : i < (bs s).length) : bt s (i : Int) = (((bs s)[i]).toNat : Int) := by
  have h' : i < s.size := by rw [bs_len] at h; exact h
  unfold bt
  rw [dif_pos (show (i : Int).toNat < s.size by omega)]
  simp [bs, ByteArray.getElem_eq_getElem_data]
theorem w64 {n : Int} (h0 : -9223372036854775808 ≤ n) (h1 : n < 9223372036854775808) : wrap64 n = n := by unfold wrap64; omega
theorem bs_drop (s : ByteArray) (i : Nat) (h : i < (bs s).length) : (bs s).drop i = (bs s)[i] :: (bs s).drop (i + 1) := List.drop_eq_getElem_cons h
/-! ### Printable texts -/
def inR (c : UInt8) : Bool := decide (32 ≤ c.toNat) && decide (c.toNat ≤ 126)
def prn (l : List UInt8) : Bool := l.all inR
theorem prn_step (c : UInt8) (l : List UInt8) : (if (c.toNat : Int) < 32 then some false else if (c.toNat : Int) > 126 then some false else some (prn l)) = some (prn (c :: l)) := by
  simp only [prn, List.all_cons, inR]
  by_cases h1 : c.toNat < 32
  · rw [if_pos (by omega), decide_eq_false (show ¬ 32 ≤ c.toNat by omega)]; rfl
  · rw [if_neg (by omega), decide_eq_true (show 32 ≤ c.toNat by omega)]
    by_cases h2 : 126 < c.toNat
    · rw [if_pos (by omega), decide_eq_false (show ¬ c.toNat ≤ 126 by omega)]; rfl
    · rw [if_neg (by omega), decide_eq_true (show c.toNat ≤ 126 by omega)]; rfl
theorem prn_loop (s : ByteArray) (hs : s.size < 4611686018427387904) : ∀ (d i k : Nat), i + d = s.size → d < k → value_printable.l0 k s (s.size : Int) (i : Int) = some (prn ((bs s).drop i)) := by
  intro d
  induction d with
  | zero =>
    intro i k hi hk
    obtain ⟨k, rfl⟩ : ∃ m, k = m + 1 := ⟨k - 1, by omega⟩
    simp only [value_printable.l0]
    rw [if_neg (by omega), List.drop_of_length_le (by rw [bs_len]; omega)]
    rfl
  | succ d ih =>
    intro i k hi hk
    obtain ⟨k, rfl⟩ : ∃ m, k = m + 1 := ⟨k - 1, by omega⟩
    have hl : i < (bs s).length := by rw [bs_len]; omega
    simp only [value_printable.l0]
    rw [if_pos (by omega), if_pos (by omega), if_pos (by omega), bt_nat s i hl, w64 (by omega) (by omega), show ((i : Int) + 1) = ((i + 1 : Nat) : Int) by omega, ih (i + 1) k (by omega) (by omega), bs_drop s i hl]
    exact prn_step _ _
theorem prn_eq (s : ByteArray) (hs : s.size < 4611686018427387904) (k : Nat) (hk : s.size < k) : value_printable.f k s = some (prn (bs s)) := by
  have := prn_loop s hs s.size 0 k (by omega) hk
  simpa [value_printable.f] using this
theorem prn_loop' (s : ByteArray) (hs : s.size < 4611686018427387904) : ∀ (d i k : Nat), i + d = s.size → d < k → bitemporalref07_Printable.l0 k s (i : Int) = some (prn ((bs s).drop i)) := by
  intro d
  induction d with
  | zero =>
    intro i k hi hk
    obtain ⟨k, rfl⟩ : ∃ m, k = m + 1 := ⟨k - 1, by omega⟩
    simp only [bitemporalref07_Printable.l0]
    rw [if_neg (by omega), List.drop_of_length_le (by rw [bs_len]; omega)]
    rfl
  | succ d ih =>
    intro i k hi hk
    obtain ⟨k, rfl⟩ : ∃ m, k = m + 1 := ⟨k - 1, by omega⟩
    have hl : i < (bs s).length := by rw [bs_len]; omega
    simp only [bitemporalref07_Printable.l0]
    rw [if_pos (by omega), if_pos (by omega), bt_nat s i hl, w64 (by omega) (by omega), show ((i : Int) + 1) = ((i + 1 : Nat) : Int) by omega, ih (i + 1) k (by omega) (by omega), bs_drop s i hl]
    exact prn_step _ _
theorem prn_eq' (s : ByteArray) (hs : s.size < 4611686018427387904) (k : Nat) (hk : s.size < k) : bitemporalref07_Printable.f k s = some (prn (bs s)) := by
  have := prn_loop' s hs s.size 0 k (by omega) hk
  simpa [bitemporalref07_Printable.f] using this
/-! ### Values -/
def vl (a b : Int) (s : ByteArray) : Bool :=
  if a = 0 then decide (b = 0) && (bs s).isEmpty
  else if a = 1 then (bs s).isEmpty && (decide (-1125899906842624 ≤ b) && decide (b ≤ 1125899906842624))
  else if a = 2 then decide (b = 0) && (decide (s.size ≤ 200) && prn (bs s))
  else if a = 3 then (bs s).isEmpty && (decide (b = 0) || decide (b = 1)) else false
theorem valid_eq (k : Nat) (hk : 200 < k) (a b : Int) (s : ByteArray) : value_Valid.f k a b s = some (vl a b s) := by
  unfold value_Valid.f vl
  simp only [toList_bs]
  by_cases h0 : a = 0
  · subst h0
    by_cases hb : b = 0 <;> simp [hb]
  by_cases h1 : a = 1
  · subst h1
    by_cases hs : bs s = [] <;> by_cases hb : -1125899906842624 ≤ b <;> simp [hs, hb]
  by_cases h2 : a = 2
  · subst h2
    by_cases hb : b = 0 <;> simp [hb]
    by_cases hz : s.size ≤ 200
    · rw [if_pos (by omega), prn_eq s (by omega) k (by omega)]; simp [hz]
    · rw [if_neg (by omega)]; simp [hz]
  by_cases h3 : a = 3
  · subst h3
    by_cases hs : bs s = [] <;> by_cases hb : b = 0 <;> simp [hs, hb]
    by_cases hb1 : b = 1 <;> simp [hb1]
  simp [h0, h1, h2, h3]
theorem valid_eq' (k : Nat) (hk : 200 < k) (a b : Int) (s : ByteArray) : bitemporalref07_Valid.f k a b s = some (vl a b s) := by
  unfold bitemporalref07_Valid.f vl
  simp only [toList_bs]
  by_cases h0 : a = 0
  · subst h0
    by_cases hb : b = 0 <;> simp [hb]
  by_cases h1 : a = 1
  · subst h1
    by_cases hs : bs s = [] <;> by_cases hb : -1125899906842624 ≤ b <;> simp [hs, hb]
  by_cases h2 : a = 2
  · subst h2
    by_cases hb : b = 0 <;> simp [hb]
    by_cases hz : s.size ≤ 200
    · rw [if_pos (by omega), prn_eq' s (by omega) k (by omega)]; simp [hz]
    · rw [if_neg (by omega)]; simp [hz]
  by_cases h3 : a = 3
  · subst h3
    by_cases hs : bs s = [] <;> by_cases hb : b = 0 <;> simp [hs, hb]
    by_cases hb1 : b = 1 <;> simp [hb1]
  simp [h0, h1, h2, h3]
def e0 : ByteArray := ⟨#[]⟩
def orN (a b : Int) (s : ByteArray) : Int × Int × ByteArray := if vl a b s then (a, b, s) else (0, 0, e0)
theorem refvalid_eq (k : Nat) (hk : 200 < k) (a b : Int) (s : ByteArray) : bitemporalref07_valid.f k a b s = some (orN a b s) := by
  unfold bitemporalref07_valid.f orN
  rw [valid_eq' k hk]
  cases vl a b s <;> simp [bitemporalref07_Null.f, e0]
theorem int_eq' (k : Nat) (hk : 200 < k) (n : Int) : bitemporalref07_Int.f k n = some (orN 1 n e0) := by
  unfold bitemporalref07_Int.f; rw [show (⟨#[]⟩ : ByteArray) = e0 from rfl, refvalid_eq k hk]; rfl
theorem text_eq' (k : Nat) (hk : 200 < k) (s : ByteArray) : bitemporalref07_Text.f k s = some (orN 2 0 s) := by
  unfold bitemporalref07_Text.f; rw [refvalid_eq k hk]; rfl
theorem decDigits_small {n : Nat} (h : n < 10) : Lib.decDigits n = [UInt8.ofNat (48 + n)] := by rw [Lib.decDigits, dif_pos h]
theorem decDigits_big {n : Nat} (h : ¬ n < 10) : Lib.decDigits n = Lib.decDigits (n / 10) ++ [UInt8.ofNat (48 + n % 10)] := by rw [Lib.decDigits, dif_neg h]
theorem decDigits_len : ∀ (m n : Nat), n < 10 ^ (m + 1) → (Lib.decDigits n).length ≤ m + 1
  | 0, n, h => by rw [decDigits_small (by omega)]; simp
  | m + 1, n, h => by
    by_cases h9 : n < 10
    · rw [decDigits_small h9]; simp
    · rw [decDigits_big h9, List.length_append]
      have := decDigits_len m (n / 10) (by rw [Nat.pow_succ] at h; omega)
      simp; omega
theorem itoa_len (n : Int) (h0 : -9223372036854775808 ≤ n) (h1 : n < 9223372036854775808) : (Lib.itoa n).length ≤ 25 := by
  have h2 := decDigits_len 19 n.natAbs (by omega)
  have h3 := decDigits_len 19 n.toNat (by omega)
  unfold Lib.itoa
  split <;> simp <;> omega
/-! ### Quotes -/
def dbl (c : UInt8) : List UInt8 := if c = 39 then [39, 39] else [c]
def quo (l : List UInt8) : List UInt8 := 39 :: (l.flatMap dbl ++ [39])
theorem dbl_len (c : UInt8) : (dbl c).length ≤ 2 := by unfold dbl; split <;> simp
theorem flat_len : ∀ l : List UInt8, (l.flatMap dbl).length ≤ 2 * l.length
  | [] => by simp
  | c :: l => by have := flat_len l; have := dbl_len c; simp only [List.flatMap_cons, List.length_append, List.length_cons]; omega
/-! ### Replacing, byte by byte -/
def raS (old new s : List UInt8) : List UInt8 := Lib.replaceK old new (Lib.count s old) s
theorem replaceAll_raS {s old new : List UInt8} (h : (old == new) = false) : Lib.replaceAll s old new = raS old new s := by
  unfold Lib.replaceAll Lib.replace raS Lib.replaceNum
  rw [h, if_pos (Or.inl (by decide))]; rfl
theorem raS_nil {old : List UInt8} (new : List UInt8) (h : old ≠ []) : raS old new [] = [] := by
  have hm : Lib.index [] old = -1 := by
    unfold Lib.index
    cases old with
    | nil => exact absurd rfl h
    | cons => rfl
  unfold raS
  rw [Lib.count_miss hm]; rfl
theorem raS_hit {b : UInt8} {l old : List UInt8} (new : List UInt8) (h : old ≠ []) (hp : old.isPrefixOf (b :: l) = true) : raS old new (b :: l) = new ++ raS old new ((b :: l).drop old.length) := by
  have hi : Lib.index (b :: l) old = ((0 : Nat) : Int) := by unfold Lib.index; rw [if_pos hp]; rfl
  unfold raS
  rw [Lib.count_hit h hi, Nat.add_comm 1, Lib.replaceK_hit _ _ _ _ _ hi, Nat.zero_add]
  rfl
theorem raS_miss {b : UInt8} {l old : List UInt8} (new : List UInt8) (h : old ≠ []) (hp : old.isPrefixOf (b :: l) = false) : raS old new (b :: l) = b :: raS old new l := by
  by_cases hm : Lib.index l old = -1
  · have hi : Lib.index (b :: l) old = -1 := by unfold Lib.index; rw [hp, hm]; rfl
    unfold raS
    rw [Lib.count_miss hi, Lib.count_miss hm]; rfl
  · have hge := Lib.index_ge l old
    obtain ⟨i, hi⟩ : ∃ i : Nat, Lib.index l old = i := ⟨(Lib.index l old).toNat, by omega⟩
    have hi' : Lib.index (b :: l) old = ((i + 1 : Nat) : Int) := by
      unfold Lib.index
      rw [hp, if_neg (by decide), if_neg (by rw [hi]; simp), hi]
      omega
    unfold raS
    rw [Lib.count_hit h hi', Lib.count_hit h hi, Nat.add_comm 1, Nat.add_comm 1, Lib.replaceK_hit _ _ _ _ _ hi', Lib.replaceK_hit _ _ _ _ _ hi, show i + 1 + old.length = (i + old.length) + 1 by omega]
    simp
theorem raS_one (l : List UInt8) : raS [39] [39, 39] l = l.flatMap dbl := by
  induction l with
  | nil => rw [raS_nil _ (by simp)]; rfl
  | cons c l ih =>
    by_cases hc : c = 39
    · subst hc
      rw [raS_hit _ (by simp) (by simp [List.isPrefixOf])]
      simp [dbl, ih]
    · rw [raS_miss _ (by simp) (by simpa [List.isPrefixOf] using fun e => hc e.symm), ih]
      simp [dbl, hc]
/-! ### What a value's literal is -/
def litS (a b : Int) (s : ByteArray) : List UInt8 :=
  if vl a b s then (if a = 1 then Lib.itoa b else if a = 2 then quo (bs s) else if a = 3 then (if b = 1 then [84, 82, 85, 69] else [70, 65, 76, 83, 69]) else [78, 85, 76, 76]) else []
theorem rall_eq (s old new : ByteArray) (h1 : s.size < 4294967281) (h2 : 1 ≤ old.size) (h4 : new.size ≤ 2) (h5 : (bs old == bs new) = false) :
    strings_ReplaceAll.f s old new = some ⟨(raS (bs old) (bs new) (bs s)).toArray⟩ := by
  unfold strings_ReplaceAll.f
  have hc := Lib.count_le (bs s) (bs old)
  rw [bs_len] at hc
  have hm : Lib.countB s old * new.size ≤ (s.size + 1) * 2 := Nat.mul_le_mul hc h4
  rw [if_pos ⟨⟨h1, h2⟩, by omega⟩]
  exact congrArg (fun x => some (⟨x.toArray⟩ : ByteArray)) (replaceAll_raS h5)
theorem vl_text {b : Int} {s : ByteArray} (h : vl 2 b s = true) : b = 0 ∧ s.size ≤ 200 ∧ prn (bs s) = true := by
  simpa [vl] using h
theorem vl_int {b : Int} {s : ByteArray} (h : vl 1 b s = true) : s = e0 ∧ -1125899906842624 ≤ b ∧ b ≤ 1125899906842624 := by
  simp [vl] at h
  exact ⟨bs_inj h.1, h.2⟩
theorem lit_eq (k : Nat) (hk : 200 < k) (a b : Int) (s : ByteArray) : value_Literal.f k a b s = some ⟨(litS a b s).toArray⟩ := by
  unfold value_Literal.f litS
  rw [valid_eq k hk]
  cases hv : vl a b s with
  | false => rfl
  | true =>
    simp only [Option.bind_some, if_true]
    by_cases h1 : a = 1
    · subst h1
      obtain ⟨_, hb0, hb1⟩ := vl_int hv
      rw [if_pos rfl, if_pos rfl]
      unfold strconv_Itoa.f
      rw [if_pos (by omega), if_pos (by omega)]; rfl
    rw [if_neg h1, if_neg h1]
    by_cases h2 : a = 2
    · subst h2
      obtain ⟨_, hz, _⟩ := vl_text hv
      rw [if_pos rfl, if_pos rfl, rall_eq s _ _ (by omega) (by decide) (by decide) (by decide)]
      simp only [Option.bind_some]
      have e1 : bs ⟨#[39]⟩ = [39] := rfl
      have e2 : bs ⟨#[39, 39]⟩ = [39, 39] := rfl
      have l1 : (⟨#[39]⟩ : ByteArray).size = 1 := rfl
      rw [e1, e2, raS_one]
      have hl := flat_len (bs s)
      rw [bs_len] at hl
      rw [if_pos (by rw [size_mk]; omega), if_pos (by have h9 := size_append ⟨#[39]⟩ ⟨(List.flatMap dbl (bs s)).toArray⟩; rw [size_mk (List.flatMap dbl (bs s)), l1] at h9; omega)]
      refine congrArg some (bs_inj ?_)
      rw [bs_append, bs_append, bs_mk (List.flatMap _ _), bs_mk (quo _), e1]
      rfl
    rw [if_neg h2, if_neg h2]
    by_cases h3 : a = 3
    · rw [if_pos h3, if_pos h3]; split <;> rfl
    · rw [if_neg h3, if_neg h3]
end Go.Proofs.YthdgjobhofpjeaaGreatDoor.X
