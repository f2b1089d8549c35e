/- A row's text on both sides, and the law of violations. Plain laws over the printed functions. Conditions: those in each theorem. -/
import Derived.Test.YthdgjobhofpjeaaGreatDoorR2
import Derived.Test.YthdgjobhofpjeaaGreatDoorVC
import Derived.Test.YthdgjobhofpjeaaGreatDoorX34
namespace Go.Proofs.YthdgjobhofpjeaaGreatDoor.X
open Go Go.Proofs Go.RowKit Go.Proofs.YthdgjobhofpjeaaGreatDoorW.PrintWords Go.Proofs.YthdgjobhofpjeaaGreatDoorW.PrintLast Go.Proofs.YthdgjobhofpjeaaGreatDoorW.PrintMore
set_option linter.unusedVariables false
set_option linter.unusedSimpArgs false
def litV (x : Val) : List UInt8 := litS x.f0 x.f1 x.f2
def rowT (l : List Val) : List UInt8 := 40 :: (Lib.join (l.map litV) [44, 32] ++ [41])
theorem text_loop (l : List Val) (hl : l.length ≤ 1099511627776) : ∀ (n i k : Nat) (acc : List ByteArray), i + n = l.length → n + 202 ≤ k → acc.length + n ≤ 1099511627776 →
    tuple_Text.l0 k acc l (l.length : Int) (i : Int) = tuple_Text.l0 202 (acc ++ (l.drop i).map fun x => ⟨(litV x).toArray⟩) l (l.length : Int) (l.length : Int)
  | n, i, 0, acc, _, hk, _ => by omega
  | 0, i, k + 1, acc, hn, hk, hc => by
    rw [show (i : Int) = (l.length : Int) by omega, List.drop_eq_nil_of_le (by omega)]
    unfold tuple_Text.l0
    rw [if_neg (by omega), if_neg (by omega)]
    simp
  | n + 1, i, k + 1, acc, hn, hk, hc => by
    rw [tuple_Text.l0]
    have hi : i < l.length := by omega
    rw [if_pos (by omega), if_pos (by omega), if_pos (by omega), lit_eq k (by omega), Option.bind_some, if_pos (by omega), w64 (by omega) (by omega), show ((i : Int) + 1) = ((i + 1 : Nat) : Int) by omega]
    rw [text_loop l hl n (i + 1) k _ (by omega) (by omega) (by simp; omega), List.drop_eq_getElem_cons hi]
    have e : rd_T54 l i = l[i] := by simp [rd_T54, hi]
    rw [e, List.map_cons, List.append_assoc, List.singleton_append]
    rfl
theorem text_eq8 (l : List Val) (hl : l.length ≤ 1099511627776) (k : Nat) (hk : l.length + 202 ≤ k) (hs : (Lib.join (l.map litV) [44, 32]).length ≤ 140737488355328) : tuple_Text.f k l = some ⟨(rowT l).toArray⟩ := by
  unfold tuple_Text.f
  rw [show (0 : Int) = ((0 : Nat) : Int) by rfl, text_loop l hl l.length 0 k [] (by omega) hk (by simp; omega)]
  unfold tuple_Text.l0
  rw [if_neg (by omega), List.nil_append, List.drop_zero]
  have e1 : ((l.map fun x => (⟨(litV x).toArray⟩ : ByteArray)).map fun b => b.data.toList) = l.map litV := by
    rw [List.map_map]
    exact List.map_congr_left fun x _ => by simp
  have e2 : (⟨#[44, 32]⟩ : ByteArray).data.toList = [44, 32] := rfl
  unfold strings_Join.f
  rw [e1, e2, if_pos (by simp; omega), if_pos hs, Option.bind_some]
  have e3 : (⟨(Lib.join (l.map litV) [44, 32]).toArray⟩ : ByteArray).size = (Lib.join (l.map litV) [44, 32]).length := size_mk _
  rw [if_pos (by rw [e3]; omega), if_pos (by rw [size_append, e3]; show 1 + _ + 1 ≤ _; omega)]
  congr 1
theorem litV_len (x : Val) : (litV x).length ≤ 402 := by
  unfold litV litS
  split
  · next hv =>
    split
    · next h1 =>
      rw [h1] at hv
      have h2 := (vl_int hv).2
      have := itoa_len x.f1 (by omega) (by omega)
      omega
    · split
      · next h2 =>
        rw [h2] at hv
        have h3 := (vl_text hv).2.1
        have h4 := flat_len (bs x.f2)
        rw [bs_len] at h4
        unfold quo
        simp only [List.length_cons, List.length_append, List.length_nil]
        omega
      · split
        · split <;> decide
        · decide
  · decide
def tl (l : List Val) : List UInt8 := l.flatMap fun x => [44, 32] ++ litV x
theorem join_cons (x : Val) (l : List Val) : Lib.join ((x :: l).map litV) [44, 32] = litV x ++ tl l := by
  induction l generalizing x with
  | nil => simp [Lib.join, List.intercalate, tl]
  | cons y l ih =>
    have h := ih y
    simp only [Lib.join, List.intercalate, List.map_cons, tl, List.flatMap_cons] at h ⊢
    rw [List.intersperse_cons_cons, List.flatten_cons, List.flatten_cons, h]
    simp
theorem tl_len (l : List Val) : (tl l).length ≤ 404 * l.length := by
  induction l with
  | nil => simp [tl]
  | cons x l ih =>
    have h := litV_len x
    have e : tl (x :: l) = [44, 32] ++ litV x ++ tl l := by simp [tl]
    rw [e]
    simp only [List.length_append, List.length_cons, List.length_nil]
    omega
theorem join_len (l : List Val) : (Lib.join (l.map litV) [44, 32]).length ≤ 404 * l.length := by
  cases l with
  | nil => simp [Lib.join, List.intercalate]
  | cons x l =>
    rw [join_cons, List.length_append, List.length_cons]
    have h := litV_len x
    have h2 := tl_len l
    omega
theorem refText_loop (l : List Val) (hl : l.length ≤ 1048576) : ∀ (n i k : Nat) (t : ByteArray), i + n = l.length → n + 203 ≤ k → 0 < i → t.size + 404 * n ≤ 1000000000 →
    bitemporalref08_Text.l0 k l t (i : Int) = some ⟨(bs t ++ tl (l.drop i) ++ [41]).toArray⟩
  | n, i, 0, t, _, hk, _, _ => by omega
  | 0, i, k + 1, t, hn, hk, h0, ht => by
    unfold bitemporalref08_Text.l0
    rw [if_neg (by omega), if_pos (by omega), List.drop_eq_nil_of_le (by omega)]
    congr 1
    apply bs_inj
    rw [bs_append, bs_mk]
    simp [tl, bs]
  | n + 1, i, k + 1, t, hn, hk, h0, ht => by
    unfold bitemporalref08_Text.l0
    have hi : i < l.length := by omega
    have e : rd_T54 l i = l[i] := by simp [rd_T54, hi]
    have hv := litV_len l[i]
    have es : (⟨(litS l[i].f0 l[i].f1 l[i].f2).toArray⟩ : ByteArray).size = (litV l[i]).length := size_mk _
    have e2 : (t ++ (⟨#[44, 32]⟩ : ByteArray)).size = t.size + 2 := size_append _ _
    rw [if_pos (by omega), if_pos (by omega), if_pos (by omega), if_pos (by omega), e, lit_eq' k (by omega), Option.bind_some, if_pos (by rw [e2, es]; omega), w64 (by omega) (by omega), show ((i : Int) + 1) = ((i + 1 : Nat) : Int) by omega]
    rw [refText_loop l hl n (i + 1) k _ (by omega) (by omega) (by omega) (by rw [size_append, e2, es]; omega)]
    refine congrArg (fun z => some (⟨List.toArray z⟩ : ByteArray)) ?_
    rw [bs_append, bs_append, List.drop_eq_getElem_cons hi]
    have e3 : tl (l[i] :: l.drop (i + 1)) = [44, 32] ++ litV l[i] ++ tl (l.drop (i + 1)) := by simp only [tl, List.flatMap_cons]
    rw [e3]
    show bs t ++ [44, 32] ++ litV l[i] ++ _ ++ [41] = _
    simp only [List.append_assoc]
theorem refText_eq (l : List Val) (hl : l.length ≤ 1048576) (k : Nat) (hk : l.length + 204 ≤ k) : bitemporalref08_Text.f k l = some ⟨(rowT l).toArray⟩ := by
  unfold bitemporalref08_Text.f
  cases k with
  | zero => omega
  | succ k =>
    unfold bitemporalref08_Text.l0
    cases l with
    | nil =>
      rw [if_neg (by simp), if_pos (by decide)]
      rfl
    | cons x l =>
      have e : rd_T54 (x :: l) 0 = x := rfl
      have hv := litV_len x
      have es : (⟨(litS x.f0 x.f1 x.f2).toArray⟩ : ByteArray).size = (litV x).length := size_mk _
      have e1 : (⟨#[40]⟩ : ByteArray).size = 1 := rfl
      simp only [List.length_cons] at hl hk
      rw [if_pos (by simp only [List.length_cons]; omega), if_neg (by decide), if_pos (by decide), e, lit_eq' k (by omega), Option.bind_some, if_pos (by rw [e1, es]; omega), show wrap64 (0 + 1) = ((1 : Nat) : Int) from w64 (by omega) (by omega)]
      rw [refText_loop (x :: l) (by simp only [List.length_cons]; omega) l.length 1 k _ (by simp only [List.length_cons]; omega) (by omega) (by omega) (by rw [size_append, e1, es]; omega)]
      refine congrArg (fun z => some (⟨List.toArray z⟩ : ByteArray)) ?_
      rw [bs_append]
      unfold rowT
      rw [join_cons]
      show [40] ++ litV x ++ _ ++ [41] = _
      simp

theorem itoa_nat (n : Nat) : Lib.itoa (n : Int) = Lib.decDigits n := by rw [Lib.itoa, if_neg (by omega), show ((n : Int)).toNat = n by omega]
theorem validQ_iff (a b : Int) : validQ a b = true ↔ 0 ≤ a ∧ a < b ∧ b ≤ 1099511627776 := by
  unfold validQ
  simp [Bool.and_eq_true]
theorem ref01_ValidQ (a b : Int) : bitemporalref01_Valid.f a b = some (validQ a b) := ref01_Valid_eq a b
theorem digits_size (n : Nat) (h : n ≤ 1099511627776) : (⟨(Lib.decDigits n).toArray⟩ : ByteArray).size ≤ 20 := by
  rw [size_mk]
  exact decDigits_len 19 n (by omega)
theorem refPer_eq (k : Nat) (hk : 30 ≤ k) (a b : Int) : bitemporalref01_Text.f k a b = some (perS a b) := by
  unfold bitemporalref01_Text.f perS
  rw [ref01_ValidQ, Option.bind_some]
  by_cases hv : validQ a b = true
  · obtain ⟨h0, h1, h2⟩ := (validQ_iff a b).1 hv
    obtain ⟨n, rfl⟩ := Int.eq_ofNat_of_zero_le h0
    obtain ⟨m, rfl⟩ := Int.eq_ofNat_of_zero_le (show 0 ≤ b by omega)
    have d1 := digits_size n (by omega)
    have d2 := digits_size m (by omega)
    have z1 : (⟨#[91]⟩ : ByteArray).size = 1 := rfl
    have z2 : (⟨#[44, 32]⟩ : ByteArray).size = 2 := rfl
    have z3 : (⟨#[102, 111, 114, 101, 118, 101, 114]⟩ : ByteArray).size = 7 := rfl
    rw [if_pos hv, if_pos hv]
    by_cases hb : (m : Int) < 1099511627776
    · rw [if_pos hb, num_eq k hk m (by omega), Option.bind_some, num_eq k hk n (by omega), Option.bind_some, if_pos (by omega), if_pos (by simp only [size_append]; omega), if_pos (by simp only [size_append]; omega), if_pos (by simp only [size_append]; omega), if_neg (by omega)]
      refine congrArg some (bs_inj ?_)
      simp only [bs_append, bs_mk, itoa_nat]
      first | done | simp [bs]
    · rw [if_neg hb, num_eq k hk n (by omega), Option.bind_some, if_pos (by omega), if_pos (by simp only [size_append]; omega), if_pos (by simp only [size_append]; omega), if_pos (by simp only [size_append]; omega), if_pos (by omega)]
      refine congrArg some (bs_inj ?_)
      simp only [bs_append, bs_mk, itoa_nat]
      first | done | simp [bs]
  · rw [if_neg hv, if_neg hv]
theorem perS_size (a b : Int) : (perS a b).size ≤ 60 := by
  unfold perS
  by_cases hv : validQ a b = true
  · obtain ⟨h0, h1, h2⟩ := (validQ_iff a b).1 hv
    have d1 := itoa_len a (by omega) (by omega)
    have d2 := itoa_len b (by omega) (by omega)
    rw [if_pos hv, size_mk]
    simp only [List.length_append, List.length_cons, List.length_nil]
    split
    · simp only [List.length_cons, List.length_nil]
      omega
    · omega
  · rw [if_neg hv]
    exact Nat.zero_le _
def tNot : ByteArray := ⟨#[110, 111, 116, 32, 110, 117, 108, 108, 32, 111, 102, 32, 99, 111, 108, 117, 109, 110, 32]⟩
def tKey : ByteArray := ⟨#[107, 101, 121]⟩
def tFor : ByteArray := ⟨#[102, 111, 114, 101, 105, 103, 110, 32, 107, 101, 121, 32]⟩
def tChk : ByteArray := ⟨#[99, 104, 101, 99, 107, 32]⟩
def tUnk : ByteArray := ⟨#[117, 110, 107, 110, 111, 119, 110]⟩
def vioS (a0 a2 : Int) : ByteArray := if a0 = 1 then tNot ++ itoaB (wrap64 (a2 + 1)) else if a0 = 2 then tKey else if a0 = 3 then tFor ++ itoaB (wrap64 (a2 + 1)) else if a0 = 4 then tChk ++ itoaB (wrap64 (a2 + 1)) else tUnk
theorem wrap_range (n : Int) : -9223372036854775808 ≤ wrap64 n ∧ wrap64 n ≤ 9223372036854775807 := by unfold wrap64; omega
theorem itoaW_size (n : Int) : (itoaB (wrap64 n)).size ≤ 25 := itoaB_size _ (wrap_range n).1 (wrap_range n).2
theorem vioS_size (a0 a2 : Int) : (vioS a0 a2).size ≤ 50 := by
  have h := itoaW_size (a2 + 1)
  have z1 : tNot.size = 19 := rfl
  have z2 : tKey.size = 3 := rfl
  have z3 : tFor.size = 12 := rfl
  have z4 : tChk.size = 6 := rfl
  have z5 : tUnk.size = 7 := rfl
  unfold vioS
  split
  · rw [size_append]; omega
  · split
    · omega
    · split
      · rw [size_append]; omega
      · split
        · rw [size_append]; omega
        · omega
theorem vio_eq (k : Nat) (hk : 31 ≤ k) (a0 : Int) (a1 : ByteArray) (a2 : Int) (l : List Val) (a4 a5 : Int) : bitemporalref55_violated.f k a0 a1 a2 l a4 a5 = some (vioS a0 a2) := by
  have h := itoaW_size (a2 + 1)
  obtain ⟨g1, g2⟩ := wrap_range (a2 + 1)
  unfold bitemporalref55_violated.f vioS
  rw [num07_eq k hk _ g1 (by omega), Option.bind_some, show (⟨(Lib.itoa (wrap64 (a2 + 1))).toArray⟩ : ByteArray) = itoaB (wrap64 (a2 + 1)) from rfl]
  by_cases h1 : a0 = 1
  · rw [if_pos h1, if_pos h1, if_pos (by omega)]
    rfl
  rw [if_neg h1, if_neg h1]
  by_cases h2 : a0 = 2
  · rw [if_pos h2, if_pos h2]
    rfl
  rw [if_neg h2, if_neg h2]
  by_cases h3 : a0 = 3
  · rw [if_pos h3, if_pos h3, if_pos (by omega)]
    rfl
  rw [if_neg h3, if_neg h3]
  by_cases h4 : a0 = 4
  · rw [if_pos h4, if_pos h4, if_pos (by omega)]
    rfl
  rw [if_neg h4, if_neg h4]
  rfl
def tBy : ByteArray := ⟨#[118, 105, 111, 108, 97, 116, 101, 100, 32, 98, 121]⟩
def tDur : ByteArray := ⟨#[100, 117, 114, 105, 110, 103]⟩
def sp1 : ByteArray := ⟨#[32]⟩
def rowB (l : List Val) : ByteArray := ⟨(rowT l).toArray⟩
def violationS (a0 : Int) (a1 : ByteArray) (a2 : Int) (l : List Val) (a4 a5 : Int) : ByteArray := lineS sp1 [a1 ++ ⟨#[58]⟩, vioS a0 a2, tBy, rowB l, tDur, perS a4 a5]
theorem lineS_six (a b c d e f : ByteArray) : lineS sp1 [a, b, c, d, e, f] = a ++ sp1 ++ b ++ sp1 ++ c ++ sp1 ++ d ++ sp1 ++ e ++ sp1 ++ f ++ ⟨#[10]⟩ := by
  refine bs_inj ?_
  unfold lineS joinS
  simp only [bs_append, bs_mk]
  simp [Lib.join, List.intercalate, bs]
theorem rowB_size (l : List Val) : (rowB l).size ≤ 404 * l.length + 2 := by
  have h := join_len l
  unfold rowB rowT
  rw [size_mk]
  simp only [List.length_cons, List.length_append, List.length_nil]
  omega
theorem report_vio (k : Nat) (a0 : Int) (a1 : ByteArray) (a2 : Int) (l : List Val) (a4 a5 : Int) (hl : l.length ≤ 1048576) (hk : l.length + 202 ≤ k) (h1 : a1.size ≤ 1048576) : report_Violation.f k a0 a1 a2 l a4 a5 = some (violationS a0 a1 a2 l a4 a5) := by
  have h := itoaW_size (a2 + 1)
  obtain ⟨g1, g2⟩ := wrap_range (a2 + 1)
  have hj := join_len l
  have hline : report_line.f sp1 [a1 ++ ⟨#[58]⟩, vioS a0 a2, tBy, rowB l, tDur, perS a4 a5] = some (violationS a0 a1 a2 l a4 a5) := by
    refine line_ok _ _ (by simp) ?_
    have s1 := vioS_size a0 a2
    have s2 := rowB_size l
    have s3 := perS_size a4 a5
    have z1 : sp1.size = 1 := rfl
    have z2 : (⟨#[58]⟩ : ByteArray).size = 1 := rfl
    have z3 : (⟨#[10]⟩ : ByteArray).size = 1 := rfl
    have z4 : tBy.size = 11 := rfl
    have z5 : tDur.size = 6 := rfl
    rw [lineS_six]
    simp only [size_append]
    omega
  unfold vioS at hline
  unfold report_Violation.f
  rw [itoa_eq _ g1 g2, Option.bind_some]
  by_cases c1 : a0 = 1
  · rw [if_pos c1] at hline
    rw [if_pos c1, if_pos (by omega), if_pos (by omega), text_eq8 l (by omega) k hk (by omega), Option.bind_some, perText_eq, Option.bind_some]
    show (report_line.f sp1 _).bind _ = _
    exact (congrArg (Option.bind · _) hline).trans rfl
  rw [if_neg c1] at hline
  rw [if_neg c1]
  by_cases c2 : a0 = 2
  · rw [if_pos c2] at hline
    rw [if_pos c2, if_pos (by omega), text_eq8 l (by omega) k hk (by omega), Option.bind_some, perText_eq, Option.bind_some]
    exact (congrArg (Option.bind · _) hline).trans rfl
  rw [if_neg c2] at hline
  rw [if_neg c2]
  by_cases c3 : a0 = 3
  · rw [if_pos c3] at hline
    rw [if_pos c3, if_pos (by omega), if_pos (by omega), text_eq8 l (by omega) k hk (by omega), Option.bind_some, perText_eq, Option.bind_some]
    exact (congrArg (Option.bind · _) hline).trans rfl
  rw [if_neg c3] at hline
  rw [if_neg c3]
  by_cases c4 : a0 = 4
  · rw [if_pos c4] at hline
    rw [if_pos c4, if_pos (by omega), if_pos (by omega), text_eq8 l (by omega) k hk (by omega), Option.bind_some, perText_eq, Option.bind_some]
    exact (congrArg (Option.bind · _) hline).trans rfl
  rw [if_neg c4] at hline
  rw [if_neg c4, if_pos (by omega), text_eq8 l (by omega) k hk (by omega), Option.bind_some, perText_eq, Option.bind_some]
  exact (congrArg (Option.bind · _) hline).trans rfl
theorem ref_vio (k : Nat) (a0 : Int) (a1 : ByteArray) (a2 : Int) (l : List Val) (a4 a5 : Int) (hl : l.length ≤ 1048576) (hk : l.length + 204 ≤ k) (h1 : a1.size ≤ 1048576) : bitemporalref55_Violation.f k a0 a1 a2 l a4 a5 = some (violationS a0 a1 a2 l a4 a5) := by
  have s1 := vioS_size a0 a2
  have s2 := rowB_size l
  have s3 := perS_size a4 a5
  have z1 : (⟨#[58, 32]⟩ : ByteArray).size = 2 := rfl
  have z2 : (⟨#[32, 118, 105, 111, 108, 97, 116, 101, 100, 32, 98, 121, 32]⟩ : ByteArray).size = 13 := rfl
  have z3 : (⟨#[32, 100, 117, 114, 105, 110, 103, 32]⟩ : ByteArray).size = 8 := rfl
  unfold bitemporalref55_Violation.f
  rw [if_pos (by omega), vio_eq k (by omega), Option.bind_some, if_pos (by simp only [size_append]; omega), if_pos (by simp only [size_append]; omega), refText_eq l hl k hk, Option.bind_some, show (⟨(rowT l).toArray⟩ : ByteArray) = rowB l from rfl, if_pos (by simp only [size_append]; omega), if_pos (by simp only [size_append]; omega), refPer_eq k (by omega), Option.bind_some,
    if_pos (by simp only [size_append]; omega), if_pos (by simp only [size_append]; omega)]
  unfold violationS
  rw [lineS_six]
  refine congrArg some (bs_inj ?_)
  have b1 : bs (⟨#[58, 32]⟩ : ByteArray) = [58, 32] := rfl
  have b2 : bs (⟨#[32, 118, 105, 111, 108, 97, 116, 101, 100, 32, 98, 121, 32]⟩ : ByteArray) = [32, 118, 105, 111, 108, 97, 116, 101, 100, 32, 98, 121, 32] := rfl
  have b3 : bs (⟨#[32, 100, 117, 114, 105, 110, 103, 32]⟩ : ByteArray) = [32, 100, 117, 114, 105, 110, 103, 32] := rfl
  have b4 : bs (⟨#[58]⟩ : ByteArray) = [58] := rfl
  have b5 : bs sp1 = [32] := rfl
  have b6 : bs tBy = [118, 105, 111, 108, 97, 116, 101, 100, 32, 98, 121] := rfl
  have b7 : bs tDur = [100, 117, 114, 105, 110, 103] := rfl
  simp only [bs_append, b1, b2, b3, b4, b5, b6, b7, List.append_assoc, List.cons_append, List.nil_append]
theorem tame_one (a : Int) : ∃ b, ∀ k, 2 ≤ k → bitemporallaw55_tame.f k [a] = some b := by
  have e : rd [a] 0 = a := rfl
  have w1 : wrap64 (0 + 1) = 1 := w64 (n := 0 + 1) (by omega) (by omega)
  by_cases c1 : a < -1152921504606846976
  · refine ⟨false, fun k hk => ?_⟩
    obtain ⟨j, rfl⟩ : ∃ j, k = j + 2 := ⟨k - 2, by omega⟩
    unfold bitemporallaw55_tame.f
    simp only [bitemporallaw55_tame.l0]
    rw [if_pos (by simp), if_pos (by omega), if_pos (by simp), e, if_pos c1]
  by_cases c2 : a > 1152921504606846976
  · refine ⟨false, fun k hk => ?_⟩
    obtain ⟨j, rfl⟩ : ∃ j, k = j + 2 := ⟨k - 2, by omega⟩
    unfold bitemporallaw55_tame.f
    simp only [bitemporallaw55_tame.l0]
    rw [if_pos (by simp), if_pos (by omega), if_pos (by simp), e, if_neg c1, if_pos c2]
  · refine ⟨true, fun k hk => ?_⟩
    obtain ⟨j, rfl⟩ : ∃ j, k = j + 2 := ⟨k - 2, by omega⟩
    unfold bitemporallaw55_tame.f
    simp only [bitemporallaw55_tame.l0]
    rw [if_pos (by simp), if_pos (by omega), if_pos (by simp), e, if_neg c1, if_neg c2, w1, if_neg (by simp)]
theorem pure_Violations (a0 : Int) (a1 : ByteArray) (a2 : Int) (l : List Val) (a4 a5 : Int) : ∃ k, bitemporallaw55_ReportViolations.f k a0 a1 a2 l a4 a5 = some true := by
  obtain ⟨K, hK⟩ := awake_ev
  have hj : ∀ k, K + 400 ≤ k → bitemporallaw55_ReportViolations.j0 k true a0 a1 a2 l a4 a5 = some true := by
    intro k hk
    obtain ⟨j, rfl⟩ : ∃ j, k = j + 1 := ⟨k - 1, by omega⟩
    simp only [bitemporallaw55_ReportViolations.j0]
    rw [if_pos trivial, show bitemporallaw55_awake.f j = some true from hK j (by omega)]
    rfl
  refine ⟨K + 400, ?_⟩
  unfold bitemporallaw55_ReportViolations.f
  by_cases c1 : (l.length : Int) > 100
  · rw [if_pos c1]
    exact hj _ (Nat.le_refl _)
  rw [if_neg c1]
  by_cases c2 : (a1.size : Int) > 2000
  · rw [if_pos c2]
    exact hj _ (Nat.le_refl _)
  rw [if_neg c2]
  obtain ⟨b, hb⟩ := tame_one a2
  rw [hb _ (by omega), Option.bind_some]
  cases b with
  | false => exact hj _ (Nat.le_refl _)
  | true =>
    show bitemporallaw55_ReportViolations.j0 (K + 399 + 1) false a0 a1 a2 l a4 a5 = _
    simp only [bitemporallaw55_ReportViolations.j0]
    rw [if_neg (by simp), report_vio _ a0 a1 a2 l a4 a5 (by omega) (by omega) (by omega), Option.bind_some, ref_vio _ a0 a1 a2 l a4 a5 (by omega) (by omega) (by omega), Option.bind_some, if_pos rfl, show bitemporallaw55_awake.f (K + 399) = some true from hK _ (by omega)]
    rfl
end Go.Proofs.YthdgjobhofpjeaaGreatDoor.X
