/- The plain law of TupleTexts: it answers true. Conditions: the row's length at most 2^20. -/
import Derived.Test.YtkifafenmboefaaDoorPA
import Derived.Test.YtkifafenmboefaaDoorX26
namespace Go.Proofs.YtkifafenmboefaaDoor.X
open Go.RowKit Go.Proofs.YtkifafenmboefaaDoorW.PrintWords Go.Proofs.YtkifafenmboefaaDoorW.PrintLast Go.Proofs.YtkifafenmboefaaDoorW.PrintMore
theorem litV_len (x : S33) : (litV x).length ≤ 402 := by
  unfold litV litS
  split
  · next hv =>
    split
    · next h1 =>
      rw [h1] at hv
      have h2 := (vl_int hv).2
      have := itoa_len x.f1 (by omega) (by omega)
      omega
    · split
      · next h2 =>
        rw [h2] at hv
        have h3 := (vl_text hv).2.1
        have h4 := flat_len (bs x.f2)
        rw [bs_len] at h4
        unfold quo
        simp only [List.length_cons, List.length_append, List.length_nil]
        omega
      · split
        · split <;> decide
        · decide
  · decide
def tl (l : List S33) : List UInt8 := l.flatMap fun x => [44, 32] ++ litV x
theorem join_cons (x : S33) (l : List S33) : Lib.join ((x :: l).map litV) [44, 32] = litV x ++ tl l := by
  induction l generalizing x with
  | nil => simp [Lib.join, List.intercalate, tl]
  | cons y l ih =>
    have h := ih y
    simp only [Lib.join, List.intercalate, List.map_cons, tl, List.flatMap_cons] at h ⊢
    rw [List.intersperse_cons_cons, List.flatten_cons, List.flatten_cons, h]
    simp
theorem tl_len (l : List S33) : (tl l).length ≤ 404 * l.length := by
  induction l with
  | nil => simp [tl]
  | cons x l ih =>
    have h := litV_len x
    have e : tl (x :: l) = [44, 32] ++ litV x ++ tl l := by simp [tl]
    rw [e]
    simp only [List.length_append, List.length_cons, List.length_nil]
    omega
theorem join_len (l : List S33) : (Lib.join (l.map litV) [44, 32]).length ≤ 404 * l.length := by
  cases l with
  | nil => simp [Lib.join, List.intercalate]
  | cons x l =>
    rw [join_cons, List.length_append, List.length_cons]
    have h := litV_len x
    have h2 := tl_len l
    omega
theorem refText_loop (l : List S33) (hl : l.length ≤ 1048576) : ∀ (n i k : Nat) (t : ByteArray), i + n = l.length → n + 203 ≤ k → 0 < i → t.size + 404 * n ≤ 1000000000 →
    bitemporalref08_Text.l0 k l t (i : Int) = some ⟨(bs t ++ tl (l.drop i) ++ [41]).toArray⟩
  | n, i, 0, t, _, hk, _, _ => by omega
  | 0, i, k + 1, t, hn, hk, h0, ht => by
    unfold bitemporalref08_Text.l0
    rw [if_neg (by omega), if_pos (by omega), List.drop_eq_nil_of_le (by omega)]
    congr 1
    apply bs_inj
    rw [bs_append, bs_mk]
    simp [tl, bs]
  | n + 1, i, k + 1, t, hn, hk, h0, ht => by
    unfold bitemporalref08_Text.l0
    have hi : i < l.length := by omega
    have e : rd_T33 l i = l[i] := by simp [rd_T33, hi]
    have hv := litV_len l[i]
    have es : (⟨(litS l[i].f0 l[i].f1 l[i].f2).toArray⟩ : ByteArray).size = (litV l[i]).length := size_mk _
    have e2 : (t ++ (⟨#[44, 32]⟩ : ByteArray)).size = t.size + 2 := size_append _ _
    rw [if_pos (by omega), if_pos (by omega), if_pos (by omega), if_pos (by omega), e, lit_eq' k (by omega), Option.bind_some, if_pos (by rw [e2, es]; omega), w64 (by omega) (by omega), show ((i : Int) + 1) = ((i + 1 : Nat) : Int) by omega]
    rw [refText_loop l hl n (i + 1) k _ (by omega) (by omega) (by omega) (by rw [size_append, e2, es]; omega)]
    refine congrArg (fun z => some (⟨List.toArray z⟩ : ByteArray)) ?_
    rw [bs_append, bs_append, List.drop_eq_getElem_cons hi]
    have e3 : tl (l[i] :: l.drop (i + 1)) = [44, 32] ++ litV l[i] ++ tl (l.drop (i + 1)) := by simp only [tl, List.flatMap_cons]
    rw [e3]
    show bs t ++ [44, 32] ++ litV l[i] ++ _ ++ [41] = _
    simp only [List.append_assoc]
theorem refText_eq (l : List S33) (hl : l.length ≤ 1048576) (k : Nat) (hk : l.length + 204 ≤ k) : bitemporalref08_Text.f k l = some ⟨(rowT l).toArray⟩ := by
  unfold bitemporalref08_Text.f
  cases k with
  | zero => omega
  | succ k =>
    unfold bitemporalref08_Text.l0
    cases l with
    | nil =>
      rw [if_neg (by simp), if_pos (by decide)]
      rfl
    | cons x l =>
      have e : rd_T33 (x :: l) 0 = x := rfl
      have hv := litV_len x
      have es : (⟨(litS x.f0 x.f1 x.f2).toArray⟩ : ByteArray).size = (litV x).length := size_mk _
      have e1 : (⟨#[40]⟩ : ByteArray).size = 1 := rfl
      simp only [List.length_cons] at hl hk
      rw [if_pos (by simp only [List.length_cons]; omega), if_neg (by decide), if_pos (by decide), e, lit_eq' k (by omega), Option.bind_some, if_pos (by rw [e1, es]; omega), show wrap64 (0 + 1) = ((1 : Nat) : Int) from w64 (by omega) (by omega)]
      rw [refText_loop (x :: l) (by simp only [List.length_cons]; omega) l.length 1 k _ (by simp only [List.length_cons]; omega) (by omega) (by omega) (by rw [size_append, e1, es]; omega)]
      refine congrArg (fun z => some (⟨List.toArray z⟩ : ByteArray)) ?_
      rw [bs_append]
      unfold rowT
      rw [join_cons]
      show [40] ++ litV x ++ _ ++ [41] = _
      simp
set_option maxRecDepth 100000 in
theorem texts_loop (l : List S33) (hl : l.length ≤ 1048576) : ∀ (n i k : Nat) (x3 : Int), i + n = l.length → n + (l.length + 402) ≤ k → 0 ≤ x3 → x3 + 10000 * n ≤ 1000000000000 →
    bitemporallaw08_TupleTexts.l0 k l x3 (l.length : Int) (i : Int) = some true
  | n, i, 0, x3, _, hk, _, _ => by omega
  | 0, i, k + 1, x3, hn, hk, h0, ht => by
    unfold bitemporallaw08_TupleTexts.l0
    rw [if_neg (by omega), awake_eq k (by omega), text_eq8 l (by omega) k (by omega) (by have := join_len l; omega), refText_eq l hl k (by omega)]
    simp
  | n + 1, i, k + 1, x3, hn, hk, h0, ht => by
    unfold bitemporallaw08_TupleTexts.l0
    rw [if_pos (by omega), if_pos (by omega), if_pos (by omega)]
    have hm : 0 ≤ mn (((rd_T33 l i).f2).size : Int) 10000 ∧ mn (((rd_T33 l i).f2).size : Int) 10000 ≤ 10000 := by unfold mn; split <;> omega
    rw [w64 (by omega) (by omega), w64 (by omega) (by omega), show ((i : Int) + 1) = ((i + 1 : Nat) : Int) by omega]
    exact texts_loop l hl n (i + 1) k _ (by omega) (by omega) (by omega) (by omega)
theorem pure_Texts (l : List S33) (hl : l.length ≤ 1048576) : bitemporallaw08_TupleTexts.f 3000000 l = some true := by
  unfold bitemporallaw08_TupleTexts.f
  exact texts_loop l hl l.length 0 3000000 0 (by omega) (by omega) (by omega) (by omega)
end Go.Proofs.YtkifafenmboefaaDoor.X
