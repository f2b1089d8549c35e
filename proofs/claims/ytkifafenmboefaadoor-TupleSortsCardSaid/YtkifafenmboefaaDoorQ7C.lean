/- The reference's order of rows is a sorted permutation of the list. Conditions: those in each lemma. -/
import Derived.Test.YtkifafenmboefaaDoorQ7B
import Derived.Test.YtkifafenmboefaaDoorX9
namespace Go.Proofs.YtkifafenmboefaaDoor.X
open Go.RowKit Go.Sort Go.Proofs.YtkifafenmboefaaDoorW.PrintWords Go.Proofs.YtkifafenmboefaaDoorW.PrintLast Go.Proofs.YtkifafenmboefaaDoorW.PrintMore
open Go.Proofs.YtkifafenmboefaaDoor.Sorts (stableSort stableSort_list)
set_option linter.unusedVariables false
set_option linter.unusedSimpArgs false
/-! ### the reference's sort -/
theorem refAt_eq (a : List S33) (i : Int) : bitemporalref08_At.f a i = some ((atS a i).f0, (atS a i).f1, (atS a i).f2) := by
  unfold bitemporalref08_At.f atS
  by_cases h0 : i < 0
  · rw [if_pos h0, if_pos (Or.inl h0)]
    rfl
  · rw [if_neg h0]
    by_cases h1 : i ≥ (a.length : Int)
    · rw [if_pos h1, if_pos (Or.inr h1)]
      rfl
    · rw [if_neg h1, if_pos (by omega), if_pos (by omega), if_neg (by omega)]
theorem before_loop (o : List S47) (ho : o.length ≤ 9223372036854775807) (a b : List S33) (ha : a.length ≤ 9223372036854775807) : ∀ (n i k : Nat), i + n = o.length → n + 2 * a.length + 3 ≤ k → bitemporalref08_before.l0 k a b o (i : Int) = some (decide (ordS (o.drop i) a b < 0))
  | n, i, 0, _, hk => by omega
  | 0, i, k + 1, hn, hk => by
    unfold bitemporalref08_before.l0
    rw [if_neg (by omega), refCompare_eq a b ha k (by omega), List.drop_eq_nil_of_le (by omega)]
    show some (decide (cmpR a b < 0)) = some (decide (sg (cmpR a b) 0 < 0))
    congr 2
    unfold sg
    rw [eq_iff_iff]
    split
    · omega
    · split <;> omega
  | n + 1, i, k + 1, hn, hk => by
    unfold bitemporalref08_before.l0
    have hi : i < o.length := by omega
    have e : rd_T47 o i = o[i] := by simp [rd_T47, hi]
    rw [if_pos (by omega), if_pos (by omega), e, refAt_eq, refAt_eq]
    simp only [Option.bind_some]
    rw [compare_eq', Option.bind_some, List.drop_eq_getElem_cons hi, ordS_cons]
    have ec : cmpV (atS a o[i].f0).f0 (atS a o[i].f0).f1 (atS a o[i].f0).f2 (atS b o[i].f0).f0 (atS b o[i].f0).f1 (atS b o[i].f0).f2 = cv (atS a o[i].f0) (atS b o[i].f0) := rfl
    rw [ec]
    unfold dirS
    rcases cv_range (atS a o[i].f0) (atS b o[i].f0) with h | h | h
    · rw [h]
      cases o[i].f1 <;> rfl
    · rw [h, if_pos rfl, w64 (by omega) (by omega), show ((i : Int) + 1) = ((i + 1 : Nat) : Int) by omega, before_loop o ho a b ha n (i + 1) k (by omega) (by omega)]
      cases o[i].f1 <;> rfl
    · rw [h]
      cases o[i].f1 <;> rfl
theorem before_eq (o : List S47) (ho : o.length ≤ 9223372036854775807) (a b : List S33) (ha : a.length ≤ 9223372036854775807) (k : Nat) (hk : o.length + 2 * a.length + 3 ≤ k) : bitemporalref08_before.f k a b o = some (decide (ordS o a b < 0)) :=
  before_loop o ho a b ha o.length 0 k (by omega) hk
def leS (o : List S47) (x y : List S33) : Bool := !decide (ordS o y x < 0)
theorem wr2 (n m : Nat) (h : n ≤ 300) (hm : m = n / 2) : wrap64 ((n : Int) / 2) = (m : Int) := by
  rw [w64 (by omega) (by omega)]
  omega
theorem merged_loop (BIG : Nat) (hB : 8796093022208 ≤ BIG) (o : List S47) (ho : o.length ≤ 9223372036854775807) (a b : List (List S33)) (hs : a.length + b.length ≤ 1000) (hb : ∀ x ∈ b, x.length < 4398046511104) : ∀ (n i j k : Nat) (acc : List (List S33)), (a.length - i) + (b.length - j) = n → i ≤ a.length → j ≤ b.length → acc.length + n ≤ 1000 → 2 * n + 2 + (o.length + BIG + 3) ≤ k →
    bitemporalref08_merged.l0 k a b o acc (i : Int) (j : Int) = some (acc ++ List.merge (a.drop i) (b.drop j) (leS o))
  | n, i, j, 0, acc, _, _, _, _, hk => by omega
  | n, i, j, 1, acc, _, _, _, _, hk => by omega
  | n, i, j, k + 2, acc, hn, hi, hj, hc, hk => by
    unfold bitemporalref08_merged.l0 bitemporalref08_merged.j1
    by_cases h0 : i < a.length
    · have e0 : rd_L3 a i = a[i] := by simp [rd_L3, h0]
      rw [if_pos (by omega), if_pos rfl, if_neg (by omega), List.drop_eq_getElem_cons h0]
      by_cases h1 : j < b.length
      · have e1 : rd_L3 b j = b[j] := by simp [rd_L3, h1]
        have hx := hb b[j] (List.getElem_mem h1)
        rw [if_pos (by omega), if_pos (by omega), if_pos (by omega), if_pos (by omega), e0, e1, before_eq o ho _ _ (by omega) k (by omega), Option.bind_some, List.drop_eq_getElem_cons h1, List.cons_merge_cons]
        by_cases hlt : ordS o b[j] a[i] < 0
        · have hle : leS o a[i] b[j] = false := by simp [leS, hlt]
          rw [if_pos (by simpa using hlt), if_pos (by omega), wr1 j (by omega), merged_loop BIG hB o ho a b hs hb (n - 1) i (j + 1) k _ (by omega) hi h1 (by simp; omega) (by omega), hle, ← List.drop_eq_getElem_cons h0]
          simp
        · have hle : leS o a[i] b[j] = true := by simp [leS]; omega
          rw [if_neg (by simpa using hlt), if_pos (by omega), wr1 i (by omega), merged_loop BIG hB o ho a b hs hb (n - 1) (i + 1) j k _ (by omega) h0 hj (by simp; omega) (by omega), hle, ← List.drop_eq_getElem_cons h1]
          simp
      · rw [if_neg (by omega), if_pos (by omega), if_pos (by omega), if_pos (by omega), e0, wr1 i (by omega), merged_loop BIG hB o ho a b hs hb (n - 1) (i + 1) j k _ (by omega) h0 hj (by simp; omega) (by omega), List.drop_eq_nil_of_le (show b.length ≤ j by omega)]
        simp
    · rw [if_neg (by omega), List.drop_eq_nil_of_le (show a.length ≤ i by omega)]
      by_cases h1 : j < b.length
      · have e1 : rd_L3 b j = b[j] := by simp [rd_L3, h1]
        rw [if_pos (by simp; omega), if_pos (by omega), if_pos (by omega), if_pos (by omega), if_pos (by omega), e1, wr1 j (by omega), merged_loop BIG hB o ho a b hs hb (n - 1) i (j + 1) k _ (by omega) hi h1 (by simp; omega) (by omega), List.drop_eq_nil_of_le (show a.length ≤ i by omega), List.drop_eq_getElem_cons h1]
        simp
      · rw [if_neg (by simp; omega), List.drop_eq_nil_of_le (show b.length ≤ j by omega)]
        simp
theorem leS_trans (o : List S47) (x y z : List S33) (h1 : leS o x y = true) (h2 : leS o y z = true) : leS o x z = true := by
  simp only [leS, Bool.not_eq_true', decide_eq_false_iff_not] at h1 h2 ⊢
  have e1 := (ord_pre o).anti x y
  have e2 := (ord_pre o).anti y z
  have e3 := (ord_pre o).anti x z
  have := (ord_pre o).trans x y z (by omega) (by omega)
  omega
theorem leS_total (o : List S47) (x y : List S33) : (leS o x y || leS o y x) = true := by
  simp only [leS, Bool.or_eq_true, Bool.not_eq_true', decide_eq_false_iff_not]
  have e1 := (ord_pre o).anti x y
  omega
theorem refOrder_ok (BIG : Nat) (hB : 8796093022208 ≤ BIG) (o : List S47) (ho : o.length ≤ 9223372036854775807) : ∀ (n : Nat) (L : List (List S33)), L.length ≤ n → L.length ≤ 300 → (∀ x ∈ L, x.length < 4398046511104) →
    ∃ k r, bitemporalref08_Order.f k L o = some r ∧ r.Perm L ∧ r.Pairwise (fun x y => leS o x y = true)
  | 0, L, hn, _, _ => by
    rw [List.length_eq_zero_iff.1 (Nat.le_zero.1 hn)]
    exact ⟨1, [], rfl, List.Perm.refl _, List.Pairwise.nil⟩
  | n + 1, L, hn, h3, hx => by
    by_cases c0 : L.length = 0
    · rw [List.length_eq_zero_iff.1 c0]
      exact ⟨1, [], rfl, List.Perm.refl _, List.Pairwise.nil⟩
    · by_cases c1 : L.length = 1
      · match L, c1 with
        | [x], _ =>
          have hl := hx x List.mem_cons_self
          refine ⟨1, [x], ?_, List.Perm.refl _, by simp⟩
          unfold bitemporalref08_Order.f
          have e : rd_L3 [x] 0 = x := rfl
          rw [if_neg (by simp), if_pos (by simp), Option.bind_some, if_pos (by simp), e, if_pos (by simpa using hl)]
          rfl
      · obtain ⟨m, hm⟩ : ∃ m, m = L.length / 2 := ⟨_, rfl⟩
        have hm1 : 1 ≤ m := by omega
        have hm2 : m < L.length := by omega
        have lt_ : (L.take m).length = m := by rw [List.length_take]; omega
        have ld_ : (L.drop m).length = L.length - m := by rw [List.length_drop]
        obtain ⟨k1, r1, e1, p1, s1⟩ := refOrder_ok BIG hB o ho n (L.take m) (by omega) (by omega) (fun x h => hx x (List.mem_of_mem_take h))
        obtain ⟨k2, r2, e2, p2, s2⟩ := refOrder_ok BIG hB o ho n (L.drop m) (by omega) (by omega) (fun x h => hx x (List.mem_of_mem_drop h))
        have l1 := p1.length_eq
        have l2 := p2.length_eq
        obtain ⟨K, hK⟩ : ∃ K, K = max (max k1 k2) (2 * L.length + 2 + (o.length + BIG + 3)) := ⟨_, rfl⟩
        have f1 := upTo (f := fun k => bitemporalref08_Order.f k (L.take m) o) (fun k => bitemporalref08_Order.mono _ _ _) (show k1 ≤ K by omega) e1
        have f2 := upTo (f := fun k => bitemporalref08_Order.f k (L.drop m) o) (fun k => bitemporalref08_Order.mono _ _ _) (show k2 ≤ K by omega) e2
        have f3 : bitemporalref08_merged.f K r1 r2 o = some (List.merge r1 r2 (leS o)) := by
          have := merged_loop BIG hB o ho r1 r2 (by omega) (fun x h => hx x (List.mem_of_mem_drop (p2.mem_iff.1 h))) (r1.length + r2.length) 0 0 K [] (by omega) (by omega) (by omega) (by simp; omega) (by omega)
          simpa [bitemporalref08_merged.f] using this
        refine ⟨K + 1, List.merge r1 r2 (leS o), ?_, ?_, ?_⟩
        · unfold bitemporalref08_Order.f
          rw [if_neg (by omega), if_neg (by omega), wr2 L.length m h3 hm, if_pos (by omega), if_pos (by omega), Int.toNat_natCast]
          rw [f1, f2, Option.bind_some, Option.bind_some, f3]
          rfl
        · refine (List.merge_perm_append (leS o)).trans ?_
          have := p1.append p2
          rwa [List.take_append_drop] at this
        · exact List.pairwise_merge (leS_trans o) (leS_total o) r1 r2 s1 s2
end Go.Proofs.YtkifafenmboefaaDoor.X
