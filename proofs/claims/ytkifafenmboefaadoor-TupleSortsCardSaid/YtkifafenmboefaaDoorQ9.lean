/- The plain law of TupleSorts: it answers true. Conditions: the slices' lengths within reach. -/
import Derived.Test.YtkifafenmboefaaDoorQ7C
import Derived.Test.YtkifafenmboefaaDoorX30
import Derived.Test.YtkifafenmboefaaDoorX18
namespace Go.Proofs.YtkifafenmboefaaDoor.X
open Go.RowKit Go.Sort Go.Proofs.YtkifafenmboefaaDoorW.PrintWords Go.Proofs.YtkifafenmboefaaDoorW.PrintLast Go.Proofs.YtkifafenmboefaaDoorW.PrintMore
set_option linter.unusedVariables false
set_option linter.unusedSimpArgs false
def eqB : List (List S33) → List (List S33) → Bool
  | [], [] => true
  | a :: r, b :: t => (cmpR a b == 0) && eqB r t
  | _, _ => false
theorem eqRowsB (k : Nat) (hk : 4 ≤ k) : ∀ r t : List (List S33), r.length = t.length → eqRows k r t = some (eqB r t)
  | [], [], _ => rfl
  | a :: r, b :: t, h => by
    unfold eqRows eqB
    rw [tequal_eq k hk, Option.bind_some]
    cases hc : (cmpR a b == 0) with
    | true => rw [if_pos rfl, eqRowsB k hk r t (by simpa using h)]; rfl
    | false => rfl
  | [], _ :: _, h => by simp at h
  | _ :: _, [], h => by simp at h
theorem eqB_len : ∀ r t : List (List S33), r.length ≠ t.length → eqB r t = false
  | [], [], h => absurd rfl h
  | a :: r, b :: t, h => by
    unfold eqB
    rw [eqB_len r t (fun e => h (by simp [e]))]
    simp
  | [], _ :: _, _ => rfl
  | _ :: _, [], _ => rfl
theorem listB_loop (BIG : Nat) (hB : 8796093022208 ≤ BIG) (r t : List (List S33)) (hl : r.length = t.length) (h3 : r.length ≤ 9223372036854775807) (hx : ∀ x ∈ r, x.length < 4398046511104) : ∀ (n i k : Nat), i + n = r.length → n + BIG + 3 ≤ k → bitemporalref08_List.l0 k r t (i : Int) = some (eqB (r.drop i) (t.drop i))
  | n, i, 0, _, hk => by omega
  | 0, i, k + 1, hn, hk => by
    unfold bitemporalref08_List.l0
    rw [if_neg (by omega), List.drop_eq_nil_of_le (show r.length ≤ i by omega), List.drop_eq_nil_of_le (show t.length ≤ i by omega)]
    rfl
  | n + 1, i, k + 1, hn, hk => by
    unfold bitemporalref08_List.l0
    have h0 : i < r.length := by omega
    have h1 : i < t.length := by omega
    have e0 : rd_L3 r i = r[i] := by simp [rd_L3, h0]
    have e1 : rd_L3 t i = t[i] := by simp [rd_L3, h1]
    have hx0 := hx r[i] (List.getElem_mem h0)
    rw [if_pos (by omega), if_pos (by omega), if_pos (by omega), e0, e1, refEqual_eq _ _ (by omega) k (by omega), Option.bind_some, List.drop_eq_getElem_cons h0, List.drop_eq_getElem_cons h1, show eqB (r[i] :: r.drop (i + 1)) (t[i] :: t.drop (i + 1)) = ((cmpR r[i] t[i] == 0) && eqB (r.drop (i + 1)) (t.drop (i + 1))) from rfl]
    cases hc : (cmpR r[i] t[i] == 0) with
    | true =>
      rw [if_pos rfl, wr1 i (by omega), listB_loop BIG hB r t hl h3 hx n (i + 1) k (by omega) (by omega)]
      rfl
    | false => rfl
theorem refListB (BIG : Nat) (hB : 8796093022208 ≤ BIG) (r t : List (List S33)) (h3 : r.length ≤ 9223372036854775807) (hx : ∀ x ∈ r, x.length < 4398046511104) (k : Nat) (hk : r.length + BIG + 3 ≤ k) : bitemporalref08_List.f k r t = some (eqB r t) := by
  unfold bitemporalref08_List.f
  by_cases hl : (r.length : Int) = (t.length : Int)
  · rw [if_pos hl]
    exact listB_loop BIG hB r t (by omega) h3 hx r.length 0 k (by omega) hk
  · rw [if_neg hl, eqB_len r t (by omega)]
theorem cmp0_congr {a a' b b' : List S33} (ha : cmpR a a' = 0) (hb : cmpR b b' = 0) : (cmpR a b == 0) = (cmpR a' b' == 0) := by
  have sa := cmpR_pre.anti a a'
  have sb := cmpR_pre.anti b b'
  by_cases p : cmpR a b = 0
  · have := cmpR_pre.eq_trans (cmpR_pre.eq_trans (show cmpR a' a = 0 by omega) p) hb
    rw [p, this]
  · have q : ¬ cmpR a' b' = 0 := fun q => p (cmpR_pre.eq_trans (cmpR_pre.eq_trans ha q) (by omega))
    rw [beq_eq_false_iff_ne.2 p, beq_eq_false_iff_ne.2 q]
theorem eqB_congr : ∀ {a a' b b' : List (List S33)}, Eqv cmpR a a' → Eqv cmpR b b' → eqB a b = eqB a' b'
  | [], [], [], [], _, _ => rfl
  | [], [], _ :: _, _ :: _, _, _ => rfl
  | _ :: _, _ :: _, [], [], _, _ => rfl
  | x :: a, x' :: a', y :: b, y' :: b', ha, hb => by
    unfold eqB
    rw [cmp0_congr ha.1 hb.1, eqB_congr ha.2 hb.2]
  | [], _ :: _, _, _, h, _ => h.elim
  | _ :: _, [], _, _, h, _ => h.elim
  | _, _, [], _ :: _, _, h => h.elim
  | _, _, _ :: _, [], _, h => h.elim
/-- The rows that differ from the one before them. -/
def ded : List S33 → List (List S33) → List (List S33)
  | _, [] => []
  | p, y :: ys => if cmpR y p = 0 then ded y ys else y :: ded y ys
def dedL : List (List S33) → List (List S33)
  | [] => []
  | x :: xs => x :: ded x xs
theorem compF_eq (k : Nat) (hk : 4 ≤ k) : ∀ p l, compF k p l = some (ded p l)
  | _, [] => rfl
  | p, y :: ys => by
    unfold compF ded
    rw [tequal_eq k hk, Option.bind_some, compF_eq k hk y ys, Option.bind_some]
    by_cases h : cmpR y p = 0
    · rw [if_pos h, h]; rfl
    · rw [if_neg h, beq_eq_false_iff_ne.2 h]; rfl
theorem compactF_eq (k : Nat) (hk : 4 ≤ k) : ∀ l, compactF k l = some (dedL l)
  | [] => rfl
  | x :: xs => by
    show ((compF k x xs).bind fun r => some (x :: r)) = some (x :: ded x xs)
    rw [compF_eq k hk]
    rfl
theorem ded_eqv : ∀ {p p' : List S33} {l l' : List (List S33)}, cmpR p p' = 0 → Eqv cmpR l l' → Eqv cmpR (ded p l) (ded p' l')
  | p, p', [], [], _, _ => trivial
  | p, p', y :: ys, y' :: ys', hp, h => by
    have e := cmp0_congr h.1 hp
    unfold ded
    by_cases q : cmpR y p = 0
    · rw [q] at e
      have q' : cmpR y' p' = 0 := by simpa using e.symm
      rw [if_pos q, if_pos q']
      exact ded_eqv h.1 h.2
    · rw [beq_eq_false_iff_ne.2 q] at e
      have q' : ¬ cmpR y' p' = 0 := by simpa using e.symm
      rw [if_neg q, if_neg q']
      exact ⟨h.1, ded_eqv h.1 h.2⟩
  | _, _, [], _ :: _, _, h => h.elim
  | _, _, _ :: _, [], _, h => h.elim
theorem dedL_eqv : ∀ {l l' : List (List S33)}, Eqv cmpR l l' → Eqv cmpR (dedL l) (dedL l')
  | [], [], _ => trivial
  | x :: xs, x' :: xs', h => ⟨h.1, ded_eqv h.1 h.2⟩
  | [], _ :: _, h => h.elim
  | _ :: _, [], h => h.elim
theorem ded_mem : ∀ (p : List S33) (l : List (List S33)) (x : List S33), x ∈ ded p l → x ∈ l
  | _, [], x, h => h
  | p, y :: ys, x, h => by
    unfold ded at h
    split at h
    · exact List.mem_cons_of_mem _ (ded_mem y ys x h)
    · rcases List.mem_cons.1 h with rfl | h
      · exact List.mem_cons_self
      · exact List.mem_cons_of_mem _ (ded_mem y ys x h)
theorem dedL_mem (l : List (List S33)) (x : List S33) (h : x ∈ dedL l) : x ∈ l := by
  cases l with
  | nil => exact h
  | cons y ys =>
    rcases List.mem_cons.1 h with rfl | h
    · exact List.mem_cons_self
    · exact List.mem_cons_of_mem _ (ded_mem y ys x h)
theorem ded_len : ∀ (p : List S33) (l : List (List S33)), (ded p l).length ≤ l.length
  | _, [] => Nat.le_refl _
  | p, y :: ys => by
    have := ded_len y ys
    unfold ded
    split
    · simp only [List.length_cons]; omega
    · simp only [List.length_cons]; omega
theorem dedL_len (l : List (List S33)) : (dedL l).length ≤ l.length := by
  cases l with
  | nil => exact Nat.le_refl _
  | cons y ys =>
    have := ded_len y ys
    simp only [dedL, List.length_cons]
    omega
theorem distinct_loop (BIG : Nat) (hB : 8796093022208 ≤ BIG) (r : List (List S33)) (h3 : r.length ≤ 300) (hx : ∀ x ∈ r, x.length < 4398046511104) : ∀ (n i k : Nat) (acc : List (List S33)), i + n = r.length → 1 ≤ i → acc.length ≤ i → n + BIG + 3 ≤ k →
    bitemporalref08_Distinct.l0 k r acc (i : Int) = some (acc ++ ded (r.getD (i - 1) []) (r.drop i))
  | n, i, 0, acc, _, _, _, hk => by omega
  | 0, i, k + 1, acc, hn, h1, ha, hk => by
    unfold bitemporalref08_Distinct.l0
    rw [if_neg (by omega), List.drop_eq_nil_of_le (show r.length ≤ i by omega)]
    simp [ded]
  | n + 1, i, k + 1, acc, hn, h1, ha, hk => by
    unfold bitemporalref08_Distinct.l0
    have h0 : i < r.length := by omega
    have hp : i - 1 < r.length := by omega
    have e0 : rd_L3 r i = r[i] := by simp [rd_L3, h0]
    have e1 : rd_L3 r ((i - 1 : Nat) : Int) = r[i - 1] := by simp [rd_L3, hp]
    have e2 : r.getD (i - 1) [] = r[i - 1] := by simp [hp]
    have e3 : r.getD i [] = r[i] := by simp [h0]
    have hx0 := hx r[i - 1] (List.getElem_mem hp)
    have wm : wrap64 ((i : Int) - 1) = ((i - 1 : Nat) : Int) := by
      rw [w64 (by omega) (by omega)]
      omega
    have WM := Aside0.mk wm
    clear wm
    rw [if_pos (by omega), if_neg (by omega), WM.out, if_pos (by omega), if_pos (by omega), if_pos (by omega), e0, e1, refEqual_eq _ _ (by omega) k (by omega), Option.bind_some, wr1 i (by omega), e2, List.drop_eq_getElem_cons h0]
    have ha2 := cmpR_pre.anti r[i - 1] r[i]
    have ih := fun acc h => distinct_loop BIG hB r h3 hx n (i + 1) k acc (by omega) (by omega) h (by omega)
    rw [show i + 1 - 1 = i by omega, e3] at ih
    show _ = some (acc ++ if cmpR r[i] r[i - 1] = 0 then ded r[i] (r.drop (i + 1)) else r[i] :: ded r[i] (r.drop (i + 1)))
    by_cases q : cmpR r[i - 1] r[i] = 0
    · rw [q, if_pos (by decide), if_pos (by omega), ih acc (by omega)]
    · rw [beq_eq_false_iff_ne.2 q, if_neg (by decide), if_pos (by omega), if_neg (by omega), ih _ (by simp; omega)]
      simp
theorem refDistinct_eq (BIG : Nat) (hB : 8796093022208 ≤ BIG) (r : List (List S33)) (h3 : r.length ≤ 300) (hx : ∀ x ∈ r, x.length < 4398046511104) (k : Nat) (hk : r.length + BIG + 4 ≤ k) : bitemporalref08_Distinct.l0 k r [] 0 = some (dedL r) := by
  cases r with
  | nil =>
    obtain ⟨k1, rfl⟩ : ∃ k1, k = k1 + 1 := ⟨k - 1, by omega⟩
    unfold bitemporalref08_Distinct.l0
    rw [if_neg (by simp)]
    rfl
  | cons x xs =>
    obtain ⟨k1, rfl⟩ : ∃ k1, k = k1 + 1 := ⟨k - 1, by omega⟩
    unfold bitemporalref08_Distinct.l0
    have e0 : rd_L3 (x :: xs) 0 = x := rfl
    rw [if_pos (by simp only [List.length_cons]; omega), if_pos rfl, if_pos (by omega), if_pos (by simp), e0, show wrap64 (0 + 1) = ((1 : Nat) : Int) from w64 (by omega) (by omega), List.nil_append]
    rw [distinct_loop BIG hB (x :: xs) h3 hx xs.length 1 k1 [x] (by simp only [List.length_cons]; omega) (Nat.le_refl _) (by simp) (by simp only [List.length_cons] at hk; omega)]
    rfl
theorem ord_nil (a b : List S33) : ordS [] a b < 0 ↔ cmpR a b < 0 := by
  unfold ordS sg
  split
  · omega
  · split <;> omega
/-- What both sorts of a short list come to. -/
theorem both (L : List (List S33)) (h3 : L.length ≤ 300) (h2 : ∀ x ∈ L, x.length < 4398046511104) : ∃ t r K, (∀ k, 4 ≤ k → tuple_Sort.f k L = some t) ∧ (∀ k, K ≤ k → bitemporalref08_Sort.f k L = some r) ∧ t.Perm L ∧ r.Perm L ∧ Eqv cmpR t r := by
  obtain ⟨t, e2, p2, s2⟩ := sortRows_ok (fun x y => cmpRows_eq 4 (Nat.le_refl _) x y) cmpR_pre L (by omega) h2
  obtain ⟨k1, r, e1, p1, s1⟩ := refOrder_ok 8796093022208 (Nat.le_refl _) [] (by simp) L.length L (Nat.le_refl _) h3 h2
  refine ⟨t, r, k1, fun k hk => upTo (f := fun k => tuple_Sort.f k L) (fun k => tuple_Sort.mono _ _) hk e2, fun k hk => ?_, p2, p1, ?_⟩
  · have f1 := upTo (f := fun k => bitemporalref08_Order.f k L []) (fun k => bitemporalref08_Order.mono _ _ _) hk e1
    unfold bitemporalref08_Sort.f
    rw [f1]
    rfl
  · refine uniq_perm cmpR_pre s2 (s1.imp fun {x y} h => ?_) (p2.trans p1.symm)
    simp only [leS, Bool.not_eq_true', decide_eq_false_iff_not] at h
    rwa [ord_nil] at h
theorem pure_Sorts (L M : List (List S33)) (h1 : L.length < 5864062014805) (h2 : ∀ x ∈ L, x.length < 4398046511104) (g1 : M.length < 5864062014805) (g2 : ∀ x ∈ M, x.length < 4398046511104) : ∃ k, bitemporallaw08_TupleSorts.f k L M = some true := by
  obtain ⟨BIG, hB⟩ : ∃ B : Nat, B = 8796093022208 := ⟨_, rfl⟩
  unfold bitemporallaw08_TupleSorts.f bitemporallaw08_short.f
  have long : ∀ k, 401 ≤ k → bitemporallaw08_TupleSorts.j0 k L M true = some true := fun k hk => by
    obtain ⟨k1, rfl⟩ : ∃ k1, k = k1 + 1 := ⟨k - 1, by omega⟩
    rw [bitemporallaw08_TupleSorts.j0, if_pos rfl, awake_eq k1 (by omega)]
    rfl
  by_cases hL : L.length ≤ 300
  · have dL : decide ((L.length : Int) ≤ 300) = true := by simp; omega
    by_cases hM : M.length ≤ 300
    · have dM : decide ((M.length : Int) ≤ 300) = true := by simp; omega
      obtain ⟨t, r, K1, a1, a2, a3, a4, a5⟩ := both L hL h2
      obtain ⟨u, v, K2, b1, b2, b3, b4, b5⟩ := both M hM g2
      obtain ⟨K, hK⟩ : ∃ K, K = max (max K1 K2) (BIG + 1000) := ⟨_, rfl⟩
      refine ⟨K + 1, ?_⟩
      rw [dL, Option.bind_some, if_pos rfl, dM, Option.bind_some, bitemporallaw08_TupleSorts.j0, if_neg (by decide)]
      have tl := a3.length_eq
      have rl := a4.length_eq
      have ul := b3.length_eq
      have vl_ := b4.length_eq
      have dl := dedL_len t
      have s1 := refList_eq BIG (by omega) t r (by omega) (fun x h => h2 x (a3.mem_iff.1 h)) a5 K (by omega)
      have s2 : tuple_Distinct.f K L = some (dedL t) := by
        unfold tuple_Distinct.f
        rw [a1 K (by omega), Option.bind_some, compactF_eq K (by omega)]
      have s3 : bitemporalref08_Distinct.f K L = some (dedL r) := by
        unfold bitemporalref08_Distinct.f
        rw [a2 K (by omega), Option.bind_some, refDistinct_eq BIG (by omega) r (by omega) (fun x h => h2 x (a4.mem_iff.1 h)) K (by omega)]
      have s4 := refList_eq BIG (by omega) (dedL t) (dedL r) (by omega) (fun x h => h2 x (a3.mem_iff.1 (dedL_mem t x h))) (dedL_eqv a5) K (by omega)
      have s5 : tuple_Same.f K L M = some (eqB t u) := by
        unfold tuple_Same.f
        rw [a1 K (by omega), Option.bind_some, b1 K (by omega), Option.bind_some]
        by_cases hl : t.length = u.length
        · rw [if_pos hl, eqRowsB K (by omega) t u hl]
        · rw [if_neg hl, eqB_len t u hl]
      have s6 : bitemporalref08_Same.f K L M = some (eqB r v) := by
        unfold bitemporalref08_Same.f
        rw [a2 K (by omega), Option.bind_some, b2 K (by omega), Option.bind_some, refListB BIG (by omega) r v (by omega) (fun x h => h2 x (a4.mem_iff.1 h)) K (by omega)]
        rfl
      rw [a1 K (by omega), Option.bind_some, a2 K (by omega), Option.bind_some, s1, Option.bind_some, if_pos rfl, s2, Option.bind_some, s3, Option.bind_some, s4, Option.bind_some, if_pos rfl, s5, Option.bind_some, s6, Option.bind_some, eqB_congr a5 b5, if_pos (by simp), awake_eq K (by omega)]
      rfl
    · have dM : decide ((M.length : Int) ≤ 300) = false := by simp; omega
      refine ⟨401, ?_⟩
      rw [dL, Option.bind_some, if_pos rfl, dM, Option.bind_some]
      exact long 401 (Nat.le_refl _)
  · have dL : decide ((L.length : Int) ≤ 300) = false := by simp; omega
    refine ⟨401, ?_⟩
    rw [dL, Option.bind_some, if_neg (by decide)]
    exact long 401 (Nat.le_refl _)
end Go.Proofs.YtkifafenmboefaaDoor.X
