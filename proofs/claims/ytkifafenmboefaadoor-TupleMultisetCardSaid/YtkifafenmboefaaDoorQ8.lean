/- The plain law of TupleMultiset: it answers true. Conditions: the slices' lengths within reach. -/
import Derived.Test.YtkifafenmboefaaDoorQ7B
import Derived.Test.YtkifafenmboefaaDoorX28
namespace Go.Proofs.YtkifafenmboefaaDoor.X
open Go.RowKit Go.Sort Go.Proofs.YtkifafenmboefaaDoorW.PrintWords Go.Proofs.YtkifafenmboefaaDoorW.PrintLast Go.Proofs.YtkifafenmboefaaDoorW.PrintMore
set_option linter.unusedVariables false
set_option linter.unusedSimpArgs false
theorem eqRows_eq (k : Nat) (hk : 4 ≤ k) : ∀ r t : List (List S33), Eqv cmpR r t → eqRows k r t = some true
  | [], [], _ => rfl
  | a :: r, b :: t, h => by
    unfold eqRows
    rw [tequal_eq k hk, Option.bind_some, h.1, if_pos (by decide)]
    exact eqRows_eq k hk r t h.2
  | [], _ :: _, h => h.elim
  | _ :: _, [], h => h.elim
theorem sort_eq (L : List (List S33)) (h1 : L.length < 5864062014805) (h2 : ∀ x ∈ L, x.length < 4398046511104) : ∃ r, (∀ k, 4 ≤ k → tuple_Sort.f k L = some r) ∧ r.Perm L ∧ r.Pairwise (fun x y => ¬ cmpR y x < 0) := by
  obtain ⟨r, e, p, s⟩ := sortRows_ok (fun x y => cmpRows_eq 4 (Nat.le_refl _) x y) cmpR_pre L h1 h2
  exact ⟨r, fun k hk => upTo (f := fun k => tuple_Sort.f k L) (fun k => tuple_Sort.mono _ _) hk e, p, s⟩
theorem same_eq (a L : List (List S33)) (hp : a.Perm L) (h1 : L.length < 5864062014805) (h2 : ∀ x ∈ L, x.length < 4398046511104) (k : Nat) (hk : 4 ≤ k) : tuple_Same.f k a L = some true := by
  obtain ⟨r, e1, p1, s1⟩ := sort_eq a (by rw [hp.length_eq]; exact h1) (fun x h => h2 x (hp.mem_iff.1 h))
  obtain ⟨t, e2, p2, s2⟩ := sort_eq L h1 h2
  have h := uniq_perm cmpR_pre s1 s2 ((p1.trans hp).trans p2.symm)
  unfold tuple_Same.f
  rw [e1 k hk, Option.bind_some, e2 k hk, Option.bind_some, if_pos h.len]
  exact eqRows_eq k hk r t h
theorem multi_end (BIG : Nat) (hB : 8796093022208 ≤ BIG) (L a : List (List S33)) (h1 : L.length < 5864062014805) (h2 : ∀ x ∈ L, x.length < 4398046511104) (pa : a.Perm L) (sa : a.Pairwise (fun x y => ¬ cmpR y x < 0)) (x2 x3 : Int) (out : Bool)
    (hr : out = false → 0 ≤ x2 ∧ x2 < (L.length : Int) ∧ 0 ≤ x3 ∧ x3 < (L.length : Int)) (k : Nat) (hk : L.length + BIG + 404 ≤ k) : bitemporallaw08_TupleMultiset.j2 k L x2 x3 a out = some true := by
  cases k with
  | zero => omega
  | succ k =>
    rw [bitemporallaw08_TupleMultiset.j2]
    cases out with
    | true => rw [if_pos rfl, awake_eq k (by omega)]; rfl
    | false =>
      obtain ⟨q0, q1, q2, q3⟩ := hr rfl
      obtain ⟨p, rfl⟩ := Int.eq_ofNat_of_zero_le q0
      obtain ⟨q, rfl⟩ := Int.eq_ofNat_of_zero_le q2
      have hp : p < L.length := by omega
      have hq : q < L.length := by omega
      have ep : rd_L3 L (p : Int) = L[p] := by simp [rd_L3, hp]
      have eq_ : rd_L3 L (q : Int) = L[q] := by simp [rd_L3, hq]
      have hperm : ((L.set p L[q]).set q L[p]).Perm L := perm_set_set L p q hp hq
      obtain ⟨t, e1, p1, s1⟩ := sort_eq ((L.set p L[q]).set q L[p]) (by rw [hperm.length_eq]; exact h1) (fun x h => h2 x (hperm.mem_iff.1 h))
      have h := uniq_perm cmpR_pre s1 sa ((p1.trans hperm).trans pa.symm)
      have hl : t.length = L.length := (p1.trans hperm).length_eq
      have h3 := refList_eq BIG hB t a (by omega) (fun x h => h2 x ((p1.trans hperm).mem_iff.1 h)) h k (by omega)
      rw [if_neg (by decide), Option.bind_some, if_pos (by simpa using h1), Option.bind_some, List.nil_append, if_pos q2, if_pos q3, if_pos q0, if_pos q1, if_pos q1, if_pos q3, ep, eq_, Int.toNat_natCast, Int.toNat_natCast, e1 k (by omega), Option.bind_some, h3, Option.bind_some, if_pos rfl, awake_eq k (by omega)]
      rfl
theorem wm1 (j : Nat) (h0 : 1 ≤ j) (h : j < 9223372036854775807) : wrap64 ((j : Int) - 1) = ((j - 1 : Nat) : Int) := by
  rw [w64 (by omega) (by omega)]
  omega
theorem multi_loop (BIG : Nat) (hB : 8796093022208 ≤ BIG) (L a : List (List S33)) (h1 : L.length < 5864062014805) (h2 : ∀ x ∈ L, x.length < 4398046511104) (pa : a.Perm L) (sa : a.Pairwise (fun x y => ¬ cmpR y x < 0)) (x2 x3 : Int) :
    ∀ (n j k : Nat), a.length - j = n → 1 ≤ j → n + L.length + BIG + 406 ≤ k → bitemporallaw08_TupleMultiset.l0 k L x2 x3 a (j : Int) = some true
  | n, j, 0, _, _, hk => by omega
  | n, j, k + 1, hn, h0, hk => by
    have hla : a.length = L.length := pa.length_eq
    rw [bitemporallaw08_TupleMultiset.l0]
    by_cases hj : j < a.length
    · have e0 : rd_L3 a ((j - 1 : Nat) : Int) = a[j - 1] := by simp [rd_L3, show j - 1 < a.length by omega]
      have e1 : rd_L3 a (j : Int) = a[j] := by simp [rd_L3, hj]
      have hs := List.pairwise_iff_getElem.1 sa (j - 1) j (by omega) hj (by omega)
      have ha := cmpR_pre.anti a[j - 1] a[j]
      rw [if_pos (by omega), wm1 j h0 (by omega), if_pos (by omega), if_pos (by omega), if_pos (by omega), e0, e1]
      unfold tuple_Compare.f
      rw [cmpRows_eq k (by omega), Option.bind_some, if_neg (by omega), wr1 j (by omega)]
      exact multi_loop BIG hB L a h1 h2 pa sa x2 x3 (n - 1) (j + 1) k (by omega) (by omega) (by omega)
    · rw [if_neg (by omega)]
      have fin := fun out hr => multi_end BIG hB L a h1 h2 pa sa x2 x3 out hr k (by omega)
      by_cases c1 : x2 < 0
      · rw [if_pos c1]; exact fin true (fun h => by cases h)
      · rw [if_neg c1]
        by_cases c2 : x2 ≥ (L.length : Int)
        · rw [if_pos c2]; exact fin true (fun h => by cases h)
        · rw [if_neg c2]
          by_cases c3 : x3 < 0
          · rw [if_pos c3]; exact fin true (fun h => by cases h)
          · rw [if_neg c3]
            refine fin _ (fun h => ?_)
            have h4 : ¬ x3 ≥ (L.length : Int) := by simpa using h
            omega
theorem pure_Multiset (L : List (List S33)) (o : List S47) (x2 x3 : Int) (h1 : L.length < 5864062014805) (h2 : ∀ x ∈ L, x.length < 4398046511104) : ∃ k, bitemporallaw08_TupleMultiset.f k L o x2 x3 = some true := by
  obtain ⟨BIG, hB⟩ : ∃ B : Nat, B = 8796093022208 := ⟨_, rfl⟩
  obtain ⟨a, e1, pa, sa⟩ := sort_eq L h1 h2
  obtain ⟨K, hK⟩ : ∃ K, K = 2 * L.length + BIG + 410 := ⟨_, rfl⟩
  obtain ⟨t, e2, pt, st⟩ := sortRows_ok (fun x y => ordRows_eq K (by omega) o x y) (ord_pre o) L h1 h2
  have f2 : tuple_Order.f K L o = some t := e2
  have hla : a.length = L.length := pa.length_eq
  refine ⟨K, ?_⟩
  unfold bitemporallaw08_TupleMultiset.f
  rw [e1 K (by omega), Option.bind_some, if_pos (by omega), same_eq a L pa h1 h2 K (by omega), Option.bind_some, if_pos rfl, f2, Option.bind_some, same_eq t L pt h1 h2 K (by omega), Option.bind_some]
  obtain ⟨K1, rfl⟩ : ∃ K1, K = K1 + 1 := ⟨K - 1, by omega⟩
  rw [bitemporallaw08_TupleMultiset.j0]
  rw [if_neg (by decide)]
  have := multi_loop BIG (by omega) L a h1 h2 pa sa x2 x3 (a.length - 1) 1 K1 rfl (Nat.le_refl _) (by omega)
  simpa using this
end Go.Proofs.YtkifafenmboefaaDoor.X
