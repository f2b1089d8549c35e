/- The plain law of TupleFits: it answers true. Conditions: the row's length, as any slice's. -/
import Derived.Test.YtkifafenmboefaaDoorPA
import Derived.Test.YtkifafenmboefaaDoorX27
namespace Go.Proofs.YtkifafenmboefaaDoor.X
open Go.RowKit Go.Proofs.YtkifafenmboefaaDoorW.PrintWords Go.Proofs.YtkifafenmboefaaDoorW.PrintLast Go.Proofs.YtkifafenmboefaaDoorW.PrintMore
def fitS : List S33 → List Int → Bool
  | x :: xs, y :: ys => vl x.f0 x.f1 x.f2 && ((x.f0 == y || x.f0 == 0) && fitS xs ys)
  | _, _ => true
theorem fits_loop (a : List S33) (l : List Int) (hl : a.length = l.length) (ha : a.length ≤ 9223372036854775807) : ∀ (n i k : Nat), i + n = a.length → n + 202 ≤ k → tuple_Fits.l0 k l a (a.length : Int) (i : Int) = some (fitS (a.drop i) (l.drop i))
  | n, i, 0, _, hk => by omega
  | 0, i, k + 1, hn, hk => by
    unfold tuple_Fits.l0
    rw [if_neg (by omega), List.drop_eq_nil_of_le (by omega)]
    rfl
  | n + 1, i, k + 1, hn, hk => by
    unfold tuple_Fits.l0
    have h0 : i < a.length := by omega
    have h1 : i < l.length := by omega
    have e0 : rd_T33 a i = a[i] := by simp [rd_T33, h0]
    have e1 : rd l i = l[i] := by simp [rd, h1]
    rw [if_pos (by omega), if_pos (by omega), if_pos (by omega), valid_eq k (by omega), Option.bind_some, e0, e1, List.drop_eq_getElem_cons h0, List.drop_eq_getElem_cons h1, w64 (by omega) (by omega), show ((i : Int) + 1) = ((i + 1 : Nat) : Int) by omega, fits_loop a l hl ha n (i + 1) k (by omega) (by omega)]
    rw [show fitS (a[i] :: a.drop (i + 1)) (l[i] :: l.drop (i + 1)) = (vl a[i].f0 a[i].f1 a[i].f2 && ((a[i].f0 == l[i] || a[i].f0 == 0) && fitS (a.drop (i + 1)) (l.drop (i + 1)))) from rfl]
    generalize fitS (a.drop (i + 1)) (l.drop (i + 1)) = z
    cases hv : vl a[i].f0 a[i].f1 a[i].f2 with
    | false => rfl
    | true =>
      rw [if_pos rfl, if_pos (by omega)]
      by_cases hx : a[i].f0 = l[i]
      · rw [if_pos hx]; simp [hx]
      · rw [if_neg hx]
        by_cases hz : a[i].f0 = 0
        · rw [if_pos hz]; simp [hz]
        · rw [if_neg hz]; simp [hx, hz]
theorem fits_loop' (a : List S33) (l : List Int) (hl : a.length = l.length) (ha : a.length ≤ 9223372036854775807) : ∀ (n i k : Nat), i + n = a.length → n + 202 ≤ k → bitemporalref08_Fits.l0 k a l (i : Int) = some (fitS (a.drop i) (l.drop i))
  | n, i, 0, _, hk => by omega
  | 0, i, k + 1, hn, hk => by
    unfold bitemporalref08_Fits.l0
    rw [if_neg (by omega), List.drop_eq_nil_of_le (by omega)]
    rfl
  | n + 1, i, k + 1, hn, hk => by
    unfold bitemporalref08_Fits.l0
    have h0 : i < a.length := by omega
    have h1 : i < l.length := by omega
    have e0 : rd_T33 a i = a[i] := by simp [rd_T33, h0]
    have e1 : rd l i = l[i] := by simp [rd, h1]
    rw [if_pos (by omega), if_pos (by omega), valid_eq' k (by omega), Option.bind_some, e0, e1, List.drop_eq_getElem_cons h0, List.drop_eq_getElem_cons h1, w64 (by omega) (by omega), show ((i : Int) + 1) = ((i + 1 : Nat) : Int) by omega, fits_loop' a l hl ha n (i + 1) k (by omega) (by omega)]
    rw [show fitS (a[i] :: a.drop (i + 1)) (l[i] :: l.drop (i + 1)) = (vl a[i].f0 a[i].f1 a[i].f2 && ((a[i].f0 == l[i] || a[i].f0 == 0) && fitS (a.drop (i + 1)) (l.drop (i + 1)))) from rfl]
    generalize fitS (a.drop (i + 1)) (l.drop (i + 1)) = z
    cases hv : vl a[i].f0 a[i].f1 a[i].f2 with
    | false => rfl
    | true =>
      rw [if_pos rfl]
      by_cases hz : a[i].f0 = 0
      · rw [if_pos hz]; simp [hz]
      · rw [if_neg hz, if_pos (by omega)]
        by_cases hx : a[i].f0 = l[i]
        · rw [if_pos hx]; simp [hx]
        · rw [if_neg hx]; simp [hx, hz]
theorem pure_Fits (a : List S33) (l : List Int) (ha : a.length ≤ 9223372036854775807) : bitemporallaw08_TupleFits.f (a.length + 402) a l = some true := by
  have h : tuple_Fits.f (a.length + 402) a l = bitemporalref08_Fits.f (a.length + 402) a l ∧ ∃ r, bitemporalref08_Fits.f (a.length + 402) a l = some r := by
    unfold tuple_Fits.f bitemporalref08_Fits.f
    by_cases hl : (a.length : Int) = (l.length : Int)
    · rw [if_pos hl, if_pos hl]
      have h1 := fits_loop a l (by omega) ha a.length 0 (a.length + 402) (by omega) (by omega)
      have h2 := fits_loop' a l (by omega) ha a.length 0 (a.length + 402) (by omega) (by omega)
      exact ⟨h1.trans h2.symm, _, h2⟩
    · rw [if_neg hl, if_neg hl]
      exact ⟨rfl, _, rfl⟩
  obtain ⟨h1, r, h2⟩ := h
  unfold bitemporallaw08_TupleFits.f
  rw [h1, h2, Option.bind_some, Option.bind_some, if_pos (by simp), awake_eq _ (by omega)]
  rfl
end Go.Proofs.YtkifafenmboefaaDoor.X
