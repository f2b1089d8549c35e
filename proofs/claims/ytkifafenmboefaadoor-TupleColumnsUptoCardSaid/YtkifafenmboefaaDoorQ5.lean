/- The plain law of TupleColumns: it answers true. Conditions: both rows together of length at most 2^21. -/
import Derived.Test.YtkifafenmboefaaDoorPA
import Derived.Test.YtkifafenmboefaaDoorX29
namespace Go.Proofs.YtkifafenmboefaaDoor.X
open Go.RowKit Go.Proofs.YtkifafenmboefaaDoorW.PrintWords Go.Proofs.YtkifafenmboefaaDoorW.PrintLast Go.Proofs.YtkifafenmboefaaDoorW.PrintMore
theorem concat_eq (a b : List S33) (h : a.length + b.length ≤ 1099511627776) (k : Nat) (hk : 10 ≤ k) : tuple_Concat.f k a b = some (a ++ b) := by
  obtain ⟨m, rfl⟩ : ∃ m, k = m + 10 := ⟨k - 10, by omega⟩
  unfold tuple_Concat.f api_Value_48.f
  have e0 : rd_L3 [a, b] 0 = a := rfl
  have e1 : rd_L3 [a, b] 1 = b := rfl
  have el : (([a, b] : List (List S33)).length : Int) = 2 := rfl
  have s1 : wrap64 (0 + 1) = 1 := w64 (by omega) (by omega)
  have s2 : wrap64 (1 + 1) = 2 := w64 (by omega) (by omega)
  rw [el, api_Value_48.l0, if_pos (by decide), if_pos (by decide), if_pos (by rw [el]; decide), e0, s1]
  have w1 : wrap64 (0 + (a.length : Int)) = (a.length : Int) := by rw [w64 (by omega) (by omega)]; omega
  rw [w1, if_neg (by omega), api_Value_48.l0, if_pos (by decide), if_pos (by decide), if_pos (by rw [el]; decide), e1, s2]
  have w2 : wrap64 ((a.length : Int) + (b.length : Int)) = ((a.length + b.length : Nat) : Int) := by rw [w64 (by omega) (by omega)]; omega
  rw [w2, if_neg (by omega), api_Value_48.l0, if_neg (by decide)]
  unfold api_Value_69.f
  rw [if_pos (by omega), if_pos (by omega), Option.bind_some, el]
  rw [api_Value_48.l1, if_pos (by decide), if_pos (by decide), if_pos (by rw [el]; decide), e0, if_pos (by simp; omega), s1, List.nil_append]
  rw [api_Value_48.l1, if_pos (by decide), if_pos (by decide), if_pos (by rw [el]; decide), e1, if_pos (by omega), s2]
  rw [api_Value_48.l1, if_neg (by decide)]
  rfl
theorem cv_self (x : S33) : cv x x = 0 := (cmpV_zero _ _ _ _ _ _).2 ⟨rfl, rfl, rfl⟩
theorem cmpR_self : ∀ a : List S33, cmpR a a = 0
  | [] => rfl
  | x :: a => by unfold cmpR; rw [if_pos (cv_self x)]; exact cmpR_self a
theorem pick_fst (a b : List S33) : ((List.range a.length).map fun i : Nat => (i : Int)).map (atS (a ++ b)) = a := by
  rw [List.map_map]
  apply List.ext_getElem
  · simp
  · intro i h1 h2
    have h3 : i < a.length := h2
    simp only [List.getElem_map, List.getElem_range, Function.comp]
    unfold atS
    rw [if_neg (by simp; omega)]
    simp [rd_T33, List.getElem?_append_left, h3]
theorem pick_snd (a b : List S33) : ((List.range b.length).map fun i : Nat => ((a.length + i : Nat) : Int)).map (atS (a ++ b)) = b := by
  rw [List.map_map]
  apply List.ext_getElem
  · simp
  · intro i h1 h2
    have h3 : i < b.length := h2
    simp only [List.getElem_map, List.getElem_range, Function.comp]
    unfold atS
    rw [if_neg (by simp; omega)]
    have e5 : (((a.length + i : Nat) : Int)).toNat = a.length + i := by omega
    unfold rd_T33
    rw [e5]
    simp [h3]
theorem cols_loop (a b : List S33) (h : a.length + b.length ≤ 2097152) : ∀ (n i k : Nat), i + n = a.length + b.length → n + (a.length + b.length) + 403 ≤ k →
    bitemporallaw08_TupleColumns.l0 k a b (a ++ b) ((List.range (min i a.length)).map fun j : Nat => (j : Int)) ((List.range (i - a.length)).map fun j : Nat => ((a.length + j : Nat) : Int)) ((a.length + b.length : Nat) : Int) (i : Int) = some true
  | n, i, 0, _, hk => by omega
  | 0, i, k + 1, hn, hk => by
    unfold bitemporallaw08_TupleColumns.l0
    rw [if_neg (by omega), if_pos (by rw [w64 (by omega) (by omega), List.length_append]; omega), show min i a.length = a.length by omega, show i - a.length = b.length by omega]
    rw [pick_eq _ _ (by simp; omega) k (by simp; omega), Option.bind_some, pick_fst, tequal_eq k (by omega), Option.bind_some, cmpR_self, if_pos (by decide)]
    rw [pick_eq _ _ (by simp; omega) k (by simp; omega), Option.bind_some, pick_snd, tequal_eq k (by omega), Option.bind_some, cmpR_self, if_pos (by decide), awake_eq k (by omega)]
    rfl
  | n + 1, i, k + 1, hn, hk => by
    unfold bitemporallaw08_TupleColumns.l0
    rw [if_pos (by omega)]
    by_cases hi : i < a.length
    · rw [if_pos (by omega), if_pos (by simp; omega), w64 (by omega) (by omega), show ((i : Int) + 1) = ((i + 1 : Nat) : Int) by omega]
      have e := cols_loop a b h n (i + 1) k (by omega) (by omega)
      rw [show min (i + 1) a.length = min i a.length + 1 by omega, List.range_succ, List.map_append, show min i a.length = i by omega, show i + 1 - a.length = i - a.length by omega] at e
      rw [show min i a.length = i by omega]
      exact e
    · rw [if_neg (by omega), if_pos (by simp; omega), w64 (by omega) (by omega), show ((i : Int) + 1) = ((i + 1 : Nat) : Int) by omega]
      have e := cols_loop a b h n (i + 1) k (by omega) (by omega)
      rw [show i + 1 - a.length = (i - a.length) + 1 by omega, List.range_succ (n := i - a.length), List.map_append, show min (i + 1) a.length = min i a.length by omega] at e
      have e4 : (List.map (fun j : Nat => ((a.length + j : Nat) : Int)) [i - a.length]) = [(i : Int)] := by simp; omega
      rw [e4] at e
      exact e
theorem pure_Columns (a b : List S33) (h : a.length + b.length ≤ 2097152) : bitemporallaw08_TupleColumns.f 9000000 a b = some true := by
  unfold bitemporallaw08_TupleColumns.f
  rw [concat_eq a b (by omega) _ (by omega), Option.bind_some, List.length_append]
  have e := cols_loop a b h (a.length + b.length) 0 9000000 (by omega) (by omega)
  simpa using e
end Go.Proofs.YtkifafenmboefaaDoor.X
