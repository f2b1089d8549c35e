/- The law on charts of no periods and of the period itself. A plain law over the printed functions. -/
import Derived.Test.YthdgjobhofpjeaaDoorR2
import Derived.Test.YthdgjobhofpjeaaDoorX22
namespace Go.Proofs.YthdgjobhofpjeaaDoor.X
open Go Go.Proofs Go.RowKit Go.Proofs.YthdgjobhofpjeaaDoorW.PrintWords Go.Proofs.YthdgjobhofpjeaaDoorW.PrintLast Go.Proofs.YthdgjobhofpjeaaDoorW.PrintMore
set_option linter.unusedVariables false
set_option linter.unusedSimpArgs false
theorem part_bd (f n w : Int) (i : Nat) (hw : 0 < w) (hn : w ≤ n) (hi : (i : Int) < w) : f ≤ (partOf f n w i).f0 ∧ (partOf f n w i).f0 < (partOf f n w i).f1 ∧ (partOf f n w i).f1 ≤ f + n := by
  have a0 : 0 ≤ (i : Int) * n := Int.mul_nonneg (by omega) (by omega)
  have a1 : ((i : Int) + 1) * n = (i : Int) * n + n := by rw [Int.add_mul, Int.one_mul]
  have a2 : (i : Int) * n / w + 1 ≤ ((i : Int) + 1) * n / w := by
    rw [← Int.add_mul_ediv_right _ 1 (by omega), Int.one_mul]
    exact Int.ediv_le_ediv hw (by omega)
  have a3 : ((i : Int) + 1) * n / w ≤ n := by
    have h : ((i : Int) + 1) * n ≤ n * w := by
      rw [Int.mul_comm n w]
      exact Int.mul_le_mul_of_nonneg_right (by omega) (by omega)
    have h2 := Int.ediv_le_ediv hw h
    rwa [Int.mul_ediv_cancel _ (by omega)] at h2
  have a4 := Int.ediv_nonneg a0 (show (0 : Int) ≤ w by omega)
  refine ⟨?_, ?_, ?_⟩
  · show f ≤ f + (i : Int) * n / w
    omega
  · show f + (i : Int) * n / w < f + ((i : Int) + 1) * n / w
    omega
  · show f + ((i : Int) + 1) * n / w ≤ f + n
    omega
theorem part_valid (f t w : Int) (i : Nat) (hv : validP ⟨f, t⟩ = true) (hw : 0 < w) (hn : w ≤ t - f) (hi : (i : Int) < w) : validP (partOf f (t - f) w i) = true := by
  have hv2 := (validP_iff _).1 hv
  dsimp only at hv2
  obtain ⟨h1, h2, h3⟩ := part_bd f (t - f) w i hw hn hi
  exact (validP_iff _).2 ⟨by omega, h2, by omega⟩
theorem marks_nil (f t w : Int) (hv : validP ⟨f, t⟩ = true) (hw : 0 < w) (hn : w ≤ t - f) : marksOf [] f (t - f) w w.toNat = List.replicate w.toNat 46 := by
  unfold marksOf
  refine List.eq_replicate_iff.2 ⟨by simp, fun b hb => ?_⟩
  obtain ⟨i, hi, rfl⟩ := List.mem_map.1 hb
  have hi2 := List.mem_range.1 hi
  exact mark_none _ _ _ (part_valid f t w i hv hw hn (by omega)) (fun t _ _ h => cov_nil t h)
theorem marks_self (f t w : Int) (hv : validP ⟨f, t⟩ = true) (hw : 0 < w) (hn : w ≤ t - f) : marksOf [⟨f, t⟩] f (t - f) w w.toNat = List.replicate w.toNat 35 := by
  unfold marksOf
  refine List.eq_replicate_iff.2 ⟨by simp, fun b hb => ?_⟩
  obtain ⟨i, hi, rfl⟩ := List.mem_map.1 hb
  have hi2 := List.mem_range.1 hi
  obtain ⟨h1, h2, h3⟩ := part_bd f (t - f) w i hw hn (by omega)
  exact mark_all _ _ _ (part_valid f t w i hv hw hn (by omega)) (fun x hx1 hx2 => (cov_one f t x hv).2 ⟨Int.le_trans h1 hx1, by have := Int.lt_of_lt_of_le hx2 h3; omega⟩)
theorem bt_rep (n : Nat) (c d : UInt8) (i : Nat) (h : i ≤ n) : bt ⟨(List.replicate n c ++ [d]).toArray⟩ (i : Int) = if i < n then (c.toNat : Int) else (d.toNat : Int) := by
  have hl : i < (bs ⟨(List.replicate n c ++ [d]).toArray⟩).length := by rw [bs_mk]; simp; omega
  rw [bt_nat _ i hl]
  have e : (bs ⟨(List.replicate n c ++ [d]).toArray⟩)[i] = (List.replicate n c ++ [d])[i]'(by simp; omega) := by simp only [bs_mk]
  rw [e]
  by_cases hi : i < n
  · rw [if_pos hi, List.getElem_append_left (by simp; omega)]
    simp
  · rw [if_neg hi, List.getElem_append_right (by simp; omega)]
    simp
theorem empty_loop (n : Nat) (hn : n ≤ 200) (K : Nat) (hK : ∀ k, K ≤ k → bitemporallaw55_awake.f k = some true) : ∀ (d i : Nat), n - i = d → i ≤ n →
    Ev (fun k => bitemporallaw55_ReportEmpty.l0 k ⟨(List.replicate n (46 : UInt8) ++ [10]).toArray⟩ ⟨(List.replicate n (35 : UInt8) ++ [10]).toArray⟩ (n : Int) (n : Int) (i : Int)) true := by
  have s1 : (⟨(List.replicate n (46 : UInt8) ++ [10]).toArray⟩ : ByteArray).size = n + 1 := by rw [← bs_len, bs_mk]; simp
  have s2 : (⟨(List.replicate n (35 : UInt8) ++ [10]).toArray⟩ : ByteArray).size = n + 1 := by rw [← bs_len, bs_mk]; simp
  intro d
  induction d with
  | zero =>
    intro i hd hi
    obtain rfl : i = n := by omega
    refine ⟨K + 1, fun k hk => ?_⟩
    obtain ⟨j, rfl⟩ : ∃ j, k = j + 1 := ⟨k - 1, by omega⟩
    show bitemporallaw55_ReportEmpty.l0 (j + 1) _ _ _ _ _ = _
    simp only [bitemporallaw55_ReportEmpty.l0]
    have b1 : bt ⟨(List.replicate i (46 : UInt8) ++ [10]).toArray⟩ (i : Int) = 10 := by rw [bt_rep i 46 10 i (by omega), if_neg (by omega)]; rfl
    have b2 : bt ⟨(List.replicate i (35 : UInt8) ++ [10]).toArray⟩ (i : Int) = 10 := by rw [bt_rep i 35 10 i (by omega), if_neg (by omega)]; rfl
    rw [if_neg (by omega), if_pos (by omega), if_pos (by rw [s1]; omega), if_pos b1, if_pos (by rw [s2]; omega), if_pos b2, show bitemporallaw55_awake.f j = some true from hK j (by omega)]
    rfl
  | succ d ih =>
    intro i hd hi
    have hlt : i < n := by omega
    refine Ev.step (fun k => ?_) (ih (i + 1) (by omega) (by omega))
    simp only [bitemporallaw55_ReportEmpty.l0]
    have b1 : bt ⟨(List.replicate n (46 : UInt8) ++ [10]).toArray⟩ (i : Int) = 46 := by rw [bt_rep n 46 10 i (by omega), if_pos hlt]; rfl
    have b2 : bt ⟨(List.replicate n (35 : UInt8) ++ [10]).toArray⟩ (i : Int) = 35 := by rw [bt_rep n 35 10 i (by omega), if_pos hlt]; rfl
    rw [if_pos (by omega), if_pos (by omega), if_pos (by rw [s1]; omega), if_pos b1, if_pos (by rw [s2]; omega), if_pos b2, wrapN i n hlt (by omega)]
theorem ref01_Valid_eq (a b : Int) : bitemporalref01_Valid.f a b = some (validP ⟨a, b⟩) := period_Valid_eq a b
theorem pure_Empty (a0_0 a0_1 a1 : Int) (h0 : -9223372036854775808 ≤ a1) (h1 : a1 ≤ 9223372036854775807) : ∃ k, bitemporallaw55_ReportEmpty.f k a0_0 a0_1 a1 = some true := by
  obtain ⟨K, hK⟩ := awake_ev
  by_cases hc : validP ⟨a0_0, a0_1⟩ = true ∧ 1 ≤ a1 ∧ a1 ≤ 200
  · obtain ⟨hv, hw1, hw2⟩ := hc
    have hv2 := (validP_iff _).1 hv
    dsimp only at hv2
    have hw : wrap64 (a0_1 - a0_0) = a0_1 - a0_0 := by unfold wrap64; omega
    generalize hm : mn a1 (a0_1 - a0_0) = m
    have hm1 : 0 < m ∧ m ≤ a0_1 - a0_0 ∧ m ≤ 200 := by rw [← hm]; unfold mn; split <;> omega
    have hwm : wrap64 (m + 1) = m + 1 := by unfold wrap64; omega
    have c1 : report_Chart.f [] a0_0 a0_1 a1 = some ⟨(List.replicate m.toNat (46 : UInt8) ++ [10]).toArray⟩ := by
      unfold report_Chart.f chartS
      rw [if_pos ⟨hv, hw1, hw2⟩, if_pos (by decide), hm, marks_nil _ _ _ hv hm1.1 hm1.2.1]
    have c2 : report_Chart.f [⟨a0_0, a0_1⟩] a0_0 a0_1 a1 = some ⟨(List.replicate m.toNat (35 : UInt8) ++ [10]).toArray⟩ := by
      unfold report_Chart.f chartS
      rw [if_pos ⟨hv, hw1, hw2⟩, if_pos (by simp), hm, marks_self _ _ _ hv hm1.1 hm1.2.1]
    have s1 : (⟨(List.replicate m.toNat (46 : UInt8) ++ [10]).toArray⟩ : ByteArray).size = m.toNat + 1 := by rw [← bs_len, bs_mk]; simp
    have s2 : (⟨(List.replicate m.toNat (35 : UInt8) ++ [10]).toArray⟩ : ByteArray).size = m.toNat + 1 := by rw [← bs_len, bs_mk]; simp
    obtain ⟨K2, hK2⟩ := empty_loop m.toNat (by omega) K hK m.toNat 0 (by omega) (by omega)
    refine ⟨K2 + 1 + 1, ?_⟩
    have h9 := hK2 K2 (Nat.le_refl _)
    have em : ((m.toNat : Nat) : Int) = m := by omega
    simp only [em] at h9
    unfold bitemporallaw55_ReportEmpty.f
    rw [c1, Option.bind_some, c2, Option.bind_some, ref01_Valid_eq, Option.bind_some, if_pos hv, if_neg (by omega), decide_eq_false (by omega : ¬ a1 > 200)]
    simp only [bitemporallaw55_ReportEmpty.j0]
    rw [if_neg (by decide), hw, hm, hwm, if_pos (by rw [s1]; omega)]
    have e2 : (((⟨(List.replicate m.toNat (35 : UInt8) ++ [10]).toArray⟩ : ByteArray).size : Int) != m + 1) = false := by rw [s2]; simp; omega
    rw [e2]
    simp only [bitemporallaw55_ReportEmpty.j1]
    rw [if_neg (by decide)]
    exact h9
  · have c0 : ∀ l, report_Chart.f l a0_0 a0_1 a1 = some ⟨#[]⟩ := fun l => by unfold report_Chart.f; rw [if_neg hc]
    have hj : ∀ b, b = true → bitemporallaw55_ReportEmpty.j0 (K + 1) a1 ⟨#[]⟩ ⟨#[]⟩ b a0_0 a0_1 = some true := by
      rintro b rfl
      have ht : (⟨#[]⟩ : ByteArray).toList = [] := by rw [toList_bs]; rfl
      rw [bitemporallaw55_ReportEmpty.j0.eq_2, if_pos rfl, if_pos ht, if_pos ht, show bitemporallaw55_awake.f K = some true from hK K (Nat.le_refl _)]
      rfl
    refine ⟨K + 1, ?_⟩
    unfold bitemporallaw55_ReportEmpty.f
    rw [c0, Option.bind_some, c0, Option.bind_some, ref01_Valid_eq, Option.bind_some]
    by_cases hv : validP ⟨a0_0, a0_1⟩ = true
    · rw [if_pos hv]
      by_cases h2 : a1 < 1
      · rw [if_pos h2]; exact hj _ rfl
      · rw [if_neg h2]
        refine hj _ (decide_eq_true ?_)
        have : ¬ (1 ≤ a1 ∧ a1 ≤ 200) := fun h => hc ⟨hv, h⟩
        omega
    · rw [if_neg hv]; exact hj _ rfl
end Go.Proofs.YthdgjobhofpjeaaDoor.X
