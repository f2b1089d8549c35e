/- The examples of the chapter hold; and the laws on errors and on charts of nothing and of the whole. Plain laws over the printed functions. Conditions: those in each theorem. -/
import Derived.Test.YthdgjobhofpjeaaGreatDoorR1
import Derived.Test.YthdgjobhofpjeaaGreatDoorH2
import Derived.Test.YthdgjobhofpjeaaGreatDoorX31
import Derived.Test.YthdgjobhofpjeaaGreatDoorX13
namespace Go.Proofs.YthdgjobhofpjeaaGreatDoor.X
open Go Go.Proofs Go.RowKit Go.Proofs.YthdgjobhofpjeaaGreatDoorW.PrintWords Go.Proofs.YthdgjobhofpjeaaGreatDoorW.PrintLast Go.Proofs.YthdgjobhofpjeaaGreatDoorW.PrintMore
set_option linter.unusedVariables false
set_option linter.unusedSimpArgs false

theorem cov_one (a b t : Int) (h : validP ⟨a, b⟩ = true) : cov [⟨a, b⟩] t ↔ a ≤ t ∧ t < b := by
  unfold cov
  constructor
  · rintro ⟨p, hp, _, h1, h2⟩
    obtain rfl := List.mem_singleton.1 hp
    exact ⟨h1, h2⟩
  · intro h1
    exact ⟨_, List.mem_singleton.2 rfl, h, h1⟩
theorem cov_nil (t : Int) : ¬ cov [] t := by
  rintro ⟨p, hp, _⟩
  cases hp
theorem mark_none (l : List Per) (a b : Int) (hv : validP ⟨a, b⟩ = true) (h : ∀ t, a ≤ t → t < b → ¬ cov l t) : markOf l ⟨a, b⟩ = 46 := by
  unfold markOf
  rw [if_neg]
  rintro ⟨t, _, _, h1, h2⟩
  have h3 := (cov_one a b t hv).1 h2
  exact h t h3.1 h3.2 h1
theorem mark_all (l : List Per) (a b : Int) (hv : validP ⟨a, b⟩ = true) (h : ∀ t, a ≤ t → t < b → cov l t) : markOf l ⟨a, b⟩ = 35 := by
  have hv2 := (validP_iff _).1 hv
  dsimp only at hv2
  unfold markOf
  rw [if_pos ⟨a, by omega, by omega, h a (Int.le_refl _) hv2.2.1, (cov_one a b a hv).2 ⟨Int.le_refl _, hv2.2.1⟩⟩, if_pos]
  intro t _ _ h1
  have h3 := (cov_one a b t hv).1 h1
  exact h t h3.1 h3.2
theorem chart_awake : report_Chart.f [⟨2, 4⟩] 0 8 4 = some ⟨#[46, 35, 46, 46, 10]⟩ := by
  unfold report_Chart.f
  rw [if_pos (by decide), if_pos (by decide)]
  unfold chartS
  have e : mn 4 (8 - 0) = 4 := by decide
  rw [e]
  have hc : ∀ t, cov [⟨2, 4⟩] t ↔ 2 ≤ t ∧ t < 4 := fun t => cov_one 2 4 t (by decide)
  have m0 : markOf [⟨2, 4⟩] ⟨0, 2⟩ = 46 := mark_none _ _ _ (by decide) (fun t h1 h2 h3 => by have := (hc t).1 h3; omega)
  have m1 : markOf [⟨2, 4⟩] ⟨2, 4⟩ = 35 := mark_all _ _ _ (by decide) (fun t h1 h2 => (hc t).2 ⟨h1, h2⟩)
  have m2 : markOf [⟨2, 4⟩] ⟨4, 6⟩ = 46 := mark_none _ _ _ (by decide) (fun t h1 h2 h3 => by have := (hc t).1 h3; omega)
  have m3 : markOf [⟨2, 4⟩] ⟨6, 8⟩ = 46 := mark_none _ _ _ (by decide) (fun t h1 h2 h3 => by have := (hc t).1 h3; omega)
  have hm : marksOf [⟨2, 4⟩] 0 (8 - 0) 4 (4 : Int).toNat = [46, 35, 46, 46] := by
    show [markOf _ (partOf 0 (8 - 0) 4 0), markOf _ (partOf 0 (8 - 0) 4 1), markOf _ (partOf 0 (8 - 0) 4 2), markOf _ (partOf 0 (8 - 0) 4 3)] = _
    rw [show partOf 0 (8 - 0) 4 0 = ⟨0, 2⟩ from rfl, show partOf 0 (8 - 0) 4 1 = ⟨2, 4⟩ from rfl, show partOf 0 (8 - 0) 4 2 = ⟨4, 6⟩ from rfl, show partOf 0 (8 - 0) 4 3 = ⟨6, 8⟩ from rfl, m0, m1, m2, m3]
  rw [hm]
  rfl
theorem itoa_digit (n : Nat) (h : n < 10) : Lib.itoa (n : Int) = [UInt8.ofNat (48 + n)] := by
  unfold Lib.itoa
  rw [if_neg (by omega), Int.toNat_natCast, decDigits_small h]
def awR : List (List ByteArray) := [[⟨#[97]⟩, ⟨#[98]⟩, ⟨#[118, 97, 108, 105, 100]⟩], [⟨#[49]⟩, ⟨#[39, 120, 39]⟩, ⟨#[91, 51, 44, 32, 55, 41]⟩]]
def awC : List Col := [⟨⟨#[97]⟩, 0, false⟩, ⟨⟨#[98]⟩, 0, false⟩]
def awF : List Fct := [⟨[⟨1, 1, ⟨#[]⟩⟩, ⟨2, 0, ⟨#[120]⟩⟩], ⟨3, 7⟩⟩]
theorem awake_rows : rowsR awC awF = awR := by
  have i1 := itoa_digit 1 (by decide)
  have i3 := itoa_digit 3 (by decide)
  have i7 := itoa_digit 7 (by decide)
  have l1 : litS 1 1 ⟨#[]⟩ = [49] := by
    unfold litS
    rw [if_pos (by decide), if_pos rfl]
    exact i1
  have l2 : litS 2 0 ⟨#[120]⟩ = [39, 120, 39] := by decide +kernel
  have p37 : perS 3 7 = ⟨#[91, 51, 44, 32, 55, 41]⟩ := by
    unfold perS
    rw [if_pos (by decide), if_neg (by decide), show Lib.itoa 3 = _ from i3, show Lib.itoa 7 = _ from i7]
    rfl
  show [headS awC true, rowR 2 true ⟨[⟨1, 1, ⟨#[]⟩⟩, ⟨2, 0, ⟨#[120]⟩⟩], ⟨3, 7⟩⟩] = awR
  have hr : rowR 2 true ⟨[⟨1, 1, ⟨#[]⟩⟩, ⟨2, 0, ⟨#[120]⟩⟩], ⟨3, 7⟩⟩ = [litB ⟨1, 1, ⟨#[]⟩⟩, litB ⟨2, 0, ⟨#[120]⟩⟩, perS 3 7] := rfl
  rw [hr, p37, litB, litB]
  dsimp only
  rw [l1, l2]
  rfl
set_option maxRecDepth 100000 in
theorem awR_ok : tableOk awR := by decide +kernel
set_option maxRecDepth 100000 in
theorem awR_text : bs (tableS awR) = [97, 32, 124, 32, 98, 32, 32, 32, 124, 32, 118, 97, 108, 105, 100, 10, 45, 45, 43, 45, 45, 45, 45, 45, 43, 45, 45, 45, 45, 45, 45, 45, 10, 49, 32, 124, 32, 39, 120, 39, 32, 124, 32, 91, 51, 44, 32, 55, 41, 10] := by decide +kernel
theorem awake_count : bs (countS 1) = [49, 32, 114, 111, 119, 10] := by
  have i1 := itoa_digit 1 (by decide)
  unfold countS itoaB
  rw [show ((1 : Nat) : Int) = 1 from rfl, show Lib.itoa 1 = _ from i1]
  decide +kernel
theorem awake_ev : Ev (fun k => bitemporallaw55_awake.f k) true := by
  have hres := result_ev awC awF 1 0 (by decide) (by decide) (by decide) (by rw [awake_rows]; exact awR_ok) (by rw [awake_rows, ← bs_len, awR_text]; decide)
  obtain ⟨K, hK⟩ := hres
  refine ⟨K + 201, fun k hk => ?_⟩
  show bitemporallaw55_awake.f k = some true
  unfold bitemporallaw55_awake.f
  rw [int_eq' k (by omega), Option.bind_some, text_eq' k (by omega), Option.bind_some]
  have o1 : orN 1 1 e0 = (1, 1, ⟨#[]⟩) := by decide +kernel
  have o2 : orN 2 0 ⟨#[120]⟩ = (2, 0, ⟨#[120]⟩) := by decide +kernel
  have h1 : report_Result.f k awC awF 1 0 = some (resultS awC awF) := hK k (by omega)
  rw [o1, o2]
  show ((report_Result.f k awC awF 1 0).bind _) = _
  rw [h1, Option.bind_some, chart_awake]
  have ht : (resultS awC awF).toList = ([97, 32, 124, 32, 98, 32, 32, 32, 124, 32, 118, 97, 108, 105, 100, 10, 45, 45, 43, 45, 45, 45, 45, 45, 43, 45, 45, 45, 45, 45, 45, 45, 10, 49, 32, 124, 32, 39, 120, 39, 32, 124, 32, 91, 51, 44, 32, 55, 41, 10, 49, 32, 114, 111, 119, 10] : List UInt8) := by
    rw [toList_bs]
    unfold resultS
    rw [bs_append, awake_rows, awR_text, show awF.length = 1 from rfl, awake_count]
    rfl
  rw [if_pos ht, Option.bind_some, if_pos (by rw [toList_bs]; rfl)]
  have he : report_Error.f 11 = some ⟨#[110, 111, 116, 32, 102, 111, 117, 110, 100]⟩ := by decide +kernel
  rw [he, Option.bind_some, toList_bs]
  rfl
theorem part_bd (f n w : Int) (i : Nat) (hw : 0 < w) (hn : w ≤ n) (hi : (i : Int) < w) : f ≤ (partOf f n w i).f0 ∧ (partOf f n w i).f0 < (partOf f n w i).f1 ∧ (partOf f n w i).f1 ≤ f + n := by
  have a0 : 0 ≤ (i : Int) * n := Int.mul_nonneg (by omega) (by omega)
  have a1 : ((i : Int) + 1) * n = (i : Int) * n + n := by rw [Int.add_mul, Int.one_mul]
  have a2 : (i : Int) * n / w + 1 ≤ ((i : Int) + 1) * n / w := by
    rw [← Int.add_mul_ediv_right _ 1 (by omega), Int.one_mul]
    exact Int.ediv_le_ediv hw (by omega)
  have a3 : ((i : Int) + 1) * n / w ≤ n := by
    have h : ((i : Int) + 1) * n ≤ n * w := by
      rw [Int.mul_comm n w]
      exact Int.mul_le_mul_of_nonneg_right (by omega) (by omega)
    have h2 := Int.ediv_le_ediv hw h
    rwa [Int.mul_ediv_cancel _ (by omega)] at h2
  have a4 := Int.ediv_nonneg a0 (show (0 : Int) ≤ w by omega)
  refine ⟨?_, ?_, ?_⟩
  · show f ≤ f + (i : Int) * n / w
    omega
  · show f + (i : Int) * n / w < f + ((i : Int) + 1) * n / w
    omega
  · show f + ((i : Int) + 1) * n / w ≤ f + n
    omega
theorem part_valid (f t w : Int) (i : Nat) (hv : validP ⟨f, t⟩ = true) (hw : 0 < w) (hn : w ≤ t - f) (hi : (i : Int) < w) : validP (partOf f (t - f) w i) = true := by
  have hv2 := (validP_iff _).1 hv
  dsimp only at hv2
  obtain ⟨h1, h2, h3⟩ := part_bd f (t - f) w i hw hn hi
  exact (validP_iff _).2 ⟨by omega, h2, by omega⟩
theorem ref01_Valid_eq (a b : Int) : bitemporalref01_Valid.f a b = some (validP ⟨a, b⟩) := period_Valid_eq a b
end Go.Proofs.YthdgjobhofpjeaaGreatDoor.X
