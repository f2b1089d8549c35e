/- Walks of Go functions of this seat, printed by a program of mine (wip/tools/xprint.py) over the kit's printer: each function as a plain Lean function, and the proof that the call comes to what it says. No conditions but those in each theorem. -/
import Derived.Test.YthdgjobhofpjeaaGreatDoorX0
import Derived.Test.YthdgjobhofpjeaaGreatDoorX2
import Derived.Test.YthdgjobhofpjeaaGreatDoorX8
import Derived.Test.YthdgjobhofpjeaaGreatDoorX13
namespace Go.Proofs.YthdgjobhofpjeaaGreatDoor.X
open Go.RowKit Go.Proofs.YthdgjobhofpjeaaGreatDoorW.PrintWords Go.Proofs.YthdgjobhofpjeaaGreatDoorW.PrintLast Go.Proofs.YthdgjobhofpjeaaGreatDoorW.PrintMore
attribute [local go_sem] max2_int min2_int max_two min_two max_three min_three max_four min_four   -- for this text's walks alone
set_option linter.unusedVariables false
set_option linter.unusedSimpArgs false

attribute [local go_sem high] eqA54
/-! ### bitemporallaw55_tame: function 9 -/
def bitemporallaw55_tame.l0 : Nat → List Int → Int → Int → Option (Bool)
  | 0, _, _, _ => none
  | k + 1, x0, x5, x6 => if x6 < x5 then (if 0 ≤ x6 then (if x6 < (x0.length : Int) then (if (rd x0 x6) < (-1152921504606846976) then (some false) else (if (rd x0 x6) > 1152921504606846976 then (some false) else (bitemporallaw55_tame.l0 k x0 x5 (wrap64 (x6 + 1))))) else (none)) else (none)) else (some true)
def bitemporallaw55_tame.f (k : Nat) (l0 : List Int) : Option (Bool) := bitemporallaw55_tame.l0 k l0 (l0.length : Int) 0
theorem bitemporallaw55_tame.mono_l : ∀ k, (∀ y0 y1 y2, LeO (bitemporallaw55_tame.l0 k y0 y1 y2) (bitemporallaw55_tame.l0 (k + 1) y0 y1 y2))
  | 0 => fun _ _ _ r h => by simp [bitemporallaw55_tame.l0] at h
  | k + 1 => by
    have ih0 := bitemporallaw55_tame.mono_l k
    · intro y0 y1 y2
      unfold bitemporallaw55_tame.l0
      repeat' first
      | (with_reducible exact ih0 _ _ _)
      | (with_reducible exact LeO.refl _)
      | (with_reducible exact LeO.none _)
      | (with_reducible refine LeO.ite ?_ ?_)
      | (with_reducible refine LeO.bind ?_ (fun _ => ?_))
      | exact ih0 _ _ _
      | exact LeO.none _
      | refine LeO.ite ?_ ?_
      | refine LeO.bind ?_ (fun _ => ?_)
theorem bitemporallaw55_tame.mono : ∀ a0 k, LeO (bitemporallaw55_tame.f k a0) (bitemporallaw55_tame.f (k + 1) a0) := by
  intro a0 k
  have ih0 := bitemporallaw55_tame.mono_l k
  unfold bitemporallaw55_tame.f
  repeat' first
      | (with_reducible exact ih0 _ _ _)
      | (with_reducible exact LeO.refl _)
      | (with_reducible exact LeO.none _)
      | (with_reducible refine LeO.ite ?_ ?_)
      | (with_reducible refine LeO.bind ?_ (fun _ => ?_))
      | exact ih0 _ _ _
      | exact LeO.none _
      | refine LeO.ite ?_ ?_
      | refine LeO.bind ?_ (fun _ => ?_)
set_option maxHeartbeats 8000000 in
set_option maxRecDepth 100000 in
theorem bitemporallaw55_tame.calls (k : Nat) (A0 : Option Addr) (c0 : Nat) (l0 : List Int) (r : Bool) (w : World) (hr0 : Kd.C (Kd.int .i64) w A0 l0.length l0) (hc0 : l0.length ≤ c0) (h : bitemporallaw55_tame.f k l0 = some r) (hG : GW w) :
  Calls Tryz.prog 9 #[.slice A0 l0.length c0] w fun e w' => e = .returned (.bool r) ∧ Drawn0 w w' := by
 have HG := zM hG
 clear hG
 have HR0 := zM hr0
 have HC0 := zM hc0
 clear hr0 hc0
 have H : (bitemporallaw55_tame.l0 k l0 (l0.length : Int) 0) = some r := h
 clear h
 have H' := zM H
 clear H
 go_enter Tryz.func9, Tryz.ntmps9
 go_wp2
 go_loopg [6] k (fun kq v6 w' => ∃ (x6_1 : Int), v6 = .int .i64 x6_1 ∧ Aside0 (bitemporallaw55_tame.l0 kq l0 (l0.length : Int) x6_1 = some r) ∧ Aside0 (kq ≤ k) ∧ Drawn0 w w')
 case atStart => exact ⟨(0), (by first | rfl | (simp; done) | (simp [*]; done)), H', ⟨Nat.le_refl _⟩, by repeat (first | exact Drawn0.refl _ | apply Drawn0.step)⟩
 case round =>
  clear H'
  obtain ⟨x6_1, rfl, HA, HK1, ⟨m1, rfl⟩⟩ := hrel
  cases gk with
  | zero => exact absurd HA.out (by simp [bitemporallaw55_tame.l0])
  | succ k1 =>
   have H := HA.out
   clear HA
   simp only [bitemporallaw55_tame.l0] at H
   by_cases c2 : x6_1 < (l0.length : Int)
   ·rw [if_pos c2] at H
    have c2b0 : decide (x6_1 < (l0.length : Int)) = true := decide_eq_true c2
    clear c2
    by_cases c3 : 0 ≤ x6_1
    case neg =>
     rw [if_neg c3] at H
     exact absurd H (by simp)
    rw [if_pos c3] at H
    have c3b0 : decide (0 ≤ x6_1) = true := decide_eq_true c3
    clear c3
    by_cases c4 : x6_1 < (l0.length : Int)
    case neg =>
     rw [if_neg c4] at H
     exact absurd H (by simp)
    rw [if_pos c4] at H
    have c4b0 : decide (x6_1 < (l0.length : Int)) = true := decide_eq_true c4
    clear c4
    by_cases c5 : (rd l0 x6_1) < (-1152921504606846976)
    ·rw [if_pos c5] at H
     have c5b0 : decide ((rd l0 x6_1) < (-1152921504606846976)) = true := decide_eq_true c5
     clear c5
     obtain rfl := Option.some.inj H
     have p104 : 0 ≤ (x6_1 : Int) := of_decide_eq_true (by first | (with_reducible assumption) | assumption)
     have q104 : x6_1 < (l0.length : Int) := of_decide_eq_true (by first | (with_reducible assumption) | assumption)
     obtain ⟨ad104, e104, hx104_0⟩ := Kd.at_int HR0.out x6_1 p104 q104
     cases e104
     replace p104 := eq_true p104
     replace q104 := eq_true q104
     go_wp2
     go_ret
     exact ⟨by first | rfl | (simp; done) | (simp [*]; done), by repeat (first | exact Drawn0.refl _ | apply Drawn0.step)⟩
    ·rw [if_neg c5] at H
     have c5b0 : decide ((rd l0 x6_1) < (-1152921504606846976)) = false := decide_eq_false c5
     clear c5
     by_cases c6 : (rd l0 x6_1) > 1152921504606846976
     ·rw [if_pos c6] at H
      have c6b0 : decide (1152921504606846976 < (rd l0 x6_1)) = true := decide_eq_true c6
      clear c6
      obtain rfl := Option.some.inj H
      have p104 : 0 ≤ (x6_1 : Int) := of_decide_eq_true (by first | (with_reducible assumption) | assumption)
      have q104 : x6_1 < (l0.length : Int) := of_decide_eq_true (by first | (with_reducible assumption) | assumption)
      obtain ⟨ad104, e104, hx104_0⟩ := Kd.at_int HR0.out x6_1 p104 q104
      cases e104
      replace p104 := eq_true p104
      replace q104 := eq_true q104
      have p105 : 0 ≤ (x6_1 : Int) := of_decide_eq_true (by first | (with_reducible assumption) | assumption)
      have q105 : x6_1 < (l0.length : Int) := of_decide_eq_true (by first | (with_reducible assumption) | assumption)
      obtain ⟨ad105, e105, hx105_0⟩ := Kd.at_int HR0.out x6_1 p105 q105
      obtain rfl : ad104 = ad105 := (by injection e105)
      replace p105 := eq_true p105
      replace q105 := eq_true q105
      go_wp2
      go_ret
      exact ⟨by first | rfl | (simp; done) | (simp [*]; done), by repeat (first | exact Drawn0.refl _ | apply Drawn0.step)⟩
     ·rw [if_neg c6] at H
      have c6b0 : decide (1152921504606846976 < (rd l0 x6_1)) = false := decide_eq_false c6
      clear c6
      have H' := zM H
      clear H
      have p104 : 0 ≤ (x6_1 : Int) := of_decide_eq_true (by first | (with_reducible assumption) | assumption)
      have q104 : x6_1 < (l0.length : Int) := of_decide_eq_true (by first | (with_reducible assumption) | assumption)
      obtain ⟨ad104, e104, hx104_0⟩ := Kd.at_int HR0.out x6_1 p104 q104
      cases e104
      replace p104 := eq_true p104
      replace q104 := eq_true q104
      have p105 : 0 ≤ (x6_1 : Int) := of_decide_eq_true (by first | (with_reducible assumption) | assumption)
      have q105 : x6_1 < (l0.length : Int) := of_decide_eq_true (by first | (with_reducible assumption) | assumption)
      obtain ⟨ad105, e105, hx105_0⟩ := Kd.at_int HR0.out x6_1 p105 q105
      obtain rfl : ad104 = ad105 := (by injection e105)
      replace p105 := eq_true p105
      replace q105 := eq_true q105
      go_wp2
      go_roundg k1
      case measure => have := HK1.out; omega
      case rel => exact ⟨(wrap64 (x6_1 + 1)), (by first | rfl | (simp; done) | (simp [*]; done)), H', ⟨by have := HK1.out; omega⟩, by repeat (first | exact Drawn0.refl _ | apply Drawn0.step)⟩
   ·rw [if_neg c2] at H
    have c2b0 : decide (x6_1 < (l0.length : Int)) = false := decide_eq_false c2
    clear c2
    obtain rfl := Option.some.inj H
    go_wp2
    go_ret
    exact ⟨by first | rfl | (simp; done) | (simp [*]; done), by repeat (first | exact Drawn0.refl _ | apply Drawn0.step)⟩

/-! ### bitemporalref01_Number: function 58 -/
def bitemporalref01_Number.l0 : Nat → Int → ByteArray → Option (ByteArray)
  | 0, _, _ => none
  | k + 1, x0, x3 => if x0 > 9 then (if 0 ≤ (Int.tmod x0 10) then (if (Int.tmod x0 10) ≤ (wrap64 ((Int.tmod x0 10) + 1)) then (if (wrap64 ((Int.tmod x0 10) + 1)) ≤ 10 then (if ((⟨#[48, 49, 50, 51, 52, 53, 54, 55, 56, 57]⟩ : ByteArray).extract ((Int.tmod x0 10) : Int).toNat ((wrap64 ((Int.tmod x0 10) + 1)) : Int).toNat).size + x3.size ≤ 9223372036854775807 then (bitemporalref01_Number.l0 k (wrap64 (Int.tdiv x0 10)) (((⟨#[48, 49, 50, 51, 52, 53, 54, 55, 56, 57]⟩ : ByteArray).extract ((Int.tmod x0 10) : Int).toNat ((wrap64 ((Int.tmod x0 10) + 1)) : Int).toNat) ++ x3)) else (none)) else (none)) else (none)) else (none)) else (if 0 ≤ x0 then (if x0 ≤ (wrap64 (x0 + 1)) then (if (wrap64 (x0 + 1)) ≤ 10 then (if ((⟨#[48, 49, 50, 51, 52, 53, 54, 55, 56, 57]⟩ : ByteArray).extract (x0 : Int).toNat ((wrap64 (x0 + 1)) : Int).toNat).size + x3.size ≤ 9223372036854775807 then (some (((⟨#[48, 49, 50, 51, 52, 53, 54, 55, 56, 57]⟩ : ByteArray).extract (x0 : Int).toNat ((wrap64 (x0 + 1)) : Int).toNat) ++ x3)) else (none)) else (none)) else (none)) else (none))
def bitemporalref01_Number.f (k : Nat) (a0 : Int) : Option (ByteArray) := bitemporalref01_Number.l0 k a0 (⟨#[]⟩ : ByteArray)
theorem bitemporalref01_Number.mono_l : ∀ k, (∀ y0 y1, LeO (bitemporalref01_Number.l0 k y0 y1) (bitemporalref01_Number.l0 (k + 1) y0 y1))
  | 0 => fun _ _ r h => by simp [bitemporalref01_Number.l0] at h
  | k + 1 => by
    have ih0 := bitemporalref01_Number.mono_l k
    · intro y0 y1
      unfold bitemporalref01_Number.l0
      repeat' first
      | (with_reducible exact ih0 _ _)
      | (with_reducible exact LeO.refl _)
      | (with_reducible exact LeO.none _)
      | (with_reducible refine LeO.ite ?_ ?_)
      | (with_reducible refine LeO.bind ?_ (fun _ => ?_))
      | exact ih0 _ _
      | exact LeO.none _
      | refine LeO.ite ?_ ?_
      | refine LeO.bind ?_ (fun _ => ?_)
theorem bitemporalref01_Number.mono : ∀ a0 k, LeO (bitemporalref01_Number.f k a0) (bitemporalref01_Number.f (k + 1) a0) := by
  intro a0 k
  have ih0 := bitemporalref01_Number.mono_l k
  unfold bitemporalref01_Number.f
  repeat' first
      | (with_reducible exact ih0 _ _)
      | (with_reducible exact LeO.refl _)
      | (with_reducible exact LeO.none _)
      | (with_reducible refine LeO.ite ?_ ?_)
      | (with_reducible refine LeO.bind ?_ (fun _ => ?_))
      | exact ih0 _ _
      | exact LeO.none _
      | refine LeO.ite ?_ ?_
      | refine LeO.bind ?_ (fun _ => ?_)
set_option maxHeartbeats 8000000 in
set_option maxRecDepth 100000 in
theorem bitemporalref01_Number.calls (k : Nat) (a0 : Int) (r : ByteArray) (w : World) (h : bitemporalref01_Number.f k a0 = some r) (hG : GW w) :
  Calls Tryz.prog 58 #[.int .i64 a0] w fun e w' => e = .returned (.string r) ∧ Drawn0 w w' := by
 have HG := zM hG
 clear hG
 have H : (bitemporalref01_Number.l0 k a0 (⟨#[]⟩ : ByteArray)) = some r := h
 clear h
 have H' := zM H
 clear H
 go_enter Tryz.func58, Tryz.ntmps58
 go_wp2
 go_loopg [0, 3] k (fun kq v0 v3 w' => ∃ (x0_1 : Int) (x3_1 : ByteArray), v0 = .int .i64 x0_1 ∧ v3 = .string x3_1 ∧ Aside0 (bitemporalref01_Number.l0 kq x0_1 x3_1 = some r) ∧ Aside0 (kq ≤ k) ∧ Drawn0 w w')
 case atStart => exact ⟨(a0), ((⟨#[]⟩ : ByteArray)), (by first | rfl | (simp; done) | (simp [*]; done)), (by first | rfl | (simp; done) | (simp [*]; done)), H', ⟨Nat.le_refl _⟩, by repeat (first | exact Drawn0.refl _ | apply Drawn0.step)⟩
 case round =>
  clear H'
  obtain ⟨x0_1, x3_1, rfl, rfl, HA, HK1, ⟨m1, rfl⟩⟩ := hrel
  cases gk with
  | zero => exact absurd HA.out (by simp [bitemporalref01_Number.l0])
  | succ k1 =>
   have H := HA.out
   clear HA
   simp only [bitemporalref01_Number.l0] at H
   by_cases c2 : x0_1 > 9
   ·rw [if_pos c2] at H
    have c2b0 : decide (9 < x0_1) = true := decide_eq_true c2
    clear c2
    obtain ⟨ji3, hji3⟩ : ∃ j_ : Int, (Int.tmod x0_1 10) = j_ := ⟨_, rfl⟩
    replace H : (if 0 ≤ (ji3) then (if (ji3) ≤ (wrap64 ((ji3) + 1)) then (if (wrap64 ((ji3) + 1)) ≤ 10 then (if ((⟨#[48, 49, 50, 51, 52, 53, 54, 55, 56, 57]⟩ : ByteArray).extract ((ji3) : Int).toNat ((wrap64 ((ji3) + 1)) : Int).toNat).size + x3_1.size ≤ 9223372036854775807 then (bitemporalref01_Number.l0 k1 (wrap64 (Int.tdiv x0_1 10)) (((⟨#[48, 49, 50, 51, 52, 53, 54, 55, 56, 57]⟩ : ByteArray).extract ((ji3) : Int).toNat ((wrap64 ((ji3) + 1)) : Int).toNat) ++ x3_1)) else (none)) else (none)) else (none)) else (none)) = some r := by first | (rw [hji3] at H; exact H) | (simp only [hji3] at H ⊢; exact H)
    by_cases c4 : 0 ≤ (ji3)
    case neg =>
     rw [if_neg c4] at H
     exact absurd H (by simp)
    rw [if_pos c4] at H
    have c4b0 := eq_true c4
    have c4b1 := decide_eq_true c4
    clear c4
    by_cases c5 : (ji3) ≤ (wrap64 ((ji3) + 1))
    case neg =>
     rw [if_neg c5] at H
     exact absurd H (by simp)
    rw [if_pos c5] at H
    have c5b0 := eq_true c5
    have c5b1 := decide_eq_true c5
    by_cases c6 : (wrap64 ((ji3) + 1)) ≤ 10
    case neg =>
     rw [if_neg c6] at H
     exact absurd H (by simp)
    rw [if_pos c6] at H
    have c6b0 := eq_true c6
    have c6b1 := decide_eq_true c6
    by_cases c7 : ((⟨#[48, 49, 50, 51, 52, 53, 54, 55, 56, 57]⟩ : ByteArray).extract ((ji3) : Int).toNat ((wrap64 ((ji3) + 1)) : Int).toNat).size + x3_1.size ≤ 9223372036854775807
    case neg =>
     rw [if_neg c7] at H
     exact absurd H (by simp)
    rw [if_pos c7] at H
    have c7b0 := eq_true c7
    have c7b1 := decide_eq_true c7
    try have c7b2 := eq_false (Nat.not_lt.2 c7)
    try (have c7b3 := c7b2; simp only [ByteArray.size_append, size_lit, List.size_toArray, List.length_cons, List.length_nil, Nat.zero_add] at c7b3)
    have H' := zM H
    clear H
    go_wp2
    go_roundg k1
    case measure => have := HK1.out; omega
    case rel => exact ⟨(wrap64 (Int.tdiv x0_1 10)), (((⟨#[48, 49, 50, 51, 52, 53, 54, 55, 56, 57]⟩ : ByteArray).extract ((ji3) : Int).toNat ((wrap64 ((ji3) + 1)) : Int).toNat) ++ x3_1), (by first | rfl | (simp; done) | (simp [*]; done)), (by first | rfl | (simp; done) | (simp only [← hji3] <;> (first | rfl | simp)) | (simp [*]; done)), H', ⟨by have := HK1.out; omega⟩, by repeat (first | exact Drawn0.refl _ | apply Drawn0.step)⟩
   ·rw [if_neg c2] at H
    have c2b0 : decide (9 < x0_1) = false := decide_eq_false c2
    clear c2
    by_cases c8 : 0 ≤ x0_1
    case neg =>
     rw [if_neg c8] at H
     exact absurd H (by simp)
    rw [if_pos c8] at H
    have c8b0 := eq_true c8
    have c8b1 := decide_eq_true c8
    clear c8
    by_cases c9 : x0_1 ≤ (wrap64 (x0_1 + 1))
    case neg =>
     rw [if_neg c9] at H
     exact absurd H (by simp)
    rw [if_pos c9] at H
    have c9b0 := eq_true c9
    have c9b1 := decide_eq_true c9
    by_cases c10 : (wrap64 (x0_1 + 1)) ≤ 10
    case neg =>
     rw [if_neg c10] at H
     exact absurd H (by simp)
    rw [if_pos c10] at H
    have c10b0 := eq_true c10
    have c10b1 := decide_eq_true c10
    by_cases c11 : ((⟨#[48, 49, 50, 51, 52, 53, 54, 55, 56, 57]⟩ : ByteArray).extract (x0_1 : Int).toNat ((wrap64 (x0_1 + 1)) : Int).toNat).size + x3_1.size ≤ 9223372036854775807
    case neg =>
     rw [if_neg c11] at H
     exact absurd H (by simp)
    rw [if_pos c11] at H
    have c11b0 := eq_true c11
    have c11b1 := decide_eq_true c11
    try have c11b2 := eq_false (Nat.not_lt.2 c11)
    try (have c11b3 := c11b2; simp only [ByteArray.size_append, size_lit, List.size_toArray, List.length_cons, List.length_nil, Nat.zero_add] at c11b3)
    obtain rfl := Option.some.inj H
    go_wp2
    go_ret
    exact ⟨by first | rfl | (simp; done) | (simp [*]; done), by repeat (first | exact Drawn0.refl _ | apply Drawn0.step)⟩

/-! ### bitemporalref07_Number: function 36 -/
def bitemporalref07_Number.j0 : Nat → Int → Bool → Option (ByteArray)
  | 0, _, _ => none
  | k + 1, x0, x8 => if x8 = true then ((bitemporalref01_Number.f k (wrap64 (-x0))).bind fun t228 => (if 1 + t228.size ≤ 9223372036854775807 then (some ((⟨#[45]⟩ : ByteArray) ++ t228)) else (none))) else (if x0 < 0 then ((bitemporalref01_Number.f k (wrap64 (-(wrap64 (Int.tdiv x0 10))))).bind fun t229 => (if 1 + t229.size ≤ 9223372036854775807 then ((bitemporalref01_Number.f k (wrap64 (-(Int.tmod x0 10)))).bind fun t230 => (if ((⟨#[45]⟩ : ByteArray) ++ t229).size + t230.size ≤ 9223372036854775807 then (some (((⟨#[45]⟩ : ByteArray) ++ t229) ++ t230)) else (none))) else (none))) else ((bitemporalref01_Number.f k x0).bind fun t231 => (some t231)))
def bitemporalref07_Number.f (k : Nat) (a0 : Int) : Option (ByteArray) := if a0 < 0 then (bitemporalref07_Number.j0 k a0 (decide (a0 > (-10)))) else (bitemporalref07_Number.j0 k a0 false)
theorem bitemporalref07_Number.mono_l : ∀ k, (∀ y0 y1, LeO (bitemporalref07_Number.j0 k y0 y1) (bitemporalref07_Number.j0 (k + 1) y0 y1))
  | 0 => fun _ _ r h => by simp [bitemporalref07_Number.j0] at h
  | k + 1 => by
    have ih0 := bitemporalref07_Number.mono_l k
    · intro y0 y1
      unfold bitemporalref07_Number.j0
      repeat' first
      | (with_reducible exact ih0 _ _)
      | (with_reducible exact bitemporalref01_Number.mono _ _)
      | (with_reducible exact LeO.refl _)
      | (with_reducible exact LeO.none _)
      | (with_reducible refine LeO.ite ?_ ?_)
      | (with_reducible refine LeO.bind ?_ (fun _ => ?_))
      | exact ih0 _ _
      | exact bitemporalref01_Number.mono _ _
      | exact LeO.none _
      | refine LeO.ite ?_ ?_
      | refine LeO.bind ?_ (fun _ => ?_)
theorem bitemporalref07_Number.mono : ∀ a0 k, LeO (bitemporalref07_Number.f k a0) (bitemporalref07_Number.f (k + 1) a0) := by
  intro a0 k
  have ih0 := bitemporalref07_Number.mono_l k
  unfold bitemporalref07_Number.f
  repeat' first
      | (with_reducible exact ih0 _ _)
      | (with_reducible exact bitemporalref01_Number.mono _ _)
      | (with_reducible exact LeO.refl _)
      | (with_reducible exact LeO.none _)
      | (with_reducible refine LeO.ite ?_ ?_)
      | (with_reducible refine LeO.bind ?_ (fun _ => ?_))
      | exact ih0 _ _
      | exact bitemporalref01_Number.mono _ _
      | exact LeO.none _
      | refine LeO.ite ?_ ?_
      | refine LeO.bind ?_ (fun _ => ?_)
set_option maxHeartbeats 8000000 in
set_option maxRecDepth 100000 in
theorem bitemporalref07_Number.calls (k : Nat) (a0 : Int) (r : ByteArray) (w : World) (h : bitemporalref07_Number.f k a0 = some r) (hG : GW w) :
  Calls Tryz.prog 36 #[.int .i64 a0] w fun e w' => e = .returned (.string r) ∧ Drawn0 w w' := by
 have HG := zM hG
 clear hG
 have H : (if a0 < 0 then (bitemporalref07_Number.j0 k a0 (decide (a0 > (-10)))) else (bitemporalref07_Number.j0 k a0 false)) = some r := h
 clear h
 have HC2 := zM H
 clear H
 go_enter Tryz.func36, Tryz.ntmps36
 go_upto_region 1 with (fail)
 go_cut [8] (fun v8 wc => ∃ (kq : Nat) (x8_1 : Bool), v8 = .bool x8_1 ∧ Aside0 (bitemporalref07_Number.j0 kq a0 x8_1 = some r) ∧ Aside0 (kq ≤ k) ∧ Drawn0 w wc)
 case first =>
  have H := HC2.out
  clear HC2
  by_cases c3 : a0 < 0
  ·rw [if_pos c3] at H
   have c3b0 : decide (a0 < 0) = true := decide_eq_true c3
   clear c3
   (first | rw [c3b0] | (simp only [i64_w, i32_w]; rw [c3b0]) | skip)
   have H' := zM H
   clear H
   go_wp2
   go_meet
   case rel => exact ⟨_, (decide (a0 > (-10))), (by first | rfl | (simp; done) | (simp [*]; done)), H', ⟨by first | omega | exact Nat.le_refl _⟩, by repeat (first | exact Drawn0.refl _ | apply Drawn0.step)⟩
  ·rw [if_neg c3] at H
   have c3b0 : decide (a0 < 0) = false := decide_eq_false c3
   clear c3
   (first | rw [c3b0] | (simp only [i64_w, i32_w]; rw [c3b0]) | skip)
   have H' := zM H
   clear H
   go_wp2
   go_meet
   case rel => exact ⟨_, (false), (by first | rfl | (simp; done) | (simp [*]; done)), H', ⟨by first | omega | exact Nat.le_refl _⟩, by repeat (first | exact Drawn0.refl _ | apply Drawn0.step)⟩
 case rest =>
  clear HC2
  try clear p2
  try clear c3
  try clear c3b0
  obtain ⟨kq, x8_1, rfl, HA, HJ1, ⟨mc1, rfl⟩⟩ := hcut
  cases kq with
  | zero => exact absurd HA.out (by simp [bitemporalref07_Number.j0])
  | succ kj1 =>
   have H := HA.out
   clear HA
   simp only [bitemporalref07_Number.j0] at H
   by_cases c4 : x8_1 = true
   ·subst c4
    have H1 : ((bitemporalref01_Number.f kj1 (wrap64 (-a0))).bind fun t228 => (if 1 + t228.size ≤ 9223372036854775807 then (some ((⟨#[45]⟩ : ByteArray) ++ t228)) else (none))) = some r := by rw [if_pos rfl] at H; exact H
    clear H
    have H := H1
    clear H1
    replace H := Option.bind_eq_some_iff.mp H
    obtain ⟨t228, A50, H⟩ := H
    have A5 := zM A50
    clear A50
    by_cases c6 : 1 + t228.size ≤ 9223372036854775807
    case neg =>
     rw [if_neg c6] at H
     exact absurd H (by simp)
    rw [if_pos c6] at H
    have c6b0 := eq_true c6
    have c6b1 := decide_eq_true c6
    try have c6b2 := eq_false (Nat.not_lt.2 c6)
    obtain rfl := Option.some.inj H
    go_wp2_with (first | ((with_reducible refine gate_callee (f := 58) rfl ?_); refine goesL_ (some 11) rfl rfl Tryz.func58 (by kernel_rfl) rfl #[.int .i64 (wrap64 (-a0))] rfl (by (try simp only [List.map_toArray, List.map_cons, List.map_nil]); first | done | rfl | (simp only [List.length_drop, List.length_take]; rfl)) ?_; (with_reducible refine (bitemporalref01_Number.calls kj1 (wrap64 (-a0)) t228 _ A5.out ?gw_).mono ?_); (case gw_ => repeat (first | exact HG.1 | apply GW.drewN | apply GW.drew)); rintro e w' ⟨rfl, ⟨nd, rfl⟩⟩; refine ⟨_, rfl, ?_⟩))
    go_ret
    exact ⟨by first | rfl | (simp; done) | (simp [*]; done), by repeat (first | exact Drawn0.refl _ | apply Drawn0.step)⟩
   ·replace c4 := Bool.eq_false_iff.mpr c4
    subst c4
    have H1 : (if a0 < 0 then ((bitemporalref01_Number.f kj1 (wrap64 (-(wrap64 (Int.tdiv a0 10))))).bind fun t229 => (if 1 + t229.size ≤ 9223372036854775807 then ((bitemporalref01_Number.f kj1 (wrap64 (-(Int.tmod a0 10)))).bind fun t230 => (if ((⟨#[45]⟩ : ByteArray) ++ t229).size + t230.size ≤ 9223372036854775807 then (some (((⟨#[45]⟩ : ByteArray) ++ t229) ++ t230)) else (none))) else (none))) else ((bitemporalref01_Number.f kj1 a0).bind fun t231 => (some t231))) = some r := by rw [if_neg (show ¬ (false = true) by decide)] at H; exact H
    clear H
    have H := H1
    clear H1
    by_cases c7 : a0 < 0
    ·rw [if_pos c7] at H
     have c7b0 : decide (a0 < 0) = true := decide_eq_true c7
     clear c7
     replace H := Option.bind_eq_some_iff.mp H
     obtain ⟨t229, A80, H⟩ := H
     have A8 := zM A80
     clear A80
     by_cases c9 : 1 + t229.size ≤ 9223372036854775807
     case neg =>
      rw [if_neg c9] at H
      exact absurd H (by simp)
     rw [if_pos c9] at H
     have c9b0 := eq_true c9
     have c9b1 := decide_eq_true c9
     try have c9b2 := eq_false (Nat.not_lt.2 c9)
     replace H := Option.bind_eq_some_iff.mp H
     obtain ⟨t230, A100, H⟩ := H
     have A10 := zM A100
     clear A100
     by_cases c11 : ((⟨#[45]⟩ : ByteArray) ++ t229).size + t230.size ≤ 9223372036854775807
     case neg =>
      rw [if_neg c11] at H
      exact absurd H (by simp)
     rw [if_pos c11] at H
     have c11b0 := eq_true c11
     have c11b1 := decide_eq_true c11
     try have c11b2 := eq_false (Nat.not_lt.2 c11)
     try (have c11b3 := c11b2; simp only [ByteArray.size_append, size_lit, List.size_toArray, List.length_cons, List.length_nil, Nat.zero_add] at c11b3)
     obtain rfl := Option.some.inj H
     go_wp2_with (first | ((with_reducible refine gate_callee (f := 58) rfl ?_); refine goesL_ (some 18) rfl rfl Tryz.func58 (by kernel_rfl) rfl #[.int .i64 (wrap64 (-(wrap64 (Int.tdiv a0 10))))] rfl (by (try simp only [List.map_toArray, List.map_cons, List.map_nil]); first | done | rfl | (simp only [List.length_drop, List.length_take]; rfl)) ?_; (with_reducible refine (bitemporalref01_Number.calls kj1 (wrap64 (-(wrap64 (Int.tdiv a0 10)))) t229 _ A8.out ?gw_).mono ?_); (case gw_ => repeat (first | exact HG.1 | apply GW.drewN | apply GW.drew)); rintro e w' ⟨rfl, ⟨nd, rfl⟩⟩; refine ⟨_, rfl, ?_⟩) | ((with_reducible refine gate_callee (f := 58) rfl ?_); refine goesL_ (some 23) rfl rfl Tryz.func58 (by kernel_rfl) rfl #[.int .i64 (wrap64 (-(Int.tmod a0 10)))] rfl (by (try simp only [List.map_toArray, List.map_cons, List.map_nil]); first | done | rfl | (simp only [List.length_drop, List.length_take]; rfl)) ?_; (with_reducible refine (bitemporalref01_Number.calls kj1 (wrap64 (-(Int.tmod a0 10))) t230 _ A10.out ?gw_).mono ?_); (case gw_ => repeat (first | exact HG.1 | apply GW.drewN | apply GW.drew)); rintro e w' ⟨rfl, ⟨nd, rfl⟩⟩; refine ⟨_, rfl, ?_⟩))
     go_ret
     exact ⟨by first | rfl | (simp; done) | (simp [*]; done), by repeat (first | exact Drawn0.refl _ | apply Drawn0.step)⟩
    ·rw [if_neg c7] at H
     have c7b0 : decide (a0 < 0) = false := decide_eq_false c7
     clear c7
     replace H := Option.bind_eq_some_iff.mp H
     obtain ⟨t231, A120, H⟩ := H
     have A12 := zM A120
     clear A120
     obtain rfl := Option.some.inj H
     go_wp2_with (first | ((with_reducible refine gate_callee (f := 58) rfl ?_); refine goesL_ (some 26) rfl rfl Tryz.func58 (by kernel_rfl) rfl #[.int .i64 a0] rfl (by (try simp only [List.map_toArray, List.map_cons, List.map_nil]); first | done | rfl | (simp only [List.length_drop, List.length_take]; rfl)) ?_; (with_reducible refine (bitemporalref01_Number.calls kj1 a0 t231 _ A12.out ?gw_).mono ?_); (case gw_ => repeat (first | exact HG.1 | apply GW.drewN | apply GW.drew)); rintro e w' ⟨rfl, ⟨nd, rfl⟩⟩; refine ⟨_, rfl, ?_⟩))
     go_ret
     exact ⟨by first | rfl | (simp; done) | (simp [*]; done), by repeat (first | exact Drawn0.refl _ | apply Drawn0.step)⟩

/-! ### bitemporalref07_Bool: function 77 -/
def bitemporalref07_Bool.f (a0 : Bool) : Option (Int × Int × ByteArray) := if a0 = true then (some (3, 1, (⟨#[]⟩ : ByteArray))) else (some (3, 0, (⟨#[]⟩ : ByteArray)))
set_option maxHeartbeats 8000000 in
set_option maxRecDepth 100000 in
theorem bitemporalref07_Bool.calls (a0 : Bool) (r1 : Int) (r2 : Int) (r3 : ByteArray) (w : World) (h : bitemporalref07_Bool.f a0 = some (r1, r2, r3)) (hG : GW w) :
  Calls Tryz.prog 77 #[.bool a0] w fun e w' => e = .returned (.agg #[.int .i64 r1, .int .i64 r2, .string r3]) ∧ Below w.heap.size w w' := by
 have HG := zM hG
 clear hG
 have hu54 := Tryz.underlying54
 have HB := zM (Below.refl w.heap.size w)
 have H : (if a0 = true then (some (3, 1, (⟨#[]⟩ : ByteArray))) else (some (3, 0, (⟨#[]⟩ : ByteArray)))) = some (r1, r2, r3) := h
 clear h
 by_cases c2 : a0 = true
 ·subst c2
  have H1 : (some (3, 1, (⟨#[]⟩ : ByteArray))) = some (r1, r2, r3) := by rw [if_pos rfl] at H; exact H
  clear H
  have H := H1
  clear H1
  simp only [Option.some.injEq, Prod.mk.injEq] at H
  obtain ⟨rfl, rfl, rfl⟩ := H
  go_enter Tryz.func77, Tryz.ntmps77
  go_wp2_with (first | ((with_reducible refine gate_dst (N := 2) rfl ?_); refine box_event ?hg (N := 2) ?hd (cs := #[.int .i64 0, .int .i64 0, .string (⟨#[]⟩ : ByteArray)]) (t := 54) ?hr ?_; (case hd => rfl); (case hg => rfl); (case hr => first | (go_simp; done) | (go_simp; rfl)); intro gb243 hg w3 hbox hb; have n0_ := zM (zT (by repeat (first | (with_reducible first | exact HB.1 | apply zA | apply zN | apply z1) | exact HB.1)) hb); have n1_ := zM (hbox); have n2_ := zM ((by rw [hg]; exact (zZ (by repeat (first | (with_reducible first | exact HB.1 | apply zA | apply zN | apply z1) | exact HB.1))) : w.heap.size ≤ gb243)); have n3_ := n2_; clear HB; have HB := n0_; have BK243 := n1_; have GW243 := n2_; have GE243 := n3_; clear n0_ n1_ n2_ n3_; clear hb hbox hg; have hcz4_0 : w3.cell? ⟨gb243, 0, none⟩ = some (.int .i64 0) := (kC BK243.1 0).trans rfl; have hcz4_1 : w3.cell? ⟨gb243, 1, none⟩ = some (.int .i64 0) := (kC BK243.1 1).trans rfl; have hcz4_2 : w3.cell? ⟨gb243, 2, none⟩ = some (.string (⟨#[]⟩ : ByteArray)) := (kC BK243.1 2).trans rfl; have hfz4_0 := kF BK243.1 0; have hfz4_1 := kF BK243.1 1; have hfz4_2 := kF BK243.1 2))
  refine bodyPost_ret (results_cell_row rfl _ _ gb243 54 #[.int .i64 3, .int .i64 1, .string (⟨#[]⟩ : ByteArray)] (0, 0) _ rfl (by (with_reducible repeat (first | refine kN ?_ _ | refine kD ?_ | refine kA ?_ _)); refine blk_put (cs := #[.int .i64 3, .int .i64 1, .string (⟨#[]⟩ : ByteArray)]) ?_ 2 _ rfl; (with_reducible repeat (first | refine kN ?_ _ | refine kD ?_ | refine kA ?_ _)); refine blk_put (cs := #[.int .i64 3, .int .i64 0, .string (⟨#[]⟩ : ByteArray)]) ?_ 1 _ rfl; (with_reducible repeat (first | refine kN ?_ _ | refine kD ?_ | refine kA ?_ _)); refine blk_put (cs := #[.int .i64 0, .int .i64 0, .string (⟨#[]⟩ : ByteArray)]) ?_ 0 _ rfl; (with_reducible repeat (first | refine kN ?_ _ | refine kD ?_ | refine kA ?_ _)); exact BK243.1) Tryz.underlying54 rfl (by kernel_rfl)) rfl ?_
  exact ⟨by first | rfl | (simp [errW_none, errW_some] <;> rfl) | (simp [*, errW_none, errW_some] <;> rfl), by repeat (first | (with_reducible first | exact HB.1 | apply zA | apply zN | apply z1 | refine zS ?_ GE243.1) | exact HB.1)⟩
 ·replace c2 := Bool.eq_false_iff.mpr c2
  subst c2
  have H1 : (some (3, 0, (⟨#[]⟩ : ByteArray))) = some (r1, r2, r3) := by rw [if_neg (show ¬ (false = true) by decide)] at H; exact H
  clear H
  have H := H1
  clear H1
  simp only [Option.some.injEq, Prod.mk.injEq] at H
  obtain ⟨rfl, rfl, rfl⟩ := H
  go_enter Tryz.func77, Tryz.ntmps77
  go_wp2_with (first | ((with_reducible refine gate_dst (N := 2) rfl ?_); refine box_event ?hg (N := 2) ?hd (cs := #[.int .i64 0, .int .i64 0, .string (⟨#[]⟩ : ByteArray)]) (t := 54) ?hr ?_; (case hd => rfl); (case hg => rfl); (case hr => first | (go_simp; done) | (go_simp; rfl)); intro gb243 hg w5 hbox hb; have n0_ := zM (zT (by repeat (first | (with_reducible first | exact HB.1 | apply zA | apply zN | apply z1) | exact HB.1)) hb); have n1_ := zM (hbox); have n2_ := zM ((by rw [hg]; exact (zZ (by repeat (first | (with_reducible first | exact HB.1 | apply zA | apply zN | apply z1) | exact HB.1))) : w.heap.size ≤ gb243)); have n3_ := n2_; clear HB; have HB := n0_; have BK243 := n1_; have GW243 := n2_; have GE243 := n3_; clear n0_ n1_ n2_ n3_; clear hb hbox hg; have hcz6_0 : w5.cell? ⟨gb243, 0, none⟩ = some (.int .i64 0) := (kC BK243.1 0).trans rfl; have hcz6_1 : w5.cell? ⟨gb243, 1, none⟩ = some (.int .i64 0) := (kC BK243.1 1).trans rfl; have hcz6_2 : w5.cell? ⟨gb243, 2, none⟩ = some (.string (⟨#[]⟩ : ByteArray)) := (kC BK243.1 2).trans rfl; have hfz6_0 := kF BK243.1 0; have hfz6_1 := kF BK243.1 1; have hfz6_2 := kF BK243.1 2))
  refine bodyPost_ret (results_cell_row rfl _ _ gb243 54 #[.int .i64 3, .int .i64 0, .string (⟨#[]⟩ : ByteArray)] (0, 0) _ rfl (by (with_reducible repeat (first | refine kN ?_ _ | refine kD ?_ | refine kA ?_ _)); refine blk_put (cs := #[.int .i64 3, .int .i64 0, .string (⟨#[]⟩ : ByteArray)]) ?_ 2 _ rfl; (with_reducible repeat (first | refine kN ?_ _ | refine kD ?_ | refine kA ?_ _)); refine blk_put (cs := #[.int .i64 3, .int .i64 0, .string (⟨#[]⟩ : ByteArray)]) ?_ 1 _ rfl; (with_reducible repeat (first | refine kN ?_ _ | refine kD ?_ | refine kA ?_ _)); refine blk_put (cs := #[.int .i64 0, .int .i64 0, .string (⟨#[]⟩ : ByteArray)]) ?_ 0 _ rfl; (with_reducible repeat (first | refine kN ?_ _ | refine kD ?_ | refine kA ?_ _)); exact BK243.1) Tryz.underlying54 rfl (by kernel_rfl)) rfl ?_
  exact ⟨by first | rfl | (simp [errW_none, errW_some] <;> rfl) | (simp [*, errW_none, errW_some] <;> rfl), by repeat (first | (with_reducible first | exact HB.1 | apply zA | apply zN | apply z1 | refine zS ?_ GE243.1) | exact HB.1)⟩

/-! ### bitemporalref07_Quote: function 78 -/
def bitemporalref07_Quote.l0 : Nat → ByteArray → ByteArray → Int → Option (ByteArray)
  | 0, _, _, _ => none
  | k + 1, x0, x3, x4 => if x4 < (x0.size : Int) then (if 0 ≤ x4 then (if (bt x0 x4) = 39 then (if x3.size + 1 ≤ 9223372036854775807 then (if x4 ≤ (wrap64 (x4 + 1)) then (if (wrap64 (x4 + 1)) ≤ (x0.size : Int) then (if (x3 ++ (⟨#[39]⟩ : ByteArray)).size + (x0.extract (x4 : Int).toNat ((wrap64 (x4 + 1)) : Int).toNat).size ≤ 9223372036854775807 then (bitemporalref07_Quote.l0 k x0 ((x3 ++ (⟨#[39]⟩ : ByteArray)) ++ (x0.extract (x4 : Int).toNat ((wrap64 (x4 + 1)) : Int).toNat)) (wrap64 (x4 + 1))) else (none)) else (none)) else (none)) else (none)) else (if x4 ≤ (wrap64 (x4 + 1)) then (if (wrap64 (x4 + 1)) ≤ (x0.size : Int) then (if x3.size + (x0.extract (x4 : Int).toNat ((wrap64 (x4 + 1)) : Int).toNat).size ≤ 9223372036854775807 then (bitemporalref07_Quote.l0 k x0 (x3 ++ (x0.extract (x4 : Int).toNat ((wrap64 (x4 + 1)) : Int).toNat)) (wrap64 (x4 + 1))) else (none)) else (none)) else (none))) else (none)) else (if x3.size + 1 ≤ 9223372036854775807 then (some (x3 ++ (⟨#[39]⟩ : ByteArray))) else (none))
def bitemporalref07_Quote.f (k : Nat) (a0 : ByteArray) : Option (ByteArray) := bitemporalref07_Quote.l0 k a0 (⟨#[39]⟩ : ByteArray) 0
theorem bitemporalref07_Quote.mono_l : ∀ k, (∀ y0 y1 y2, LeO (bitemporalref07_Quote.l0 k y0 y1 y2) (bitemporalref07_Quote.l0 (k + 1) y0 y1 y2))
  | 0 => fun _ _ _ r h => by simp [bitemporalref07_Quote.l0] at h
  | k + 1 => by
    have ih0 := bitemporalref07_Quote.mono_l k
    · intro y0 y1 y2
      unfold bitemporalref07_Quote.l0
      repeat' first
      | (with_reducible exact ih0 _ _ _)
      | (with_reducible exact LeO.refl _)
      | (with_reducible exact LeO.none _)
      | (with_reducible refine LeO.ite ?_ ?_)
      | (with_reducible refine LeO.bind ?_ (fun _ => ?_))
      | exact ih0 _ _ _
      | exact LeO.none _
      | refine LeO.ite ?_ ?_
      | refine LeO.bind ?_ (fun _ => ?_)
theorem bitemporalref07_Quote.mono : ∀ a0 k, LeO (bitemporalref07_Quote.f k a0) (bitemporalref07_Quote.f (k + 1) a0) := by
  intro a0 k
  have ih0 := bitemporalref07_Quote.mono_l k
  unfold bitemporalref07_Quote.f
  repeat' first
      | (with_reducible exact ih0 _ _ _)
      | (with_reducible exact LeO.refl _)
      | (with_reducible exact LeO.none _)
      | (with_reducible refine LeO.ite ?_ ?_)
      | (with_reducible refine LeO.bind ?_ (fun _ => ?_))
      | exact ih0 _ _ _
      | exact LeO.none _
      | refine LeO.ite ?_ ?_
      | refine LeO.bind ?_ (fun _ => ?_)
set_option maxHeartbeats 8000000 in
set_option maxRecDepth 100000 in
theorem bitemporalref07_Quote.calls (k : Nat) (a0 : ByteArray) (r : ByteArray) (w : World) (h : bitemporalref07_Quote.f k a0 = some r) (hG : GW w) :
  Calls Tryz.prog 78 #[.string a0] w fun e w' => e = .returned (.string r) ∧ Drawn0 w w' := by
 have HG := zM hG
 clear hG
 have H : (bitemporalref07_Quote.l0 k a0 (⟨#[39]⟩ : ByteArray) 0) = some r := h
 clear h
 have H' := zM H
 clear H
 go_enter Tryz.func78, Tryz.ntmps78
 go_wp2
 go_loopg [3, 4] k (fun kq v3 v4 w' => ∃ (x3_1 : ByteArray) (x4_1 : Int), v3 = .string x3_1 ∧ v4 = .int .i64 x4_1 ∧ Aside0 (bitemporalref07_Quote.l0 kq a0 x3_1 x4_1 = some r) ∧ Aside0 (kq ≤ k) ∧ Drawn0 w w')
 case atStart => exact ⟨((⟨#[39]⟩ : ByteArray)), (0), (by first | rfl | (simp; done) | (simp [*]; done)), (by first | rfl | (simp; done) | (simp [*]; done)), H', ⟨Nat.le_refl _⟩, by repeat (first | exact Drawn0.refl _ | apply Drawn0.step)⟩
 case round =>
  clear H'
  obtain ⟨x3_1, x4_1, rfl, rfl, HA, HK1, ⟨m1, rfl⟩⟩ := hrel
  cases gk with
  | zero => exact absurd HA.out (by simp [bitemporalref07_Quote.l0])
  | succ k1 =>
   have H := HA.out
   clear HA
   simp only [bitemporalref07_Quote.l0] at H
   by_cases c2 : x4_1 < (a0.size : Int)
   ·rw [if_pos c2] at H
    have c2b0 : decide (x4_1 < (a0.size : Int)) = true := decide_eq_true c2
    clear c2
    by_cases c3 : 0 ≤ x4_1
    case neg =>
     rw [if_neg c3] at H
     exact absurd H (by simp)
    rw [if_pos c3] at H
    have c3b0 : decide (0 ≤ x4_1) = true := decide_eq_true c3
    clear c3
    by_cases c5 : (bt a0 x4_1) = 39
    ·rw [if_pos c5] at H
     have c5b0 : ((bt a0 x4_1) == 39) = true := beq_iff_eq.mpr c5
     have c5b1 : ((bt a0 x4_1) != 39) = false := bne_eq_false_iff_eq.mpr c5
     clear c5
     by_cases c6 : x3_1.size + 1 ≤ 9223372036854775807
     case neg =>
      rw [if_neg c6] at H
      exact absurd H (by simp)
     rw [if_pos c6] at H
     have c6b0 := eq_true c6
     have c6b1 := decide_eq_true c6
     try have c6b2 := eq_false (Nat.not_lt.2 c6)
     have c7b0 := eq_true (of_decide_eq_true (by first | (with_reducible assumption) | assumption) : 0 ≤ x4_1)
     by_cases c8 : x4_1 ≤ (wrap64 (x4_1 + 1))
     case neg =>
      rw [if_neg c8] at H
      exact absurd H (by simp)
     rw [if_pos c8] at H
     have c8b0 := eq_true c8
     have c8b1 := decide_eq_true c8
     by_cases c9 : (wrap64 (x4_1 + 1)) ≤ (a0.size : Int)
     case neg =>
      rw [if_neg c9] at H
      exact absurd H (by simp)
     rw [if_pos c9] at H
     have c9b0 := eq_true c9
     have c9b1 := decide_eq_true c9
     by_cases c10 : (x3_1 ++ (⟨#[39]⟩ : ByteArray)).size + (a0.extract (x4_1 : Int).toNat ((wrap64 (x4_1 + 1)) : Int).toNat).size ≤ 9223372036854775807
     case neg =>
      rw [if_neg c10] at H
      exact absurd H (by simp)
     rw [if_pos c10] at H
     have c10b0 := eq_true c10
     have c10b1 := decide_eq_true c10
     try have c10b2 := eq_false (Nat.not_lt.2 c10)
     try (have c10b3 := c10b2; simp only [ByteArray.size_append, size_lit, List.size_toArray, List.length_cons, List.length_nil, Nat.zero_add] at c10b3)
     have H' := zM H
     clear H
     have p4 : 0 ≤ (x4_1 : Int) := of_decide_eq_true (by first | (with_reducible assumption) | assumption)
     have q4 : x4_1 < (a0.size : Int) := of_decide_eq_true (by first | (with_reducible assumption) | assumption)
     have hx4 := bt_at a0 x4_1
     replace p4 := eq_true p4
     replace q4 := eq_true q4
     go_wp2
     go_roundg k1
     case measure => have := HK1.out; omega
     case rel => exact ⟨((x3_1 ++ (⟨#[39]⟩ : ByteArray)) ++ (a0.extract (x4_1 : Int).toNat ((wrap64 (x4_1 + 1)) : Int).toNat)), (wrap64 (x4_1 + 1)), (by first | rfl | (simp; done) | (simp [*]; done)), (by first | rfl | (simp; done) | (simp [*]; done)), H', ⟨by have := HK1.out; omega⟩, by repeat (first | exact Drawn0.refl _ | apply Drawn0.step)⟩
    ·rw [if_neg c5] at H
     have c5b0 : ((bt a0 x4_1) == 39) = false := beq_eq_false_iff_ne.mpr c5
     have c5b1 : ((bt a0 x4_1) != 39) = true := bne_iff_ne.mpr c5
     have c11b0 := eq_true (of_decide_eq_true (by first | (with_reducible assumption) | assumption) : 0 ≤ x4_1)
     by_cases c12 : x4_1 ≤ (wrap64 (x4_1 + 1))
     case neg =>
      rw [if_neg c12] at H
      exact absurd H (by simp)
     rw [if_pos c12] at H
     have c12b0 := eq_true c12
     have c12b1 := decide_eq_true c12
     by_cases c13 : (wrap64 (x4_1 + 1)) ≤ (a0.size : Int)
     case neg =>
      rw [if_neg c13] at H
      exact absurd H (by simp)
     rw [if_pos c13] at H
     have c13b0 := eq_true c13
     have c13b1 := decide_eq_true c13
     by_cases c14 : x3_1.size + (a0.extract (x4_1 : Int).toNat ((wrap64 (x4_1 + 1)) : Int).toNat).size ≤ 9223372036854775807
     case neg =>
      rw [if_neg c14] at H
      exact absurd H (by simp)
     rw [if_pos c14] at H
     have c14b0 := eq_true c14
     have c14b1 := decide_eq_true c14
     try have c14b2 := eq_false (Nat.not_lt.2 c14)
     have H' := zM H
     clear H
     have p4 : 0 ≤ (x4_1 : Int) := of_decide_eq_true (by first | (with_reducible assumption) | assumption)
     have q4 : x4_1 < (a0.size : Int) := of_decide_eq_true (by first | (with_reducible assumption) | assumption)
     have hx4 := bt_at a0 x4_1
     replace p4 := eq_true p4
     replace q4 := eq_true q4
     go_wp2
     go_roundg k1
     case measure => have := HK1.out; omega
     case rel => exact ⟨(x3_1 ++ (a0.extract (x4_1 : Int).toNat ((wrap64 (x4_1 + 1)) : Int).toNat)), (wrap64 (x4_1 + 1)), (by first | rfl | (simp; done) | (simp [*]; done)), (by first | rfl | (simp; done) | (simp [*]; done)), H', ⟨by have := HK1.out; omega⟩, by repeat (first | exact Drawn0.refl _ | apply Drawn0.step)⟩
   ·rw [if_neg c2] at H
    have c2b0 : decide (x4_1 < (a0.size : Int)) = false := decide_eq_false c2
    clear c2
    by_cases c15 : x3_1.size + 1 ≤ 9223372036854775807
    case neg =>
     rw [if_neg c15] at H
     exact absurd H (by simp)
    rw [if_pos c15] at H
    have c15b0 := eq_true c15
    have c15b1 := decide_eq_true c15
    try have c15b2 := eq_false (Nat.not_lt.2 c15)
    obtain rfl := Option.some.inj H
    go_wp2
    go_ret
    exact ⟨by first | rfl | (simp; done) | (simp [*]; done), by repeat (first | exact Drawn0.refl _ | apply Drawn0.step)⟩

/-! ### bitemporalref07_Literal: function 57 -/
def bitemporalref07_Literal.f (k : Nat) (a0_0 : Int) (a0_1 : Int) (a0_2 : ByteArray) : Option (ByteArray) := (bitemporalref07_Valid.f k a0_0 a0_1 a0_2).bind fun t245 => (if t245 = true then ((bitemporalref07_Null.f).bind fun bt246 => (if (a0_0 == bt246.1 && (a0_1 == bt246.2.1 && (a0_2.toList == bt246.2.2.toList))) = true then (some (⟨#[78, 85, 76, 76]⟩ : ByteArray)) else ((bitemporalref07_Bool.f true).bind fun bt249 => (if (a0_0 == bt249.1 && (a0_1 == bt249.2.1 && (a0_2.toList == bt249.2.2.toList))) = true then (some (⟨#[84, 82, 85, 69]⟩ : ByteArray)) else ((bitemporalref07_Bool.f false).bind fun bt252 => (if (a0_0 == bt252.1 && (a0_1 == bt252.2.1 && (a0_2.toList == bt252.2.2.toList))) = true then (some (⟨#[70, 65, 76, 83, 69]⟩ : ByteArray)) else (if a0_0 = 1 then ((bitemporalref07_Number.f k a0_1).bind fun t255 => (some t255)) else ((bitemporalref07_Quote.f k a0_2).bind fun t256 => (some t256))))))))) else (some (⟨#[]⟩ : ByteArray)))
theorem bitemporalref07_Literal.mono : ∀ a0 a1 a2 k, LeO (bitemporalref07_Literal.f k a0 a1 a2) (bitemporalref07_Literal.f (k + 1) a0 a1 a2) := by
  intro a0 a1 a2 k
  unfold bitemporalref07_Literal.f
  repeat' first
      | (with_reducible exact bitemporalref07_Number.mono _ _)
      | (with_reducible exact bitemporalref07_Quote.mono _ _)
      | (with_reducible exact bitemporalref07_Valid.mono _ _ _ _)
      | (with_reducible exact LeO.refl _)
      | (with_reducible exact LeO.none _)
      | (with_reducible refine LeO.ite ?_ ?_)
      | (with_reducible refine LeO.bind ?_ (fun _ => ?_))
      | exact bitemporalref07_Number.mono _ _
      | exact bitemporalref07_Quote.mono _ _
      | exact bitemporalref07_Valid.mono _ _ _ _
      | exact LeO.none _
      | refine LeO.ite ?_ ?_
      | refine LeO.bind ?_ (fun _ => ?_)
set_option maxHeartbeats 8000000 in
set_option maxRecDepth 100000 in
theorem bitemporalref07_Literal.calls (k : Nat) (a0_0 : Int) (a0_1 : Int) (a0_2 : ByteArray) (r : ByteArray) (w : World) (h : bitemporalref07_Literal.f k a0_0 a0_1 a0_2 = some r) (hG : GW w) :
  Calls Tryz.prog 57 #[.agg #[.int .i64 a0_0, .int .i64 a0_1, .string a0_2]] w fun e w' => e = .returned (.string r) ∧ Below w.heap.size w w' := by
 have HG := zM hG
 clear hG
 have hu54 := Tryz.underlying54
 have HB := zM (Below.refl w.heap.size w)
 have H : ((bitemporalref07_Valid.f k a0_0 a0_1 a0_2).bind fun t245 => (if t245 = true then ((bitemporalref07_Null.f).bind fun bt246 => (if (a0_0 == bt246.1 && (a0_1 == bt246.2.1 && (a0_2.toList == bt246.2.2.toList))) = true then (some (⟨#[78, 85, 76, 76]⟩ : ByteArray)) else ((bitemporalref07_Bool.f true).bind fun bt249 => (if (a0_0 == bt249.1 && (a0_1 == bt249.2.1 && (a0_2.toList == bt249.2.2.toList))) = true then (some (⟨#[84, 82, 85, 69]⟩ : ByteArray)) else ((bitemporalref07_Bool.f false).bind fun bt252 => (if (a0_0 == bt252.1 && (a0_1 == bt252.2.1 && (a0_2.toList == bt252.2.2.toList))) = true then (some (⟨#[70, 65, 76, 83, 69]⟩ : ByteArray)) else (if a0_0 = 1 then ((bitemporalref07_Number.f k a0_1).bind fun t255 => (some t255)) else ((bitemporalref07_Quote.f k a0_2).bind fun t256 => (some t256))))))))) else (some (⟨#[]⟩ : ByteArray)))) = some r := h
 clear h
 replace H := Option.bind_eq_some_iff.mp H
 obtain ⟨t245, A20, H⟩ := H
 have A2 := zM A20
 clear A20
 by_cases c3 : t245 = true
 ·subst c3
  have H1 : ((bitemporalref07_Null.f).bind fun bt246 => (if (a0_0 == bt246.1 && (a0_1 == bt246.2.1 && (a0_2.toList == bt246.2.2.toList))) = true then (some (⟨#[78, 85, 76, 76]⟩ : ByteArray)) else ((bitemporalref07_Bool.f true).bind fun bt249 => (if (a0_0 == bt249.1 && (a0_1 == bt249.2.1 && (a0_2.toList == bt249.2.2.toList))) = true then (some (⟨#[84, 82, 85, 69]⟩ : ByteArray)) else ((bitemporalref07_Bool.f false).bind fun bt252 => (if (a0_0 == bt252.1 && (a0_1 == bt252.2.1 && (a0_2.toList == bt252.2.2.toList))) = true then (some (⟨#[70, 65, 76, 83, 69]⟩ : ByteArray)) else (if a0_0 = 1 then ((bitemporalref07_Number.f k a0_1).bind fun t255 => (some t255)) else ((bitemporalref07_Quote.f k a0_2).bind fun t256 => (some t256))))))))) = some r := by rw [if_pos rfl] at H; exact H
  clear H
  have H := H1
  clear H1
  replace H := Option.bind_eq_some_iff.mp H
  obtain ⟨⟨t246, t247, t248⟩, A40, H⟩ := H
  have A4 := zM A40
  clear A40
  by_cases c5 : (a0_0 == t246 && (a0_1 == t247 && (a0_2.toList == t248.toList))) = true
  ·rw [if_pos c5] at H
   have c5b0 : (a0_0 == t246 && (a0_1 == t247 && (a0_2.toList == t248.toList))) = true := c5
   (try (have c5b1 : decide (a0_0 = t246 && (a0_1 == t247 && (a0_2.toList == t248.toList))) = true := by simpa using c5))
   (try (have c5b2 : (a0_0 == t246 && (a0_1 == t247 && (a0_2.toList == t248.toList))) = true := by simpa using c5))
   clear c5
   obtain rfl := Option.some.inj H
   go_enter Tryz.func57, Tryz.ntmps57
   go_wp2_with (first | ((with_reducible refine gate_dst (N := 1) rfl ?_); refine box_event ?hg (N := 1) ?hd (cs := #[.int .i64 a0_0, .int .i64 a0_1, .string a0_2]) (t := 54) ?hr ?_; (case hd => rfl); (case hg => rfl); (case hr => first | (go_simp; done) | (go_simp; rfl)); intro gb244 hg w6 hbox hb; have n0_ := zM (zT (by repeat (first | (with_reducible first | exact HB.1 | apply zA | apply zN | apply z1) | exact HB.1)) hb); have n1_ := zM (hbox); have n2_ := zM ((by rw [hg]; exact (zZ (by repeat (first | (with_reducible first | exact HB.1 | apply zA | apply zN | apply z1) | exact HB.1))) : w.heap.size ≤ gb244)); have n3_ := n2_; clear HB; have HB := n0_; have BK244 := n1_; have GW244 := n2_; have GE244 := n3_; clear n0_ n1_ n2_ n3_; clear hb hbox hg; have hcz7_0 : w6.cell? ⟨gb244, 0, none⟩ = some (.int .i64 a0_0) := (kC BK244.1 0).trans rfl; have hcz7_1 : w6.cell? ⟨gb244, 1, none⟩ = some (.int .i64 a0_1) := (kC BK244.1 1).trans rfl; have hcz7_2 : w6.cell? ⟨gb244, 2, none⟩ = some (.string a0_2) := (kC BK244.1 2).trans rfl; have hfz7_0 := kF BK244.1 0; have hfz7_1 := kF BK244.1 1; have hfz7_2 := kF BK244.1 2) | ((with_reducible refine gate_callee (f := 68) rfl ?_); refine goesL_ (some 4) rfl rfl Tryz.func68 (by kernel_rfl) rfl #[.agg #[.int .i64 a0_0, .int .i64 a0_1, .string a0_2]] rfl (by (try simp only [List.map_toArray, List.map_cons, List.map_nil]); first | done | rfl | (simp only [List.length_drop, List.length_take]; rfl)) ?_; (with_reducible refine (bitemporalref07_Valid.calls k a0_0 a0_1 a0_2 true _ A2.out ?gw_).mono ?_); (case gw_ => first | exact HG.1 | (refine GW.below HG.1 ?_; repeat (first | (with_reducible first | exact HB.1 | apply zA | apply zN | apply z1 | refine zS ?_ GE244.1) | exact HB.1))); rintro e w8 ⟨rfl, hb⟩; refine ⟨_, rfl, ?_⟩; have n0_ := zM (kB (g := gb244) (o := .cells #[.int .i64 a0_0, .int .i64 a0_1, .string a0_2] 54 (0, 0)) (by (with_reducible repeat (first | refine kN ?_ _ | refine kD ?_ | refine kA ?_ _)); exact BK244.1) hb); have n1_ := zM (zT (by repeat (first | (with_reducible first | exact HB.1 | apply zA | apply zN | apply z1 | refine zS ?_ GE244.1) | exact HB.1)) hb); clear BK244; clear HB; have BK244 := n0_; have HB := n1_; clear n0_ n1_; (try clear hb); (try clear hb2); (try clear hk); (try clear hi); have hcz9_0 : w8.cell? ⟨gb244, 0, none⟩ = some (.int .i64 a0_0) := (kC BK244.1 0).trans rfl; have hcz9_1 : w8.cell? ⟨gb244, 1, none⟩ = some (.int .i64 a0_1) := (kC BK244.1 1).trans rfl; have hcz9_2 : w8.cell? ⟨gb244, 2, none⟩ = some (.string a0_2) := (kC BK244.1 2).trans rfl; have hfz9_0 := kF BK244.1 0; have hfz9_1 := kF BK244.1 1; have hfz9_2 := kF BK244.1 2) | ((with_reducible refine gate_callee (f := 69) rfl ?_); refine goesL_ (some 8) rfl rfl Tryz.func69 (by kernel_rfl) rfl #[] rfl (by (try simp only [List.map_toArray, List.map_cons, List.map_nil]); first | done | rfl | (simp only [List.length_drop, List.length_take]; rfl)) ?_; (with_reducible refine (bitemporalref07_Null.calls  t246 t247 t248 _ A4.out ?gw_).mono ?_); (case gw_ => first | exact HG.1 | (refine GW.below HG.1 ?_; repeat (first | (with_reducible first | exact HB.1 | apply zA | apply zN | apply z1 | refine zS ?_ GE244.1) | exact HB.1))); rintro e w10 ⟨rfl, hb⟩; refine ⟨_, rfl, ?_⟩; have n0_ := zM (kB (g := gb244) (o := .cells #[.int .i64 a0_0, .int .i64 a0_1, .string a0_2] 54 (0, 0)) (by (with_reducible repeat (first | refine kN ?_ _ | refine kD ?_ | refine kA ?_ _)); exact BK244.1) hb); have n1_ := zM (zT (by repeat (first | (with_reducible first | exact HB.1 | apply zA | apply zN | apply z1 | refine zS ?_ GE244.1) | exact HB.1)) hb); clear BK244; clear HB; have BK244 := n0_; have HB := n1_; clear n0_ n1_; (try clear hb); (try clear hb2); (try clear hk); (try clear hi)))
   go_ret
   exact ⟨by first | rfl | (simp [errW_none, errW_some] <;> rfl) | (simp [*, errW_none, errW_some] <;> rfl), by repeat (first | (with_reducible first | exact HB.1 | apply zA | apply zN | apply z1 | refine zS ?_ GE244.1) | exact HB.1)⟩
  ·rw [if_neg c5] at H
   have c5b0 : (a0_0 == t246 && (a0_1 == t247 && (a0_2.toList == t248.toList))) = false := by simpa using c5
   (try (have c5b1 : decide (a0_0 = t246 && (a0_1 == t247 && (a0_2.toList == t248.toList))) = false := by simpa using c5))
   (try (have c5b2 : (a0_0 == t246 && (a0_1 == t247 && (a0_2.toList == t248.toList))) = false := by simpa using c5))
   (try (have c5b3 : ¬ (a0_0 = t246 && (a0_1 == t247 && (a0_2.toList == t248.toList))) := by simpa using c5))
   clear c5
   replace H := Option.bind_eq_some_iff.mp H
   obtain ⟨⟨t249, t250, t251⟩, A110, H⟩ := H
   have A11 := zM A110
   clear A110
   by_cases c12 : (a0_0 == t249 && (a0_1 == t250 && (a0_2.toList == t251.toList))) = true
   ·rw [if_pos c12] at H
    have c12b0 : (a0_0 == t249 && (a0_1 == t250 && (a0_2.toList == t251.toList))) = true := c12
    (try (have c12b1 : decide (a0_0 = t249 && (a0_1 == t250 && (a0_2.toList == t251.toList))) = true := by simpa using c12))
    (try (have c12b2 : (a0_0 == t249 && (a0_1 == t250 && (a0_2.toList == t251.toList))) = true := by simpa using c12))
    clear c12
    obtain rfl := Option.some.inj H
    go_enter Tryz.func57, Tryz.ntmps57
    go_wp2_with (first | ((with_reducible refine gate_dst (N := 1) rfl ?_); refine box_event ?hg (N := 1) ?hd (cs := #[.int .i64 a0_0, .int .i64 a0_1, .string a0_2]) (t := 54) ?hr ?_; (case hd => rfl); (case hg => rfl); (case hr => first | (go_simp; done) | (go_simp; rfl)); intro gb244 hg w13 hbox hb; have n0_ := zM (zT (by repeat (first | (with_reducible first | exact HB.1 | apply zA | apply zN | apply z1) | exact HB.1)) hb); have n1_ := zM (hbox); have n2_ := zM ((by rw [hg]; exact (zZ (by repeat (first | (with_reducible first | exact HB.1 | apply zA | apply zN | apply z1) | exact HB.1))) : w.heap.size ≤ gb244)); have n3_ := n2_; clear HB; have HB := n0_; have BK244 := n1_; have GW244 := n2_; have GE244 := n3_; clear n0_ n1_ n2_ n3_; clear hb hbox hg; have hcz14_0 : w13.cell? ⟨gb244, 0, none⟩ = some (.int .i64 a0_0) := (kC BK244.1 0).trans rfl; have hcz14_1 : w13.cell? ⟨gb244, 1, none⟩ = some (.int .i64 a0_1) := (kC BK244.1 1).trans rfl; have hcz14_2 : w13.cell? ⟨gb244, 2, none⟩ = some (.string a0_2) := (kC BK244.1 2).trans rfl; have hfz14_0 := kF BK244.1 0; have hfz14_1 := kF BK244.1 1; have hfz14_2 := kF BK244.1 2) | ((with_reducible refine gate_callee (f := 68) rfl ?_); refine goesL_ (some 4) rfl rfl Tryz.func68 (by kernel_rfl) rfl #[.agg #[.int .i64 a0_0, .int .i64 a0_1, .string a0_2]] rfl (by (try simp only [List.map_toArray, List.map_cons, List.map_nil]); first | done | rfl | (simp only [List.length_drop, List.length_take]; rfl)) ?_; (with_reducible refine (bitemporalref07_Valid.calls k a0_0 a0_1 a0_2 true _ A2.out ?gw_).mono ?_); (case gw_ => first | exact HG.1 | (refine GW.below HG.1 ?_; repeat (first | (with_reducible first | exact HB.1 | apply zA | apply zN | apply z1 | refine zS ?_ GE244.1) | exact HB.1))); rintro e w15 ⟨rfl, hb⟩; refine ⟨_, rfl, ?_⟩; have n0_ := zM (kB (g := gb244) (o := .cells #[.int .i64 a0_0, .int .i64 a0_1, .string a0_2] 54 (0, 0)) (by (with_reducible repeat (first | refine kN ?_ _ | refine kD ?_ | refine kA ?_ _)); exact BK244.1) hb); have n1_ := zM (zT (by repeat (first | (with_reducible first | exact HB.1 | apply zA | apply zN | apply z1 | refine zS ?_ GE244.1) | exact HB.1)) hb); clear BK244; clear HB; have BK244 := n0_; have HB := n1_; clear n0_ n1_; (try clear hb); (try clear hb2); (try clear hk); (try clear hi); have hcz16_0 : w15.cell? ⟨gb244, 0, none⟩ = some (.int .i64 a0_0) := (kC BK244.1 0).trans rfl; have hcz16_1 : w15.cell? ⟨gb244, 1, none⟩ = some (.int .i64 a0_1) := (kC BK244.1 1).trans rfl; have hcz16_2 : w15.cell? ⟨gb244, 2, none⟩ = some (.string a0_2) := (kC BK244.1 2).trans rfl; have hfz16_0 := kF BK244.1 0; have hfz16_1 := kF BK244.1 1; have hfz16_2 := kF BK244.1 2) | ((with_reducible refine gate_callee (f := 69) rfl ?_); refine goesL_ (some 8) rfl rfl Tryz.func69 (by kernel_rfl) rfl #[] rfl (by (try simp only [List.map_toArray, List.map_cons, List.map_nil]); first | done | rfl | (simp only [List.length_drop, List.length_take]; rfl)) ?_; (with_reducible refine (bitemporalref07_Null.calls  t246 t247 t248 _ A4.out ?gw_).mono ?_); (case gw_ => first | exact HG.1 | (refine GW.below HG.1 ?_; repeat (first | (with_reducible first | exact HB.1 | apply zA | apply zN | apply z1 | refine zS ?_ GE244.1) | exact HB.1))); rintro e w17 ⟨rfl, hb⟩; refine ⟨_, rfl, ?_⟩; have n0_ := zM (kB (g := gb244) (o := .cells #[.int .i64 a0_0, .int .i64 a0_1, .string a0_2] 54 (0, 0)) (by (with_reducible repeat (first | refine kN ?_ _ | refine kD ?_ | refine kA ?_ _)); exact BK244.1) hb); have n1_ := zM (zT (by repeat (first | (with_reducible first | exact HB.1 | apply zA | apply zN | apply z1 | refine zS ?_ GE244.1) | exact HB.1)) hb); clear BK244; clear HB; have BK244 := n0_; have HB := n1_; clear n0_ n1_; (try clear hb); (try clear hb2); (try clear hk); (try clear hi)) | ((with_reducible refine gate_callee (f := 77) rfl ?_); refine goesL_ (some 11) rfl rfl Tryz.func77 (by kernel_rfl) rfl #[.bool true] rfl (by (try simp only [List.map_toArray, List.map_cons, List.map_nil]); first | done | rfl | (simp only [List.length_drop, List.length_take]; rfl)) ?_; (with_reducible refine (bitemporalref07_Bool.calls true t249 t250 t251 _ A11.out ?gw_).mono ?_); (case gw_ => first | exact HG.1 | (refine GW.below HG.1 ?_; repeat (first | (with_reducible first | exact HB.1 | apply zA | apply zN | apply z1 | refine zS ?_ GE244.1) | exact HB.1))); rintro e w18 ⟨rfl, hb⟩; refine ⟨_, rfl, ?_⟩; have n0_ := zM (kB (g := gb244) (o := .cells #[.int .i64 a0_0, .int .i64 a0_1, .string a0_2] 54 (0, 0)) (by (with_reducible repeat (first | refine kN ?_ _ | refine kD ?_ | refine kA ?_ _)); exact BK244.1) hb); have n1_ := zM (zT (by repeat (first | (with_reducible first | exact HB.1 | apply zA | apply zN | apply z1 | refine zS ?_ GE244.1) | exact HB.1)) hb); clear BK244; clear HB; have BK244 := n0_; have HB := n1_; clear n0_ n1_; (try clear hb); (try clear hb2); (try clear hk); (try clear hi)))
    go_ret
    exact ⟨by first | rfl | (simp [errW_none, errW_some] <;> rfl) | (simp [*, errW_none, errW_some] <;> rfl), by repeat (first | (with_reducible first | exact HB.1 | apply zA | apply zN | apply z1 | refine zS ?_ GE244.1) | exact HB.1)⟩
   ·rw [if_neg c12] at H
    have c12b0 : (a0_0 == t249 && (a0_1 == t250 && (a0_2.toList == t251.toList))) = false := by simpa using c12
    (try (have c12b1 : decide (a0_0 = t249 && (a0_1 == t250 && (a0_2.toList == t251.toList))) = false := by simpa using c12))
    (try (have c12b2 : (a0_0 == t249 && (a0_1 == t250 && (a0_2.toList == t251.toList))) = false := by simpa using c12))
    (try (have c12b3 : ¬ (a0_0 = t249 && (a0_1 == t250 && (a0_2.toList == t251.toList))) := by simpa using c12))
    clear c12
    replace H := Option.bind_eq_some_iff.mp H
    obtain ⟨⟨t252, t253, t254⟩, A190, H⟩ := H
    have A19 := zM A190
    clear A190
    by_cases c20 : (a0_0 == t252 && (a0_1 == t253 && (a0_2.toList == t254.toList))) = true
    ·rw [if_pos c20] at H
     have c20b0 : (a0_0 == t252 && (a0_1 == t253 && (a0_2.toList == t254.toList))) = true := c20
     (try (have c20b1 : decide (a0_0 = t252 && (a0_1 == t253 && (a0_2.toList == t254.toList))) = true := by simpa using c20))
     (try (have c20b2 : (a0_0 == t252 && (a0_1 == t253 && (a0_2.toList == t254.toList))) = true := by simpa using c20))
     clear c20
     obtain rfl := Option.some.inj H
     go_enter Tryz.func57, Tryz.ntmps57
     go_wp2_with (first | ((with_reducible refine gate_dst (N := 1) rfl ?_); refine box_event ?hg (N := 1) ?hd (cs := #[.int .i64 a0_0, .int .i64 a0_1, .string a0_2]) (t := 54) ?hr ?_; (case hd => rfl); (case hg => rfl); (case hr => first | (go_simp; done) | (go_simp; rfl)); intro gb244 hg w21 hbox hb; have n0_ := zM (zT (by repeat (first | (with_reducible first | exact HB.1 | apply zA | apply zN | apply z1) | exact HB.1)) hb); have n1_ := zM (hbox); have n2_ := zM ((by rw [hg]; exact (zZ (by repeat (first | (with_reducible first | exact HB.1 | apply zA | apply zN | apply z1) | exact HB.1))) : w.heap.size ≤ gb244)); have n3_ := n2_; clear HB; have HB := n0_; have BK244 := n1_; have GW244 := n2_; have GE244 := n3_; clear n0_ n1_ n2_ n3_; clear hb hbox hg; have hcz22_0 : w21.cell? ⟨gb244, 0, none⟩ = some (.int .i64 a0_0) := (kC BK244.1 0).trans rfl; have hcz22_1 : w21.cell? ⟨gb244, 1, none⟩ = some (.int .i64 a0_1) := (kC BK244.1 1).trans rfl; have hcz22_2 : w21.cell? ⟨gb244, 2, none⟩ = some (.string a0_2) := (kC BK244.1 2).trans rfl; have hfz22_0 := kF BK244.1 0; have hfz22_1 := kF BK244.1 1; have hfz22_2 := kF BK244.1 2) | ((with_reducible refine gate_callee (f := 68) rfl ?_); refine goesL_ (some 4) rfl rfl Tryz.func68 (by kernel_rfl) rfl #[.agg #[.int .i64 a0_0, .int .i64 a0_1, .string a0_2]] rfl (by (try simp only [List.map_toArray, List.map_cons, List.map_nil]); first | done | rfl | (simp only [List.length_drop, List.length_take]; rfl)) ?_; (with_reducible refine (bitemporalref07_Valid.calls k a0_0 a0_1 a0_2 true _ A2.out ?gw_).mono ?_); (case gw_ => first | exact HG.1 | (refine GW.below HG.1 ?_; repeat (first | (with_reducible first | exact HB.1 | apply zA | apply zN | apply z1 | refine zS ?_ GE244.1) | exact HB.1))); rintro e w23 ⟨rfl, hb⟩; refine ⟨_, rfl, ?_⟩; have n0_ := zM (kB (g := gb244) (o := .cells #[.int .i64 a0_0, .int .i64 a0_1, .string a0_2] 54 (0, 0)) (by (with_reducible repeat (first | refine kN ?_ _ | refine kD ?_ | refine kA ?_ _)); exact BK244.1) hb); have n1_ := zM (zT (by repeat (first | (with_reducible first | exact HB.1 | apply zA | apply zN | apply z1 | refine zS ?_ GE244.1) | exact HB.1)) hb); clear BK244; clear HB; have BK244 := n0_; have HB := n1_; clear n0_ n1_; (try clear hb); (try clear hb2); (try clear hk); (try clear hi); have hcz24_0 : w23.cell? ⟨gb244, 0, none⟩ = some (.int .i64 a0_0) := (kC BK244.1 0).trans rfl; have hcz24_1 : w23.cell? ⟨gb244, 1, none⟩ = some (.int .i64 a0_1) := (kC BK244.1 1).trans rfl; have hcz24_2 : w23.cell? ⟨gb244, 2, none⟩ = some (.string a0_2) := (kC BK244.1 2).trans rfl; have hfz24_0 := kF BK244.1 0; have hfz24_1 := kF BK244.1 1; have hfz24_2 := kF BK244.1 2) | ((with_reducible refine gate_callee (f := 69) rfl ?_); refine goesL_ (some 8) rfl rfl Tryz.func69 (by kernel_rfl) rfl #[] rfl (by (try simp only [List.map_toArray, List.map_cons, List.map_nil]); first | done | rfl | (simp only [List.length_drop, List.length_take]; rfl)) ?_; (with_reducible refine (bitemporalref07_Null.calls  t246 t247 t248 _ A4.out ?gw_).mono ?_); (case gw_ => first | exact HG.1 | (refine GW.below HG.1 ?_; repeat (first | (with_reducible first | exact HB.1 | apply zA | apply zN | apply z1 | refine zS ?_ GE244.1) | exact HB.1))); rintro e w25 ⟨rfl, hb⟩; refine ⟨_, rfl, ?_⟩; have n0_ := zM (kB (g := gb244) (o := .cells #[.int .i64 a0_0, .int .i64 a0_1, .string a0_2] 54 (0, 0)) (by (with_reducible repeat (first | refine kN ?_ _ | refine kD ?_ | refine kA ?_ _)); exact BK244.1) hb); have n1_ := zM (zT (by repeat (first | (with_reducible first | exact HB.1 | apply zA | apply zN | apply z1 | refine zS ?_ GE244.1) | exact HB.1)) hb); clear BK244; clear HB; have BK244 := n0_; have HB := n1_; clear n0_ n1_; (try clear hb); (try clear hb2); (try clear hk); (try clear hi)) | ((with_reducible refine gate_callee (f := 77) rfl ?_); refine goesL_ (some 11) rfl rfl Tryz.func77 (by kernel_rfl) rfl #[.bool true] rfl (by (try simp only [List.map_toArray, List.map_cons, List.map_nil]); first | done | rfl | (simp only [List.length_drop, List.length_take]; rfl)) ?_; (with_reducible refine (bitemporalref07_Bool.calls true t249 t250 t251 _ A11.out ?gw_).mono ?_); (case gw_ => first | exact HG.1 | (refine GW.below HG.1 ?_; repeat (first | (with_reducible first | exact HB.1 | apply zA | apply zN | apply z1 | refine zS ?_ GE244.1) | exact HB.1))); rintro e w26 ⟨rfl, hb⟩; refine ⟨_, rfl, ?_⟩; have n0_ := zM (kB (g := gb244) (o := .cells #[.int .i64 a0_0, .int .i64 a0_1, .string a0_2] 54 (0, 0)) (by (with_reducible repeat (first | refine kN ?_ _ | refine kD ?_ | refine kA ?_ _)); exact BK244.1) hb); have n1_ := zM (zT (by repeat (first | (with_reducible first | exact HB.1 | apply zA | apply zN | apply z1 | refine zS ?_ GE244.1) | exact HB.1)) hb); clear BK244; clear HB; have BK244 := n0_; have HB := n1_; clear n0_ n1_; (try clear hb); (try clear hb2); (try clear hk); (try clear hi)) | ((with_reducible refine gate_callee (f := 77) rfl ?_); refine goesL_ (some 14) rfl rfl Tryz.func77 (by kernel_rfl) rfl #[.bool false] rfl (by (try simp only [List.map_toArray, List.map_cons, List.map_nil]); first | done | rfl | (simp only [List.length_drop, List.length_take]; rfl)) ?_; (with_reducible refine (bitemporalref07_Bool.calls false t252 t253 t254 _ A19.out ?gw_).mono ?_); (case gw_ => first | exact HG.1 | (refine GW.below HG.1 ?_; repeat (first | (with_reducible first | exact HB.1 | apply zA | apply zN | apply z1 | refine zS ?_ GE244.1) | exact HB.1))); rintro e w27 ⟨rfl, hb⟩; refine ⟨_, rfl, ?_⟩; have n0_ := zM (kB (g := gb244) (o := .cells #[.int .i64 a0_0, .int .i64 a0_1, .string a0_2] 54 (0, 0)) (by (with_reducible repeat (first | refine kN ?_ _ | refine kD ?_ | refine kA ?_ _)); exact BK244.1) hb); have n1_ := zM (zT (by repeat (first | (with_reducible first | exact HB.1 | apply zA | apply zN | apply z1 | refine zS ?_ GE244.1) | exact HB.1)) hb); clear BK244; clear HB; have BK244 := n0_; have HB := n1_; clear n0_ n1_; (try clear hb); (try clear hb2); (try clear hk); (try clear hi)))
     go_ret
     exact ⟨by first | rfl | (simp [errW_none, errW_some] <;> rfl) | (simp [*, errW_none, errW_some] <;> rfl), by repeat (first | (with_reducible first | exact HB.1 | apply zA | apply zN | apply z1 | refine zS ?_ GE244.1) | exact HB.1)⟩
    ·rw [if_neg c20] at H
     have c20b0 : (a0_0 == t252 && (a0_1 == t253 && (a0_2.toList == t254.toList))) = false := by simpa using c20
     (try (have c20b1 : decide (a0_0 = t252 && (a0_1 == t253 && (a0_2.toList == t254.toList))) = false := by simpa using c20))
     (try (have c20b2 : (a0_0 == t252 && (a0_1 == t253 && (a0_2.toList == t254.toList))) = false := by simpa using c20))
     (try (have c20b3 : ¬ (a0_0 = t252 && (a0_1 == t253 && (a0_2.toList == t254.toList))) := by simpa using c20))
     clear c20
     by_cases c28 : a0_0 = 1
     ·rw [if_pos c28] at H
      have c28b0 : (a0_0 == 1) = true := beq_iff_eq.mpr c28
      have c28b1 : (a0_0 != 1) = false := bne_eq_false_iff_eq.mpr c28
      clear c28
      replace H := Option.bind_eq_some_iff.mp H
      obtain ⟨t255, A290, H⟩ := H
      have A29 := zM A290
      clear A290
      obtain rfl := Option.some.inj H
      go_enter Tryz.func57, Tryz.ntmps57
      go_wp2_with (first | ((with_reducible refine gate_dst (N := 1) rfl ?_); refine box_event ?hg (N := 1) ?hd (cs := #[.int .i64 a0_0, .int .i64 a0_1, .string a0_2]) (t := 54) ?hr ?_; (case hd => rfl); (case hg => rfl); (case hr => first | (go_simp; done) | (go_simp; rfl)); intro gb244 hg w30 hbox hb; have n0_ := zM (zT (by repeat (first | (with_reducible first | exact HB.1 | apply zA | apply zN | apply z1) | exact HB.1)) hb); have n1_ := zM (hbox); have n2_ := zM ((by rw [hg]; exact (zZ (by repeat (first | (with_reducible first | exact HB.1 | apply zA | apply zN | apply z1) | exact HB.1))) : w.heap.size ≤ gb244)); have n3_ := n2_; clear HB; have HB := n0_; have BK244 := n1_; have GW244 := n2_; have GE244 := n3_; clear n0_ n1_ n2_ n3_; clear hb hbox hg; have hcz31_0 : w30.cell? ⟨gb244, 0, none⟩ = some (.int .i64 a0_0) := (kC BK244.1 0).trans rfl; have hcz31_1 : w30.cell? ⟨gb244, 1, none⟩ = some (.int .i64 a0_1) := (kC BK244.1 1).trans rfl; have hcz31_2 : w30.cell? ⟨gb244, 2, none⟩ = some (.string a0_2) := (kC BK244.1 2).trans rfl; have hfz31_0 := kF BK244.1 0; have hfz31_1 := kF BK244.1 1; have hfz31_2 := kF BK244.1 2) | ((with_reducible refine gate_callee (f := 68) rfl ?_); refine goesL_ (some 4) rfl rfl Tryz.func68 (by kernel_rfl) rfl #[.agg #[.int .i64 a0_0, .int .i64 a0_1, .string a0_2]] rfl (by (try simp only [List.map_toArray, List.map_cons, List.map_nil]); first | done | rfl | (simp only [List.length_drop, List.length_take]; rfl)) ?_; (with_reducible refine (bitemporalref07_Valid.calls k a0_0 a0_1 a0_2 true _ A2.out ?gw_).mono ?_); (case gw_ => first | exact HG.1 | (refine GW.below HG.1 ?_; repeat (first | (with_reducible first | exact HB.1 | apply zA | apply zN | apply z1 | refine zS ?_ GE244.1) | exact HB.1))); rintro e w32 ⟨rfl, hb⟩; refine ⟨_, rfl, ?_⟩; have n0_ := zM (kB (g := gb244) (o := .cells #[.int .i64 a0_0, .int .i64 a0_1, .string a0_2] 54 (0, 0)) (by (with_reducible repeat (first | refine kN ?_ _ | refine kD ?_ | refine kA ?_ _)); exact BK244.1) hb); have n1_ := zM (zT (by repeat (first | (with_reducible first | exact HB.1 | apply zA | apply zN | apply z1 | refine zS ?_ GE244.1) | exact HB.1)) hb); clear BK244; clear HB; have BK244 := n0_; have HB := n1_; clear n0_ n1_; (try clear hb); (try clear hb2); (try clear hk); (try clear hi); have hcz33_0 : w32.cell? ⟨gb244, 0, none⟩ = some (.int .i64 a0_0) := (kC BK244.1 0).trans rfl; have hcz33_1 : w32.cell? ⟨gb244, 1, none⟩ = some (.int .i64 a0_1) := (kC BK244.1 1).trans rfl; have hcz33_2 : w32.cell? ⟨gb244, 2, none⟩ = some (.string a0_2) := (kC BK244.1 2).trans rfl; have hfz33_0 := kF BK244.1 0; have hfz33_1 := kF BK244.1 1; have hfz33_2 := kF BK244.1 2) | ((with_reducible refine gate_callee (f := 69) rfl ?_); refine goesL_ (some 8) rfl rfl Tryz.func69 (by kernel_rfl) rfl #[] rfl (by (try simp only [List.map_toArray, List.map_cons, List.map_nil]); first | done | rfl | (simp only [List.length_drop, List.length_take]; rfl)) ?_; (with_reducible refine (bitemporalref07_Null.calls  t246 t247 t248 _ A4.out ?gw_).mono ?_); (case gw_ => first | exact HG.1 | (refine GW.below HG.1 ?_; repeat (first | (with_reducible first | exact HB.1 | apply zA | apply zN | apply z1 | refine zS ?_ GE244.1) | exact HB.1))); rintro e w34 ⟨rfl, hb⟩; refine ⟨_, rfl, ?_⟩; have n0_ := zM (kB (g := gb244) (o := .cells #[.int .i64 a0_0, .int .i64 a0_1, .string a0_2] 54 (0, 0)) (by (with_reducible repeat (first | refine kN ?_ _ | refine kD ?_ | refine kA ?_ _)); exact BK244.1) hb); have n1_ := zM (zT (by repeat (first | (with_reducible first | exact HB.1 | apply zA | apply zN | apply z1 | refine zS ?_ GE244.1) | exact HB.1)) hb); clear BK244; clear HB; have BK244 := n0_; have HB := n1_; clear n0_ n1_; (try clear hb); (try clear hb2); (try clear hk); (try clear hi)) | ((with_reducible refine gate_callee (f := 77) rfl ?_); refine goesL_ (some 11) rfl rfl Tryz.func77 (by kernel_rfl) rfl #[.bool true] rfl (by (try simp only [List.map_toArray, List.map_cons, List.map_nil]); first | done | rfl | (simp only [List.length_drop, List.length_take]; rfl)) ?_; (with_reducible refine (bitemporalref07_Bool.calls true t249 t250 t251 _ A11.out ?gw_).mono ?_); (case gw_ => first | exact HG.1 | (refine GW.below HG.1 ?_; repeat (first | (with_reducible first | exact HB.1 | apply zA | apply zN | apply z1 | refine zS ?_ GE244.1) | exact HB.1))); rintro e w35 ⟨rfl, hb⟩; refine ⟨_, rfl, ?_⟩; have n0_ := zM (kB (g := gb244) (o := .cells #[.int .i64 a0_0, .int .i64 a0_1, .string a0_2] 54 (0, 0)) (by (with_reducible repeat (first | refine kN ?_ _ | refine kD ?_ | refine kA ?_ _)); exact BK244.1) hb); have n1_ := zM (zT (by repeat (first | (with_reducible first | exact HB.1 | apply zA | apply zN | apply z1 | refine zS ?_ GE244.1) | exact HB.1)) hb); clear BK244; clear HB; have BK244 := n0_; have HB := n1_; clear n0_ n1_; (try clear hb); (try clear hb2); (try clear hk); (try clear hi)) | ((with_reducible refine gate_callee (f := 77) rfl ?_); refine goesL_ (some 14) rfl rfl Tryz.func77 (by kernel_rfl) rfl #[.bool false] rfl (by (try simp only [List.map_toArray, List.map_cons, List.map_nil]); first | done | rfl | (simp only [List.length_drop, List.length_take]; rfl)) ?_; (with_reducible refine (bitemporalref07_Bool.calls false t252 t253 t254 _ A19.out ?gw_).mono ?_); (case gw_ => first | exact HG.1 | (refine GW.below HG.1 ?_; repeat (first | (with_reducible first | exact HB.1 | apply zA | apply zN | apply z1 | refine zS ?_ GE244.1) | exact HB.1))); rintro e w36 ⟨rfl, hb⟩; refine ⟨_, rfl, ?_⟩; have n0_ := zM (kB (g := gb244) (o := .cells #[.int .i64 a0_0, .int .i64 a0_1, .string a0_2] 54 (0, 0)) (by (with_reducible repeat (first | refine kN ?_ _ | refine kD ?_ | refine kA ?_ _)); exact BK244.1) hb); have n1_ := zM (zT (by repeat (first | (with_reducible first | exact HB.1 | apply zA | apply zN | apply z1 | refine zS ?_ GE244.1) | exact HB.1)) hb); clear BK244; clear HB; have BK244 := n0_; have HB := n1_; clear n0_ n1_; (try clear hb); (try clear hb2); (try clear hk); (try clear hi); have hcz37_0 : w36.cell? ⟨gb244, 0, none⟩ = some (.int .i64 a0_0) := (kC BK244.1 0).trans rfl; have hcz37_1 : w36.cell? ⟨gb244, 1, none⟩ = some (.int .i64 a0_1) := (kC BK244.1 1).trans rfl; have hcz37_2 : w36.cell? ⟨gb244, 2, none⟩ = some (.string a0_2) := (kC BK244.1 2).trans rfl; have hfz37_0 := kF BK244.1 0; have hfz37_1 := kF BK244.1 1; have hfz37_2 := kF BK244.1 2) | ((with_reducible refine gate_callee (f := 36) rfl ?_); refine goesL_ (some 21) rfl rfl Tryz.func36 (by kernel_rfl) rfl #[.int .i64 a0_1] rfl (by (try simp only [List.map_toArray, List.map_cons, List.map_nil]); first | done | rfl | (simp only [List.length_drop, List.length_take]; rfl)) ?_; (with_reducible refine (bitemporalref07_Number.calls k a0_1 t255 _ A29.out ?gw_).mono ?_); (case gw_ => first | exact HG.1 | (refine GW.below HG.1 ?_; repeat (first | (with_reducible first | exact HB.1 | apply zA | apply zN | apply z1 | refine zS ?_ GE244.1) | exact HB.1))); rintro e w' ⟨rfl, ⟨nd, rfl⟩⟩; refine ⟨_, rfl, ?_⟩))
      go_ret
      exact ⟨by first | rfl | (simp [errW_none, errW_some] <;> rfl) | (simp [*, errW_none, errW_some] <;> rfl), by repeat (first | (with_reducible first | exact HB.1 | apply zA | apply zN | apply z1 | refine zS ?_ GE244.1) | exact HB.1)⟩
     ·rw [if_neg c28] at H
      have c28b0 : (a0_0 == 1) = false := beq_eq_false_iff_ne.mpr c28
      have c28b1 : (a0_0 != 1) = true := bne_iff_ne.mpr c28
      replace H := Option.bind_eq_some_iff.mp H
      obtain ⟨t256, A380, H⟩ := H
      have A38 := zM A380
      clear A380
      obtain rfl := Option.some.inj H
      go_enter Tryz.func57, Tryz.ntmps57
      go_wp2_with (first | ((with_reducible refine gate_dst (N := 1) rfl ?_); refine box_event ?hg (N := 1) ?hd (cs := #[.int .i64 a0_0, .int .i64 a0_1, .string a0_2]) (t := 54) ?hr ?_; (case hd => rfl); (case hg => rfl); (case hr => first | (go_simp; done) | (go_simp; rfl)); intro gb244 hg w39 hbox hb; have n0_ := zM (zT (by repeat (first | (with_reducible first | exact HB.1 | apply zA | apply zN | apply z1) | exact HB.1)) hb); have n1_ := zM (hbox); have n2_ := zM ((by rw [hg]; exact (zZ (by repeat (first | (with_reducible first | exact HB.1 | apply zA | apply zN | apply z1) | exact HB.1))) : w.heap.size ≤ gb244)); have n3_ := n2_; clear HB; have HB := n0_; have BK244 := n1_; have GW244 := n2_; have GE244 := n3_; clear n0_ n1_ n2_ n3_; clear hb hbox hg; have hcz40_0 : w39.cell? ⟨gb244, 0, none⟩ = some (.int .i64 a0_0) := (kC BK244.1 0).trans rfl; have hcz40_1 : w39.cell? ⟨gb244, 1, none⟩ = some (.int .i64 a0_1) := (kC BK244.1 1).trans rfl; have hcz40_2 : w39.cell? ⟨gb244, 2, none⟩ = some (.string a0_2) := (kC BK244.1 2).trans rfl; have hfz40_0 := kF BK244.1 0; have hfz40_1 := kF BK244.1 1; have hfz40_2 := kF BK244.1 2) | ((with_reducible refine gate_callee (f := 68) rfl ?_); refine goesL_ (some 4) rfl rfl Tryz.func68 (by kernel_rfl) rfl #[.agg #[.int .i64 a0_0, .int .i64 a0_1, .string a0_2]] rfl (by (try simp only [List.map_toArray, List.map_cons, List.map_nil]); first | done | rfl | (simp only [List.length_drop, List.length_take]; rfl)) ?_; (with_reducible refine (bitemporalref07_Valid.calls k a0_0 a0_1 a0_2 true _ A2.out ?gw_).mono ?_); (case gw_ => first | exact HG.1 | (refine GW.below HG.1 ?_; repeat (first | (with_reducible first | exact HB.1 | apply zA | apply zN | apply z1 | refine zS ?_ GE244.1) | exact HB.1))); rintro e w41 ⟨rfl, hb⟩; refine ⟨_, rfl, ?_⟩; have n0_ := zM (kB (g := gb244) (o := .cells #[.int .i64 a0_0, .int .i64 a0_1, .string a0_2] 54 (0, 0)) (by (with_reducible repeat (first | refine kN ?_ _ | refine kD ?_ | refine kA ?_ _)); exact BK244.1) hb); have n1_ := zM (zT (by repeat (first | (with_reducible first | exact HB.1 | apply zA | apply zN | apply z1 | refine zS ?_ GE244.1) | exact HB.1)) hb); clear BK244; clear HB; have BK244 := n0_; have HB := n1_; clear n0_ n1_; (try clear hb); (try clear hb2); (try clear hk); (try clear hi); have hcz42_0 : w41.cell? ⟨gb244, 0, none⟩ = some (.int .i64 a0_0) := (kC BK244.1 0).trans rfl; have hcz42_1 : w41.cell? ⟨gb244, 1, none⟩ = some (.int .i64 a0_1) := (kC BK244.1 1).trans rfl; have hcz42_2 : w41.cell? ⟨gb244, 2, none⟩ = some (.string a0_2) := (kC BK244.1 2).trans rfl; have hfz42_0 := kF BK244.1 0; have hfz42_1 := kF BK244.1 1; have hfz42_2 := kF BK244.1 2) | ((with_reducible refine gate_callee (f := 69) rfl ?_); refine goesL_ (some 8) rfl rfl Tryz.func69 (by kernel_rfl) rfl #[] rfl (by (try simp only [List.map_toArray, List.map_cons, List.map_nil]); first | done | rfl | (simp only [List.length_drop, List.length_take]; rfl)) ?_; (with_reducible refine (bitemporalref07_Null.calls  t246 t247 t248 _ A4.out ?gw_).mono ?_); (case gw_ => first | exact HG.1 | (refine GW.below HG.1 ?_; repeat (first | (with_reducible first | exact HB.1 | apply zA | apply zN | apply z1 | refine zS ?_ GE244.1) | exact HB.1))); rintro e w43 ⟨rfl, hb⟩; refine ⟨_, rfl, ?_⟩; have n0_ := zM (kB (g := gb244) (o := .cells #[.int .i64 a0_0, .int .i64 a0_1, .string a0_2] 54 (0, 0)) (by (with_reducible repeat (first | refine kN ?_ _ | refine kD ?_ | refine kA ?_ _)); exact BK244.1) hb); have n1_ := zM (zT (by repeat (first | (with_reducible first | exact HB.1 | apply zA | apply zN | apply z1 | refine zS ?_ GE244.1) | exact HB.1)) hb); clear BK244; clear HB; have BK244 := n0_; have HB := n1_; clear n0_ n1_; (try clear hb); (try clear hb2); (try clear hk); (try clear hi)) | ((with_reducible refine gate_callee (f := 77) rfl ?_); refine goesL_ (some 11) rfl rfl Tryz.func77 (by kernel_rfl) rfl #[.bool true] rfl (by (try simp only [List.map_toArray, List.map_cons, List.map_nil]); first | done | rfl | (simp only [List.length_drop, List.length_take]; rfl)) ?_; (with_reducible refine (bitemporalref07_Bool.calls true t249 t250 t251 _ A11.out ?gw_).mono ?_); (case gw_ => first | exact HG.1 | (refine GW.below HG.1 ?_; repeat (first | (with_reducible first | exact HB.1 | apply zA | apply zN | apply z1 | refine zS ?_ GE244.1) | exact HB.1))); rintro e w44 ⟨rfl, hb⟩; refine ⟨_, rfl, ?_⟩; have n0_ := zM (kB (g := gb244) (o := .cells #[.int .i64 a0_0, .int .i64 a0_1, .string a0_2] 54 (0, 0)) (by (with_reducible repeat (first | refine kN ?_ _ | refine kD ?_ | refine kA ?_ _)); exact BK244.1) hb); have n1_ := zM (zT (by repeat (first | (with_reducible first | exact HB.1 | apply zA | apply zN | apply z1 | refine zS ?_ GE244.1) | exact HB.1)) hb); clear BK244; clear HB; have BK244 := n0_; have HB := n1_; clear n0_ n1_; (try clear hb); (try clear hb2); (try clear hk); (try clear hi)) | ((with_reducible refine gate_callee (f := 77) rfl ?_); refine goesL_ (some 14) rfl rfl Tryz.func77 (by kernel_rfl) rfl #[.bool false] rfl (by (try simp only [List.map_toArray, List.map_cons, List.map_nil]); first | done | rfl | (simp only [List.length_drop, List.length_take]; rfl)) ?_; (with_reducible refine (bitemporalref07_Bool.calls false t252 t253 t254 _ A19.out ?gw_).mono ?_); (case gw_ => first | exact HG.1 | (refine GW.below HG.1 ?_; repeat (first | (with_reducible first | exact HB.1 | apply zA | apply zN | apply z1 | refine zS ?_ GE244.1) | exact HB.1))); rintro e w45 ⟨rfl, hb⟩; refine ⟨_, rfl, ?_⟩; have n0_ := zM (kB (g := gb244) (o := .cells #[.int .i64 a0_0, .int .i64 a0_1, .string a0_2] 54 (0, 0)) (by (with_reducible repeat (first | refine kN ?_ _ | refine kD ?_ | refine kA ?_ _)); exact BK244.1) hb); have n1_ := zM (zT (by repeat (first | (with_reducible first | exact HB.1 | apply zA | apply zN | apply z1 | refine zS ?_ GE244.1) | exact HB.1)) hb); clear BK244; clear HB; have BK244 := n0_; have HB := n1_; clear n0_ n1_; (try clear hb); (try clear hb2); (try clear hk); (try clear hi); have hcz46_0 : w45.cell? ⟨gb244, 0, none⟩ = some (.int .i64 a0_0) := (kC BK244.1 0).trans rfl; have hcz46_1 : w45.cell? ⟨gb244, 1, none⟩ = some (.int .i64 a0_1) := (kC BK244.1 1).trans rfl; have hcz46_2 : w45.cell? ⟨gb244, 2, none⟩ = some (.string a0_2) := (kC BK244.1 2).trans rfl; have hfz46_0 := kF BK244.1 0; have hfz46_1 := kF BK244.1 1; have hfz46_2 := kF BK244.1 2) | ((with_reducible refine gate_callee (f := 78) rfl ?_); refine goesL_ (some 24) rfl rfl Tryz.func78 (by kernel_rfl) rfl #[.string a0_2] rfl (by (try simp only [List.map_toArray, List.map_cons, List.map_nil]); first | done | rfl | (simp only [List.length_drop, List.length_take]; rfl)) ?_; (with_reducible refine (bitemporalref07_Quote.calls k a0_2 t256 _ A38.out ?gw_).mono ?_); (case gw_ => first | exact HG.1 | (refine GW.below HG.1 ?_; repeat (first | (with_reducible first | exact HB.1 | apply zA | apply zN | apply z1 | refine zS ?_ GE244.1) | exact HB.1))); rintro e w' ⟨rfl, ⟨nd, rfl⟩⟩; refine ⟨_, rfl, ?_⟩))
      go_ret
      exact ⟨by first | rfl | (simp [errW_none, errW_some] <;> rfl) | (simp [*, errW_none, errW_some] <;> rfl), by repeat (first | (with_reducible first | exact HB.1 | apply zA | apply zN | apply z1 | refine zS ?_ GE244.1) | exact HB.1)⟩
 ·replace c3 := Bool.eq_false_iff.mpr c3
  subst c3
  have H1 : (some (⟨#[]⟩ : ByteArray)) = some r := by rw [if_neg (show ¬ (false = true) by decide)] at H; exact H
  clear H
  have H := H1
  clear H1
  obtain rfl := Option.some.inj H
  go_enter Tryz.func57, Tryz.ntmps57
  go_wp2_with (first | ((with_reducible refine gate_dst (N := 1) rfl ?_); refine box_event ?hg (N := 1) ?hd (cs := #[.int .i64 a0_0, .int .i64 a0_1, .string a0_2]) (t := 54) ?hr ?_; (case hd => rfl); (case hg => rfl); (case hr => first | (go_simp; done) | (go_simp; rfl)); intro gb244 hg w47 hbox hb; have n0_ := zM (zT (by repeat (first | (with_reducible first | exact HB.1 | apply zA | apply zN | apply z1) | exact HB.1)) hb); have n1_ := zM (hbox); have n2_ := zM ((by rw [hg]; exact (zZ (by repeat (first | (with_reducible first | exact HB.1 | apply zA | apply zN | apply z1) | exact HB.1))) : w.heap.size ≤ gb244)); have n3_ := n2_; clear HB; have HB := n0_; have BK244 := n1_; have GW244 := n2_; have GE244 := n3_; clear n0_ n1_ n2_ n3_; clear hb hbox hg; have hcz48_0 : w47.cell? ⟨gb244, 0, none⟩ = some (.int .i64 a0_0) := (kC BK244.1 0).trans rfl; have hcz48_1 : w47.cell? ⟨gb244, 1, none⟩ = some (.int .i64 a0_1) := (kC BK244.1 1).trans rfl; have hcz48_2 : w47.cell? ⟨gb244, 2, none⟩ = some (.string a0_2) := (kC BK244.1 2).trans rfl; have hfz48_0 := kF BK244.1 0; have hfz48_1 := kF BK244.1 1; have hfz48_2 := kF BK244.1 2) | ((with_reducible refine gate_callee (f := 68) rfl ?_); refine goesL_ (some 4) rfl rfl Tryz.func68 (by kernel_rfl) rfl #[.agg #[.int .i64 a0_0, .int .i64 a0_1, .string a0_2]] rfl (by (try simp only [List.map_toArray, List.map_cons, List.map_nil]); first | done | rfl | (simp only [List.length_drop, List.length_take]; rfl)) ?_; (with_reducible refine (bitemporalref07_Valid.calls k a0_0 a0_1 a0_2 false _ A2.out ?gw_).mono ?_); (case gw_ => first | exact HG.1 | (refine GW.below HG.1 ?_; repeat (first | (with_reducible first | exact HB.1 | apply zA | apply zN | apply z1 | refine zS ?_ GE244.1) | exact HB.1))); rintro e w49 ⟨rfl, hb⟩; refine ⟨_, rfl, ?_⟩; have n0_ := zM (kB (g := gb244) (o := .cells #[.int .i64 a0_0, .int .i64 a0_1, .string a0_2] 54 (0, 0)) (by (with_reducible repeat (first | refine kN ?_ _ | refine kD ?_ | refine kA ?_ _)); exact BK244.1) hb); have n1_ := zM (zT (by repeat (first | (with_reducible first | exact HB.1 | apply zA | apply zN | apply z1 | refine zS ?_ GE244.1) | exact HB.1)) hb); clear BK244; clear HB; have BK244 := n0_; have HB := n1_; clear n0_ n1_; (try clear hb); (try clear hb2); (try clear hk); (try clear hi)))
  go_ret
  exact ⟨by first | rfl | (simp [errW_none, errW_some] <;> rfl) | (simp [*, errW_none, errW_some] <;> rfl), by repeat (first | (with_reducible first | exact HB.1 | apply zA | apply zN | apply z1 | refine zS ?_ GE244.1) | exact HB.1)⟩

/-! ### bitemporalref01_Text: function 34 -/
def bitemporalref01_Text.f (k : Nat) (a0_0 : Int) (a0_1 : Int) : Option (ByteArray) := (bitemporalref01_Valid.f a0_0 a0_1).bind fun t270 => (if t270 = true then (if a0_1 < 1099511627776 then ((bitemporalref01_Number.f k a0_1).bind fun t271 => ((bitemporalref01_Number.f k a0_0).bind fun t272 => (if 1 + t272.size ≤ 9223372036854775807 then (if ((⟨#[91]⟩ : ByteArray) ++ t272).size + 2 ≤ 9223372036854775807 then (if (((⟨#[91]⟩ : ByteArray) ++ t272) ++ (⟨#[44, 32]⟩ : ByteArray)).size + t271.size ≤ 9223372036854775807 then (if ((((⟨#[91]⟩ : ByteArray) ++ t272) ++ (⟨#[44, 32]⟩ : ByteArray)) ++ t271).size + 1 ≤ 9223372036854775807 then (some (((((⟨#[91]⟩ : ByteArray) ++ t272) ++ (⟨#[44, 32]⟩ : ByteArray)) ++ t271) ++ (⟨#[41]⟩ : ByteArray))) else (none)) else (none)) else (none)) else (none)))) else ((bitemporalref01_Number.f k a0_0).bind fun t273 => (if 1 + t273.size ≤ 9223372036854775807 then (if ((⟨#[91]⟩ : ByteArray) ++ t273).size + 2 ≤ 9223372036854775807 then (if (((⟨#[91]⟩ : ByteArray) ++ t273) ++ (⟨#[44, 32]⟩ : ByteArray)).size + 7 ≤ 9223372036854775807 then (if ((((⟨#[91]⟩ : ByteArray) ++ t273) ++ (⟨#[44, 32]⟩ : ByteArray)) ++ (⟨#[102, 111, 114, 101, 118, 101, 114]⟩ : ByteArray)).size + 1 ≤ 9223372036854775807 then (some (((((⟨#[91]⟩ : ByteArray) ++ t273) ++ (⟨#[44, 32]⟩ : ByteArray)) ++ (⟨#[102, 111, 114, 101, 118, 101, 114]⟩ : ByteArray)) ++ (⟨#[41]⟩ : ByteArray))) else (none)) else (none)) else (none)) else (none)))) else (some (⟨#[]⟩ : ByteArray)))
theorem bitemporalref01_Text.mono : ∀ a0 a1 k, LeO (bitemporalref01_Text.f k a0 a1) (bitemporalref01_Text.f (k + 1) a0 a1) := by
  intro a0 a1 k
  unfold bitemporalref01_Text.f
  repeat' first
      | (with_reducible exact bitemporalref01_Number.mono _ _)
      | (with_reducible exact LeO.refl _)
      | (with_reducible exact LeO.none _)
      | (with_reducible refine LeO.ite ?_ ?_)
      | (with_reducible refine LeO.bind ?_ (fun _ => ?_))
      | exact bitemporalref01_Number.mono _ _
      | exact LeO.none _
      | refine LeO.ite ?_ ?_
      | refine LeO.bind ?_ (fun _ => ?_)
set_option maxHeartbeats 8000000 in
set_option maxRecDepth 100000 in
theorem bitemporalref01_Text.calls (k : Nat) (a0_0 : Int) (a0_1 : Int) (r : ByteArray) (w : World) (h : bitemporalref01_Text.f k a0_0 a0_1 = some r) (hG : GW w) :
  Calls Tryz.prog 34 #[.agg #[.int .i64 a0_0, .int .i64 a0_1]] w fun e w' => e = .returned (.string r) ∧ Below w.heap.size w w' := by
 have HG := zM hG
 clear hG
 have hu33 := Tryz.underlying33
 have HB := zM (Below.refl w.heap.size w)
 have H : ((bitemporalref01_Valid.f a0_0 a0_1).bind fun t270 => (if t270 = true then (if a0_1 < 1099511627776 then ((bitemporalref01_Number.f k a0_1).bind fun t271 => ((bitemporalref01_Number.f k a0_0).bind fun t272 => (if 1 + t272.size ≤ 9223372036854775807 then (if ((⟨#[91]⟩ : ByteArray) ++ t272).size + 2 ≤ 9223372036854775807 then (if (((⟨#[91]⟩ : ByteArray) ++ t272) ++ (⟨#[44, 32]⟩ : ByteArray)).size + t271.size ≤ 9223372036854775807 then (if ((((⟨#[91]⟩ : ByteArray) ++ t272) ++ (⟨#[44, 32]⟩ : ByteArray)) ++ t271).size + 1 ≤ 9223372036854775807 then (some (((((⟨#[91]⟩ : ByteArray) ++ t272) ++ (⟨#[44, 32]⟩ : ByteArray)) ++ t271) ++ (⟨#[41]⟩ : ByteArray))) else (none)) else (none)) else (none)) else (none)))) else ((bitemporalref01_Number.f k a0_0).bind fun t273 => (if 1 + t273.size ≤ 9223372036854775807 then (if ((⟨#[91]⟩ : ByteArray) ++ t273).size + 2 ≤ 9223372036854775807 then (if (((⟨#[91]⟩ : ByteArray) ++ t273) ++ (⟨#[44, 32]⟩ : ByteArray)).size + 7 ≤ 9223372036854775807 then (if ((((⟨#[91]⟩ : ByteArray) ++ t273) ++ (⟨#[44, 32]⟩ : ByteArray)) ++ (⟨#[102, 111, 114, 101, 118, 101, 114]⟩ : ByteArray)).size + 1 ≤ 9223372036854775807 then (some (((((⟨#[91]⟩ : ByteArray) ++ t273) ++ (⟨#[44, 32]⟩ : ByteArray)) ++ (⟨#[102, 111, 114, 101, 118, 101, 114]⟩ : ByteArray)) ++ (⟨#[41]⟩ : ByteArray))) else (none)) else (none)) else (none)) else (none)))) else (some (⟨#[]⟩ : ByteArray)))) = some r := h
 clear h
 replace H := Option.bind_eq_some_iff.mp H
 obtain ⟨t270, A20, H⟩ := H
 have A2 := zM A20
 clear A20
 by_cases c3 : t270 = true
 ·subst c3
  have H1 : (if a0_1 < 1099511627776 then ((bitemporalref01_Number.f k a0_1).bind fun t271 => ((bitemporalref01_Number.f k a0_0).bind fun t272 => (if 1 + t272.size ≤ 9223372036854775807 then (if ((⟨#[91]⟩ : ByteArray) ++ t272).size + 2 ≤ 9223372036854775807 then (if (((⟨#[91]⟩ : ByteArray) ++ t272) ++ (⟨#[44, 32]⟩ : ByteArray)).size + t271.size ≤ 9223372036854775807 then (if ((((⟨#[91]⟩ : ByteArray) ++ t272) ++ (⟨#[44, 32]⟩ : ByteArray)) ++ t271).size + 1 ≤ 9223372036854775807 then (some (((((⟨#[91]⟩ : ByteArray) ++ t272) ++ (⟨#[44, 32]⟩ : ByteArray)) ++ t271) ++ (⟨#[41]⟩ : ByteArray))) else (none)) else (none)) else (none)) else (none)))) else ((bitemporalref01_Number.f k a0_0).bind fun t273 => (if 1 + t273.size ≤ 9223372036854775807 then (if ((⟨#[91]⟩ : ByteArray) ++ t273).size + 2 ≤ 9223372036854775807 then (if (((⟨#[91]⟩ : ByteArray) ++ t273) ++ (⟨#[44, 32]⟩ : ByteArray)).size + 7 ≤ 9223372036854775807 then (if ((((⟨#[91]⟩ : ByteArray) ++ t273) ++ (⟨#[44, 32]⟩ : ByteArray)) ++ (⟨#[102, 111, 114, 101, 118, 101, 114]⟩ : ByteArray)).size + 1 ≤ 9223372036854775807 then (some (((((⟨#[91]⟩ : ByteArray) ++ t273) ++ (⟨#[44, 32]⟩ : ByteArray)) ++ (⟨#[102, 111, 114, 101, 118, 101, 114]⟩ : ByteArray)) ++ (⟨#[41]⟩ : ByteArray))) else (none)) else (none)) else (none)) else (none)))) = some r := by rw [if_pos rfl] at H; exact H
  clear H
  have H := H1
  clear H1
  by_cases c4 : a0_1 < 1099511627776
  ·rw [if_pos c4] at H
   have c4b0 : decide (a0_1 < 1099511627776) = true := decide_eq_true c4
   clear c4
   replace H := Option.bind_eq_some_iff.mp H
   obtain ⟨t271, A50, H⟩ := H
   have A5 := zM A50
   clear A50
   replace H := Option.bind_eq_some_iff.mp H
   obtain ⟨t272, A60, H⟩ := H
   have A6 := zM A60
   clear A60
   by_cases c7 : 1 + t272.size ≤ 9223372036854775807
   case neg =>
    rw [if_neg c7] at H
    exact absurd H (by simp)
   rw [if_pos c7] at H
   have c7b0 := eq_true c7
   have c7b1 := decide_eq_true c7
   try have c7b2 := eq_false (Nat.not_lt.2 c7)
   by_cases c8 : ((⟨#[91]⟩ : ByteArray) ++ t272).size + 2 ≤ 9223372036854775807
   case neg =>
    rw [if_neg c8] at H
    exact absurd H (by simp)
   rw [if_pos c8] at H
   have c8b0 := eq_true c8
   have c8b1 := decide_eq_true c8
   try have c8b2 := eq_false (Nat.not_lt.2 c8)
   try (have c8b3 := c8b2; simp only [ByteArray.size_append, size_lit, List.size_toArray, List.length_cons, List.length_nil, Nat.zero_add] at c8b3)
   by_cases c9 : (((⟨#[91]⟩ : ByteArray) ++ t272) ++ (⟨#[44, 32]⟩ : ByteArray)).size + t271.size ≤ 9223372036854775807
   case neg =>
    rw [if_neg c9] at H
    exact absurd H (by simp)
   rw [if_pos c9] at H
   have c9b0 := eq_true c9
   have c9b1 := decide_eq_true c9
   try have c9b2 := eq_false (Nat.not_lt.2 c9)
   try (have c9b3 := c9b2; simp only [ByteArray.size_append, size_lit, List.size_toArray, List.length_cons, List.length_nil, Nat.zero_add] at c9b3)
   by_cases c10 : ((((⟨#[91]⟩ : ByteArray) ++ t272) ++ (⟨#[44, 32]⟩ : ByteArray)) ++ t271).size + 1 ≤ 9223372036854775807
   case neg =>
    rw [if_neg c10] at H
    exact absurd H (by simp)
   rw [if_pos c10] at H
   have c10b0 := eq_true c10
   have c10b1 := decide_eq_true c10
   try have c10b2 := eq_false (Nat.not_lt.2 c10)
   try (have c10b3 := c10b2; simp only [ByteArray.size_append, size_lit, List.size_toArray, List.length_cons, List.length_nil, Nat.zero_add] at c10b3)
   obtain rfl := Option.some.inj H
   go_enter Tryz.func34, Tryz.ntmps34
   go_wp2_with (first | ((with_reducible refine gate_dst (N := 1) rfl ?_); refine box_event ?hg (N := 1) ?hd (cs := #[.int .i64 a0_0, .int .i64 a0_1]) (t := 33) ?hr ?_; (case hd => rfl); (case hg => rfl); (case hr => first | (go_simp; done) | (go_simp; rfl)); intro gb269 hg w11 hbox hb; have n0_ := zM (zT (by repeat (first | (with_reducible first | exact HB.1 | apply zA | apply zN | apply z1) | exact HB.1)) hb); have n1_ := zM (hbox); have n2_ := zM ((by rw [hg]; exact (zZ (by repeat (first | (with_reducible first | exact HB.1 | apply zA | apply zN | apply z1) | exact HB.1))) : w.heap.size ≤ gb269)); have n3_ := n2_; clear HB; have HB := n0_; have BK269 := n1_; have GW269 := n2_; have GE269 := n3_; clear n0_ n1_ n2_ n3_; clear hb hbox hg; have hcz12_0 : w11.cell? ⟨gb269, 0, none⟩ = some (.int .i64 a0_0) := (kC BK269.1 0).trans rfl; have hcz12_1 : w11.cell? ⟨gb269, 1, none⟩ = some (.int .i64 a0_1) := (kC BK269.1 1).trans rfl; have hfz12_0 := kF BK269.1 0; have hfz12_1 := kF BK269.1 1) | ((with_reducible refine gate_callee (f := 42) rfl ?_); refine goesL_ (some 5) rfl rfl Tryz.func42 (by kernel_rfl) rfl #[.agg #[.int .i64 a0_0, .int .i64 a0_1]] rfl (by (try simp only [List.map_toArray, List.map_cons, List.map_nil]); first | done | rfl | (simp only [List.length_drop, List.length_take]; rfl)) ?_; (with_reducible refine (bitemporalref01_Valid.calls a0_0 a0_1 true _ A2.out ?gw_).mono ?_); (case gw_ => first | exact HG.1 | (refine GW.below HG.1 ?_; repeat (first | (with_reducible first | exact HB.1 | apply zA | apply zN | apply z1 | refine zS ?_ GE269.1) | exact HB.1))); rintro e w13 ⟨rfl, hb⟩; refine ⟨_, rfl, ?_⟩; have n0_ := zM (kB (g := gb269) (o := .cells #[.int .i64 a0_0, .int .i64 a0_1] 33 (0, 0)) (by (with_reducible repeat (first | refine kN ?_ _ | refine kD ?_ | refine kA ?_ _)); exact BK269.1) hb); have n1_ := zM (zT (by repeat (first | (with_reducible first | exact HB.1 | apply zA | apply zN | apply z1 | refine zS ?_ GE269.1) | exact HB.1)) hb); clear BK269; clear HB; have BK269 := n0_; have HB := n1_; clear n0_ n1_; (try clear hb); (try clear hb2); (try clear hk); (try clear hi); have hcz14_0 : w13.cell? ⟨gb269, 0, none⟩ = some (.int .i64 a0_0) := (kC BK269.1 0).trans rfl; have hcz14_1 : w13.cell? ⟨gb269, 1, none⟩ = some (.int .i64 a0_1) := (kC BK269.1 1).trans rfl; have hfz14_0 := kF BK269.1 0; have hfz14_1 := kF BK269.1 1) | ((with_reducible refine gate_callee (f := 58) rfl ?_); refine goesL_ (some 12) rfl rfl Tryz.func58 (by kernel_rfl) rfl #[.int .i64 a0_1] rfl (by (try simp only [List.map_toArray, List.map_cons, List.map_nil]); first | done | rfl | (simp only [List.length_drop, List.length_take]; rfl)) ?_; (with_reducible refine (bitemporalref01_Number.calls k a0_1 t271 _ A5.out ?gw_).mono ?_); (case gw_ => first | exact HG.1 | (refine GW.below HG.1 ?_; repeat (first | (with_reducible first | exact HB.1 | apply zA | apply zN | apply z1 | refine zS ?_ GE269.1) | exact HB.1))); rintro e w' ⟨rfl, ⟨nd, rfl⟩⟩; refine ⟨_, rfl, ?_⟩) | ((with_reducible refine gate_callee (f := 58) rfl ?_); refine goesL_ (some 15) rfl rfl Tryz.func58 (by kernel_rfl) rfl #[.int .i64 a0_0] rfl (by (try simp only [List.map_toArray, List.map_cons, List.map_nil]); first | done | rfl | (simp only [List.length_drop, List.length_take]; rfl)) ?_; (with_reducible refine (bitemporalref01_Number.calls k a0_0 t272 _ A6.out ?gw_).mono ?_); (case gw_ => first | exact HG.1 | (refine GW.below HG.1 ?_; repeat (first | (with_reducible first | exact HB.1 | apply zA | apply zN | apply z1 | refine zS ?_ GE269.1) | exact HB.1))); rintro e w' ⟨rfl, ⟨nd, rfl⟩⟩; refine ⟨_, rfl, ?_⟩))
   go_ret
   exact ⟨by first | rfl | (simp [errW_none, errW_some] <;> rfl) | (simp [*, errW_none, errW_some] <;> rfl), by repeat (first | (with_reducible first | exact HB.1 | apply zA | apply zN | apply z1 | refine zS ?_ GE269.1) | exact HB.1)⟩
  ·rw [if_neg c4] at H
   have c4b0 : decide (a0_1 < 1099511627776) = false := decide_eq_false c4
   clear c4
   replace H := Option.bind_eq_some_iff.mp H
   obtain ⟨t273, A150, H⟩ := H
   have A15 := zM A150
   clear A150
   by_cases c16 : 1 + t273.size ≤ 9223372036854775807
   case neg =>
    rw [if_neg c16] at H
    exact absurd H (by simp)
   rw [if_pos c16] at H
   have c16b0 := eq_true c16
   have c16b1 := decide_eq_true c16
   try have c16b2 := eq_false (Nat.not_lt.2 c16)
   by_cases c17 : ((⟨#[91]⟩ : ByteArray) ++ t273).size + 2 ≤ 9223372036854775807
   case neg =>
    rw [if_neg c17] at H
    exact absurd H (by simp)
   rw [if_pos c17] at H
   have c17b0 := eq_true c17
   have c17b1 := decide_eq_true c17
   try have c17b2 := eq_false (Nat.not_lt.2 c17)
   try (have c17b3 := c17b2; simp only [ByteArray.size_append, size_lit, List.size_toArray, List.length_cons, List.length_nil, Nat.zero_add] at c17b3)
   by_cases c18 : (((⟨#[91]⟩ : ByteArray) ++ t273) ++ (⟨#[44, 32]⟩ : ByteArray)).size + 7 ≤ 9223372036854775807
   case neg =>
    rw [if_neg c18] at H
    exact absurd H (by simp)
   rw [if_pos c18] at H
   have c18b0 := eq_true c18
   have c18b1 := decide_eq_true c18
   try have c18b2 := eq_false (Nat.not_lt.2 c18)
   try (have c18b3 := c18b2; simp only [ByteArray.size_append, size_lit, List.size_toArray, List.length_cons, List.length_nil, Nat.zero_add] at c18b3)
   by_cases c19 : ((((⟨#[91]⟩ : ByteArray) ++ t273) ++ (⟨#[44, 32]⟩ : ByteArray)) ++ (⟨#[102, 111, 114, 101, 118, 101, 114]⟩ : ByteArray)).size + 1 ≤ 9223372036854775807
   case neg =>
    rw [if_neg c19] at H
    exact absurd H (by simp)
   rw [if_pos c19] at H
   have c19b0 := eq_true c19
   have c19b1 := decide_eq_true c19
   try have c19b2 := eq_false (Nat.not_lt.2 c19)
   try (have c19b3 := c19b2; simp only [ByteArray.size_append, size_lit, List.size_toArray, List.length_cons, List.length_nil, Nat.zero_add] at c19b3)
   obtain rfl := Option.some.inj H
   go_enter Tryz.func34, Tryz.ntmps34
   go_wp2_with (first | ((with_reducible refine gate_dst (N := 1) rfl ?_); refine box_event ?hg (N := 1) ?hd (cs := #[.int .i64 a0_0, .int .i64 a0_1]) (t := 33) ?hr ?_; (case hd => rfl); (case hg => rfl); (case hr => first | (go_simp; done) | (go_simp; rfl)); intro gb269 hg w20 hbox hb; have n0_ := zM (zT (by repeat (first | (with_reducible first | exact HB.1 | apply zA | apply zN | apply z1) | exact HB.1)) hb); have n1_ := zM (hbox); have n2_ := zM ((by rw [hg]; exact (zZ (by repeat (first | (with_reducible first | exact HB.1 | apply zA | apply zN | apply z1) | exact HB.1))) : w.heap.size ≤ gb269)); have n3_ := n2_; clear HB; have HB := n0_; have BK269 := n1_; have GW269 := n2_; have GE269 := n3_; clear n0_ n1_ n2_ n3_; clear hb hbox hg; have hcz21_0 : w20.cell? ⟨gb269, 0, none⟩ = some (.int .i64 a0_0) := (kC BK269.1 0).trans rfl; have hcz21_1 : w20.cell? ⟨gb269, 1, none⟩ = some (.int .i64 a0_1) := (kC BK269.1 1).trans rfl; have hfz21_0 := kF BK269.1 0; have hfz21_1 := kF BK269.1 1) | ((with_reducible refine gate_callee (f := 42) rfl ?_); refine goesL_ (some 5) rfl rfl Tryz.func42 (by kernel_rfl) rfl #[.agg #[.int .i64 a0_0, .int .i64 a0_1]] rfl (by (try simp only [List.map_toArray, List.map_cons, List.map_nil]); first | done | rfl | (simp only [List.length_drop, List.length_take]; rfl)) ?_; (with_reducible refine (bitemporalref01_Valid.calls a0_0 a0_1 true _ A2.out ?gw_).mono ?_); (case gw_ => first | exact HG.1 | (refine GW.below HG.1 ?_; repeat (first | (with_reducible first | exact HB.1 | apply zA | apply zN | apply z1 | refine zS ?_ GE269.1) | exact HB.1))); rintro e w22 ⟨rfl, hb⟩; refine ⟨_, rfl, ?_⟩; have n0_ := zM (kB (g := gb269) (o := .cells #[.int .i64 a0_0, .int .i64 a0_1] 33 (0, 0)) (by (with_reducible repeat (first | refine kN ?_ _ | refine kD ?_ | refine kA ?_ _)); exact BK269.1) hb); have n1_ := zM (zT (by repeat (first | (with_reducible first | exact HB.1 | apply zA | apply zN | apply z1 | refine zS ?_ GE269.1) | exact HB.1)) hb); clear BK269; clear HB; have BK269 := n0_; have HB := n1_; clear n0_ n1_; (try clear hb); (try clear hb2); (try clear hk); (try clear hi); have hcz23_0 : w22.cell? ⟨gb269, 0, none⟩ = some (.int .i64 a0_0) := (kC BK269.1 0).trans rfl; have hcz23_1 : w22.cell? ⟨gb269, 1, none⟩ = some (.int .i64 a0_1) := (kC BK269.1 1).trans rfl; have hfz23_0 := kF BK269.1 0; have hfz23_1 := kF BK269.1 1) | ((with_reducible refine gate_callee (f := 58) rfl ?_); refine goesL_ (some 15) rfl rfl Tryz.func58 (by kernel_rfl) rfl #[.int .i64 a0_0] rfl (by (try simp only [List.map_toArray, List.map_cons, List.map_nil]); first | done | rfl | (simp only [List.length_drop, List.length_take]; rfl)) ?_; (with_reducible refine (bitemporalref01_Number.calls k a0_0 t273 _ A15.out ?gw_).mono ?_); (case gw_ => first | exact HG.1 | (refine GW.below HG.1 ?_; repeat (first | (with_reducible first | exact HB.1 | apply zA | apply zN | apply z1 | refine zS ?_ GE269.1) | exact HB.1))); rintro e w' ⟨rfl, ⟨nd, rfl⟩⟩; refine ⟨_, rfl, ?_⟩))
   go_ret
   exact ⟨by first | rfl | (simp [errW_none, errW_some] <;> rfl) | (simp [*, errW_none, errW_some] <;> rfl), by repeat (first | (with_reducible first | exact HB.1 | apply zA | apply zN | apply z1 | refine zS ?_ GE269.1) | exact HB.1)⟩
 ·replace c3 := Bool.eq_false_iff.mpr c3
  subst c3
  have H1 : (some (⟨#[]⟩ : ByteArray)) = some r := by rw [if_neg (show ¬ (false = true) by decide)] at H; exact H
  clear H
  have H := H1
  clear H1
  obtain rfl := Option.some.inj H
  go_enter Tryz.func34, Tryz.ntmps34
  go_wp2_with (first | ((with_reducible refine gate_dst (N := 1) rfl ?_); refine box_event ?hg (N := 1) ?hd (cs := #[.int .i64 a0_0, .int .i64 a0_1]) (t := 33) ?hr ?_; (case hd => rfl); (case hg => rfl); (case hr => first | (go_simp; done) | (go_simp; rfl)); intro gb269 hg w24 hbox hb; have n0_ := zM (zT (by repeat (first | (with_reducible first | exact HB.1 | apply zA | apply zN | apply z1) | exact HB.1)) hb); have n1_ := zM (hbox); have n2_ := zM ((by rw [hg]; exact (zZ (by repeat (first | (with_reducible first | exact HB.1 | apply zA | apply zN | apply z1) | exact HB.1))) : w.heap.size ≤ gb269)); have n3_ := n2_; clear HB; have HB := n0_; have BK269 := n1_; have GW269 := n2_; have GE269 := n3_; clear n0_ n1_ n2_ n3_; clear hb hbox hg; have hcz25_0 : w24.cell? ⟨gb269, 0, none⟩ = some (.int .i64 a0_0) := (kC BK269.1 0).trans rfl; have hcz25_1 : w24.cell? ⟨gb269, 1, none⟩ = some (.int .i64 a0_1) := (kC BK269.1 1).trans rfl; have hfz25_0 := kF BK269.1 0; have hfz25_1 := kF BK269.1 1) | ((with_reducible refine gate_callee (f := 42) rfl ?_); refine goesL_ (some 5) rfl rfl Tryz.func42 (by kernel_rfl) rfl #[.agg #[.int .i64 a0_0, .int .i64 a0_1]] rfl (by (try simp only [List.map_toArray, List.map_cons, List.map_nil]); first | done | rfl | (simp only [List.length_drop, List.length_take]; rfl)) ?_; (with_reducible refine (bitemporalref01_Valid.calls a0_0 a0_1 false _ A2.out ?gw_).mono ?_); (case gw_ => first | exact HG.1 | (refine GW.below HG.1 ?_; repeat (first | (with_reducible first | exact HB.1 | apply zA | apply zN | apply z1 | refine zS ?_ GE269.1) | exact HB.1))); rintro e w26 ⟨rfl, hb⟩; refine ⟨_, rfl, ?_⟩; have n0_ := zM (kB (g := gb269) (o := .cells #[.int .i64 a0_0, .int .i64 a0_1] 33 (0, 0)) (by (with_reducible repeat (first | refine kN ?_ _ | refine kD ?_ | refine kA ?_ _)); exact BK269.1) hb); have n1_ := zM (zT (by repeat (first | (with_reducible first | exact HB.1 | apply zA | apply zN | apply z1 | refine zS ?_ GE269.1) | exact HB.1)) hb); clear BK269; clear HB; have BK269 := n0_; have HB := n1_; clear n0_ n1_; (try clear hb); (try clear hb2); (try clear hk); (try clear hi)))
  go_ret
  exact ⟨by first | rfl | (simp [errW_none, errW_some] <;> rfl) | (simp [*, errW_none, errW_some] <;> rfl), by repeat (first | (with_reducible first | exact HB.1 | apply zA | apply zN | apply z1 | refine zS ?_ GE269.1) | exact HB.1)⟩

end Go.Proofs.YthdgjobhofpjeaaGreatDoor.X
