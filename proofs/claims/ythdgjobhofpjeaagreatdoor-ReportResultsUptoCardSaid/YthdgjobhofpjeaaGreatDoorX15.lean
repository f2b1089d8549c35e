/- Walks of Go functions of this seat, printed by a program of mine (wip/tools/xprint.py) over the kit's printer: each function as a plain Lean function, and the proof that the call comes to what it says. No conditions but those in each theorem. -/
import Derived.Test.YthdgjobhofpjeaaGreatDoorX0
import Derived.Test.YthdgjobhofpjeaaGreatDoorX14
namespace Go.Proofs.YthdgjobhofpjeaaGreatDoor.X
open Go.RowKit Go.Proofs.YthdgjobhofpjeaaGreatDoorW.PrintWords Go.Proofs.YthdgjobhofpjeaaGreatDoorW.PrintLast Go.Proofs.YthdgjobhofpjeaaGreatDoorW.PrintMore
attribute [local go_sem] max2_int min2_int max_two min_two max_three min_three max_four min_four   -- for this text's walks alone
set_option linter.unusedVariables false
set_option linter.unusedSimpArgs false

/-! ### bitemporalref55_Tame: function 8 -/
mutual
def bitemporalref55_Tame.l0 : Nat → Int → Int → List (S49) → List (S45) → Int → Int → Option (Bool)
  | 0, _, _, _, _, _, _ => none
  | k + 1, x3, x4, x102000, x102001, x102002, x102003 => if x4 < (x102000.length : Int) then (if 0 ≤ x4 then (bitemporalref55_Tame.l0 k (wrap64 (x3 + (mn (((rd_T49 x102000 x4).f0).size : Int) 10000))) (wrap64 (x4 + 1)) x102000 x102001 x102002 x102003) else (none)) else (bitemporalref55_Tame.l1 k x3 0 x102000 x102001 x102002 x102003)
def bitemporalref55_Tame.l1 : Nat → Int → Int → List (S49) → List (S45) → Int → Int → Option (Bool)
  | 0, _, _, _, _, _, _ => none
  | k + 1, x3, x5, x102000, x102001, x102002, x102003 => if x5 < (x102001.length : Int) then (if 0 ≤ x5 then (bitemporalref55_Tame.l1 k (wrap64 (x3 + (((rd_T45 x102001 x5).f0).length : Int))) (wrap64 (x5 + 1)) x102000 x102001 x102002 x102003) else (none)) else (some (decide (x3 ≤ 3000)))
end
def bitemporalref55_Tame.f (k : Nat) (l0_0 : List (S49)) (l0_1 : List (S45)) (a0_2 : Int) (a0_3 : Int) : Option (Bool) := bitemporalref55_Tame.l0 k (wrap64 ((wrap64 ((l0_1.length : Int) * (wrap64 ((l0_0.length : Int) + 1)))) + (l0_0.length : Int))) 0 l0_0 l0_1 a0_2 a0_3
theorem bitemporalref55_Tame.mono_l : ∀ k, (∀ y0 y1 y2 y3 y4 y5, LeO (bitemporalref55_Tame.l0 k y0 y1 y2 y3 y4 y5) (bitemporalref55_Tame.l0 (k + 1) y0 y1 y2 y3 y4 y5)) ∧ (∀ y0 y1 y2 y3 y4 y5, LeO (bitemporalref55_Tame.l1 k y0 y1 y2 y3 y4 y5) (bitemporalref55_Tame.l1 (k + 1) y0 y1 y2 y3 y4 y5))
  | 0 => ⟨fun _ _ _ _ _ _ r h => by simp [bitemporalref55_Tame.l0] at h, fun _ _ _ _ _ _ r h => by simp [bitemporalref55_Tame.l1] at h⟩
  | k + 1 => by
    obtain ⟨ih0, ih1⟩ := bitemporalref55_Tame.mono_l k
    refine ⟨?_, ?_⟩
    · intro y0 y1 y2 y3 y4 y5
      unfold bitemporalref55_Tame.l0
      repeat' first
      | (with_reducible exact ih0 _ _ _ _ _ _)
      | (with_reducible exact ih1 _ _ _ _ _ _)
      | (with_reducible exact LeO.refl _)
      | (with_reducible exact LeO.none _)
      | (with_reducible refine LeO.ite ?_ ?_)
      | (with_reducible refine LeO.bind ?_ (fun _ => ?_))
      | exact ih0 _ _ _ _ _ _
      | exact ih1 _ _ _ _ _ _
      | exact LeO.none _
      | refine LeO.ite ?_ ?_
      | refine LeO.bind ?_ (fun _ => ?_)
    · intro y0 y1 y2 y3 y4 y5
      unfold bitemporalref55_Tame.l1
      repeat' first
      | (with_reducible exact ih0 _ _ _ _ _ _)
      | (with_reducible exact ih1 _ _ _ _ _ _)
      | (with_reducible exact LeO.refl _)
      | (with_reducible exact LeO.none _)
      | (with_reducible refine LeO.ite ?_ ?_)
      | (with_reducible refine LeO.bind ?_ (fun _ => ?_))
      | exact ih0 _ _ _ _ _ _
      | exact ih1 _ _ _ _ _ _
      | exact LeO.none _
      | refine LeO.ite ?_ ?_
      | refine LeO.bind ?_ (fun _ => ?_)
theorem bitemporalref55_Tame.mono : ∀ a0 a1 a2 a3 k, LeO (bitemporalref55_Tame.f k a0 a1 a2 a3) (bitemporalref55_Tame.f (k + 1) a0 a1 a2 a3) := by
  intro a0 a1 a2 a3 k
  obtain ⟨ih0, ih1⟩ := bitemporalref55_Tame.mono_l k
  unfold bitemporalref55_Tame.f
  repeat' first
      | (with_reducible exact ih0 _ _ _ _ _ _)
      | (with_reducible exact ih1 _ _ _ _ _ _)
      | (with_reducible exact LeO.refl _)
      | (with_reducible exact LeO.none _)
      | (with_reducible refine LeO.ite ?_ ?_)
      | (with_reducible refine LeO.bind ?_ (fun _ => ?_))
      | exact ih0 _ _ _ _ _ _
      | exact ih1 _ _ _ _ _ _
      | exact LeO.none _
      | refine LeO.ite ?_ ?_
      | refine LeO.bind ?_ (fun _ => ?_)
set_option maxHeartbeats 8000000 in
set_option maxRecDepth 100000 in
theorem bitemporalref55_Tame.calls (k : Nat) (A0_0 : Option Addr) (c0_0 : Nat) (l0_0 : List (S49)) (A0_1 : Option Addr) (c0_1 : Nat) (l0_1 : List (S45)) (a0_2 : Int) (a0_3 : Int) (r : Bool) (w : World) (hr0_0 : Kd.C k49 w A0_0 l0_0.length l0_0) (hc0_0 : l0_0.length ≤ c0_0) (hr0_1 : Kd.C k45 w A0_1 l0_1.length l0_1) (hc0_1 : l0_1.length ≤ c0_1) (h : bitemporalref55_Tame.f k l0_0 l0_1 a0_2 a0_3 = some r) (hG : GW w) :
  Calls Tryz.prog 8 #[.agg #[.slice A0_0 l0_0.length c0_0, .slice A0_1 l0_1.length c0_1, .int .i64 a0_2, .int .i64 a0_3]] w fun e w' => e = .returned (.bool r) ∧ Below w.heap.size w w' := by
 have HG := zM hG
 clear hG
 have hu25 := Tryz.underlying25
 have HR0_0 := zM hr0_0
 have HC0_0 := zM hc0_0
 clear hr0_0 hc0_0
 have HR0_1 := zM hr0_1
 have HC0_1 := zM hc0_1
 clear hr0_1 hc0_1
 have HB := zM (Below.refl w.heap.size w)
 have H : (bitemporalref55_Tame.l0 k (wrap64 ((wrap64 ((l0_1.length : Int) * (wrap64 ((l0_0.length : Int) + 1)))) + (l0_0.length : Int))) 0 l0_0 l0_1 a0_2 a0_3) = some r := h
 clear h
 have H' := zM H
 clear H
 go_enter Tryz.func8, Tryz.ntmps8
 go_wp2_with (first | ((with_reducible refine gate_dst (N := 1) rfl ?_); refine box_event ?hg (N := 1) ?hd (cs := #[.slice A0_0 l0_0.length c0_0, .slice A0_1 l0_1.length c0_1, .int .i64 a0_2, .int .i64 a0_3]) (t := 25) ?hr ?_; (case hd => rfl); (case hg => rfl); (case hr => first | (go_simp; done) | (go_simp; rfl)); intro gb101 hg w2 hbox hb; have n0_ := zM (zT (by repeat (first | (with_reducible first | exact HB.1 | apply zA | apply zN | apply z1) | exact HB.1)) hb); have n1_ := zM (hbox); have n2_ := zM ((by rw [hg]; exact (zZ (by repeat (first | (with_reducible first | exact HB.1 | apply zA | apply zN | apply z1) | exact HB.1))) : w.heap.size ≤ gb101)); have n3_ := n2_; clear HB; have HB := n0_; have BK101 := n1_; have GW101 := n2_; have GE101 := n3_; clear n0_ n1_ n2_ n3_; clear hb hbox hg; have hcz3_0 : w2.cell? ⟨gb101, 0, none⟩ = some (.slice A0_0 l0_0.length c0_0) := (kC BK101.1 0).trans rfl; have hcz3_1 : w2.cell? ⟨gb101, 1, none⟩ = some (.slice A0_1 l0_1.length c0_1) := (kC BK101.1 1).trans rfl; have hcz3_2 : w2.cell? ⟨gb101, 2, none⟩ = some (.int .i64 a0_2) := (kC BK101.1 2).trans rfl; have hcz3_3 : w2.cell? ⟨gb101, 3, none⟩ = some (.int .i64 a0_3) := (kC BK101.1 3).trans rfl; have hfz3_0 := kF BK101.1 0; have hfz3_1 := kF BK101.1 1; have hfz3_2 := kF BK101.1 2; have hfz3_3 := kF BK101.1 3))
 go_loopg [3, 4] k (fun kq v3 v4 w' => ∃ (x3_1 : Int) (x4_1 : Int), v3 = .int .i64 x3_1 ∧ v4 = .int .i64 x4_1 ∧ Aside0 (bitemporalref55_Tame.l0 kq x3_1 x4_1 l0_0 l0_1 a0_2 a0_3 = some r) ∧ Aside0 (kq ≤ k) ∧ Aside0 (w'.heap[gb101]? = some (.cells #[(.slice A0_0 l0_0.length c0_0), (.slice A0_1 l0_1.length c0_1), .int .i64 a0_2, .int .i64 a0_3] 25 (0, 0))) ∧ Aside0 (Below w.heap.size w w'))
 case atStart => exact ⟨(wrap64 ((wrap64 ((l0_1.length : Int) * (wrap64 ((l0_0.length : Int) + 1)))) + (l0_0.length : Int))), (0), (by first | rfl | (simp; done) | (simp [*]; done)), (by first | rfl | (simp; done) | (simp [*]; done)), H', ⟨Nat.le_refl _⟩, ⟨by (with_reducible repeat (first | refine kN ?_ _ | refine kD ?_ | refine kA ?_ _)); exact BK101.1⟩, ⟨by repeat (first | (with_reducible first | exact HB.1 | apply zA | apply zN | apply z1 | refine zS ?_ GE101.1) | exact HB.1)⟩⟩
 case round =>
  clear H'
  try clear p2
  try clear hcz3_0
  try clear hcz3_1
  try clear hcz3_2
  try clear hcz3_3
  try clear hfz3_0
  try clear hfz3_1
  try clear hfz3_2
  try clear hfz3_3
  obtain ⟨x3_1, x4_1, rfl, rfl, HA, HK1, BK101, HB⟩ := hrel
  cases gk with
  | zero => exact absurd HA.out (by simp [bitemporalref55_Tame.l0])
  | succ k1 =>
   have H := HA.out
   clear HA
   simp only [bitemporalref55_Tame.l0] at H
   by_cases c4 : x4_1 < (l0_0.length : Int)
   ·rw [if_pos c4] at H
    have c4b0 : decide (x4_1 < (l0_0.length : Int)) = true := decide_eq_true c4
    clear c4
    by_cases c5 : 0 ≤ x4_1
    case neg =>
     rw [if_neg c5] at H
     exact absurd H (by simp)
    rw [if_pos c5] at H
    have c5b0 : decide (0 ≤ x4_1) = true := decide_eq_true c5
    clear c5
    obtain ⟨ji6, hji6⟩ : ∃ j_ : Int, (mn (((rd_T49 l0_0 x4_1).f0).size : Int) 10000) = j_ := ⟨_, rfl⟩
    replace H : (bitemporalref55_Tame.l0 k1 (wrap64 (x3_1 + (ji6))) (wrap64 (x4_1 + 1)) l0_0 l0_1 a0_2 a0_3) = some r := by first | (rw [hji6] at H; exact H) | (simp only [hji6] at H ⊢; exact H)
    have hji6_ : (if 10000 < (((rd_T49 l0_0 x4_1).f0).size : Int) then 10000 else (((rd_T49 l0_0 x4_1).f0).size : Int)) = ji6 := hji6
    have H' := zM H
    clear H
    have hcz7_0 : wr.cell? ⟨gb101, 0, none⟩ = some (.slice A0_0 l0_0.length c0_0) := (kC BK101.1 0).trans rfl
    have hcz7_1 : wr.cell? ⟨gb101, 1, none⟩ = some (.slice A0_1 l0_1.length c0_1) := (kC BK101.1 1).trans rfl
    have hcz7_2 : wr.cell? ⟨gb101, 2, none⟩ = some (.int .i64 a0_2) := (kC BK101.1 2).trans rfl
    have hcz7_3 : wr.cell? ⟨gb101, 3, none⟩ = some (.int .i64 a0_3) := (kC BK101.1 3).trans rfl
    have hfz7_0 := kF BK101.1 0
    have hfz7_1 := kF BK101.1 1
    have hfz7_2 := kF BK101.1 2
    have hfz7_3 := kF BK101.1 3
    have p102 : 0 ≤ (x4_1 : Int) := of_decide_eq_true (by first | (with_reducible assumption) | assumption)
    have q102 : x4_1 < (l0_0.length : Int) := of_decide_eq_true (by first | (with_reducible assumption) | assumption)
    obtain ⟨ad102, e102, hx102_0, hx102_1, hx102_2⟩ := at_T49 HR0_0.out x4_1 p102 q102
    cases e102
    replace hx102_0 := (HB.1.cell (World.block_lt_of_cell? w _ hx102_0)).trans hx102_0
    replace hx102_1 := (HB.1.cell (World.block_lt_of_cell? w _ hx102_1)).trans hx102_1
    replace hx102_2 := (HB.1.cell (World.block_lt_of_cell? w _ hx102_2)).trans hx102_2
    replace p102 := eq_true p102
    replace q102 := eq_true q102
    go_wp2
    go_roundg k1
    case measure => have := HK1.out; omega
    case rel => exact ⟨(wrap64 (x3_1 + (ji6))), (wrap64 (x4_1 + 1)), (by first | rfl | (simp; done) | (simp only [← hji6] <;> (first | rfl | simp)) | (simp [*]; done)), (by first | rfl | (simp; done) | (simp [*]; done)), H', ⟨by have := HK1.out; omega⟩, ⟨by (with_reducible repeat (first | refine kN ?_ _ | refine kD ?_ | refine kA ?_ _)); exact BK101.1⟩, ⟨by repeat (first | (with_reducible first | exact HB.1 | apply zA | apply zN | apply z1 | refine zS ?_ GE101.1) | exact HB.1)⟩⟩
   ·rw [if_neg c4] at H
    have c4b0 : decide (x4_1 < (l0_0.length : Int)) = false := decide_eq_false c4
    clear c4
    have H' := zM H
    clear H
    have hcz8_0 : wr.cell? ⟨gb101, 0, none⟩ = some (.slice A0_0 l0_0.length c0_0) := (kC BK101.1 0).trans rfl
    have hcz8_1 : wr.cell? ⟨gb101, 1, none⟩ = some (.slice A0_1 l0_1.length c0_1) := (kC BK101.1 1).trans rfl
    have hcz8_2 : wr.cell? ⟨gb101, 2, none⟩ = some (.int .i64 a0_2) := (kC BK101.1 2).trans rfl
    have hcz8_3 : wr.cell? ⟨gb101, 3, none⟩ = some (.int .i64 a0_3) := (kC BK101.1 3).trans rfl
    have hfz8_0 := kF BK101.1 0
    have hfz8_1 := kF BK101.1 1
    have hfz8_2 := kF BK101.1 2
    have hfz8_3 := kF BK101.1 3
    go_wp2
    go_loopg [3, 5] k1 (fun kq v3 v5 w' => ∃ (x3_2 : Int) (x5_2 : Int), v3 = .int .i64 x3_2 ∧ v5 = .int .i64 x5_2 ∧ Aside0 (bitemporalref55_Tame.l1 kq x3_2 x5_2 l0_0 l0_1 a0_2 a0_3 = some r) ∧ Aside0 (kq ≤ k1) ∧ Aside0 (w'.heap[gb101]? = some (.cells #[(.slice A0_0 l0_0.length c0_0), (.slice A0_1 l0_1.length c0_1), .int .i64 a0_2, .int .i64 a0_3] 25 (0, 0))) ∧ Aside0 (Below w.heap.size w w'))
    case atStart => exact ⟨(x3_1), (0), (by first | rfl | (simp; done) | (simp [*]; done)), (by first | rfl | (simp; done) | (simp [*]; done)), H', ⟨Nat.le_refl _⟩, ⟨by (with_reducible repeat (first | refine kN ?_ _ | refine kD ?_ | refine kA ?_ _)); exact BK101.1⟩, ⟨by repeat (first | (with_reducible first | exact HB.1 | apply zA | apply zN | apply z1 | refine zS ?_ GE101.1) | exact HB.1)⟩⟩
    case round =>
     clear H'
     try clear p1
     try clear q1
     try clear hx1
     try clear p2
     try clear c4
     try clear c4b0
     try clear c5
     try clear c5b0
     try clear p6
     try clear c8
     try clear hcz3_0
     try clear hcz3_1
     try clear hcz3_2
     try clear hcz3_3
     try clear hcz7_0
     try clear hcz7_1
     try clear hcz7_2
     try clear hcz7_3
     try clear hcz8_0
     try clear hcz8_1
     try clear hcz8_2
     try clear hcz8_3
     try clear hfz3_0
     try clear hfz3_1
     try clear hfz3_2
     try clear hfz3_3
     try clear hfz7_0
     try clear hfz7_1
     try clear hfz7_2
     try clear hfz7_3
     try clear hfz8_0
     try clear hfz8_1
     try clear hfz8_2
     try clear hfz8_3
     try clear hx102_0
     try clear hx102_1
     try clear hx102_2
     try clear p102
     try clear p2
     try clear q102
     obtain ⟨x3_2, x5_2, rfl, rfl, HA, HK2, BK101, HB⟩ := hrel
     cases gk with
     | zero => exact absurd HA.out (by simp [bitemporalref55_Tame.l1])
     | succ k2 =>
      have H := HA.out
      clear HA
      simp only [bitemporalref55_Tame.l1] at H
      by_cases c9 : x5_2 < (l0_1.length : Int)
      ·rw [if_pos c9] at H
       have c9b0 : decide (x5_2 < (l0_1.length : Int)) = true := decide_eq_true c9
       clear c9
       by_cases c10 : 0 ≤ x5_2
       case neg =>
        rw [if_neg c10] at H
        exact absurd H (by simp)
       rw [if_pos c10] at H
       have c10b0 : decide (0 ≤ x5_2) = true := decide_eq_true c10
       clear c10
       have H' := zM H
       clear H
       have hcz11_0 : wr.cell? ⟨gb101, 0, none⟩ = some (.slice A0_0 l0_0.length c0_0) := (kC BK101.1 0).trans rfl
       have hcz11_1 : wr.cell? ⟨gb101, 1, none⟩ = some (.slice A0_1 l0_1.length c0_1) := (kC BK101.1 1).trans rfl
       have hcz11_2 : wr.cell? ⟨gb101, 2, none⟩ = some (.int .i64 a0_2) := (kC BK101.1 2).trans rfl
       have hcz11_3 : wr.cell? ⟨gb101, 3, none⟩ = some (.int .i64 a0_3) := (kC BK101.1 3).trans rfl
       have hfz11_0 := kF BK101.1 0
       have hfz11_1 := kF BK101.1 1
       have hfz11_2 := kF BK101.1 2
       have hfz11_3 := kF BK101.1 3
       have p103 : 0 ≤ (x5_2 : Int) := of_decide_eq_true (by first | (with_reducible assumption) | assumption)
       have q103 : x5_2 < (l0_1.length : Int) := of_decide_eq_true (by first | (with_reducible assumption) | assumption)
       obtain ⟨ad103, A103_0, c103_0, e103, hx103_0, hx103_1, hx103_2, hl103_0, hi103_0⟩ := at_T45 HR0_1.out x5_2 p103 q103
       cases e103
       replace hx103_0 := (HB.1.cell (World.block_lt_of_cell? w _ hx103_0)).trans hx103_0
       replace hx103_1 := (HB.1.cell (World.block_lt_of_cell? w _ hx103_1)).trans hx103_1
       replace hx103_2 := (HB.1.cell (World.block_lt_of_cell? w _ hx103_2)).trans hx103_2
       have HR103_0 := zM hi103_0
       have HC103_0 := zM hl103_0
       clear hi103_0 hl103_0
       replace p103 := eq_true p103
       replace q103 := eq_true q103
       go_wp2
       go_roundg k2
       case measure => have := HK1.out; have := HK2.out; omega
       case rel => exact ⟨(wrap64 (x3_2 + (((rd_T45 l0_1 x5_2).f0).length : Int))), (wrap64 (x5_2 + 1)), (by first | rfl | (simp; done) | (simp [*]; done)), (by first | rfl | (simp; done) | (simp [*]; done)), H', ⟨by have := HK1.out; have := HK2.out; omega⟩, ⟨by (with_reducible repeat (first | refine kN ?_ _ | refine kD ?_ | refine kA ?_ _)); exact BK101.1⟩, ⟨by repeat (first | (with_reducible first | exact HB.1 | apply zA | apply zN | apply z1 | refine zS ?_ GE101.1) | exact HB.1)⟩⟩
      ·rw [if_neg c9] at H
       have c9b0 : decide (x5_2 < (l0_1.length : Int)) = false := decide_eq_false c9
       clear c9
       obtain rfl := Option.some.inj H
       have hcz12_0 : wr.cell? ⟨gb101, 0, none⟩ = some (.slice A0_0 l0_0.length c0_0) := (kC BK101.1 0).trans rfl
       have hcz12_1 : wr.cell? ⟨gb101, 1, none⟩ = some (.slice A0_1 l0_1.length c0_1) := (kC BK101.1 1).trans rfl
       have hcz12_2 : wr.cell? ⟨gb101, 2, none⟩ = some (.int .i64 a0_2) := (kC BK101.1 2).trans rfl
       have hcz12_3 : wr.cell? ⟨gb101, 3, none⟩ = some (.int .i64 a0_3) := (kC BK101.1 3).trans rfl
       have hfz12_0 := kF BK101.1 0
       have hfz12_1 := kF BK101.1 1
       have hfz12_2 := kF BK101.1 2
       have hfz12_3 := kF BK101.1 3
       go_wp2
       go_ret
       exact ⟨by first | rfl | (simp [errW_none, errW_some] <;> rfl) | (simp [*, errW_none, errW_some] <;> rfl), by repeat (first | (with_reducible first | exact HB.1 | apply zA | apply zN | apply z1 | refine zS ?_ GE101.1) | exact HB.1)⟩

/-! ### bitemporalref55_names: function 32 -/
def bitemporalref55_names.l0 : Nat → List (S49) → List ByteArray → Int → Option (List ByteArray)
  | 0, _, _, _ => none
  | k + 1, x0, x3, x4 => if x4 < (x0.length : Int) then (if 0 ≤ x4 then (if x3.length < 8796093022208 then (bitemporalref55_names.l0 k x0 (x3 ++ [(rd_T49 x0 x4).f0]) (wrap64 (x4 + 1))) else (none)) else (none)) else (some x3)
def bitemporalref55_names.f (k : Nat) (l0 : List (S49)) : Option (List ByteArray) := bitemporalref55_names.l0 k l0 (([] : List ByteArray)) 0
theorem bitemporalref55_names.mono_l : ∀ k, (∀ y0 y1 y2, LeO (bitemporalref55_names.l0 k y0 y1 y2) (bitemporalref55_names.l0 (k + 1) y0 y1 y2))
  | 0 => fun _ _ _ r h => by simp [bitemporalref55_names.l0] at h
  | k + 1 => by
    have ih0 := bitemporalref55_names.mono_l k
    · intro y0 y1 y2
      unfold bitemporalref55_names.l0
      repeat' first
      | (with_reducible exact ih0 _ _ _)
      | (with_reducible exact LeO.refl _)
      | (with_reducible exact LeO.none _)
      | (with_reducible refine LeO.ite ?_ ?_)
      | (with_reducible refine LeO.bind ?_ (fun _ => ?_))
      | exact ih0 _ _ _
      | exact LeO.none _
      | refine LeO.ite ?_ ?_
      | refine LeO.bind ?_ (fun _ => ?_)
theorem bitemporalref55_names.mono : ∀ a0 k, LeO (bitemporalref55_names.f k a0) (bitemporalref55_names.f (k + 1) a0) := by
  intro a0 k
  have ih0 := bitemporalref55_names.mono_l k
  unfold bitemporalref55_names.f
  repeat' first
      | (with_reducible exact ih0 _ _ _)
      | (with_reducible exact LeO.refl _)
      | (with_reducible exact LeO.none _)
      | (with_reducible refine LeO.ite ?_ ?_)
      | (with_reducible refine LeO.bind ?_ (fun _ => ?_))
      | exact ih0 _ _ _
      | exact LeO.none _
      | refine LeO.ite ?_ ?_
      | refine LeO.bind ?_ (fun _ => ?_)
set_option maxHeartbeats 8000000 in
set_option maxRecDepth 100000 in
theorem bitemporalref55_names.calls (k : Nat) (A0 : Option Addr) (c0 : Nat) (l0 : List (S49)) (r : List ByteArray) (w : World) (hr0 : Kd.C k49 w A0 l0.length l0) (hc0 : l0.length ≤ c0) (h : bitemporalref55_names.f k l0 = some r) (hG : GW w) :
  Calls Tryz.prog 32 #[.slice A0 l0.length c0] w fun e w' => ∃ v0_ : Value, e = .returned (v0_) ∧ Kd.R Kd.string 9 w' w.heap.size (fun _ => True) v0_ r ∧ Below w.heap.size w w' := by
 have HG := zM hG
 clear hG
 have HR0 := zM hr0
 have HC0 := zM hc0
 clear hr0 hc0
 have HB := zM (Below.refl w.heap.size w)
 have H : (bitemporalref55_names.l0 k l0 (([] : List ByteArray)) 0) = some r := h
 clear h
 obtain ⟨y236, hy236⟩ : ∃ y_ : List ByteArray, y_ = (([] : List ByteArray)) := ⟨_, rfl⟩
 replace H : (bitemporalref55_names.l0 k l0 y236 0) = some r := by first | (rw [hy236]; with_reducible exact H) | (have H2_ := (Option.bind_some _ _).symm.trans H; rw [hy236]; with_reducible exact H2_) | (have H2_ := (Option.bind_some _ _).symm.trans H; with_reducible exact H2_) | with_reducible exact H | (rw [hy236]; exact H) | exact H
 have Ny236 := zM hy236
 clear hy236
 have H' := zM H
 clear H
 go_enter Tryz.func32, Tryz.ntmps32
 go_wp2_with (first | ((with_reducible refine gate_dst (N := 5) rfl ?_); refine Kd.R_lit Kd.string _ 9 ?hg (N := 5) ?hd (xs := ([] : List ByteArray)) (inner := []) (ok := fun _ => True) (okp := fun _ => True) ?hr ?hp (fun _ hk => hk) trivial (Below.refl _ _) (Nat.le_refl _) (by simp) ?_; (case hd => rfl); (case hg => rfl); (case hr => first | (go_simp; done) | (go_simp; rfl)); (case hp => exact (Reps.none _ _)); intro v237 w2 ho3 hb hg_ hnew_; clear hg_ hnew_; (first | rw [← Ny236.out] at ho3 | (simp only [Int.reduceToNat] at ho3; rw [← Ny236.out] at ho3)); have n0_ := zM (Kd.R_lower ho3 (zZ (by repeat (first | (with_reducible first | exact HB.1 | apply zA | apply zN | apply z1) | exact HB.1)))); have n1_ := zM (zT (by repeat (first | (with_reducible first | exact HB.1 | apply zA | apply zN | apply z1) | exact HB.1)) hb); clear HB; have HO238 := n0_; have HB := n1_; clear n0_ n1_; clear hb ho3))
 go_loopg [3, 4] k (fun kq v3 v4 w' => ∃ (x3_1 : List ByteArray) (x4_1 : Int), v4 = .int .i64 x4_1 ∧ Aside0 (bitemporalref55_names.l0 kq l0 x3_1 x4_1 = some r) ∧ Aside0 (kq ≤ k) ∧ Aside0 (Kd.R Kd.string 9 w' w.heap.size (fun _ => True) v3 x3_1) ∧ Aside0 (Below w.heap.size w w'))
 case atStart => exact ⟨(y236), (0), (by first | rfl | (simp; done) | (simp [*]; done)), H', ⟨Nat.le_refl _⟩, ⟨by (with_reducible repeat (first | apply Kd.R_alloc | apply Kd.R_drewN | apply Kd.R_drew)); exact HO238.out⟩, ⟨by repeat (first | (with_reducible first | exact HB.1 | apply zA | apply zN | apply z1) | exact HB.1)⟩⟩
 case round =>
  clear H'
  try clear p2
  try clear c3
  obtain ⟨x3_1, x4_1, rfl, HA, HK1, HO_3, HB⟩ := hrel
  cases gk with
  | zero => exact absurd HA.out (by simp [bitemporalref55_names.l0])
  | succ k1 =>
   have H := HA.out
   clear HA
   simp only [bitemporalref55_names.l0] at H
   by_cases c4 : x4_1 < (l0.length : Int)
   ·rw [if_pos c4] at H
    have c4b0 : decide (x4_1 < (l0.length : Int)) = true := decide_eq_true c4
    clear c4
    by_cases c5 : 0 ≤ x4_1
    case neg =>
     rw [if_neg c5] at H
     exact absurd H (by simp)
    rw [if_pos c5] at H
    have c5b0 : decide (0 ≤ x4_1) = true := decide_eq_true c5
    clear c5
    by_cases c6 : x3_1.length < 8796093022208
    case neg =>
     rw [if_neg c6] at H
     exact absurd H (by simp)
    rw [if_pos c6] at H
    have LMc6 := zM c6
    clear c6
    obtain ⟨y240, hy240⟩ : ∃ y_ : List ByteArray, y_ = (x3_1 ++ [(rd_T49 l0 x4_1).f0]) := ⟨_, rfl⟩
    replace H : (bitemporalref55_names.l0 k1 l0 y240 (wrap64 (x4_1 + 1))) = some r := by first | (rw [hy240]; with_reducible exact H) | (have H2_ := (Option.bind_some _ _).symm.trans H; rw [hy240]; with_reducible exact H2_) | (have H2_ := (Option.bind_some _ _).symm.trans H; with_reducible exact H2_) | with_reducible exact H | (rw [hy240]; exact H) | exact H
    have Ny240 := zM hy240
    clear hy240
    have H' := zM H
    clear H
    have p239 : 0 ≤ (x4_1 : Int) := of_decide_eq_true (by first | (with_reducible assumption) | assumption)
    have q239 : x4_1 < (l0.length : Int) := of_decide_eq_true (by first | (with_reducible assumption) | assumption)
    obtain ⟨ad239, e239, hx239_0, hx239_1, hx239_2⟩ := at_T49 HR0.out x4_1 p239 q239
    cases e239
    replace hx239_0 := (HB.1.cell (World.block_lt_of_cell? w _ hx239_0)).trans hx239_0
    replace hx239_1 := (HB.1.cell (World.block_lt_of_cell? w _ hx239_1)).trans hx239_1
    replace hx239_2 := (HB.1.cell (World.block_lt_of_cell? w _ hx239_2)).trans hx239_2
    replace p239 := eq_true p239
    replace q239 := eq_true q239
    go_wp2_with (first | ((with_reducible refine gate_builtin (b := .append) (xs := #[.tmp 12, .tmp 18]) rfl ?_); at_builtin; refine Kd.R_append Kd.string (w0 := w) w.heap.size rfl (.tmp 12) (.tmp 18) 59 9 (.string ⟨#[]⟩) 16 rfl Tryz.underlying59 info9 rfl (by decide) (by omega) u3 x3_1 ((rd_T49 l0 x4_1).f0) [.string ((rd_T49 l0 x4_1).f0)] (fun _ => True) (fun _ => False) rfl rfl ?aP (fun _ hk => hk.elim) ?aF ?aO ?aB ?aS ?aL ?_; (case aP => exact rfl); (case aB => exact (by repeat (first | (with_reducible first | exact HB.1 | apply zA | apply zN | apply z1) | exact HB.1))); (case aF => exact (fun _ _ => trivial)); (case aO => exact (by (with_reducible repeat (first | apply Kd.R_alloc | apply Kd.R_drewN | apply Kd.R_drew)); exact HO_3.out)); (case aS => exact (zZ (by repeat (first | (with_reducible first | exact HB.1 | apply zA | apply zN | apply z1) | exact HB.1)))); (case aL => have := LMc6.out; omega); intro v241 w7 ho hb hg hat; rw [← Ny240.out] at ho; have n0_ := zM (hb); have n1_ := zM (ho); clear HB; clear HO_3; have HB := n0_; have HO242 := n1_; clear n0_ n1_; clear ho hb hg hat))
    go_roundg k1
    case measure => have := HK1.out; omega
    case rel => exact ⟨(y240), (wrap64 (x4_1 + 1)), (by first | rfl | (simp; done) | (simp [*]; done)), H', ⟨by have := HK1.out; omega⟩, ⟨by (with_reducible repeat (first | apply Kd.R_alloc | apply Kd.R_drewN | apply Kd.R_drew)); exact HO242.out⟩, ⟨by repeat (first | (with_reducible first | exact HB.1 | apply zA | apply zN | apply z1) | exact HB.1)⟩⟩
   ·rw [if_neg c4] at H
    have c4b0 : decide (x4_1 < (l0.length : Int)) = false := decide_eq_false c4
    clear c4
    obtain rfl := Option.some.inj H
    go_wp2
    go_ret
    exact ⟨_, by first | rfl | (simp [errW_none, errW_some] <;> rfl) | (simp [*, errW_none, errW_some] <;> rfl), by (with_reducible repeat (first | apply Kd.R_alloc | apply Kd.R_drewN | apply Kd.R_drew)); exact HO_3.out, by repeat (first | (with_reducible first | exact HB.1 | apply zA | apply zN | apply z1) | exact HB.1)⟩

/-! ### bitemporalref55_cells: function 33 -/
def bitemporalref55_cells.l0 : Nat → List (S54) → Int → List ByteArray → Int → Option (List ByteArray)
  | 0, _, _, _, _ => none
  | k + 1, x0, x1, x5, x6 => if x6 < x1 then (if x6 < (x0.length : Int) then (if 0 ≤ x6 then ((bitemporalref07_Literal.f k ((rd_T54 x0 x6).f0) ((rd_T54 x0 x6).f1) ((rd_T54 x0 x6).f2)).bind fun t261 => (if x5.length < 8796093022208 then (bitemporalref55_cells.l0 k x0 x1 (x5 ++ [t261]) (wrap64 (x6 + 1))) else (none))) else (none)) else (if x5.length < 8796093022208 then (bitemporalref55_cells.l0 k x0 x1 (x5 ++ [(⟨#[]⟩ : ByteArray)]) (wrap64 (x6 + 1))) else (none))) else (some x5)
def bitemporalref55_cells.f (k : Nat) (l0 : List (S54)) (a1 : Int) : Option (List ByteArray) := bitemporalref55_cells.l0 k l0 a1 (([] : List ByteArray)) 0
theorem bitemporalref55_cells.mono_l : ∀ k, (∀ y0 y1 y2 y3, LeO (bitemporalref55_cells.l0 k y0 y1 y2 y3) (bitemporalref55_cells.l0 (k + 1) y0 y1 y2 y3))
  | 0 => fun _ _ _ _ r h => by simp [bitemporalref55_cells.l0] at h
  | k + 1 => by
    have ih0 := bitemporalref55_cells.mono_l k
    · intro y0 y1 y2 y3
      unfold bitemporalref55_cells.l0
      repeat' first
      | (with_reducible exact ih0 _ _ _ _)
      | (with_reducible exact bitemporalref07_Literal.mono _ _ _ _)
      | (with_reducible exact LeO.refl _)
      | (with_reducible exact LeO.none _)
      | (with_reducible refine LeO.ite ?_ ?_)
      | (with_reducible refine LeO.bind ?_ (fun _ => ?_))
      | exact ih0 _ _ _ _
      | exact bitemporalref07_Literal.mono _ _ _ _
      | exact LeO.none _
      | refine LeO.ite ?_ ?_
      | refine LeO.bind ?_ (fun _ => ?_)
theorem bitemporalref55_cells.mono : ∀ a0 a1 k, LeO (bitemporalref55_cells.f k a0 a1) (bitemporalref55_cells.f (k + 1) a0 a1) := by
  intro a0 a1 k
  have ih0 := bitemporalref55_cells.mono_l k
  unfold bitemporalref55_cells.f
  repeat' first
      | (with_reducible exact ih0 _ _ _ _)
      | (with_reducible exact bitemporalref07_Literal.mono _ _ _ _)
      | (with_reducible exact LeO.refl _)
      | (with_reducible exact LeO.none _)
      | (with_reducible refine LeO.ite ?_ ?_)
      | (with_reducible refine LeO.bind ?_ (fun _ => ?_))
      | exact ih0 _ _ _ _
      | exact bitemporalref07_Literal.mono _ _ _ _
      | exact LeO.none _
      | refine LeO.ite ?_ ?_
      | refine LeO.bind ?_ (fun _ => ?_)
set_option maxHeartbeats 8000000 in
set_option maxRecDepth 100000 in
theorem bitemporalref55_cells.calls (k : Nat) (A0 : Option Addr) (c0 : Nat) (l0 : List (S54)) (a1 : Int) (r : List ByteArray) (w : World) (hr0 : Kd.C k54 w A0 l0.length l0) (hc0 : l0.length ≤ c0) (h : bitemporalref55_cells.f k l0 a1 = some r) (hG : GW w) :
  Calls Tryz.prog 33 #[.slice A0 l0.length c0, .int .i64 a1] w fun e w' => ∃ v0_ : Value, e = .returned (v0_) ∧ Kd.R Kd.string 9 w' w.heap.size (fun _ => True) v0_ r ∧ Below w.heap.size w w' := by
 have HG := zM hG
 clear hG
 have hu54 := Tryz.underlying54
 have HR0 := zM hr0
 have HC0 := zM hc0
 clear hr0 hc0
 have HB := zM (Below.refl w.heap.size w)
 have H : (bitemporalref55_cells.l0 k l0 a1 (([] : List ByteArray)) 0) = some r := h
 clear h
 obtain ⟨y257, hy257⟩ : ∃ y_ : List ByteArray, y_ = (([] : List ByteArray)) := ⟨_, rfl⟩
 replace H : (bitemporalref55_cells.l0 k l0 a1 y257 0) = some r := by first | (rw [hy257]; with_reducible exact H) | (have H2_ := (Option.bind_some _ _).symm.trans H; rw [hy257]; with_reducible exact H2_) | (have H2_ := (Option.bind_some _ _).symm.trans H; with_reducible exact H2_) | with_reducible exact H | (rw [hy257]; exact H) | exact H
 have Ny257 := zM hy257
 clear hy257
 have H' := zM H
 clear H
 go_enter Tryz.func33, Tryz.ntmps33
 go_wp2_with (first | ((with_reducible refine gate_dst (N := 7) rfl ?_); refine Kd.R_lit Kd.string _ 9 ?hg (N := 7) ?hd (xs := ([] : List ByteArray)) (inner := []) (ok := fun _ => True) (okp := fun _ => True) ?hr ?hp (fun _ hk => hk) trivial (Below.refl _ _) (Nat.le_refl _) (by simp) ?_; (case hd => rfl); (case hg => rfl); (case hr => first | (go_simp; done) | (go_simp; rfl)); (case hp => exact (Reps.none _ _)); intro v258 w3 ho4 hb hg_ hnew_; clear hg_ hnew_; (first | rw [← Ny257.out] at ho4 | (simp only [Int.reduceToNat] at ho4; rw [← Ny257.out] at ho4)); have n0_ := zM (Kd.R_lower ho4 (zZ (by repeat (first | (with_reducible first | exact HB.1 | apply zA | apply zN | apply z1) | exact HB.1)))); have n1_ := zM (zT (by repeat (first | (with_reducible first | exact HB.1 | apply zA | apply zN | apply z1) | exact HB.1)) hb); clear HB; have HO259 := n0_; have HB := n1_; clear n0_ n1_; clear hb ho4))
 go_loopg [5, 6] k (fun kq v5 v6 w' => ∃ (x5_1 : List ByteArray) (x6_1 : Int), v6 = .int .i64 x6_1 ∧ Aside0 (bitemporalref55_cells.l0 kq l0 a1 x5_1 x6_1 = some r) ∧ Aside0 (kq ≤ k) ∧ Aside0 (Kd.R Kd.string 9 w' w.heap.size (fun _ => True) v5 x5_1) ∧ Aside0 (Below w.heap.size w w'))
 case atStart => exact ⟨(y257), (0), (by first | rfl | (simp; done) | (simp [*]; done)), H', ⟨Nat.le_refl _⟩, ⟨by (with_reducible repeat (first | apply Kd.R_alloc | apply Kd.R_drewN | apply Kd.R_drew)); exact HO259.out⟩, ⟨by repeat (first | (with_reducible first | exact HB.1 | apply zA | apply zN | apply z1) | exact HB.1)⟩⟩
 case round =>
  clear H'
  try clear p2
  try clear c3
  obtain ⟨x5_1, x6_1, rfl, HA, HK1, HO_5, HB⟩ := hrel
  cases gk with
  | zero => exact absurd HA.out (by simp [bitemporalref55_cells.l0])
  | succ k1 =>
   have H := HA.out
   clear HA
   simp only [bitemporalref55_cells.l0] at H
   by_cases c5 : x6_1 < a1
   ·rw [if_pos c5] at H
    have c5b0 : decide (x6_1 < a1) = true := decide_eq_true c5
    clear c5
    by_cases c6 : x6_1 < (l0.length : Int)
    ·rw [if_pos c6] at H
     have c6b0 : decide (x6_1 < (l0.length : Int)) = true := decide_eq_true c6
     clear c6
     by_cases c7 : 0 ≤ x6_1
     case neg =>
      rw [if_neg c7] at H
      exact absurd H (by simp)
     rw [if_pos c7] at H
     have c7b0 : decide (0 ≤ x6_1) = true := decide_eq_true c7
     clear c7
     replace H := Option.bind_eq_some_iff.mp H
     obtain ⟨t261, A80, H⟩ := H
     have A8 := zM A80
     clear A80
     by_cases c9 : x5_1.length < 8796093022208
     case neg =>
      rw [if_neg c9] at H
      exact absurd H (by simp)
     rw [if_pos c9] at H
     have LMc9 := zM c9
     clear c9
     obtain ⟨y262, hy262⟩ : ∃ y_ : List ByteArray, y_ = (x5_1 ++ [t261]) := ⟨_, rfl⟩
     replace H : (bitemporalref55_cells.l0 k1 l0 a1 y262 (wrap64 (x6_1 + 1))) = some r := by first | (rw [hy262]; with_reducible exact H) | (have H2_ := (Option.bind_some _ _).symm.trans H; rw [hy262]; with_reducible exact H2_) | (have H2_ := (Option.bind_some _ _).symm.trans H; with_reducible exact H2_) | with_reducible exact H | (rw [hy262]; exact H) | exact H
     have Ny262 := zM hy262
     clear hy262
     have H' := zM H
     clear H
     have p260 : 0 ≤ (x6_1 : Int) := of_decide_eq_true (by first | (with_reducible assumption) | assumption)
     have q260 : x6_1 < (l0.length : Int) := of_decide_eq_true (by first | (with_reducible assumption) | assumption)
     obtain ⟨ad260, e260, hx260_0, hx260_1, hx260_2⟩ := at_T54 HR0.out x6_1 p260 q260
     cases e260
     replace hx260_0 := (HB.1.cell (World.block_lt_of_cell? w _ hx260_0)).trans hx260_0
     replace hx260_1 := (HB.1.cell (World.block_lt_of_cell? w _ hx260_1)).trans hx260_1
     replace hx260_2 := (HB.1.cell (World.block_lt_of_cell? w _ hx260_2)).trans hx260_2
     replace p260 := eq_true p260
     replace q260 := eq_true q260
     go_wp2_with (first | ((with_reducible refine gate_callee (f := 57) rfl ?_); refine goesL_ (some 22) rfl rfl Tryz.func57 (by kernel_rfl) rfl #[.agg #[.int .i64 ((rd_T54 l0 x6_1).f0), .int .i64 ((rd_T54 l0 x6_1).f1), .string ((rd_T54 l0 x6_1).f2)]] rfl (by (try simp only [List.map_toArray, List.map_cons, List.map_nil]); first | done | rfl | (simp only [List.length_drop, List.length_take]; rfl)) ?_; (with_reducible refine (bitemporalref07_Literal.calls k1 ((rd_T54 l0 x6_1).f0) ((rd_T54 l0 x6_1).f1) ((rd_T54 l0 x6_1).f2) t261 _ A8.out ?gw_).mono ?_); (case gw_ => first | exact HG.1 | (refine GW.below HG.1 ?_; repeat (first | (with_reducible first | exact HB.1 | apply zA | apply zN | apply z1) | exact HB.1))); rintro e w10 ⟨rfl, hb⟩; refine ⟨_, rfl, ?_⟩; have n0_ := zM (Kd.R_below (by (with_reducible repeat (first | apply Kd.R_alloc | apply Kd.R_drewN | apply Kd.R_drew)); exact HO_5.out) hb); have n1_ := zM (zT (by repeat (first | (with_reducible first | exact HB.1 | apply zA | apply zN | apply z1) | exact HB.1)) hb); clear HO_5; clear HB; have HO_5 := n0_; have HB := n1_; clear n0_ n1_; (try clear hb); (try clear hb2); (try clear hk); (try clear hi)) | ((with_reducible refine gate_builtin (b := .append) (xs := #[.tmp 17, .tmp 23]) rfl ?_); at_builtin; refine Kd.R_append Kd.string (w0 := w) w.heap.size rfl (.tmp 17) (.tmp 23) 59 9 (.string ⟨#[]⟩) 16 rfl Tryz.underlying59 info9 rfl (by decide) (by omega) u5 x5_1 t261 [.string t261] (fun _ => True) (fun _ => False) rfl rfl ?aP (fun _ hk => hk.elim) ?aF ?aO ?aB ?aS ?aL ?_; (case aP => exact rfl); (case aB => exact (by repeat (first | (with_reducible first | exact HB.1 | apply zA | apply zN | apply z1) | exact HB.1))); (case aF => exact (fun _ _ => trivial)); (case aO => exact (by (with_reducible repeat (first | apply Kd.R_alloc | apply Kd.R_drewN | apply Kd.R_drew)); exact HO_5.out)); (case aS => exact (zZ (by repeat (first | (with_reducible first | exact HB.1 | apply zA | apply zN | apply z1) | exact HB.1)))); (case aL => have := LMc9.out; omega); intro v263 w11 ho hb hg hat; rw [← Ny262.out] at ho; have n0_ := zM (hb); have n1_ := zM (ho); clear HB; clear HO_5; have HB := n0_; have HO264 := n1_; clear n0_ n1_; clear ho hb hg hat))
     go_roundg k1
     case measure => have := HK1.out; omega
     case rel => exact ⟨(y262), (wrap64 (x6_1 + 1)), (by first | rfl | (simp; done) | (simp [*]; done)), H', ⟨by have := HK1.out; omega⟩, ⟨by (with_reducible repeat (first | apply Kd.R_alloc | apply Kd.R_drewN | apply Kd.R_drew)); exact HO264.out⟩, ⟨by repeat (first | (with_reducible first | exact HB.1 | apply zA | apply zN | apply z1) | exact HB.1)⟩⟩
    ·rw [if_neg c6] at H
     have c6b0 : decide (x6_1 < (l0.length : Int)) = false := decide_eq_false c6
     clear c6
     by_cases c12 : x5_1.length < 8796093022208
     case neg =>
      rw [if_neg c12] at H
      exact absurd H (by simp)
     rw [if_pos c12] at H
     have LMc12 := zM c12
     clear c12
     obtain ⟨y265, hy265⟩ : ∃ y_ : List ByteArray, y_ = (x5_1 ++ [(⟨#[]⟩ : ByteArray)]) := ⟨_, rfl⟩
     replace H : (bitemporalref55_cells.l0 k1 l0 a1 y265 (wrap64 (x6_1 + 1))) = some r := by first | (rw [hy265]; with_reducible exact H) | (have H2_ := (Option.bind_some _ _).symm.trans H; rw [hy265]; with_reducible exact H2_) | (have H2_ := (Option.bind_some _ _).symm.trans H; with_reducible exact H2_) | with_reducible exact H | (rw [hy265]; exact H) | exact H
     have Ny265 := zM hy265
     clear hy265
     have H' := zM H
     clear H
     go_wp2_with (first | ((with_reducible refine gate_builtin (b := .append) (xs := #[.tmp 25, .tmp 26]) rfl ?_); at_builtin; refine Kd.R_append Kd.string (w0 := w) w.heap.size rfl (.tmp 25) (.tmp 26) 59 9 (.string ⟨#[]⟩) 16 rfl Tryz.underlying59 info9 rfl (by decide) (by omega) u5 x5_1 (⟨#[]⟩ : ByteArray) [.string (⟨#[]⟩ : ByteArray)] (fun _ => True) (fun _ => False) rfl rfl ?aP (fun _ hk => hk.elim) ?aF ?aO ?aB ?aS ?aL ?_; (case aP => exact rfl); (case aB => exact (by repeat (first | (with_reducible first | exact HB.1 | apply zA | apply zN | apply z1) | exact HB.1))); (case aF => exact (fun _ _ => trivial)); (case aO => exact (by (with_reducible repeat (first | apply Kd.R_alloc | apply Kd.R_drewN | apply Kd.R_drew)); exact HO_5.out)); (case aS => exact (zZ (by repeat (first | (with_reducible first | exact HB.1 | apply zA | apply zN | apply z1) | exact HB.1)))); (case aL => have := LMc12.out; omega); intro v266 w13 ho hb hg hat; rw [← Ny265.out] at ho; have n0_ := zM (hb); have n1_ := zM (ho); clear HB; clear HO_5; have HB := n0_; have HO267 := n1_; clear n0_ n1_; clear ho hb hg hat))
     go_roundg k1
     case measure => have := HK1.out; omega
     case rel => exact ⟨(y265), (wrap64 (x6_1 + 1)), (by first | rfl | (simp; done) | (simp [*]; done)), H', ⟨by have := HK1.out; omega⟩, ⟨by (with_reducible repeat (first | apply Kd.R_alloc | apply Kd.R_drewN | apply Kd.R_drew)); exact HO267.out⟩, ⟨by repeat (first | (with_reducible first | exact HB.1 | apply zA | apply zN | apply z1) | exact HB.1)⟩⟩
   ·rw [if_neg c5] at H
    have c5b0 : decide (x6_1 < a1) = false := decide_eq_false c5
    clear c5
    obtain rfl := Option.some.inj H
    go_wp2
    go_ret
    exact ⟨_, by first | rfl | (simp [errW_none, errW_some] <;> rfl) | (simp [*, errW_none, errW_some] <;> rfl), by (with_reducible repeat (first | apply Kd.R_alloc | apply Kd.R_drewN | apply Kd.R_drew)); exact HO_5.out, by repeat (first | (with_reducible first | exact HB.1 | apply zA | apply zN | apply z1) | exact HB.1)⟩

/-! ### bitemporalref55_repeat: function 59 -/
def bitemporalref55_repeat.l0 : Nat → ByteArray → Int → ByteArray → Int → Option (ByteArray)
  | 0, _, _, _, _ => none
  | k + 1, x0, x1, x5, x6 => if x6 < x1 then (if x5.size + x0.size ≤ 9223372036854775807 then (bitemporalref55_repeat.l0 k x0 x1 (x5 ++ x0) (wrap64 (x6 + 1))) else (none)) else (some x5)
def bitemporalref55_repeat.f (k : Nat) (a0 : ByteArray) (a1 : Int) : Option (ByteArray) := bitemporalref55_repeat.l0 k a0 a1 (⟨#[]⟩ : ByteArray) 0
theorem bitemporalref55_repeat.mono_l : ∀ k, (∀ y0 y1 y2 y3, LeO (bitemporalref55_repeat.l0 k y0 y1 y2 y3) (bitemporalref55_repeat.l0 (k + 1) y0 y1 y2 y3))
  | 0 => fun _ _ _ _ r h => by simp [bitemporalref55_repeat.l0] at h
  | k + 1 => by
    have ih0 := bitemporalref55_repeat.mono_l k
    · intro y0 y1 y2 y3
      unfold bitemporalref55_repeat.l0
      repeat' first
      | (with_reducible exact ih0 _ _ _ _)
      | (with_reducible exact LeO.refl _)
      | (with_reducible exact LeO.none _)
      | (with_reducible refine LeO.ite ?_ ?_)
      | (with_reducible refine LeO.bind ?_ (fun _ => ?_))
      | exact ih0 _ _ _ _
      | exact LeO.none _
      | refine LeO.ite ?_ ?_
      | refine LeO.bind ?_ (fun _ => ?_)
theorem bitemporalref55_repeat.mono : ∀ a0 a1 k, LeO (bitemporalref55_repeat.f k a0 a1) (bitemporalref55_repeat.f (k + 1) a0 a1) := by
  intro a0 a1 k
  have ih0 := bitemporalref55_repeat.mono_l k
  unfold bitemporalref55_repeat.f
  repeat' first
      | (with_reducible exact ih0 _ _ _ _)
      | (with_reducible exact LeO.refl _)
      | (with_reducible exact LeO.none _)
      | (with_reducible refine LeO.ite ?_ ?_)
      | (with_reducible refine LeO.bind ?_ (fun _ => ?_))
      | exact ih0 _ _ _ _
      | exact LeO.none _
      | refine LeO.ite ?_ ?_
      | refine LeO.bind ?_ (fun _ => ?_)
set_option maxHeartbeats 8000000 in
set_option maxRecDepth 100000 in
theorem bitemporalref55_repeat.calls (k : Nat) (a0 : ByteArray) (a1 : Int) (r : ByteArray) (w : World) (h : bitemporalref55_repeat.f k a0 a1 = some r) (hG : GW w) :
  Calls Tryz.prog 59 #[.string a0, .int .i64 a1] w fun e w' => e = .returned (.string r) ∧ Drawn0 w w' := by
 have HG := zM hG
 clear hG
 have H : (bitemporalref55_repeat.l0 k a0 a1 (⟨#[]⟩ : ByteArray) 0) = some r := h
 clear h
 have H' := zM H
 clear H
 go_enter Tryz.func59, Tryz.ntmps59
 go_wp2
 go_loopg [5, 6] k (fun kq v5 v6 w' => ∃ (x5_1 : ByteArray) (x6_1 : Int), v5 = .string x5_1 ∧ v6 = .int .i64 x6_1 ∧ Aside0 (bitemporalref55_repeat.l0 kq a0 a1 x5_1 x6_1 = some r) ∧ Aside0 (kq ≤ k) ∧ Drawn0 w w')
 case atStart => exact ⟨((⟨#[]⟩ : ByteArray)), (0), (by first | rfl | (simp; done) | (simp [*]; done)), (by first | rfl | (simp; done) | (simp [*]; done)), H', ⟨Nat.le_refl _⟩, by repeat (first | exact Drawn0.refl _ | apply Drawn0.step)⟩
 case round =>
  clear H'
  try clear p2
  obtain ⟨x5_1, x6_1, rfl, rfl, HA, HK1, ⟨m1, rfl⟩⟩ := hrel
  cases gk with
  | zero => exact absurd HA.out (by simp [bitemporalref55_repeat.l0])
  | succ k1 =>
   have H := HA.out
   clear HA
   simp only [bitemporalref55_repeat.l0] at H
   by_cases c3 : x6_1 < a1
   ·rw [if_pos c3] at H
    have c3b0 : decide (x6_1 < a1) = true := decide_eq_true c3
    clear c3
    by_cases c4 : x5_1.size + a0.size ≤ 9223372036854775807
    case neg =>
     rw [if_neg c4] at H
     exact absurd H (by simp)
    rw [if_pos c4] at H
    have c4b0 := eq_true c4
    have c4b1 := decide_eq_true c4
    try have c4b2 := eq_false (Nat.not_lt.2 c4)
    have H' := zM H
    clear H
    go_wp2
    go_roundg k1
    case measure => have := HK1.out; omega
    case rel => exact ⟨(x5_1 ++ a0), (wrap64 (x6_1 + 1)), (by first | rfl | (simp; done) | (simp [*]; done)), (by first | rfl | (simp; done) | (simp [*]; done)), H', ⟨by have := HK1.out; omega⟩, by repeat (first | exact Drawn0.refl _ | apply Drawn0.step)⟩
   ·rw [if_neg c3] at H
    have c3b0 : decide (x6_1 < a1) = false := decide_eq_false c3
    clear c3
    obtain rfl := Option.some.inj H
    go_wp2
    go_ret
    exact ⟨by first | rfl | (simp; done) | (simp [*]; done), by repeat (first | exact Drawn0.refl _ | apply Drawn0.step)⟩

/-! ### bitemporalref55_line: function 60 -/
def bitemporalref55_line.l0 : Nat → List ByteArray → List Int → ByteArray → Int → Option (ByteArray)
  | 0, _, _, _, _ => none
  | k + 1, x0, x1, x5, x6 => if x6 < (x0.length : Int) then (if x6 > 0 then (if x5.size + 3 ≤ 9223372036854775807 then (if 0 ≤ x6 then (if (x5 ++ (⟨#[32, 124, 32]⟩ : ByteArray)).size + (rdOf ByteArray.empty x0 x6).size ≤ 9223372036854775807 then (if x6 < (wrap64 ((x0.length : Int) - 1)) then (if x6 < (x1.length : Int) then ((bitemporalref55_repeat.f k (⟨#[32]⟩ : ByteArray) (wrap64 ((rd x1 x6) - ((rdOf ByteArray.empty x0 x6).size : Int)))).bind fun t277 => (if ((x5 ++ (⟨#[32, 124, 32]⟩ : ByteArray)) ++ (rdOf ByteArray.empty x0 x6)).size + t277.size ≤ 9223372036854775807 then (bitemporalref55_line.l0 k x0 x1 (((x5 ++ (⟨#[32, 124, 32]⟩ : ByteArray)) ++ (rdOf ByteArray.empty x0 x6)) ++ t277) (wrap64 (x6 + 1))) else (none))) else (none)) else (bitemporalref55_line.l0 k x0 x1 ((x5 ++ (⟨#[32, 124, 32]⟩ : ByteArray)) ++ (rdOf ByteArray.empty x0 x6)) (wrap64 (x6 + 1)))) else (none)) else (none)) else (none)) else (if 0 ≤ x6 then (if x5.size + (rdOf ByteArray.empty x0 x6).size ≤ 9223372036854775807 then (if x6 < (wrap64 ((x0.length : Int) - 1)) then (if x6 < (x1.length : Int) then ((bitemporalref55_repeat.f k (⟨#[32]⟩ : ByteArray) (wrap64 ((rd x1 x6) - ((rdOf ByteArray.empty x0 x6).size : Int)))).bind fun t281 => (if (x5 ++ (rdOf ByteArray.empty x0 x6)).size + t281.size ≤ 9223372036854775807 then (bitemporalref55_line.l0 k x0 x1 ((x5 ++ (rdOf ByteArray.empty x0 x6)) ++ t281) (wrap64 (x6 + 1))) else (none))) else (none)) else (bitemporalref55_line.l0 k x0 x1 (x5 ++ (rdOf ByteArray.empty x0 x6)) (wrap64 (x6 + 1)))) else (none)) else (none))) else (if x5.size + 1 ≤ 9223372036854775807 then (some (x5 ++ (⟨#[10]⟩ : ByteArray))) else (none))
def bitemporalref55_line.f (k : Nat) (l0 : List ByteArray) (l1 : List Int) : Option (ByteArray) := bitemporalref55_line.l0 k l0 l1 (⟨#[]⟩ : ByteArray) 0
theorem bitemporalref55_line.mono_l : ∀ k, (∀ y0 y1 y2 y3, LeO (bitemporalref55_line.l0 k y0 y1 y2 y3) (bitemporalref55_line.l0 (k + 1) y0 y1 y2 y3))
  | 0 => fun _ _ _ _ r h => by simp [bitemporalref55_line.l0] at h
  | k + 1 => by
    have ih0 := bitemporalref55_line.mono_l k
    · intro y0 y1 y2 y3
      unfold bitemporalref55_line.l0
      repeat' first
      | (with_reducible exact ih0 _ _ _ _)
      | (with_reducible exact bitemporalref55_repeat.mono _ _ _)
      | (with_reducible exact LeO.refl _)
      | (with_reducible exact LeO.none _)
      | (with_reducible refine LeO.ite ?_ ?_)
      | (with_reducible refine LeO.bind ?_ (fun _ => ?_))
      | exact ih0 _ _ _ _
      | exact bitemporalref55_repeat.mono _ _ _
      | exact LeO.none _
      | refine LeO.ite ?_ ?_
      | refine LeO.bind ?_ (fun _ => ?_)
theorem bitemporalref55_line.mono : ∀ a0 a1 k, LeO (bitemporalref55_line.f k a0 a1) (bitemporalref55_line.f (k + 1) a0 a1) := by
  intro a0 a1 k
  have ih0 := bitemporalref55_line.mono_l k
  unfold bitemporalref55_line.f
  repeat' first
      | (with_reducible exact ih0 _ _ _ _)
      | (with_reducible exact bitemporalref55_repeat.mono _ _ _)
      | (with_reducible exact LeO.refl _)
      | (with_reducible exact LeO.none _)
      | (with_reducible refine LeO.ite ?_ ?_)
      | (with_reducible refine LeO.bind ?_ (fun _ => ?_))
      | exact ih0 _ _ _ _
      | exact bitemporalref55_repeat.mono _ _ _
      | exact LeO.none _
      | refine LeO.ite ?_ ?_
      | refine LeO.bind ?_ (fun _ => ?_)
set_option maxHeartbeats 8000000 in
set_option maxRecDepth 100000 in
theorem bitemporalref55_line.calls (k : Nat) (A0 : Option Addr) (c0 : Nat) (l0 : List ByteArray) (A1 : Option Addr) (c1 : Nat) (l1 : List Int) (r : ByteArray) (w : World) (hr0 : Kd.C Kd.string w A0 l0.length l0) (hc0 : l0.length ≤ c0) (hr1 : Kd.C (Kd.int .i64) w A1 l1.length l1) (hc1 : l1.length ≤ c1) (h : bitemporalref55_line.f k l0 l1 = some r) (hG : GW w) :
  Calls Tryz.prog 60 #[.slice A0 l0.length c0, .slice A1 l1.length c1] w fun e w' => e = .returned (.string r) ∧ Drawn0 w w' := by
 have HG := zM hG
 clear hG
 have HR0 := zM hr0
 have HC0 := zM hc0
 clear hr0 hc0
 have HR1 := zM hr1
 have HC1 := zM hc1
 clear hr1 hc1
 have H : (bitemporalref55_line.l0 k l0 l1 (⟨#[]⟩ : ByteArray) 0) = some r := h
 clear h
 have H' := zM H
 clear H
 go_enter Tryz.func60, Tryz.ntmps60
 go_wp2
 repeat (go_quiet (fail); try go_wp2)
 go_loopg [5, 6] k (fun kq v5 v6 w' => ∃ (x5_1 : ByteArray) (x6_1 : Int), v5 = .string x5_1 ∧ v6 = .int .i64 x6_1 ∧ Aside0 (bitemporalref55_line.l0 kq l0 l1 x5_1 x6_1 = some r) ∧ Aside0 (kq ≤ k) ∧ Drawn0 w w')
 case atStart => exact ⟨((⟨#[]⟩ : ByteArray)), (0), (by first | rfl | (simp; done) | (simp [*]; done)), (by first | rfl | (simp; done) | (simp [*]; done)), H', ⟨Nat.le_refl _⟩, by repeat (first | exact Drawn0.refl _ | apply Drawn0.step)⟩
 case round =>
  clear H'
  try clear c1
  try clear p2
  obtain ⟨x5_1, x6_1, rfl, rfl, HA, HK1, ⟨m1, rfl⟩⟩ := hrel
  cases gk with
  | zero => exact absurd HA.out (by simp [bitemporalref55_line.l0])
  | succ k1 =>
   have H := HA.out
   clear HA
   simp only [bitemporalref55_line.l0] at H
   by_cases c3 : x6_1 < (l0.length : Int)
   ·rw [if_pos c3] at H
    have c3b0 : decide (x6_1 < (l0.length : Int)) = true := decide_eq_true c3
    clear c3
    by_cases c4 : x6_1 > 0
    ·rw [if_pos c4] at H
     have c4b0 : decide (0 < x6_1) = true := decide_eq_true c4
     clear c4
     by_cases c5 : x5_1.size + 3 ≤ 9223372036854775807
     case neg =>
      rw [if_neg c5] at H
      exact absurd H (by simp)
     rw [if_pos c5] at H
     have c5b0 := eq_true c5
     have c5b1 := decide_eq_true c5
     try have c5b2 := eq_false (Nat.not_lt.2 c5)
     by_cases c6 : 0 ≤ x6_1
     case neg =>
      rw [if_neg c6] at H
      exact absurd H (by simp)
     rw [if_pos c6] at H
     have c6b0 : decide (0 ≤ x6_1) = true := decide_eq_true c6
     clear c6
     by_cases c7 : (x5_1 ++ (⟨#[32, 124, 32]⟩ : ByteArray)).size + (rdOf ByteArray.empty l0 x6_1).size ≤ 9223372036854775807
     case neg =>
      rw [if_neg c7] at H
      exact absurd H (by simp)
     rw [if_pos c7] at H
     have c7b0 := eq_true c7
     have c7b1 := decide_eq_true c7
     try have c7b2 := eq_false (Nat.not_lt.2 c7)
     try (have c7b3 := c7b2; simp only [ByteArray.size_append, size_lit, List.size_toArray, List.length_cons, List.length_nil, Nat.zero_add] at c7b3)
     by_cases c8 : x6_1 < (wrap64 ((l0.length : Int) - 1))
     ·rw [if_pos c8] at H
      have c8b0 : decide (x6_1 < (wrap64 ((l0.length : Int) - 1))) = true := decide_eq_true c8
      clear c8
      by_cases c9 : x6_1 < (l1.length : Int)
      case neg =>
       rw [if_neg c9] at H
       exact absurd H (by simp)
      rw [if_pos c9] at H
      have c9b0 : decide (x6_1 < (l1.length : Int)) = true := decide_eq_true c9
      clear c9
      replace H := Option.bind_eq_some_iff.mp H
      obtain ⟨t277, A100, H⟩ := H
      have A10 := zM A100
      clear A100
      by_cases c11 : ((x5_1 ++ (⟨#[32, 124, 32]⟩ : ByteArray)) ++ (rdOf ByteArray.empty l0 x6_1)).size + t277.size ≤ 9223372036854775807
      case neg =>
       rw [if_neg c11] at H
       exact absurd H (by simp)
      rw [if_pos c11] at H
      have c11b0 := eq_true c11
      have c11b1 := decide_eq_true c11
      try have c11b2 := eq_false (Nat.not_lt.2 c11)
      try (have c11b3 := c11b2; simp only [ByteArray.size_append, size_lit, List.size_toArray, List.length_cons, List.length_nil, Nat.zero_add] at c11b3)
      have H' := zM H
      clear H
      have p274 : 0 ≤ (x6_1 : Int) := of_decide_eq_true (by first | (with_reducible assumption) | assumption)
      have q274 : x6_1 < (l0.length : Int) := of_decide_eq_true (by first | (with_reducible assumption) | assumption)
      obtain ⟨ad274, e274, hx274_0⟩ := Kd.at_string HR0.out x6_1 p274 q274
      cases e274
      replace p274 := eq_true p274
      replace q274 := eq_true q274
      have p275 : 0 ≤ (x6_1 : Int) := of_decide_eq_true (by first | (with_reducible assumption) | assumption)
      have q275 : x6_1 < (l1.length : Int) := of_decide_eq_true (by first | (with_reducible assumption) | assumption)
      obtain ⟨ad275, e275, hx275_0⟩ := Kd.at_int HR1.out x6_1 p275 q275
      cases e275
      replace p275 := eq_true p275
      replace q275 := eq_true q275
      have p276 : 0 ≤ (x6_1 : Int) := of_decide_eq_true (by first | (with_reducible assumption) | assumption)
      have q276 : x6_1 < (l0.length : Int) := of_decide_eq_true (by first | (with_reducible assumption) | assumption)
      obtain ⟨ad276, e276, hx276_0⟩ := Kd.at_string HR0.out x6_1 p276 q276
      obtain rfl : ad274 = ad276 := (by injection e276)
      replace p276 := eq_true p276
      replace q276 := eq_true q276
      go_wp2_with (first | (go_at_call 59; (with_reducible refine (bitemporalref55_repeat.calls k1 (⟨#[32]⟩ : ByteArray) (wrap64 ((rd l1 x6_1) - ((rdOf ByteArray.empty l0 x6_1).size : Int))) t277 _ A10.out ?gw_).mono ?_); (case gw_ => repeat (first | exact HG.1 | apply GW.drewN | apply GW.drew)); rintro e w' ⟨rfl, ⟨nd, rfl⟩⟩; (try first | exact ⟨rfl, _, World.drewN_drewN _ _ _⟩ | exact ⟨rfl, _, Eq.trans (World.drewN_drewN _ _ _) (congrArg (World.drewN _) (Nat.add_assoc _ _ _))⟩)))
      repeat (go_quiet (first | (go_at_call 59; (with_reducible refine (bitemporalref55_repeat.calls k1 (⟨#[32]⟩ : ByteArray) (wrap64 ((rd l1 x6_1) - ((rdOf ByteArray.empty l0 x6_1).size : Int))) t277 _ A10.out ?gw_).mono ?_); (case gw_ => repeat (first | exact HG.1 | apply GW.drewN | apply GW.drew)); rintro e w' ⟨rfl, ⟨nd, rfl⟩⟩; (try first | exact ⟨rfl, _, World.drewN_drewN _ _ _⟩ | exact ⟨rfl, _, Eq.trans (World.drewN_drewN _ _ _) (congrArg (World.drewN _) (Nat.add_assoc _ _ _))⟩))); try go_wp2_with (first | (go_at_call 59; (with_reducible refine (bitemporalref55_repeat.calls k1 (⟨#[32]⟩ : ByteArray) (wrap64 ((rd l1 x6_1) - ((rdOf ByteArray.empty l0 x6_1).size : Int))) t277 _ A10.out ?gw_).mono ?_); (case gw_ => repeat (first | exact HG.1 | apply GW.drewN | apply GW.drew)); rintro e w' ⟨rfl, ⟨nd, rfl⟩⟩; (try first | exact ⟨rfl, _, World.drewN_drewN _ _ _⟩ | exact ⟨rfl, _, Eq.trans (World.drewN_drewN _ _ _) (congrArg (World.drewN _) (Nat.add_assoc _ _ _))⟩))))
      go_roundg k1
      case measure => have := HK1.out; omega
      case rel => exact ⟨(((x5_1 ++ (⟨#[32, 124, 32]⟩ : ByteArray)) ++ (rdOf ByteArray.empty l0 x6_1)) ++ t277), (wrap64 (x6_1 + 1)), (by first | rfl | (simp; done) | (simp [*]; done)), (by first | rfl | (simp; done) | (simp [*]; done)), H', ⟨by have := HK1.out; omega⟩, by repeat (first | exact Drawn0.refl _ | apply Drawn0.step)⟩
     ·rw [if_neg c8] at H
      have c8b0 : decide (x6_1 < (wrap64 ((l0.length : Int) - 1))) = false := decide_eq_false c8
      clear c8
      have H' := zM H
      clear H
      have p274 : 0 ≤ (x6_1 : Int) := of_decide_eq_true (by first | (with_reducible assumption) | assumption)
      have q274 : x6_1 < (l0.length : Int) := of_decide_eq_true (by first | (with_reducible assumption) | assumption)
      obtain ⟨ad274, e274, hx274_0⟩ := Kd.at_string HR0.out x6_1 p274 q274
      cases e274
      replace p274 := eq_true p274
      replace q274 := eq_true q274
      go_wp2
      repeat (go_quiet (fail); try go_wp2)
      go_roundg k1
      case measure => have := HK1.out; omega
      case rel => exact ⟨((x5_1 ++ (⟨#[32, 124, 32]⟩ : ByteArray)) ++ (rdOf ByteArray.empty l0 x6_1)), (wrap64 (x6_1 + 1)), (by first | rfl | (simp; done) | (simp [*]; done)), (by first | rfl | (simp; done) | (simp [*]; done)), H', ⟨by have := HK1.out; omega⟩, by repeat (first | exact Drawn0.refl _ | apply Drawn0.step)⟩
    ·rw [if_neg c4] at H
     have c4b0 : decide (0 < x6_1) = false := decide_eq_false c4
     clear c4
     by_cases c12 : 0 ≤ x6_1
     case neg =>
      rw [if_neg c12] at H
      exact absurd H (by simp)
     rw [if_pos c12] at H
     have c12b0 : decide (0 ≤ x6_1) = true := decide_eq_true c12
     clear c12
     by_cases c13 : x5_1.size + (rdOf ByteArray.empty l0 x6_1).size ≤ 9223372036854775807
     case neg =>
      rw [if_neg c13] at H
      exact absurd H (by simp)
     rw [if_pos c13] at H
     have c13b0 := eq_true c13
     have c13b1 := decide_eq_true c13
     try have c13b2 := eq_false (Nat.not_lt.2 c13)
     by_cases c14 : x6_1 < (wrap64 ((l0.length : Int) - 1))
     ·rw [if_pos c14] at H
      have c14b0 : decide (x6_1 < (wrap64 ((l0.length : Int) - 1))) = true := decide_eq_true c14
      clear c14
      by_cases c15 : x6_1 < (l1.length : Int)
      case neg =>
       rw [if_neg c15] at H
       exact absurd H (by simp)
      rw [if_pos c15] at H
      have c15b0 : decide (x6_1 < (l1.length : Int)) = true := decide_eq_true c15
      clear c15
      replace H := Option.bind_eq_some_iff.mp H
      obtain ⟨t281, A160, H⟩ := H
      have A16 := zM A160
      clear A160
      by_cases c17 : (x5_1 ++ (rdOf ByteArray.empty l0 x6_1)).size + t281.size ≤ 9223372036854775807
      case neg =>
       rw [if_neg c17] at H
       exact absurd H (by simp)
      rw [if_pos c17] at H
      have c17b0 := eq_true c17
      have c17b1 := decide_eq_true c17
      try have c17b2 := eq_false (Nat.not_lt.2 c17)
      try (have c17b3 := c17b2; simp only [ByteArray.size_append, size_lit, List.size_toArray, List.length_cons, List.length_nil, Nat.zero_add] at c17b3)
      have H' := zM H
      clear H
      have p278 : 0 ≤ (x6_1 : Int) := of_decide_eq_true (by first | (with_reducible assumption) | assumption)
      have q278 : x6_1 < (l0.length : Int) := of_decide_eq_true (by first | (with_reducible assumption) | assumption)
      obtain ⟨ad278, e278, hx278_0⟩ := Kd.at_string HR0.out x6_1 p278 q278
      cases e278
      replace p278 := eq_true p278
      replace q278 := eq_true q278
      have p279 : 0 ≤ (x6_1 : Int) := of_decide_eq_true (by first | (with_reducible assumption) | assumption)
      have q279 : x6_1 < (l1.length : Int) := of_decide_eq_true (by first | (with_reducible assumption) | assumption)
      obtain ⟨ad279, e279, hx279_0⟩ := Kd.at_int HR1.out x6_1 p279 q279
      cases e279
      replace p279 := eq_true p279
      replace q279 := eq_true q279
      have p280 : 0 ≤ (x6_1 : Int) := of_decide_eq_true (by first | (with_reducible assumption) | assumption)
      have q280 : x6_1 < (l0.length : Int) := of_decide_eq_true (by first | (with_reducible assumption) | assumption)
      obtain ⟨ad280, e280, hx280_0⟩ := Kd.at_string HR0.out x6_1 p280 q280
      obtain rfl : ad278 = ad280 := (by injection e280)
      replace p280 := eq_true p280
      replace q280 := eq_true q280
      go_wp2_with (first | (go_at_call 59; (with_reducible refine (bitemporalref55_repeat.calls k1 (⟨#[32]⟩ : ByteArray) (wrap64 ((rd l1 x6_1) - ((rdOf ByteArray.empty l0 x6_1).size : Int))) t281 _ A16.out ?gw_).mono ?_); (case gw_ => repeat (first | exact HG.1 | apply GW.drewN | apply GW.drew)); rintro e w' ⟨rfl, ⟨nd, rfl⟩⟩; (try first | exact ⟨rfl, _, World.drewN_drewN _ _ _⟩ | exact ⟨rfl, _, Eq.trans (World.drewN_drewN _ _ _) (congrArg (World.drewN _) (Nat.add_assoc _ _ _))⟩)))
      repeat (go_quiet (first | (go_at_call 59; (with_reducible refine (bitemporalref55_repeat.calls k1 (⟨#[32]⟩ : ByteArray) (wrap64 ((rd l1 x6_1) - ((rdOf ByteArray.empty l0 x6_1).size : Int))) t281 _ A16.out ?gw_).mono ?_); (case gw_ => repeat (first | exact HG.1 | apply GW.drewN | apply GW.drew)); rintro e w' ⟨rfl, ⟨nd, rfl⟩⟩; (try first | exact ⟨rfl, _, World.drewN_drewN _ _ _⟩ | exact ⟨rfl, _, Eq.trans (World.drewN_drewN _ _ _) (congrArg (World.drewN _) (Nat.add_assoc _ _ _))⟩))); try go_wp2_with (first | (go_at_call 59; (with_reducible refine (bitemporalref55_repeat.calls k1 (⟨#[32]⟩ : ByteArray) (wrap64 ((rd l1 x6_1) - ((rdOf ByteArray.empty l0 x6_1).size : Int))) t281 _ A16.out ?gw_).mono ?_); (case gw_ => repeat (first | exact HG.1 | apply GW.drewN | apply GW.drew)); rintro e w' ⟨rfl, ⟨nd, rfl⟩⟩; (try first | exact ⟨rfl, _, World.drewN_drewN _ _ _⟩ | exact ⟨rfl, _, Eq.trans (World.drewN_drewN _ _ _) (congrArg (World.drewN _) (Nat.add_assoc _ _ _))⟩))))
      go_roundg k1
      case measure => have := HK1.out; omega
      case rel => exact ⟨((x5_1 ++ (rdOf ByteArray.empty l0 x6_1)) ++ t281), (wrap64 (x6_1 + 1)), (by first | rfl | (simp; done) | (simp [*]; done)), (by first | rfl | (simp; done) | (simp [*]; done)), H', ⟨by have := HK1.out; omega⟩, by repeat (first | exact Drawn0.refl _ | apply Drawn0.step)⟩
     ·rw [if_neg c14] at H
      have c14b0 : decide (x6_1 < (wrap64 ((l0.length : Int) - 1))) = false := decide_eq_false c14
      clear c14
      have H' := zM H
      clear H
      have p278 : 0 ≤ (x6_1 : Int) := of_decide_eq_true (by first | (with_reducible assumption) | assumption)
      have q278 : x6_1 < (l0.length : Int) := of_decide_eq_true (by first | (with_reducible assumption) | assumption)
      obtain ⟨ad278, e278, hx278_0⟩ := Kd.at_string HR0.out x6_1 p278 q278
      cases e278
      replace p278 := eq_true p278
      replace q278 := eq_true q278
      go_wp2
      repeat (go_quiet (fail); try go_wp2)
      go_roundg k1
      case measure => have := HK1.out; omega
      case rel => exact ⟨(x5_1 ++ (rdOf ByteArray.empty l0 x6_1)), (wrap64 (x6_1 + 1)), (by first | rfl | (simp; done) | (simp [*]; done)), (by first | rfl | (simp; done) | (simp [*]; done)), H', ⟨by have := HK1.out; omega⟩, by repeat (first | exact Drawn0.refl _ | apply Drawn0.step)⟩
   ·rw [if_neg c3] at H
    have c3b0 : decide (x6_1 < (l0.length : Int)) = false := decide_eq_false c3
    clear c3
    by_cases c18 : x5_1.size + 1 ≤ 9223372036854775807
    case neg =>
     rw [if_neg c18] at H
     exact absurd H (by simp)
    rw [if_pos c18] at H
    have c18b0 := eq_true c18
    have c18b1 := decide_eq_true c18
    try have c18b2 := eq_false (Nat.not_lt.2 c18)
    obtain rfl := Option.some.inj H
    go_wp2
    repeat (go_quiet (fail); try go_wp2)
    go_ret
    exact ⟨by first | rfl | (simp; done) | (simp [*]; done), by repeat (first | exact Drawn0.refl _ | apply Drawn0.step)⟩

/-! ### bitemporalref55_table: function 35 -/
mutual
def bitemporalref55_table.l0 : Nat → List ByteArray → List (List ByteArray) → List Int → ByteArray → Int → Option (ByteArray)
  | 0, _, _, _, _, _ => none
  | k + 1, x0, x1, x5, x6, x7 => if x7 < (x0.length : Int) then (if 0 ≤ x7 then (bitemporalref55_table.l1 k x0 x1 x5 x6 x7 ((rdOf ByteArray.empty x0 x7).size : Int) 0) else (none)) else ((bitemporalref55_line.f k x0 x5).bind fun t293 => (if t293.size + x6.size ≤ 9223372036854775807 then (if (t293 ++ x6).size + 1 ≤ 9223372036854775807 then (bitemporalref55_table.l2 k x1 x5 ((t293 ++ x6) ++ (⟨#[10]⟩ : ByteArray)) 0) else (none)) else (none)))
def bitemporalref55_table.l1 : Nat → List ByteArray → List (List ByteArray) → List Int → ByteArray → Int → Int → Int → Option (ByteArray)
  | 0, _, _, _, _, _, _, _ => none
  | k + 1, x0, x1, x5, x6, x7, x8, x9 => if x9 < (x1.length : Int) then (if 0 ≤ x9 then (if 0 ≤ x7 then (if x7 < ((rd_L8 x1 x9).length : Int) then (bitemporalref55_table.l1 k x0 x1 x5 x6 x7 (mx x8 ((rdOf ByteArray.empty (rd_L8 x1 x9) x7).size : Int)) (wrap64 (x9 + 1))) else (none)) else (none)) else (none)) else (if x5.length < 17592186044416 then ((some (x5 ++ [x8] : List Int)).bind fun y288 => (if x7 > 0 then (if x6.size + 3 ≤ 9223372036854775807 then ((bitemporalref55_repeat.f k (⟨#[45]⟩ : ByteArray) x8).bind fun t291 => (if (x6 ++ (⟨#[45, 43, 45]⟩ : ByteArray)).size + t291.size ≤ 9223372036854775807 then (bitemporalref55_table.l0 k x0 x1 y288 ((x6 ++ (⟨#[45, 43, 45]⟩ : ByteArray)) ++ t291) (wrap64 (x7 + 1))) else (none))) else (none)) else ((bitemporalref55_repeat.f k (⟨#[45]⟩ : ByteArray) x8).bind fun t292 => (if x6.size + t292.size ≤ 9223372036854775807 then (bitemporalref55_table.l0 k x0 x1 y288 (x6 ++ t292) (wrap64 (x7 + 1))) else (none))))) else (none))
def bitemporalref55_table.l2 : Nat → List (List ByteArray) → List Int → ByteArray → Int → Option (ByteArray)
  | 0, _, _, _, _ => none
  | k + 1, x1, x5, x10, x11 => if x11 < (x1.length : Int) then (if 0 ≤ x11 then ((bitemporalref55_line.f k (rd_L8 x1 x11) x5).bind fun t296 => (if x10.size + t296.size ≤ 9223372036854775807 then (bitemporalref55_table.l2 k x1 x5 (x10 ++ t296) (wrap64 (x11 + 1))) else (none))) else (none)) else (some x10)
end
def bitemporalref55_table.f (k : Nat) (l0 : List ByteArray) (l1 : List (List ByteArray)) : Option (ByteArray) := bitemporalref55_table.l0 k l0 l1 (([] : List Int)) (⟨#[]⟩ : ByteArray) 0
theorem bitemporalref55_table.mono_l : ∀ k, (∀ y0 y1 y2 y3 y4, LeO (bitemporalref55_table.l0 k y0 y1 y2 y3 y4) (bitemporalref55_table.l0 (k + 1) y0 y1 y2 y3 y4)) ∧ (∀ y0 y1 y2 y3 y4 y5 y6, LeO (bitemporalref55_table.l1 k y0 y1 y2 y3 y4 y5 y6) (bitemporalref55_table.l1 (k + 1) y0 y1 y2 y3 y4 y5 y6)) ∧ (∀ y0 y1 y2 y3, LeO (bitemporalref55_table.l2 k y0 y1 y2 y3) (bitemporalref55_table.l2 (k + 1) y0 y1 y2 y3))
  | 0 => ⟨fun _ _ _ _ _ r h => by simp [bitemporalref55_table.l0] at h, fun _ _ _ _ _ _ _ r h => by simp [bitemporalref55_table.l1] at h, fun _ _ _ _ r h => by simp [bitemporalref55_table.l2] at h⟩
  | k + 1 => by
    obtain ⟨ih0, ih1, ih2⟩ := bitemporalref55_table.mono_l k
    refine ⟨?_, ?_, ?_⟩
    · intro y0 y1 y2 y3 y4
      unfold bitemporalref55_table.l0
      repeat' first
      | (with_reducible exact ih0 _ _ _ _ _)
      | (with_reducible exact ih1 _ _ _ _ _ _ _)
      | (with_reducible exact ih2 _ _ _ _)
      | (with_reducible exact bitemporalref55_line.mono _ _ _)
      | (with_reducible exact bitemporalref55_repeat.mono _ _ _)
      | (with_reducible exact LeO.refl _)
      | (with_reducible exact LeO.none _)
      | (with_reducible refine LeO.ite ?_ ?_)
      | (with_reducible refine LeO.bind ?_ (fun _ => ?_))
      | exact ih0 _ _ _ _ _
      | exact ih1 _ _ _ _ _ _ _
      | exact ih2 _ _ _ _
      | exact bitemporalref55_line.mono _ _ _
      | exact bitemporalref55_repeat.mono _ _ _
      | exact LeO.none _
      | refine LeO.ite ?_ ?_
      | refine LeO.bind ?_ (fun _ => ?_)
    · intro y0 y1 y2 y3 y4 y5 y6
      unfold bitemporalref55_table.l1
      repeat' first
      | (with_reducible exact ih0 _ _ _ _ _)
      | (with_reducible exact ih1 _ _ _ _ _ _ _)
      | (with_reducible exact ih2 _ _ _ _)
      | (with_reducible exact bitemporalref55_line.mono _ _ _)
      | (with_reducible exact bitemporalref55_repeat.mono _ _ _)
      | (with_reducible exact LeO.refl _)
      | (with_reducible exact LeO.none _)
      | (with_reducible refine LeO.ite ?_ ?_)
      | (with_reducible refine LeO.bind ?_ (fun _ => ?_))
      | exact ih0 _ _ _ _ _
      | exact ih1 _ _ _ _ _ _ _
      | exact ih2 _ _ _ _
      | exact bitemporalref55_line.mono _ _ _
      | exact bitemporalref55_repeat.mono _ _ _
      | exact LeO.none _
      | refine LeO.ite ?_ ?_
      | refine LeO.bind ?_ (fun _ => ?_)
    · intro y0 y1 y2 y3
      unfold bitemporalref55_table.l2
      repeat' first
      | (with_reducible exact ih0 _ _ _ _ _)
      | (with_reducible exact ih1 _ _ _ _ _ _ _)
      | (with_reducible exact ih2 _ _ _ _)
      | (with_reducible exact bitemporalref55_line.mono _ _ _)
      | (with_reducible exact bitemporalref55_repeat.mono _ _ _)
      | (with_reducible exact LeO.refl _)
      | (with_reducible exact LeO.none _)
      | (with_reducible refine LeO.ite ?_ ?_)
      | (with_reducible refine LeO.bind ?_ (fun _ => ?_))
      | exact ih0 _ _ _ _ _
      | exact ih1 _ _ _ _ _ _ _
      | exact ih2 _ _ _ _
      | exact bitemporalref55_line.mono _ _ _
      | exact bitemporalref55_repeat.mono _ _ _
      | exact LeO.none _
      | refine LeO.ite ?_ ?_
      | refine LeO.bind ?_ (fun _ => ?_)
theorem bitemporalref55_table.mono : ∀ a0 a1 k, LeO (bitemporalref55_table.f k a0 a1) (bitemporalref55_table.f (k + 1) a0 a1) := by
  intro a0 a1 k
  obtain ⟨ih0, ih1, ih2⟩ := bitemporalref55_table.mono_l k
  unfold bitemporalref55_table.f
  repeat' first
      | (with_reducible exact ih0 _ _ _ _ _)
      | (with_reducible exact ih1 _ _ _ _ _ _ _)
      | (with_reducible exact ih2 _ _ _ _)
      | (with_reducible exact bitemporalref55_line.mono _ _ _)
      | (with_reducible exact bitemporalref55_repeat.mono _ _ _)
      | (with_reducible exact LeO.refl _)
      | (with_reducible exact LeO.none _)
      | (with_reducible refine LeO.ite ?_ ?_)
      | (with_reducible refine LeO.bind ?_ (fun _ => ?_))
      | exact ih0 _ _ _ _ _
      | exact ih1 _ _ _ _ _ _ _
      | exact ih2 _ _ _ _
      | exact bitemporalref55_line.mono _ _ _
      | exact bitemporalref55_repeat.mono _ _ _
      | exact LeO.none _
      | refine LeO.ite ?_ ?_
      | refine LeO.bind ?_ (fun _ => ?_)
set_option maxHeartbeats 8000000 in
set_option maxRecDepth 100000 in
theorem bitemporalref55_table.calls (k : Nat) (A0 : Option Addr) (c0 : Nat) (l0 : List ByteArray) (A1 : Option Addr) (c1 : Nat) (l1 : List (List ByteArray)) (r : ByteArray) (w : World) (hr0 : Kd.C Kd.string w A0 l0.length l0) (hc0 : l0.length ≤ c0) (hr1 : Kd.C (Kd.slice 9 Kd.string) w A1 l1.length l1) (hc1 : l1.length ≤ c1) (h : bitemporalref55_table.f k l0 l1 = some r) (hG : GW w) :
  Calls Tryz.prog 35 #[.slice A0 l0.length c0, .slice A1 l1.length c1] w fun e w' => e = .returned (.string r) ∧ Below w.heap.size w w' := by
 have HG := zM hG
 clear hG
 have HR0 := zM hr0
 have HC0 := zM hc0
 clear hr0 hc0
 have HR1 := zM hr1
 have HC1 := zM hc1
 clear hr1 hc1
 have HB := zM (Below.refl w.heap.size w)
 have H : (bitemporalref55_table.l0 k l0 l1 (([] : List Int)) (⟨#[]⟩ : ByteArray) 0) = some r := h
 clear h
 obtain ⟨y282, hy282⟩ : ∃ y_ : List Int, y_ = (([] : List Int)) := ⟨_, rfl⟩
 replace H : (bitemporalref55_table.l0 k l0 l1 y282 (⟨#[]⟩ : ByteArray) 0) = some r := by first | (rw [hy282]; with_reducible exact H) | (have H2_ := (Option.bind_some _ _).symm.trans H; rw [hy282]; with_reducible exact H2_) | (have H2_ := (Option.bind_some _ _).symm.trans H; with_reducible exact H2_) | with_reducible exact H | (rw [hy282]; exact H) | exact H
 have Ny282 := zM hy282
 clear hy282
 have H' := zM H
 clear H
 go_enter Tryz.func35, Tryz.ntmps35
 go_wp2_with (first | ((with_reducible refine gate_dst (N := 12) rfl ?_); refine Kd.R_lit (Kd.int .i64) _ 3 ?hg (N := 12) ?hd (xs := ([] : List Int)) (inner := []) (ok := fun _ => True) (okp := fun _ => True) ?hr ?hp (fun _ hk => hk) trivial (Below.refl _ _) (Nat.le_refl _) (by simp) ?_; (case hd => rfl); (case hg => rfl); (case hr => first | (go_simp; done) | (go_simp; rfl)); (case hp => exact (Reps.none _ _)); intro v283 w3 ho4 hb hg_ hnew_; clear hg_ hnew_; (first | rw [← Ny282.out] at ho4 | (simp only [Int.reduceToNat] at ho4; rw [← Ny282.out] at ho4)); have n0_ := zM (Kd.R_lower ho4 (zZ (by repeat (first | (with_reducible first | exact HB.1 | apply zA | apply zN | apply z1) | exact HB.1)))); have n1_ := zM (zT (by repeat (first | (with_reducible first | exact HB.1 | apply zA | apply zN | apply z1) | exact HB.1)) hb); clear HB; have HO284 := n0_; have HB := n1_; clear n0_ n1_; clear hb ho4))
 go_loopg [5, 6, 7] k (fun kq v5 v6 v7 w' => ∃ (x5_1 : List Int) (x6_1 : ByteArray) (x7_1 : Int), v6 = .string x6_1 ∧ v7 = .int .i64 x7_1 ∧ Aside0 (bitemporalref55_table.l0 kq l0 l1 x5_1 x6_1 x7_1 = some r) ∧ Aside0 (kq ≤ k) ∧ Aside0 (Kd.R (Kd.int .i64) 3 w' w.heap.size (fun _ => True) v5 x5_1) ∧ Aside0 (Below w.heap.size w w'))
 case atStart => exact ⟨(y282), ((⟨#[]⟩ : ByteArray)), (0), (by first | rfl | (simp; done) | (simp [*]; done)), (by first | rfl | (simp; done) | (simp [*]; done)), H', ⟨Nat.le_refl _⟩, ⟨by (with_reducible repeat (first | apply Kd.R_alloc | apply Kd.R_drewN | apply Kd.R_drew)); exact HO284.out⟩, ⟨by repeat (first | (with_reducible first | exact HB.1 | apply zA | apply zN | apply z1) | exact HB.1)⟩⟩
 case round =>
  clear H'
  try clear c1
  try clear p2
  try clear c3
  obtain ⟨x5_1, x6_1, x7_1, rfl, rfl, HA, HK1, HO_5, HB⟩ := hrel
  cases gk with
  | zero => exact absurd HA.out (by simp [bitemporalref55_table.l0])
  | succ k1 =>
   have H := HA.out
   clear HA
   simp only [bitemporalref55_table.l0] at H
   by_cases c5 : x7_1 < (l0.length : Int)
   ·rw [if_pos c5] at H
    have c5b0 : decide (x7_1 < (l0.length : Int)) = true := decide_eq_true c5
    clear c5
    by_cases c6 : 0 ≤ x7_1
    case neg =>
     rw [if_neg c6] at H
     exact absurd H (by simp)
    rw [if_pos c6] at H
    have c6b0 : decide (0 ≤ x7_1) = true := decide_eq_true c6
    clear c6
    have H' := zM H
    clear H
    have p285 : 0 ≤ (x7_1 : Int) := of_decide_eq_true (by first | (with_reducible assumption) | assumption)
    have q285 : x7_1 < (l0.length : Int) := of_decide_eq_true (by first | (with_reducible assumption) | assumption)
    obtain ⟨ad285, e285, hx285_0⟩ := Kd.at_string HR0.out x7_1 p285 q285
    cases e285
    replace hx285_0 := (HB.1.cell (World.block_lt_of_cell? w _ hx285_0)).trans hx285_0
    replace p285 := eq_true p285
    replace q285 := eq_true q285
    go_wp2
    go_loopg [8, 9] k1 (fun kq v8 v9 w' => ∃ (x8_2 : Int) (x9_2 : Int), v8 = .int .i64 x8_2 ∧ v9 = .int .i64 x9_2 ∧ Aside0 (bitemporalref55_table.l1 kq l0 l1 x5_1 x6_1 x7_1 x8_2 x9_2 = some r) ∧ Aside0 (kq ≤ k1) ∧ Aside0 (Kd.R (Kd.int .i64) 3 w' w.heap.size (fun _ => True) u5 x5_1) ∧ Aside0 (Below w.heap.size w w'))
    case atStart => exact ⟨(((rdOf ByteArray.empty l0 x7_1).size : Int)), (0), (by first | rfl | (simp; done) | (simp [*]; done)), (by first | rfl | (simp; done) | (simp [*]; done)), H', ⟨Nat.le_refl _⟩, ⟨by (with_reducible repeat (first | apply Kd.R_alloc | apply Kd.R_drewN | apply Kd.R_drew)); exact HO_5.out⟩, ⟨by repeat (first | (with_reducible first | exact HB.1 | apply zA | apply zN | apply z1) | exact HB.1)⟩⟩
    case round =>
     clear H'
     try clear c1
     try clear p2
     try clear q2
     try clear hx2
     try clear c3
     try clear c5
     try clear c5b0
     try clear c6
     try clear c6b0
     try clear hx285_0
     try clear p2
     try clear p285
     try clear q285
     obtain ⟨x8_2, x9_2, rfl, rfl, HA, HK2, HO_5, HB⟩ := hrel
     cases gk with
     | zero => exact absurd HA.out (by simp [bitemporalref55_table.l1])
     | succ k2 =>
      have H := HA.out
      clear HA
      simp only [bitemporalref55_table.l1] at H
      by_cases c7 : x9_2 < (l1.length : Int)
      ·rw [if_pos c7] at H
       have c7b0 : decide (x9_2 < (l1.length : Int)) = true := decide_eq_true c7
       clear c7
       by_cases c8 : 0 ≤ x9_2
       case neg =>
        rw [if_neg c8] at H
        exact absurd H (by simp)
       rw [if_pos c8] at H
       have c8b0 : decide (0 ≤ x9_2) = true := decide_eq_true c8
       clear c8
       by_cases c9 : 0 ≤ x7_1
       case neg =>
        rw [if_neg c9] at H
        exact absurd H (by simp)
       rw [if_pos c9] at H
       have c9b0 : decide (0 ≤ x7_1) = true := decide_eq_true c9
       clear c9
       by_cases c10 : x7_1 < ((rd_L8 l1 x9_2).length : Int)
       case neg =>
        rw [if_neg c10] at H
        exact absurd H (by simp)
       rw [if_pos c10] at H
       have c10b0 : decide (x7_1 < ((rd_L8 l1 x9_2).length : Int)) = true := decide_eq_true c10
       clear c10
       obtain ⟨ji11, hji11⟩ : ∃ j_ : Int, (mx x8_2 ((rdOf ByteArray.empty (rd_L8 l1 x9_2) x7_1).size : Int)) = j_ := ⟨_, rfl⟩
       replace H : (bitemporalref55_table.l1 k2 l0 l1 x5_1 x6_1 x7_1 ji11 (wrap64 (x9_2 + 1))) = some r := by first | (rw [hji11] at H; exact H) | (simp only [hji11] at H ⊢; exact H)
       have hji11_ : (if x8_2 < ((rdOf ByteArray.empty (rd_L8 l1 x9_2) x7_1).size : Int) then ((rdOf ByteArray.empty (rd_L8 l1 x9_2) x7_1).size : Int) else x8_2) = ji11 := hji11
       have H' := zM H
       clear H
       have p286 : 0 ≤ (x9_2 : Int) := of_decide_eq_true (by first | (with_reducible assumption) | assumption)
       have q286 : x9_2 < (l1.length : Int) := of_decide_eq_true (by first | (with_reducible assumption) | assumption)
       obtain ⟨ad286, A286_0, c286_0, e286, hx286_0, hl286_0, hi286_0⟩ := at_L8 HR1.out x9_2 p286 q286
       cases e286
       replace hx286_0 := (HB.1.cell (World.block_lt_of_cell? w _ hx286_0)).trans hx286_0
       have HR286_0 := zM hi286_0
       have HC286_0 := zM hl286_0
       clear hi286_0 hl286_0
       replace p286 := eq_true p286
       replace q286 := eq_true q286
       have p287 : 0 ≤ (x7_1 : Int) := of_decide_eq_true (by first | (with_reducible assumption) | assumption)
       have q287 : x7_1 < ((rd_L8 l1 x9_2).length : Int) := of_decide_eq_true (by first | (with_reducible assumption) | assumption)
       obtain ⟨ad287, e287, hx287_0⟩ := Kd.at_string HR286_0.out x7_1 p287 q287
       cases e287
       replace hx287_0 := (HB.1.cell (World.block_lt_of_cell? w _ hx287_0)).trans hx287_0
       replace p287 := eq_true p287
       replace q287 := eq_true q287
       go_wp2
       go_roundg k2
       case measure => have := HK1.out; have := HK2.out; omega
       case rel => exact ⟨(ji11), (wrap64 (x9_2 + 1)), (by first | rfl | (simp; done) | (simp only [← hji11] <;> (first | rfl | simp)) | (simp [*]; done)), (by first | rfl | (simp; done) | (simp [*]; done)), H', ⟨by have := HK1.out; have := HK2.out; omega⟩, ⟨by (with_reducible repeat (first | apply Kd.R_alloc | apply Kd.R_drewN | apply Kd.R_drew)); exact HO_5.out⟩, ⟨by repeat (first | (with_reducible first | exact HB.1 | apply zA | apply zN | apply z1) | exact HB.1)⟩⟩
      ·rw [if_neg c7] at H
       have c7b0 : decide (x9_2 < (l1.length : Int)) = false := decide_eq_false c7
       clear c7
       by_cases c12 : x5_1.length < 17592186044416
       case neg =>
        rw [if_neg c12] at H
        exact absurd H (by simp)
       rw [if_pos c12] at H
       have LMc12 := zM c12
       clear c12
       obtain ⟨y288, hy288⟩ : ∃ y_ : List Int, y_ = (x5_1 ++ [x8_2]) := ⟨_, rfl⟩
       replace H : (if x7_1 > 0 then (if x6_1.size + 3 ≤ 9223372036854775807 then ((bitemporalref55_repeat.f k2 (⟨#[45]⟩ : ByteArray) x8_2).bind fun t291 => (if (x6_1 ++ (⟨#[45, 43, 45]⟩ : ByteArray)).size + t291.size ≤ 9223372036854775807 then (bitemporalref55_table.l0 k2 l0 l1 y288 ((x6_1 ++ (⟨#[45, 43, 45]⟩ : ByteArray)) ++ t291) (wrap64 (x7_1 + 1))) else (none))) else (none)) else ((bitemporalref55_repeat.f k2 (⟨#[45]⟩ : ByteArray) x8_2).bind fun t292 => (if x6_1.size + t292.size ≤ 9223372036854775807 then (bitemporalref55_table.l0 k2 l0 l1 y288 (x6_1 ++ t292) (wrap64 (x7_1 + 1))) else (none)))) = some r := by first | (rw [hy288]; with_reducible exact H) | (have H2_ := (Option.bind_some _ _).symm.trans H; rw [hy288]; with_reducible exact H2_) | (have H2_ := (Option.bind_some _ _).symm.trans H; with_reducible exact H2_) | with_reducible exact H | (rw [hy288]; exact H) | exact H
       have Ny288 := zM hy288
       clear hy288
       by_cases c13 : x7_1 > 0
       ·rw [if_pos c13] at H
        have c13b0 : decide (0 < x7_1) = true := decide_eq_true c13
        clear c13
        by_cases c14 : x6_1.size + 3 ≤ 9223372036854775807
        case neg =>
         rw [if_neg c14] at H
         exact absurd H (by simp)
        rw [if_pos c14] at H
        have c14b0 := eq_true c14
        have c14b1 := decide_eq_true c14
        try have c14b2 := eq_false (Nat.not_lt.2 c14)
        replace H := Option.bind_eq_some_iff.mp H
        obtain ⟨t291, A150, H⟩ := H
        have A15 := zM A150
        clear A150
        by_cases c16 : (x6_1 ++ (⟨#[45, 43, 45]⟩ : ByteArray)).size + t291.size ≤ 9223372036854775807
        case neg =>
         rw [if_neg c16] at H
         exact absurd H (by simp)
        rw [if_pos c16] at H
        have c16b0 := eq_true c16
        have c16b1 := decide_eq_true c16
        try have c16b2 := eq_false (Nat.not_lt.2 c16)
        try (have c16b3 := c16b2; simp only [ByteArray.size_append, size_lit, List.size_toArray, List.length_cons, List.length_nil, Nat.zero_add] at c16b3)
        have H' := zM H
        clear H
        go_wp2_with (first | ((with_reducible refine gate_builtin (b := .append) (xs := #[.tmp 40, .tmp 42]) rfl ?_); at_builtin; refine Kd.R_append (Kd.int .i64) (w0 := w) w.heap.size rfl (.tmp 40) (.tmp 42) 28 3 (.int .i64 0) 8 rfl Tryz.underlying28 info3 rfl (by decide) (by omega) u5 x5_1 x8_2 [.int .i64 x8_2] (fun _ => True) (fun _ => False) rfl rfl ?aP (fun _ hk => hk.elim) ?aF ?aO ?aB ?aS ?aL ?_; (case aP => exact rfl); (case aB => exact (by repeat (first | (with_reducible first | exact HB.1 | apply zA | apply zN | apply z1) | exact HB.1))); (case aF => exact (fun _ _ => trivial)); (case aO => exact (by (with_reducible repeat (first | apply Kd.R_alloc | apply Kd.R_drewN | apply Kd.R_drew)); exact HO_5.out)); (case aS => exact (zZ (by repeat (first | (with_reducible first | exact HB.1 | apply zA | apply zN | apply z1) | exact HB.1)))); (case aL => have := LMc12.out; omega); intro v289 w17 ho hb hg hat; rw [← Ny288.out] at ho; have n0_ := zM (hb); have n1_ := zM (ho); clear HB; clear HO_5; have HB := n0_; have HO290 := n1_; clear n0_ n1_; clear ho hb hg hat) | ((with_reducible refine gate_callee (f := 59) rfl ?_); refine goesL_ (some 50) rfl rfl Tryz.func59 (by kernel_rfl) rfl #[.string (⟨#[45]⟩ : ByteArray), .int .i64 x8_2] rfl (by (try simp only [List.map_toArray, List.map_cons, List.map_nil]); first | done | rfl | (simp only [List.length_drop, List.length_take]; rfl)) ?_; (with_reducible refine (bitemporalref55_repeat.calls k2 (⟨#[45]⟩ : ByteArray) x8_2 t291 _ A15.out ?gw_).mono ?_); (case gw_ => first | exact HG.1 | (refine GW.below HG.1 ?_; repeat (first | (with_reducible first | exact HB.1 | apply zA | apply zN | apply z1) | exact HB.1))); rintro e w' ⟨rfl, ⟨nd, rfl⟩⟩; refine ⟨_, rfl, ?_⟩))
        go_roundg k2
        case measure => have := HK1.out; have := HK2.out; omega
        case rel => exact ⟨(y288), ((x6_1 ++ (⟨#[45, 43, 45]⟩ : ByteArray)) ++ t291), (wrap64 (x7_1 + 1)), (by first | rfl | (simp; done) | (simp [*]; done)), (by first | rfl | (simp; done) | (simp [*]; done)), H', ⟨by have := HK1.out; have := HK2.out; omega⟩, ⟨by (with_reducible repeat (first | apply Kd.R_alloc | apply Kd.R_drewN | apply Kd.R_drew)); exact HO290.out⟩, ⟨by repeat (first | (with_reducible first | exact HB.1 | apply zA | apply zN | apply z1) | exact HB.1)⟩⟩
       ·rw [if_neg c13] at H
        have c13b0 : decide (0 < x7_1) = false := decide_eq_false c13
        clear c13
        replace H := Option.bind_eq_some_iff.mp H
        obtain ⟨t292, A180, H⟩ := H
        have A18 := zM A180
        clear A180
        by_cases c19 : x6_1.size + t292.size ≤ 9223372036854775807
        case neg =>
         rw [if_neg c19] at H
         exact absurd H (by simp)
        rw [if_pos c19] at H
        have c19b0 := eq_true c19
        have c19b1 := decide_eq_true c19
        try have c19b2 := eq_false (Nat.not_lt.2 c19)
        have H' := zM H
        clear H
        go_wp2_with (first | ((with_reducible refine gate_builtin (b := .append) (xs := #[.tmp 40, .tmp 42]) rfl ?_); at_builtin; refine Kd.R_append (Kd.int .i64) (w0 := w) w.heap.size rfl (.tmp 40) (.tmp 42) 28 3 (.int .i64 0) 8 rfl Tryz.underlying28 info3 rfl (by decide) (by omega) u5 x5_1 x8_2 [.int .i64 x8_2] (fun _ => True) (fun _ => False) rfl rfl ?aP (fun _ hk => hk.elim) ?aF ?aO ?aB ?aS ?aL ?_; (case aP => exact rfl); (case aB => exact (by repeat (first | (with_reducible first | exact HB.1 | apply zA | apply zN | apply z1) | exact HB.1))); (case aF => exact (fun _ _ => trivial)); (case aO => exact (by (with_reducible repeat (first | apply Kd.R_alloc | apply Kd.R_drewN | apply Kd.R_drew)); exact HO_5.out)); (case aS => exact (zZ (by repeat (first | (with_reducible first | exact HB.1 | apply zA | apply zN | apply z1) | exact HB.1)))); (case aL => have := LMc12.out; omega); intro v289 w20 ho hb hg hat; rw [← Ny288.out] at ho; have n0_ := zM (hb); have n1_ := zM (ho); clear HB; clear HO_5; have HB := n0_; have HO290 := n1_; clear n0_ n1_; clear ho hb hg hat) | ((with_reducible refine gate_callee (f := 59) rfl ?_); refine goesL_ (some 50) rfl rfl Tryz.func59 (by kernel_rfl) rfl #[.string (⟨#[45]⟩ : ByteArray), .int .i64 x8_2] rfl (by (try simp only [List.map_toArray, List.map_cons, List.map_nil]); first | done | rfl | (simp only [List.length_drop, List.length_take]; rfl)) ?_; (with_reducible refine (bitemporalref55_repeat.calls k2 (⟨#[45]⟩ : ByteArray) x8_2 t292 _ A18.out ?gw_).mono ?_); (case gw_ => first | exact HG.1 | (refine GW.below HG.1 ?_; repeat (first | (with_reducible first | exact HB.1 | apply zA | apply zN | apply z1) | exact HB.1))); rintro e w' ⟨rfl, ⟨nd, rfl⟩⟩; refine ⟨_, rfl, ?_⟩))
        go_roundg k2
        case measure => have := HK1.out; have := HK2.out; omega
        case rel => exact ⟨(y288), (x6_1 ++ t292), (wrap64 (x7_1 + 1)), (by first | rfl | (simp; done) | (simp [*]; done)), (by first | rfl | (simp; done) | (simp [*]; done)), H', ⟨by have := HK1.out; have := HK2.out; omega⟩, ⟨by (with_reducible repeat (first | apply Kd.R_alloc | apply Kd.R_drewN | apply Kd.R_drew)); exact HO290.out⟩, ⟨by repeat (first | (with_reducible first | exact HB.1 | apply zA | apply zN | apply z1) | exact HB.1)⟩⟩
   ·rw [if_neg c5] at H
    have c5b0 : decide (x7_1 < (l0.length : Int)) = false := decide_eq_false c5
    clear c5
    replace H := Option.bind_eq_some_iff.mp H
    obtain ⟨t293, A210, H⟩ := H
    have A21 := zM A210
    clear A210
    by_cases c22 : t293.size + x6_1.size ≤ 9223372036854775807
    case neg =>
     rw [if_neg c22] at H
     exact absurd H (by simp)
    rw [if_pos c22] at H
    have c22b0 := eq_true c22
    have c22b1 := decide_eq_true c22
    try have c22b2 := eq_false (Nat.not_lt.2 c22)
    by_cases c23 : (t293 ++ x6_1).size + 1 ≤ 9223372036854775807
    case neg =>
     rw [if_neg c23] at H
     exact absurd H (by simp)
    rw [if_pos c23] at H
    have c23b0 := eq_true c23
    have c23b1 := decide_eq_true c23
    try have c23b2 := eq_false (Nat.not_lt.2 c23)
    try (have c23b3 := c23b2; simp only [ByteArray.size_append, size_lit, List.size_toArray, List.length_cons, List.length_nil, Nat.zero_add] at c23b3)
    have H' := zM H
    clear H
    obtain ⟨Ao24, co24, eo24⟩ := Kd.R_slice HO_5.out
    subst eo24
    go_wp2_with (first | ((with_reducible refine gate_callee (f := 60) rfl ?_); refine goesL_ (some 54) rfl rfl Tryz.func60 (by kernel_rfl) rfl #[.slice A0 l0.length c0, .slice Ao24 x5_1.length co24] rfl (by (try simp only [List.map_toArray, List.map_cons, List.map_nil]); first | done | rfl | (simp only [List.length_drop, List.length_take]; rfl)) ?_; (with_reducible refine (bitemporalref55_line.calls k1 _ _ l0 _ _ x5_1 t293 _ ?side1 ?side2 ?side3 ?side4 A21.out ?gw_).mono ?_); (case gw_ => first | exact HG.1 | (refine GW.below HG.1 ?_; repeat (first | (with_reducible first | exact HB.1 | apply zA | apply zN | apply z1) | exact HB.1))); (case side1 => repeat (first | exact (Kd.C_below HR0.out HB.1) | (with_reducible refine Kd.C_alloc ?_ _) | (with_reducible refine Kd.C_drewN ?_ _) | (with_reducible refine Kd.C_drew ?_))); (case side2 => exact HC0.out); (case side3 => repeat (first | exact (Kd.R_reads' HO_5.out).2.2 | (with_reducible refine Kd.C_alloc ?_ _) | (with_reducible refine Kd.C_drewN ?_ _) | (with_reducible refine Kd.C_drew ?_))); (case side4 => exact (Kd.R_reads' HO_5.out).2.1); rintro e w' ⟨rfl, ⟨nd, rfl⟩⟩; refine ⟨_, rfl, ?_⟩))
    generalize (t293 ++ x6_1) ++ (⟨#[10]⟩ : ByteArray) = y294 at H' ⊢
    go_loopg [10, 11] k1 (fun kq v10 v11 w' => ∃ (x10_2 : ByteArray) (x11_2 : Int), v10 = .string x10_2 ∧ v11 = .int .i64 x11_2 ∧ Aside0 (bitemporalref55_table.l2 kq l1 x5_1 x10_2 x11_2 = some r) ∧ Aside0 (kq ≤ k1) ∧ Aside0 (Kd.R (Kd.int .i64) 3 w' w.heap.size (fun _ => True) (.slice Ao24 x5_1.length co24) x5_1) ∧ Aside0 (Below w.heap.size w w'))
    case atStart => exact ⟨(y294), (0), (by first | rfl | (simp; done) | (simp [*]; done)), (by first | rfl | (simp; done) | (simp [*]; done)), H', ⟨Nat.le_refl _⟩, ⟨by (with_reducible repeat (first | apply Kd.R_alloc | apply Kd.R_drewN | apply Kd.R_drew)); exact HO_5.out⟩, ⟨by repeat (first | (with_reducible first | exact HB.1 | apply zA | apply zN | apply z1) | exact HB.1)⟩⟩
    case round =>
     clear H'
     try clear c1
     try clear c2
     try clear p2
     try clear q2
     try clear hx2
     try clear c3
     try clear c5
     try clear c5b0
     try clear c6
     try clear c6b0
     try clear p6
     try clear c7
     try clear c7b0
     try clear c8
     try clear c8b0
     try clear c9
     try clear c9b0
     try clear c10
     try clear c10b0
     try clear c12
     try clear c13
     try clear c13b0
     try clear c14
     try clear c14b0
     try clear c14b1
     try clear c14b2
     try clear c16
     try clear c16b0
     try clear c16b1
     try clear c16b2
     try clear c19
     try clear c19b0
     try clear c19b1
     try clear c19b2
     try clear c22
     try clear c22b0
     try clear c22b1
     try clear c22b2
     try clear c23
     try clear c23b0
     try clear c23b1
     try clear c23b2
     try clear hx285_0
     try clear hx286_0
     try clear hx287_0
     try clear p2
     try clear p285
     try clear p286
     try clear p287
     try clear q2
     try clear q285
     try clear q286
     try clear q287
     obtain ⟨x10_2, x11_2, rfl, rfl, HA, HK2, HO_5, HB⟩ := hrel
     cases gk with
     | zero => exact absurd HA.out (by simp [bitemporalref55_table.l2])
     | succ k2 =>
      have H := HA.out
      clear HA
      simp only [bitemporalref55_table.l2] at H
      by_cases c25 : x11_2 < (l1.length : Int)
      ·rw [if_pos c25] at H
       have c25b0 : decide (x11_2 < (l1.length : Int)) = true := decide_eq_true c25
       clear c25
       by_cases c26 : 0 ≤ x11_2
       case neg =>
        rw [if_neg c26] at H
        exact absurd H (by simp)
       rw [if_pos c26] at H
       have c26b0 : decide (0 ≤ x11_2) = true := decide_eq_true c26
       clear c26
       replace H := Option.bind_eq_some_iff.mp H
       obtain ⟨t296, A270, H⟩ := H
       have A27 := zM A270
       clear A270
       by_cases c28 : x10_2.size + t296.size ≤ 9223372036854775807
       case neg =>
        rw [if_neg c28] at H
        exact absurd H (by simp)
       rw [if_pos c28] at H
       have c28b0 := eq_true c28
       have c28b1 := decide_eq_true c28
       try have c28b2 := eq_false (Nat.not_lt.2 c28)
       have H' := zM H
       clear H
       have p295 : 0 ≤ (x11_2 : Int) := of_decide_eq_true (by first | (with_reducible assumption) | assumption)
       have q295 : x11_2 < (l1.length : Int) := of_decide_eq_true (by first | (with_reducible assumption) | assumption)
       obtain ⟨ad295, A295_0, c295_0, e295, hx295_0, hl295_0, hi295_0⟩ := at_L8 HR1.out x11_2 p295 q295
       cases e295
       replace hx295_0 := (HB.1.cell (World.block_lt_of_cell? w _ hx295_0)).trans hx295_0
       have HR295_0 := zM hi295_0
       have HC295_0 := zM hl295_0
       clear hi295_0 hl295_0
       replace p295 := eq_true p295
       replace q295 := eq_true q295
       go_wp2_with (first | ((with_reducible refine gate_callee (f := 60) rfl ?_); refine goesL_ (some 70) rfl rfl Tryz.func60 (by kernel_rfl) rfl #[.slice A295_0 (rd_L8 l1 x11_2).length c295_0, .slice Ao24 x5_1.length co24] rfl (by (try simp only [List.map_toArray, List.map_cons, List.map_nil]); first | done | rfl | (simp only [List.length_drop, List.length_take]; rfl)) ?_; (with_reducible refine (bitemporalref55_line.calls k2 _ _ (rd_L8 l1 x11_2) _ _ x5_1 t296 _ ?side1 ?side2 ?side3 ?side4 A27.out ?gw_).mono ?_); (case gw_ => first | exact HG.1 | (refine GW.below HG.1 ?_; repeat (first | (with_reducible first | exact HB.1 | apply zA | apply zN | apply z1) | exact HB.1))); (case side1 => repeat (first | exact (Kd.C_below HR295_0.out HB.1) | (with_reducible refine Kd.C_alloc ?_ _) | (with_reducible refine Kd.C_drewN ?_ _) | (with_reducible refine Kd.C_drew ?_))); (case side2 => exact HC295_0.out); (case side3 => repeat (first | exact (Kd.R_reads' HO_5.out).2.2 | (with_reducible refine Kd.C_alloc ?_ _) | (with_reducible refine Kd.C_drewN ?_ _) | (with_reducible refine Kd.C_drew ?_))); (case side4 => exact (Kd.R_reads' HO_5.out).2.1); rintro e w' ⟨rfl, ⟨nd, rfl⟩⟩; refine ⟨_, rfl, ?_⟩))
       go_roundg k2
       case measure => have := HK1.out; have := HK2.out; omega
       case rel => exact ⟨(x10_2 ++ t296), (wrap64 (x11_2 + 1)), (by first | rfl | (simp; done) | (simp [*]; done)), (by first | rfl | (simp; done) | (simp [*]; done)), H', ⟨by have := HK1.out; have := HK2.out; omega⟩, ⟨by (with_reducible repeat (first | apply Kd.R_alloc | apply Kd.R_drewN | apply Kd.R_drew)); exact HO_5.out⟩, ⟨by repeat (first | (with_reducible first | exact HB.1 | apply zA | apply zN | apply z1) | exact HB.1)⟩⟩
      ·rw [if_neg c25] at H
       have c25b0 : decide (x11_2 < (l1.length : Int)) = false := decide_eq_false c25
       clear c25
       obtain rfl := Option.some.inj H
       go_wp2
       go_ret
       exact ⟨by first | rfl | (simp [errW_none, errW_some] <;> rfl) | (simp [*, errW_none, errW_some] <;> rfl), by repeat (first | (with_reducible first | exact HB.1 | apply zA | apply zN | apply z1) | exact HB.1)⟩

end Go.Proofs.YthdgjobhofpjeaaGreatDoor.X
