/- Walks of Go functions of this seat, printed by a program of mine (wip/tools/xprint.py) over the kit's printer: each function as a plain Lean function, and the proof that the call comes to what it says. No conditions but those in each theorem. -/
import Derived.Test.YthdgjobhofpjeaaGreatDoorX0
import Derived.Test.YthdgjobhofpjeaaGreatDoorX14
import Derived.Test.YthdgjobhofpjeaaGreatDoorX19
import Derived.Test.YthdgjobhofpjeaaGreatDoorX20
import Derived.Test.YthdgjobhofpjeaaGreatDoorX31
namespace Go.Proofs.YthdgjobhofpjeaaGreatDoor.X
open Go.RowKit Go.Proofs.YthdgjobhofpjeaaGreatDoorW.PrintWords Go.Proofs.YthdgjobhofpjeaaGreatDoorW.PrintLast Go.Proofs.YthdgjobhofpjeaaGreatDoorW.PrintMore
attribute [local go_sem] max2_int min2_int max_two min_two max_three min_three max_four min_four   -- for this text's walks alone
set_option linter.unusedVariables false
set_option linter.unusedSimpArgs false

/-! ### bitemporallaw55_ReportViolations: function 5 -/
noncomputable def bitemporallaw55_ReportViolations.j0 : Nat → Bool → Int → ByteArray → Int → List (S54) → Int → Int → Option (Bool)
  | 0, _, _, _, _, _, _, _ => none
  | k + 1, x19, x441000, x441001, x441002, x441003, x441004, x441005 => if x19 = true then ((bitemporallaw55_awake.f k).bind fun t445 => (some t445)) else ((report_Violation.f k x441000 x441001 x441002 x441003 x441004 x441005).bind fun t446 => ((bitemporalref55_Violation.f k x441000 x441001 x441002 x441003 x441004 x441005).bind fun t447 => (if t446.toList = t447.toList then ((bitemporallaw55_awake.f k).bind fun t448 => (some t448)) else (some false))))
noncomputable def bitemporallaw55_ReportViolations.f (k : Nat) (a0_0 : Int) (a0_1 : ByteArray) (a0_2 : Int) (l0_3 : List (S54)) (a0_4 : Int) (a0_5 : Int) : Option (Bool) := if (l0_3.length : Int) > 100 then (bitemporallaw55_ReportViolations.j0 k true a0_0 a0_1 a0_2 l0_3 a0_4 a0_5) else (if (a0_1.size : Int) > 2000 then (bitemporallaw55_ReportViolations.j0 k true a0_0 a0_1 a0_2 l0_3 a0_4 a0_5) else ((bitemporallaw55_tame.f k (([a0_2] : List Int))).bind fun t444 => (bitemporallaw55_ReportViolations.j0 k (!t444) a0_0 a0_1 a0_2 l0_3 a0_4 a0_5)))
theorem bitemporallaw55_ReportViolations.mono_l : ∀ k, (∀ y0 y1 y2 y3 y4 y5 y6, LeO (bitemporallaw55_ReportViolations.j0 k y0 y1 y2 y3 y4 y5 y6) (bitemporallaw55_ReportViolations.j0 (k + 1) y0 y1 y2 y3 y4 y5 y6))
  | 0 => fun _ _ _ _ _ _ _ r h => by simp [bitemporallaw55_ReportViolations.j0] at h
  | k + 1 => by
    have ih0 := bitemporallaw55_ReportViolations.mono_l k
    · intro y0 y1 y2 y3 y4 y5 y6
      unfold bitemporallaw55_ReportViolations.j0
      repeat' first
      | (with_reducible exact ih0 _ _ _ _ _ _ _)
      | (with_reducible exact bitemporallaw55_awake.mono _)
      | (with_reducible exact bitemporallaw55_tame.mono _ _)
      | (with_reducible exact bitemporalref55_Violation.mono _ _ _ _ _ _ _)
      | (with_reducible exact report_Violation.mono _ _ _ _ _ _ _)
      | (with_reducible exact LeO.refl _)
      | (with_reducible exact LeO.none _)
      | (with_reducible refine LeO.ite ?_ ?_)
      | (with_reducible refine LeO.bind ?_ (fun _ => ?_))
      | exact ih0 _ _ _ _ _ _ _
      | exact bitemporallaw55_awake.mono _
      | exact bitemporallaw55_tame.mono _ _
      | exact bitemporalref55_Violation.mono _ _ _ _ _ _ _
      | exact report_Violation.mono _ _ _ _ _ _ _
      | exact LeO.none _
      | refine LeO.ite ?_ ?_
      | refine LeO.bind ?_ (fun _ => ?_)
theorem bitemporallaw55_ReportViolations.mono : ∀ a0 a1 a2 a3 a4 a5 k, LeO (bitemporallaw55_ReportViolations.f k a0 a1 a2 a3 a4 a5) (bitemporallaw55_ReportViolations.f (k + 1) a0 a1 a2 a3 a4 a5) := by
  intro a0 a1 a2 a3 a4 a5 k
  have ih0 := bitemporallaw55_ReportViolations.mono_l k
  unfold bitemporallaw55_ReportViolations.f
  repeat' first
      | (with_reducible exact ih0 _ _ _ _ _ _ _)
      | (with_reducible exact bitemporallaw55_awake.mono _)
      | (with_reducible exact bitemporallaw55_tame.mono _ _)
      | (with_reducible exact bitemporalref55_Violation.mono _ _ _ _ _ _ _)
      | (with_reducible exact report_Violation.mono _ _ _ _ _ _ _)
      | (with_reducible exact LeO.refl _)
      | (with_reducible exact LeO.none _)
      | (with_reducible refine LeO.ite ?_ ?_)
      | (with_reducible refine LeO.bind ?_ (fun _ => ?_))
      | exact ih0 _ _ _ _ _ _ _
      | exact bitemporallaw55_awake.mono _
      | exact bitemporallaw55_tame.mono _ _
      | exact bitemporalref55_Violation.mono _ _ _ _ _ _ _
      | exact report_Violation.mono _ _ _ _ _ _ _
      | exact LeO.none _
      | refine LeO.ite ?_ ?_
      | refine LeO.bind ?_ (fun _ => ?_)
noncomputable def bitemporallaw55_ReportViolations.T3 : Bool × List (List Nat × List Nat) := (true, [([], []), ([0], [0]), ([], []), ([2, 1], [2]), ([1, 3], [1, 3]), ([4, 3], [4]), ([5, 5], [5]), ([5, 6], [5, 6]), ([7, 6, 0, 1, 2, 3, 4, 5, 6, 7], [7])])
noncomputable def bitemporallaw55_ReportViolations.B3 : List Nat := [0, 1, 0, 7, 15, 31, 63, 127, 255]
theorem bitemporallaw55_ReportViolations.tab3 : rtab .any (opsOf Tryz.f5 3) = bitemporallaw55_ReportViolations.T3 := by kernel_rfl
theorem bitemporallaw55_ReportViolations.bits3 : waitsOk bitemporallaw55_ReportViolations.T3.2 bitemporallaw55_ReportViolations.B3 = true := by kernel_rfl
set_option maxHeartbeats 8000000 in
set_option maxRecDepth 100000 in
theorem bitemporallaw55_ReportViolations.calls (k : Nat) (a0_0 : Int) (a0_1 : ByteArray) (a0_2 : Int) (A0_3 : Option Addr) (c0_3 : Nat) (l0_3 : List (S54)) (a0_4 : Int) (a0_5 : Int) (r : Bool) (w : World) (hr0_3 : Kd.C k54 w A0_3 l0_3.length l0_3) (hc0_3 : l0_3.length ≤ c0_3) (h : bitemporallaw55_ReportViolations.f k a0_0 a0_1 a0_2 l0_3 a0_4 a0_5 = some r) (hG : GW w) :
  Calls Tryz.prog 5 #[.agg #[.int .i64 a0_0, .string a0_1, .int .i64 a0_2, .slice A0_3 l0_3.length c0_3, .int .i64 a0_4, .int .i64 a0_5]] w fun e w' => e = .returned (.bool r) ∧ Below w.heap.size w w' := by
 have HG := zM hG
 clear hG
 have hu38 := Tryz.underlying38
 have HR0_3 := zM hr0_3
 have HC0_3 := zM hc0_3
 clear hr0_3 hc0_3
 have HB := zM (Below.refl w.heap.size w)
 have H : (if (l0_3.length : Int) > 100 then (bitemporallaw55_ReportViolations.j0 k true a0_0 a0_1 a0_2 l0_3 a0_4 a0_5) else (if (a0_1.size : Int) > 2000 then (bitemporallaw55_ReportViolations.j0 k true a0_0 a0_1 a0_2 l0_3 a0_4 a0_5) else ((bitemporallaw55_tame.f k (([a0_2] : List Int))).bind fun t444 => (bitemporallaw55_ReportViolations.j0 k (!t444) a0_0 a0_1 a0_2 l0_3 a0_4 a0_5)))) = some r := h
 clear h
 have HC2 := zM H
 clear H
 go_enter Tryz.func5, Tryz.ntmps5
 go_upto_region 1 with (first | ((with_reducible refine gate_dst (N := 1) rfl ?_); (try (refine gate_guard (by rfl) ?_; dsimp only)); refine box_event ?hg (N := 1) ?hd (cs := #[.int .i64 a0_0, .string a0_1, .int .i64 a0_2, .slice A0_3 l0_3.length c0_3, .int .i64 a0_4, .int .i64 a0_5]) (t := 38) ?hr ?_; (case hd => rfl); (case hg => rfl); (case hr => first | (go_simp; done) | (go_simp; rfl)); intro gb440 hg w3 hbox hb; have n0_ := zM (zT (by repeat (first | (with_reducible first | exact HB.1 | apply zA | apply zN | apply z1) | exact HB.1)) hb); have n1_ := zM (hbox); have n2_ := zM ((by rw [hg]; exact (zZ (by repeat (first | (with_reducible first | exact HB.1 | apply zA | apply zN | apply z1) | exact HB.1))) : w.heap.size ≤ gb440)); have n3_ := n2_; clear HB; have HB := n0_; have BK440 := n1_; have GW440 := n2_; have GE440 := n3_; clear n0_ n1_ n2_ n3_; clear hb hbox hg))
 (try simp only [Act.put, List.setIfInBounds_toArray, List.set_cons_zero, List.set_cons_succ])
 go_cut [19] (fun v19 wc => ∃ (kq : Nat) (x19_1 : Bool), v19 = .bool x19_1 ∧ Aside0 (bitemporallaw55_ReportViolations.j0 kq x19_1 a0_0 a0_1 a0_2 l0_3 a0_4 a0_5 = some r) ∧ Aside0 (kq ≤ k) ∧ Aside0 (wc.heap[gb440]? = some (.cells #[.int .i64 a0_0, .string a0_1, .int .i64 a0_2, (.slice A0_3 l0_3.length c0_3), .int .i64 a0_4, .int .i64 a0_5] 38 (0, 0))) ∧ Aside0 (Below w.heap.size w wc))
 case first =>
  have H := HC2.out
  clear HC2
  by_cases c4 : (l0_3.length : Int) > 100
  ·rw [if_pos c4] at H
   have c4b0 : decide (100 < (l0_3.length : Int)) = true := decide_eq_true c4
   have c4b1 : decide (100 < l0_3.length) = true := decide_eq_true (by omega)
   clear c4
   (first | rw [c4b0] | (simp only [i64_w, i32_w]; rw [c4b0]) | skip)
   have H' := zM H
   clear H
   have hcz5_0 : w3.cell? ⟨gb440, 0, none⟩ = some (.int .i64 a0_0) := (kC BK440.1 0).trans rfl
   have hcz5_1 : w3.cell? ⟨gb440, 1, none⟩ = some (.string a0_1) := (kC BK440.1 1).trans rfl
   have hcz5_2 : w3.cell? ⟨gb440, 2, none⟩ = some (.int .i64 a0_2) := (kC BK440.1 2).trans rfl
   have hcz5_3 : w3.cell? ⟨gb440, 3, none⟩ = some (.slice A0_3 l0_3.length c0_3) := (kC BK440.1 3).trans rfl
   have hcz5_4 : w3.cell? ⟨gb440, 4, none⟩ = some (.int .i64 a0_4) := (kC BK440.1 4).trans rfl
   have hcz5_5 : w3.cell? ⟨gb440, 5, none⟩ = some (.int .i64 a0_5) := (kC BK440.1 5).trans rfl
   have hfz5_0 := kF BK440.1 0
   have hfz5_1 := kF BK440.1 1
   have hfz5_2 := kF BK440.1 2
   have hfz5_3 := kF BK440.1 3
   have hfz5_4 := kF BK440.1 4
   have hfz5_5 := kF BK440.1 5
   go_wp2
   go_meet
   case rel => exact ⟨_, (true), (by first | rfl | (simp; done) | (simp [*]; done)), H', ⟨by first | omega | exact Nat.le_refl _⟩, ⟨by (with_reducible repeat (first | refine kN ?_ _ | refine kD ?_ | refine kA ?_ _)); exact BK440.1⟩, ⟨by repeat (first | (with_reducible first | exact HB.1 | apply zA | apply zN | apply z1 | refine zS ?_ GE440.1) | exact HB.1)⟩⟩
  ·rw [if_neg c4] at H
   have c4b0 : decide (100 < (l0_3.length : Int)) = false := decide_eq_false c4
   have c4b1 : decide (100 < l0_3.length) = false := decide_eq_false (by omega)
   clear c4
   (first | rw [c4b0] | (simp only [i64_w, i32_w]; rw [c4b0]) | skip)
   by_cases c6 : (a0_1.size : Int) > 2000
   ·rw [if_pos c6] at H
    have c6b0 : decide (2000 < (a0_1.size : Int)) = true := decide_eq_true c6
    have c6b1 : decide (2000 < a0_1.size) = true := decide_eq_true (by omega)
    clear c6
    have H' := zM H
    clear H
    have hcz7_0 : w3.cell? ⟨gb440, 0, none⟩ = some (.int .i64 a0_0) := (kC BK440.1 0).trans rfl
    have hcz7_1 : w3.cell? ⟨gb440, 1, none⟩ = some (.string a0_1) := (kC BK440.1 1).trans rfl
    have hcz7_2 : w3.cell? ⟨gb440, 2, none⟩ = some (.int .i64 a0_2) := (kC BK440.1 2).trans rfl
    have hcz7_3 : w3.cell? ⟨gb440, 3, none⟩ = some (.slice A0_3 l0_3.length c0_3) := (kC BK440.1 3).trans rfl
    have hcz7_4 : w3.cell? ⟨gb440, 4, none⟩ = some (.int .i64 a0_4) := (kC BK440.1 4).trans rfl
    have hcz7_5 : w3.cell? ⟨gb440, 5, none⟩ = some (.int .i64 a0_5) := (kC BK440.1 5).trans rfl
    have hfz7_0 := kF BK440.1 0
    have hfz7_1 := kF BK440.1 1
    have hfz7_2 := kF BK440.1 2
    have hfz7_3 := kF BK440.1 3
    have hfz7_4 := kF BK440.1 4
    have hfz7_5 := kF BK440.1 5
    go_wp2
    go_meet
    case rel => exact ⟨_, (true), (by first | rfl | (simp; done) | (simp [*]; done)), H', ⟨by first | omega | exact Nat.le_refl _⟩, ⟨by (with_reducible repeat (first | refine kN ?_ _ | refine kD ?_ | refine kA ?_ _)); exact BK440.1⟩, ⟨by repeat (first | (with_reducible first | exact HB.1 | apply zA | apply zN | apply z1 | refine zS ?_ GE440.1) | exact HB.1)⟩⟩
   ·rw [if_neg c6] at H
    have c6b0 : decide (2000 < (a0_1.size : Int)) = false := decide_eq_false c6
    have c6b1 : decide (2000 < a0_1.size) = false := decide_eq_false (by omega)
    clear c6
    obtain ⟨y441, hy441⟩ : ∃ y_ : List Int, y_ = (([a0_2] : List Int)) := ⟨_, rfl⟩
    replace H : ((bitemporallaw55_tame.f k y441).bind fun t444 => (bitemporallaw55_ReportViolations.j0 k (!t444) a0_0 a0_1 a0_2 l0_3 a0_4 a0_5)) = some r := by first | (rw [hy441]; with_reducible exact H) | (have H2_ := (Option.bind_some _ _).symm.trans H; rw [hy441]; with_reducible exact H2_) | (have H2_ := (Option.bind_some _ _).symm.trans H; with_reducible exact H2_) | with_reducible exact H | (rw [hy441]; exact H) | exact H
    have Ny441 := zM hy441
    clear hy441
    replace H := Option.bind_eq_some_iff.mp H
    obtain ⟨t444, A80, H⟩ := H
    replace H : (bitemporallaw55_ReportViolations.j0 k (!t444) a0_0 a0_1 a0_2 l0_3 a0_4 a0_5) = some r := H
    have A8 := zM A80
    clear A80
    have H' := zM H
    clear H
    have hcz9_0 : w3.cell? ⟨gb440, 0, none⟩ = some (.int .i64 a0_0) := (kC BK440.1 0).trans rfl
    have hcz9_1 : w3.cell? ⟨gb440, 1, none⟩ = some (.string a0_1) := (kC BK440.1 1).trans rfl
    have hcz9_2 : w3.cell? ⟨gb440, 2, none⟩ = some (.int .i64 a0_2) := (kC BK440.1 2).trans rfl
    have hcz9_3 : w3.cell? ⟨gb440, 3, none⟩ = some (.slice A0_3 l0_3.length c0_3) := (kC BK440.1 3).trans rfl
    have hcz9_4 : w3.cell? ⟨gb440, 4, none⟩ = some (.int .i64 a0_4) := (kC BK440.1 4).trans rfl
    have hcz9_5 : w3.cell? ⟨gb440, 5, none⟩ = some (.int .i64 a0_5) := (kC BK440.1 5).trans rfl
    have hfz9_0 := kF BK440.1 0
    have hfz9_1 := kF BK440.1 1
    have hfz9_2 := kF BK440.1 2
    have hfz9_3 := kF BK440.1 3
    have hfz9_4 := kF BK440.1 4
    have hfz9_5 := kF BK440.1 5
    go_wp2_with (first | ((with_reducible refine gate_dst (N := 16) rfl ?_); (try (refine gate_guard (by rfl) ?_; dsimp only)); refine Kd.R_lit (Kd.int .i64) _ 3 ?hg (N := 16) ?hd (xs := ([a0_2] : List Int)) (inner := [.int .i64 a0_2]) (ok := fun _ => True) (okp := fun _ => True) ?hr ?hp (fun _ hk => hk) trivial (Below.refl _ _) (Nat.le_refl _) (by simp) ?_; (case hd => rfl); (case hg => rfl); (case hr => first | (go_simp; done) | (go_simp; rfl)); (case hp => exact (Reps.one (show Kd.M (Kd.int .i64) _ _ _ a0_2 [.int .i64 a0_2] from rfl) (Reps.none _ _))); intro v442 w10 ho11 hb hg_ hnew_; clear hg_ hnew_; (first | rw [← Ny441.out] at ho11 | (simp only [Int.reduceToNat] at ho11; rw [← Ny441.out] at ho11)); have n0_ := zM (Kd.R_lower ho11 (zZ (by repeat (first | (with_reducible first | exact HB.1 | apply zA | apply zN | apply z1 | refine zS ?_ GE440.1) | exact HB.1)))); have n1_ := zM (kB (g := gb440) (o := .cells #[.int .i64 a0_0, .string a0_1, .int .i64 a0_2, .slice A0_3 l0_3.length c0_3, .int .i64 a0_4, .int .i64 a0_5] 38 (0, 0)) (by (with_reducible repeat (first | refine kN ?_ _ | refine kD ?_ | refine kA ?_ _)); exact BK440.1) hb); have n2_ := zM (zT (by repeat (first | (with_reducible first | exact HB.1 | apply zA | apply zN | apply z1 | refine zS ?_ GE440.1) | exact HB.1)) hb); clear BK440; clear HB; have HO443 := n0_; have BK440 := n1_; have HB := n2_; clear n0_ n1_ n2_; clear hb ho11; obtain ⟨Ao12, co12, eo12⟩ := Kd.R_slice HO443.out; subst eo12) | (go_at_call 9; (with_reducible refine (bitemporallaw55_tame.calls k _ _ y441 t444 _ ?side1 ?side2 A8.out ?gw_).mono ?_); (case gw_ => first | exact HG.1 | (refine GW.below HG.1 ?_; repeat (first | (with_reducible first | exact HB.1 | apply zA | apply zN | apply z1 | refine zS ?_ GE440.1) | exact HB.1))); (case side1 => repeat (first | exact (Kd.R_reads' HO443.out).2.2 | (with_reducible refine Kd.C_alloc ?_ _) | (with_reducible refine Kd.C_drewN ?_ _) | (with_reducible refine Kd.C_drew ?_))); (case side2 => exact (Kd.R_reads' HO443.out).2.1); rintro e w' ⟨rfl, ⟨nd, rfl⟩⟩))
    go_meet
    case rel => exact ⟨_, (!t444), (by first | rfl | (simp; done) | (simp [*]; done)), H', ⟨by first | omega | exact Nat.le_refl _⟩, ⟨by (with_reducible repeat (first | refine kN ?_ _ | refine kD ?_ | refine kA ?_ _)); exact BK440.1⟩, ⟨by repeat (first | (with_reducible first | exact HB.1 | apply zA | apply zN | apply z1 | refine zS ?_ GE440.1) | exact HB.1)⟩⟩
 case rest =>
  clear HC2
  try clear p2
  try clear c4
  try clear c4b0
  try clear c4b1
  try clear c5
  try clear c6
  try clear c6b0
  try clear c6b1
  try clear hcz5_0
  try clear hcz5_1
  try clear hcz5_2
  try clear hcz5_3
  try clear hcz5_4
  try clear hcz5_5
  try clear hcz7_0
  try clear hcz7_1
  try clear hcz7_2
  try clear hcz7_3
  try clear hcz7_4
  try clear hcz7_5
  try clear hcz9_0
  try clear hcz9_1
  try clear hcz9_2
  try clear hcz9_3
  try clear hcz9_4
  try clear hcz9_5
  try clear hfz5_0
  try clear hfz5_1
  try clear hfz5_2
  try clear hfz5_3
  try clear hfz5_4
  try clear hfz5_5
  try clear hfz7_0
  try clear hfz7_1
  try clear hfz7_2
  try clear hfz7_3
  try clear hfz7_4
  try clear hfz7_5
  try clear hfz9_0
  try clear hfz9_1
  try clear hfz9_2
  try clear hfz9_3
  try clear hfz9_4
  try clear hfz9_5
  obtain ⟨kq, x19_1, rfl, HA, HJ1, BK440, HB⟩ := hcut
  cases kq with
  | zero => exact absurd HA.out (by simp [bitemporallaw55_ReportViolations.j0])
  | succ kj1 =>
   have H := HA.out
   clear HA
   simp only [bitemporallaw55_ReportViolations.j0] at H
   by_cases c13 : x19_1 = true
   ·subst c13
    have H1 : ((bitemporallaw55_awake.f kj1).bind fun t445 => (some t445)) = some r := by rw [if_pos rfl] at H; exact H
    clear H
    have H := H1
    clear H1
    replace H := Option.bind_eq_some_iff.mp H
    obtain ⟨t445, A140, H⟩ := H
    replace H : (some t445) = some r := H
    have A14 := zM A140
    clear A140
    obtain rfl := Option.some.inj H
    go_wp2_with (first | ((with_reducible refine gate_callee (f := 10) rfl ?_); refine goesL_ (some 20) rfl rfl Tryz.func10 (by kernel_rfl) rfl #[] rfl (by (try simp only [List.map_toArray, List.map_cons, List.map_nil]); first | done | rfl | (simp only [List.length_drop, List.length_take]; rfl)) ?_; (with_reducible refine (bitemporallaw55_awake.calls kj1  t445 _ A14.out ?gw_).mono ?_); (case gw_ => first | exact HG.1 | (refine GW.below HG.1 ?_; repeat (first | (with_reducible first | exact HB.1 | apply zA | apply zN | apply z1 | refine zS ?_ GE440.1) | exact HB.1))); rintro e w15 ⟨rfl, hb⟩; refine ⟨_, rfl, ?_⟩; have n0_ := zM (kB (g := gb440) (o := .cells #[.int .i64 a0_0, .string a0_1, .int .i64 a0_2, .slice A0_3 l0_3.length c0_3, .int .i64 a0_4, .int .i64 a0_5] 38 (0, 0)) (by (with_reducible repeat (first | refine kN ?_ _ | refine kD ?_ | refine kA ?_ _)); exact BK440.1) hb); have n1_ := zM (zT (by repeat (first | (with_reducible first | exact HB.1 | apply zA | apply zN | apply z1 | refine zS ?_ GE440.1) | exact HB.1)) hb); clear BK440; clear HB; have BK440 := n0_; have HB := n1_; clear n0_ n1_; (try clear hb); (try clear hb2); (try clear hk); (try clear hi)))
    go_ret
    exact ⟨by first | rfl | (simp [errW_none, errW_some] <;> rfl) | (simp [*, errW_none, errW_some] <;> rfl), by repeat (first | (with_reducible first | exact HB.1 | apply zA | apply zN | apply z1 | refine zS ?_ GE440.1) | exact HB.1)⟩
   ·replace c13 := Bool.eq_false_iff.mpr c13
    subst c13
    have H1 : ((report_Violation.f kj1 a0_0 a0_1 a0_2 l0_3 a0_4 a0_5).bind fun t446 => ((bitemporalref55_Violation.f kj1 a0_0 a0_1 a0_2 l0_3 a0_4 a0_5).bind fun t447 => (if t446.toList = t447.toList then ((bitemporallaw55_awake.f kj1).bind fun t448 => (some t448)) else (some false)))) = some r := by rw [if_neg (show ¬ (false = true) by decide)] at H; exact H
    clear H
    have H := H1
    clear H1
    replace H := Option.bind_eq_some_iff.mp H
    obtain ⟨t446, A160, H⟩ := H
    replace H : ((bitemporalref55_Violation.f kj1 a0_0 a0_1 a0_2 l0_3 a0_4 a0_5).bind fun t447 => (if t446.toList = t447.toList then ((bitemporallaw55_awake.f kj1).bind fun t448 => (some t448)) else (some false))) = some r := H
    have A16 := zM A160
    clear A160
    replace H := Option.bind_eq_some_iff.mp H
    obtain ⟨t447, A170, H⟩ := H
    replace H : (if t446.toList = t447.toList then ((bitemporallaw55_awake.f kj1).bind fun t448 => (some t448)) else (some false)) = some r := H
    have A17 := zM A170
    clear A170
    by_cases c18 : t446.toList = t447.toList
    ·rw [if_pos c18] at H
     have c18b0 : (t446.toList == t447.toList) = true := beq_iff_eq.mpr c18
     have c18b1 : (t446.toList != t447.toList) = false := bne_eq_false_iff_eq.mpr c18
     clear c18
     replace H := Option.bind_eq_some_iff.mp H
     obtain ⟨t448, A190, H⟩ := H
     replace H : (some t448) = some r := H
     have A19 := zM A190
     clear A190
     obtain rfl := Option.some.inj H
     try go_wp2
     have n0_ := zM (kD BK440.1)
     have n1_ := zM (z1 HB.1)
     clear BK440
     clear HB
     have BK440 := n0_
     have HB := n1_
     clear n0_ n1_
     refine start_ (n := 9) (S := fun w' => w'.cell? ⟨gb440, 0, none⟩ = some (.int .i64 a0_0) ∧ w'.cell? ⟨gb440, 1, none⟩ = some (.string a0_1) ∧ w'.cell? ⟨gb440, 2, none⟩ = some (.int .i64 a0_2) ∧ w'.cell? ⟨gb440, 3, none⟩ = some (.slice A0_3 l0_3.length c0_3) ∧ w'.cell? ⟨gb440, 4, none⟩ = some (.int .i64 a0_4) ∧ w'.cell? ⟨gb440, 5, none⟩ = some (.int .i64 a0_5)) (ds := []) #[false, false, false, false, false, false, false, false, false] (by kernel_rfl) rfl rfl ⟨(kC BK440.1 0).trans rfl, (kC BK440.1 1).trans rfl, (kC BK440.1 2).trans rfl, (kC BK440.1 3).trans rfl, (kC BK440.1 4).trans rfl, (kC BK440.1 5).trans rfl⟩ (fun hHeld => ?_); refine with_tabW bitemporallaw55_ReportViolations.tab3 bitemporallaw55_ReportViolations.bits3 (fun HT_ HW_ => ?_)
     generalize wc.drew = w20 at BK440 HB hHeld ⊢
     refine take_ (i := 0) (N := some 21) (v := ?_) (a' := ?_) #[true, false, false, false, false, false, false, false, false] rfl rfl (take_ofW HT_.out HW_.out (by kernel_rfl)) (fun _ _ _ h => h) (Or.inl ⟨by rfl, ?_⟩) hHeld ?_ ?_
     rotate_left
     ·rintro w' ⟨s0, s1, s2, s3, s4, s5⟩
      go_simp
      with_reducible rfl
     rotate_left
     ·simp only [Act.put, List.setIfInBounds_toArray, List.set_cons_zero, List.set_cons_succ, i64_w, i32_w]
      rfl
     refine take_ (i := 2) (N := some 23) (v := ?_) (a' := ?_) #[true, false, true, false, false, false, false, false, false] rfl rfl (take_ofW HT_.out HW_.out (by kernel_rfl)) (fun _ _ _ h => h) (Or.inl ⟨by rfl, ?_⟩) hHeld ?_ ?_
     rotate_left
     ·rintro w' ⟨s0, s1, s2, s3, s4, s5⟩
      go_simp
      with_reducible rfl
     rotate_left
     ·simp only [Act.put, List.setIfInBounds_toArray, List.set_cons_zero, List.set_cons_succ, i64_w, i32_w]
      rfl
     refine one_ (i := 1) (N := some 22) #[true, true, true, false, false, false, false, false, false] rfl rfl (one_of HT_.out (by kernel_rfl)) (by decide) (fun K hK => ?_)
     refine goes_ Tryz.func15 (by kernel_rfl) rfl #[.agg #[.int .i64 a0_0, .string a0_1, .int .i64 a0_2, .slice A0_3 l0_3.length c0_3, .int .i64 a0_4, .int .i64 a0_5]] (by rfl) rfl rfl (by (try simp only [List.map_toArray, List.map_cons, List.map_nil]); first | done | rfl | (simp only [List.length_drop, List.length_take]; rfl)) ?_
     with_reducible refine (report_Violation.calls kj1 a0_0 a0_1 a0_2 _ _ l0_3 a0_4 a0_5 t446 _ ?side1 ?side2 A16.out ?gw_).mono ?_
     (case gw_ => first | exact HG.1 | (refine GW.below HG.1 ?_; repeat (first | (with_reducible first | exact HB.1 | apply zA | apply zN | apply z1 | refine zS ?_ GE440.1) | exact HB.1)))
     (case side1 => repeat (first | exact (Kd.C_below HR0_3.out HB.1) | (with_reducible refine Kd.C_alloc ?_ _) | (with_reducible refine Kd.C_drewN ?_ _) | (with_reducible refine Kd.C_drew ?_)))
     (case side2 => exact HC0_3.out)
     rintro e w21 ⟨rfl, hb⟩
     refine ⟨_, rfl, ?_⟩
     have n0_ := zM (kB (g := gb440) (o := .cells #[.int .i64 a0_0, .string a0_1, .int .i64 a0_2, .slice A0_3 l0_3.length c0_3, .int .i64 a0_4, .int .i64 a0_5] 38 (0, 0)) (by (with_reducible repeat (first | refine kN ?_ _ | refine kD ?_ | refine kA ?_ _)); exact BK440.1) hb)
     have n1_ := zM (zT (by repeat (first | (with_reducible first | exact HB.1 | apply zA | apply zN | apply z1 | refine zS ?_ GE440.1) | exact HB.1)) hb)
     clear BK440
     clear HB
     have BK440 := n0_
     have HB := n1_
     clear n0_ n1_
     (try clear hb)
     (try clear hb2)
     (try clear hk)
     (try clear hi)
     refine hK.out _ _ ⟨(kC BK440.1 0).trans rfl, (kC BK440.1 1).trans rfl, (kC BK440.1 2).trans rfl, (kC BK440.1 3).trans rfl, (kC BK440.1 4).trans rfl, (kC BK440.1 5).trans rfl⟩ (fun hHeld => ?_)
     clear hK K
     refine norm_ (a' := ?_) ?_ ?_
     rotate_left
     ·show Act.put _ (some 22) _ = _
      simp only [Act.put, List.setIfInBounds_toArray, List.set_cons_zero, List.set_cons_succ, i64_w, i32_w]
      rfl
     refine one_ (i := 3) (N := some 24) #[true, true, true, true, false, false, false, false, false] rfl rfl (one_of HT_.out (by kernel_rfl)) (by decide) (fun K hK => ?_)
     refine goes_ Tryz.func16 (by kernel_rfl) rfl #[.agg #[.int .i64 a0_0, .string a0_1, .int .i64 a0_2, .slice A0_3 l0_3.length c0_3, .int .i64 a0_4, .int .i64 a0_5]] (by rfl) rfl rfl (by (try simp only [List.map_toArray, List.map_cons, List.map_nil]); first | done | rfl | (simp only [List.length_drop, List.length_take]; rfl)) ?_
     with_reducible refine (bitemporalref55_Violation.calls kj1 a0_0 a0_1 a0_2 _ _ l0_3 a0_4 a0_5 t447 _ ?side1 ?side2 A17.out ?gw_).mono ?_
     (case gw_ => first | exact HG.1 | (refine GW.below HG.1 ?_; repeat (first | (with_reducible first | exact HB.1 | apply zA | apply zN | apply z1 | refine zS ?_ GE440.1) | exact HB.1)))
     (case side1 => repeat (first | exact (Kd.C_below HR0_3.out HB.1) | (with_reducible refine Kd.C_alloc ?_ _) | (with_reducible refine Kd.C_drewN ?_ _) | (with_reducible refine Kd.C_drew ?_)))
     (case side2 => exact HC0_3.out)
     rintro e w22 ⟨rfl, hb⟩
     refine ⟨_, rfl, ?_⟩
     have n0_ := zM (kB (g := gb440) (o := .cells #[.int .i64 a0_0, .string a0_1, .int .i64 a0_2, .slice A0_3 l0_3.length c0_3, .int .i64 a0_4, .int .i64 a0_5] 38 (0, 0)) (by (with_reducible repeat (first | refine kN ?_ _ | refine kD ?_ | refine kA ?_ _)); exact BK440.1) hb)
     have n1_ := zM (zT (by repeat (first | (with_reducible first | exact HB.1 | apply zA | apply zN | apply z1 | refine zS ?_ GE440.1) | exact HB.1)) hb)
     clear BK440
     clear HB
     have BK440 := n0_
     have HB := n1_
     clear n0_ n1_
     (try clear hb)
     (try clear hb2)
     (try clear hk)
     (try clear hi)
     refine hK.out _ _ ⟨(kC BK440.1 0).trans rfl, (kC BK440.1 1).trans rfl, (kC BK440.1 2).trans rfl, (kC BK440.1 3).trans rfl, (kC BK440.1 4).trans rfl, (kC BK440.1 5).trans rfl⟩ (fun hHeld => ?_)
     clear hK K
     refine norm_ (a' := ?_) ?_ ?_
     rotate_left
     ·show Act.put _ (some 24) _ = _
      simp only [Act.put, List.setIfInBounds_toArray, List.set_cons_zero, List.set_cons_succ, i64_w, i32_w]
      rfl
     refine pure_ (i := 4) (N := some 25) (v := ?_) (a' := ?_) #[true, true, true, true, true, false, false, false, false] rfl rfl (any_of HT_.out (by kernel_rfl)) (fun _ _ _ h => h) (Or.inl ⟨by rfl, ?_⟩) ?_ ?_
     rotate_left
     ·intro w'
      go_simp
      with_reducible rfl
     rotate_left
     ·simp only [Act.put, List.setIfInBounds_toArray, List.set_cons_zero, List.set_cons_succ, i64_w, i32_w]
      rfl
     refine pure_ (i := 5) (N := some 26) (v := ?_) (a' := ?_) #[true, true, true, true, true, true, false, false, false] rfl rfl (any_of HT_.out (by kernel_rfl)) (fun _ _ _ h => h) (Or.inl ⟨by rfl, ?_⟩) ?_ ?_
     rotate_left
     ·intro w'
      go_simp
      with_reducible rfl
     rotate_left
     ·simp only [Act.put, List.setIfInBounds_toArray, List.set_cons_zero, List.set_cons_succ, i64_w, i32_w]
      rfl
     refine one_ (i := 6) (N := some 27) #[true, true, true, true, true, true, true, false, false] rfl rfl (one_of HT_.out (by kernel_rfl)) (by decide) (fun K hK => ?_)
     refine goes_ Tryz.func10 (by kernel_rfl) rfl #[] (by rfl) rfl rfl (by (try simp only [List.map_toArray, List.map_cons, List.map_nil]); first | done | rfl | (simp only [List.length_drop, List.length_take]; rfl)) ?_
     with_reducible refine (bitemporallaw55_awake.calls kj1  t448 _ A19.out ?gw_).mono ?_
     (case gw_ => first | exact HG.1 | (refine GW.below HG.1 ?_; repeat (first | (with_reducible first | exact HB.1 | apply zA | apply zN | apply z1 | refine zS ?_ GE440.1) | exact HB.1)))
     rintro e w23 ⟨rfl, hb⟩
     refine ⟨_, rfl, ?_⟩
     have n0_ := zM (kB (g := gb440) (o := .cells #[.int .i64 a0_0, .string a0_1, .int .i64 a0_2, .slice A0_3 l0_3.length c0_3, .int .i64 a0_4, .int .i64 a0_5] 38 (0, 0)) (by (with_reducible repeat (first | refine kN ?_ _ | refine kD ?_ | refine kA ?_ _)); exact BK440.1) hb)
     have n1_ := zM (zT (by repeat (first | (with_reducible first | exact HB.1 | apply zA | apply zN | apply z1 | refine zS ?_ GE440.1) | exact HB.1)) hb)
     clear BK440
     clear HB
     have BK440 := n0_
     have HB := n1_
     clear n0_ n1_
     (try clear hb)
     (try clear hb2)
     (try clear hk)
     (try clear hi)
     refine hK.out _ _ ⟨(kC BK440.1 0).trans rfl, (kC BK440.1 1).trans rfl, (kC BK440.1 2).trans rfl, (kC BK440.1 3).trans rfl, (kC BK440.1 4).trans rfl, (kC BK440.1 5).trans rfl⟩ (fun hHeld => ?_)
     clear hK K
     refine norm_ (a' := ?_) ?_ ?_
     rotate_left
     ·show Act.put _ (some 27) _ = _
      simp only [Act.put, List.setIfInBounds_toArray, List.set_cons_zero, List.set_cons_succ, i64_w, i32_w]
      rfl
     refine pure_ (i := 7) (N := some 28) (v := ?_) (a' := ?_) #[true, true, true, true, true, true, true, true, false] rfl rfl (any_of HT_.out (by kernel_rfl)) (fun _ _ _ h => h) (Or.inl ⟨by rfl, ?_⟩) ?_ ?_
     rotate_left
     ·intro w'
      go_simp
      with_reducible rfl
     rotate_left
     ·simp only [Act.put, List.setIfInBounds_toArray, List.set_cons_zero, List.set_cons_succ, i64_w, i32_w]
      rfl
     refine pure_ (i := 8) (N := some 2) (v := ?_) (a' := ?_) #[true, true, true, true, true, true, true, true, true] rfl rfl (any_of HT_.out (by kernel_rfl)) (fun _ _ _ h => h) (Or.inl ⟨by rfl, ?_⟩) ?_ ?_
     rotate_left
     ·intro w'
      go_simp
      with_reducible rfl
     rotate_left
     ·simp only [Act.put, List.setIfInBounds_toArray, List.set_cons_zero, List.set_cons_succ, i64_w, i32_w]
      rfl
     refine done_ (done_of HT_.out (by kernel_rfl)) ?_
     try go_wp2
     go_ret
     exact ⟨by first | rfl | (simp [errW_none, errW_some] <;> rfl) | (simp [*, errW_none, errW_some] <;> rfl), by repeat (first | (with_reducible first | exact HB.1 | apply zA | apply zN | apply z1 | refine zS ?_ GE440.1) | exact HB.1)⟩
    ·rw [if_neg c18] at H
     have c18b0 : (t446.toList == t447.toList) = false := beq_eq_false_iff_ne.mpr c18
     have c18b1 : (t446.toList != t447.toList) = true := bne_iff_ne.mpr c18
     obtain rfl := Option.some.inj H
     try go_wp2
     have n0_ := zM (kD BK440.1)
     have n1_ := zM (z1 HB.1)
     clear BK440
     clear HB
     have BK440 := n0_
     have HB := n1_
     clear n0_ n1_
     refine start_ (n := 9) (S := fun w' => w'.cell? ⟨gb440, 0, none⟩ = some (.int .i64 a0_0) ∧ w'.cell? ⟨gb440, 1, none⟩ = some (.string a0_1) ∧ w'.cell? ⟨gb440, 2, none⟩ = some (.int .i64 a0_2) ∧ w'.cell? ⟨gb440, 3, none⟩ = some (.slice A0_3 l0_3.length c0_3) ∧ w'.cell? ⟨gb440, 4, none⟩ = some (.int .i64 a0_4) ∧ w'.cell? ⟨gb440, 5, none⟩ = some (.int .i64 a0_5)) (ds := []) #[false, false, false, false, false, false, false, false, false] (by kernel_rfl) rfl rfl ⟨(kC BK440.1 0).trans rfl, (kC BK440.1 1).trans rfl, (kC BK440.1 2).trans rfl, (kC BK440.1 3).trans rfl, (kC BK440.1 4).trans rfl, (kC BK440.1 5).trans rfl⟩ (fun hHeld => ?_); refine with_tabW bitemporallaw55_ReportViolations.tab3 bitemporallaw55_ReportViolations.bits3 (fun HT_ HW_ => ?_)
     generalize wc.drew = w24 at BK440 HB hHeld ⊢
     refine take_ (i := 0) (N := some 21) (v := ?_) (a' := ?_) #[true, false, false, false, false, false, false, false, false] rfl rfl (take_ofW HT_.out HW_.out (by kernel_rfl)) (fun _ _ _ h => h) (Or.inl ⟨by rfl, ?_⟩) hHeld ?_ ?_
     rotate_left
     ·rintro w' ⟨s0, s1, s2, s3, s4, s5⟩
      go_simp
      with_reducible rfl
     rotate_left
     ·simp only [Act.put, List.setIfInBounds_toArray, List.set_cons_zero, List.set_cons_succ, i64_w, i32_w]
      rfl
     refine take_ (i := 2) (N := some 23) (v := ?_) (a' := ?_) #[true, false, true, false, false, false, false, false, false] rfl rfl (take_ofW HT_.out HW_.out (by kernel_rfl)) (fun _ _ _ h => h) (Or.inl ⟨by rfl, ?_⟩) hHeld ?_ ?_
     rotate_left
     ·rintro w' ⟨s0, s1, s2, s3, s4, s5⟩
      go_simp
      with_reducible rfl
     rotate_left
     ·simp only [Act.put, List.setIfInBounds_toArray, List.set_cons_zero, List.set_cons_succ, i64_w, i32_w]
      rfl
     refine one_ (i := 1) (N := some 22) #[true, true, true, false, false, false, false, false, false] rfl rfl (one_of HT_.out (by kernel_rfl)) (by decide) (fun K hK => ?_)
     refine goes_ Tryz.func15 (by kernel_rfl) rfl #[.agg #[.int .i64 a0_0, .string a0_1, .int .i64 a0_2, .slice A0_3 l0_3.length c0_3, .int .i64 a0_4, .int .i64 a0_5]] (by rfl) rfl rfl (by (try simp only [List.map_toArray, List.map_cons, List.map_nil]); first | done | rfl | (simp only [List.length_drop, List.length_take]; rfl)) ?_
     with_reducible refine (report_Violation.calls kj1 a0_0 a0_1 a0_2 _ _ l0_3 a0_4 a0_5 t446 _ ?side1 ?side2 A16.out ?gw_).mono ?_
     (case gw_ => first | exact HG.1 | (refine GW.below HG.1 ?_; repeat (first | (with_reducible first | exact HB.1 | apply zA | apply zN | apply z1 | refine zS ?_ GE440.1) | exact HB.1)))
     (case side1 => repeat (first | exact (Kd.C_below HR0_3.out HB.1) | (with_reducible refine Kd.C_alloc ?_ _) | (with_reducible refine Kd.C_drewN ?_ _) | (with_reducible refine Kd.C_drew ?_)))
     (case side2 => exact HC0_3.out)
     rintro e w25 ⟨rfl, hb⟩
     refine ⟨_, rfl, ?_⟩
     have n0_ := zM (kB (g := gb440) (o := .cells #[.int .i64 a0_0, .string a0_1, .int .i64 a0_2, .slice A0_3 l0_3.length c0_3, .int .i64 a0_4, .int .i64 a0_5] 38 (0, 0)) (by (with_reducible repeat (first | refine kN ?_ _ | refine kD ?_ | refine kA ?_ _)); exact BK440.1) hb)
     have n1_ := zM (zT (by repeat (first | (with_reducible first | exact HB.1 | apply zA | apply zN | apply z1 | refine zS ?_ GE440.1) | exact HB.1)) hb)
     clear BK440
     clear HB
     have BK440 := n0_
     have HB := n1_
     clear n0_ n1_
     (try clear hb)
     (try clear hb2)
     (try clear hk)
     (try clear hi)
     refine hK.out _ _ ⟨(kC BK440.1 0).trans rfl, (kC BK440.1 1).trans rfl, (kC BK440.1 2).trans rfl, (kC BK440.1 3).trans rfl, (kC BK440.1 4).trans rfl, (kC BK440.1 5).trans rfl⟩ (fun hHeld => ?_)
     clear hK K
     refine norm_ (a' := ?_) ?_ ?_
     rotate_left
     ·show Act.put _ (some 22) _ = _
      simp only [Act.put, List.setIfInBounds_toArray, List.set_cons_zero, List.set_cons_succ, i64_w, i32_w]
      rfl
     refine one_ (i := 3) (N := some 24) #[true, true, true, true, false, false, false, false, false] rfl rfl (one_of HT_.out (by kernel_rfl)) (by decide) (fun K hK => ?_)
     refine goes_ Tryz.func16 (by kernel_rfl) rfl #[.agg #[.int .i64 a0_0, .string a0_1, .int .i64 a0_2, .slice A0_3 l0_3.length c0_3, .int .i64 a0_4, .int .i64 a0_5]] (by rfl) rfl rfl (by (try simp only [List.map_toArray, List.map_cons, List.map_nil]); first | done | rfl | (simp only [List.length_drop, List.length_take]; rfl)) ?_
     with_reducible refine (bitemporalref55_Violation.calls kj1 a0_0 a0_1 a0_2 _ _ l0_3 a0_4 a0_5 t447 _ ?side1 ?side2 A17.out ?gw_).mono ?_
     (case gw_ => first | exact HG.1 | (refine GW.below HG.1 ?_; repeat (first | (with_reducible first | exact HB.1 | apply zA | apply zN | apply z1 | refine zS ?_ GE440.1) | exact HB.1)))
     (case side1 => repeat (first | exact (Kd.C_below HR0_3.out HB.1) | (with_reducible refine Kd.C_alloc ?_ _) | (with_reducible refine Kd.C_drewN ?_ _) | (with_reducible refine Kd.C_drew ?_)))
     (case side2 => exact HC0_3.out)
     rintro e w26 ⟨rfl, hb⟩
     refine ⟨_, rfl, ?_⟩
     have n0_ := zM (kB (g := gb440) (o := .cells #[.int .i64 a0_0, .string a0_1, .int .i64 a0_2, .slice A0_3 l0_3.length c0_3, .int .i64 a0_4, .int .i64 a0_5] 38 (0, 0)) (by (with_reducible repeat (first | refine kN ?_ _ | refine kD ?_ | refine kA ?_ _)); exact BK440.1) hb)
     have n1_ := zM (zT (by repeat (first | (with_reducible first | exact HB.1 | apply zA | apply zN | apply z1 | refine zS ?_ GE440.1) | exact HB.1)) hb)
     clear BK440
     clear HB
     have BK440 := n0_
     have HB := n1_
     clear n0_ n1_
     (try clear hb)
     (try clear hb2)
     (try clear hk)
     (try clear hi)
     refine hK.out _ _ ⟨(kC BK440.1 0).trans rfl, (kC BK440.1 1).trans rfl, (kC BK440.1 2).trans rfl, (kC BK440.1 3).trans rfl, (kC BK440.1 4).trans rfl, (kC BK440.1 5).trans rfl⟩ (fun hHeld => ?_)
     clear hK K
     refine norm_ (a' := ?_) ?_ ?_
     rotate_left
     ·show Act.put _ (some 24) _ = _
      simp only [Act.put, List.setIfInBounds_toArray, List.set_cons_zero, List.set_cons_succ, i64_w, i32_w]
      rfl
     refine pure_ (i := 4) (N := some 25) (v := ?_) (a' := ?_) #[true, true, true, true, true, false, false, false, false] rfl rfl (any_of HT_.out (by kernel_rfl)) (fun _ _ _ h => h) (Or.inl ⟨by rfl, ?_⟩) ?_ ?_
     rotate_left
     ·intro w'
      go_simp
      with_reducible rfl
     rotate_left
     ·simp only [Act.put, List.setIfInBounds_toArray, List.set_cons_zero, List.set_cons_succ, i64_w, i32_w]
      rfl
     refine pure_ (i := 5) (N := some 26) (v := ?_) (a' := ?_) #[true, true, true, true, true, true, false, false, false] rfl rfl (any_of HT_.out (by kernel_rfl)) (fun _ _ _ h => h) (Or.inl ⟨by rfl, ?_⟩) ?_ ?_
     rotate_left
     ·intro w'
      go_simp
      with_reducible rfl
     rotate_left
     ·simp only [Act.put, List.setIfInBounds_toArray, List.set_cons_zero, List.set_cons_succ, i64_w, i32_w]
      rfl
     refine pure_ (i := 6) (N := some 27) (v := undef) (a' := ?_) #[true, true, true, true, true, true, true, false, false] rfl rfl (any_of HT_.out (by kernel_rfl)) (fun _ _ _ h => h) (Or.inr ⟨by rfl, rfl⟩) ?_ ?_
     rotate_left
     ·simp only [Act.put, List.setIfInBounds_toArray, List.set_cons_zero, List.set_cons_succ, i64_w, i32_w]
      rfl
     refine pure_ (i := 7) (N := some 28) (v := ?_) (a' := ?_) #[true, true, true, true, true, true, true, true, false] rfl rfl (any_of HT_.out (by kernel_rfl)) (fun _ _ _ h => h) (Or.inl ⟨by rfl, ?_⟩) ?_ ?_
     rotate_left
     ·intro w'
      go_simp
      with_reducible rfl
     rotate_left
     ·simp only [Act.put, List.setIfInBounds_toArray, List.set_cons_zero, List.set_cons_succ, i64_w, i32_w]
      rfl
     refine pure_ (i := 8) (N := some 2) (v := ?_) (a' := ?_) #[true, true, true, true, true, true, true, true, true] rfl rfl (any_of HT_.out (by kernel_rfl)) (fun _ _ _ h => h) (Or.inl ⟨by rfl, ?_⟩) ?_ ?_
     rotate_left
     ·intro w'
      go_simp
      with_reducible rfl
     rotate_left
     ·simp only [Act.put, List.setIfInBounds_toArray, List.set_cons_zero, List.set_cons_succ, i64_w, i32_w]
      rfl
     refine done_ (done_of HT_.out (by kernel_rfl)) ?_
     try go_wp2
     go_ret
     exact ⟨by first | rfl | (simp [errW_none, errW_some] <;> rfl) | (simp [*, errW_none, errW_some] <;> rfl), by repeat (first | (with_reducible first | exact HB.1 | apply zA | apply zN | apply z1 | refine zS ?_ GE440.1) | exact HB.1)⟩

end Go.Proofs.YthdgjobhofpjeaaGreatDoor.X
