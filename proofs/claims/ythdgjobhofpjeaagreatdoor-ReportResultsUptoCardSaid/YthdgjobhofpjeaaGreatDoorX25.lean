/- Walks of Go functions of this seat, printed by a program of mine (wip/tools/xprint.py) over the kit's printer: each function as a plain Lean function, and the proof that the call comes to what it says. No conditions but those in each theorem. -/
import Derived.Test.YthdgjobhofpjeaaGreatDoorX0
import Derived.Test.YthdgjobhofpjeaaGreatDoorX4
import Derived.Test.YthdgjobhofpjeaaGreatDoorX5
import Derived.Test.YthdgjobhofpjeaaGreatDoorX6
import Derived.Test.YthdgjobhofpjeaaGreatDoorX7
import Derived.Test.YthdgjobhofpjeaaGreatDoorX12
import Derived.Test.YthdgjobhofpjeaaGreatDoorH1
namespace Go.Proofs.YthdgjobhofpjeaaGreatDoor.X
open Go.RowKit Go.Proofs.YthdgjobhofpjeaaGreatDoorW.PrintWords Go.Proofs.YthdgjobhofpjeaaGreatDoorW.PrintLast Go.Proofs.YthdgjobhofpjeaaGreatDoorW.PrintMore
attribute [local go_sem] max2_int min2_int max_two min_two max_three min_three max_four min_four   -- for this text's walks alone
set_option linter.unusedVariables false
set_option linter.unusedSimpArgs false

/-! ### report_Result: function 11 -/
mutual
def report_Result.j0 : Nat → List ByteArray → List (S49) → List (S45) → Int → Int → Option (ByteArray)
  | 0, _, _, _, _, _ => none
  | k + 1, x3, x135000, x135001, x135002, x135003 => if x135003 = 0 then ((report_line.f (⟨#[44, 32]⟩ : ByteArray) x3).bind fun t142 => (some t142)) else ((strconv_Itoa.f x135003).bind fun t143 => (if 5 + t143.size ≤ 9223372036854775807 then (if x3.length < 8796093022208 then ((report_line.f (⟨#[44, 32]⟩ : ByteArray) (x3 ++ [(⟨#[116, 105, 109, 101, 32]⟩ : ByteArray) ++ t143])).bind fun t147 => (some t147)) else (none)) else (none)))
def report_Result.j1 : Nat → Bool → List ByteArray → List (S49) → List (S45) → Int → Int → Option (ByteArray)
  | 0, _, _, _, _, _, _ => none
  | k + 1, x4, x5, x135000, x135001, x135002, x135003 => report_Result.l0 k x4 (([x5] : List (List ByteArray))) x135001 (x135001.length : Int) 0 x135000 x135001 x135002 x135003
def report_Result.l0 : Nat → Bool → List (List ByteArray) → List (S45) → Int → Int → List (S49) → List (S45) → Int → Int → Option (ByteArray)
  | 0, _, _, _, _, _, _, _, _, _ => none
  | k + 1, x4, x6, x51, x52, x53, x135000, x135001, x135002, x135003 => if x53 < x52 then (if 0 ≤ x53 then (if x53 < (x51.length : Int) then ((report_values.f k ((rd_T45 x51 x53).f0) (x135000.length : Int)).bind fun t160 => (if x4 = true then ((period_Text.f ((rd_T45 x51 x53).f1.f0) ((rd_T45 x51 x53).f1.f1)).bind fun t163 => (if t160.length < 8796093022208 then (if x6.length < 5864062014805 then (report_Result.l0 k x4 (x6 ++ [(t160 ++ [t163])]) x51 x52 (wrap64 (x53 + 1)) x135000 x135001 x135002 x135003) else (none)) else (none))) else (if x6.length < 5864062014805 then (report_Result.l0 k x4 (x6 ++ [t160]) x51 x52 (wrap64 (x53 + 1)) x135000 x135001 x135002 x135003) else (none)))) else (none)) else (none)) else (if (x135001.length : Int) = 1 then ((report_table.f x6).bind fun t173 => ((strconv_Itoa.f (x135001.length : Int)).bind fun t174 => ((report_line.f (⟨#[32]⟩ : ByteArray) (([t174, (⟨#[114, 111, 119]⟩ : ByteArray)] : List ByteArray))).bind fun t178 => (if t173.size + t178.size ≤ 9223372036854775807 then (some (t173 ++ t178)) else (none))))) else ((report_table.f x6).bind fun t179 => ((strconv_Itoa.f (x135001.length : Int)).bind fun t180 => ((report_line.f (⟨#[32]⟩ : ByteArray) (([t180, (⟨#[114, 111, 119, 115]⟩ : ByteArray)] : List ByteArray))).bind fun t184 => (if t179.size + t184.size ≤ 9223372036854775807 then (some (t179 ++ t184)) else (none))))))
end
def report_Result.f (k : Nat) (l0_0 : List (S49)) (l0_1 : List (S45)) (a0_2 : Int) (a0_3 : Int) : Option (ByteArray) := if (l0_0.length : Int) = 0 then ((some (([(⟨#[111, 107]⟩ : ByteArray)] : List ByteArray) : List ByteArray)).bind fun y135 => (if a0_2 = 0 then (report_Result.j0 k y135 l0_0 l0_1 a0_2 a0_3) else ((strconv_Itoa.f a0_2).bind fun t138 => (if 6 + t138.size ≤ 9223372036854775807 then (if y135.length < 8796093022208 then (report_Result.j0 k (y135 ++ [(⟨#[99, 111, 117, 110, 116, 32]⟩ : ByteArray) ++ t138]) l0_0 l0_1 a0_2 a0_3) else (none)) else (none))))) else ((slices_ContainsFunc_report_Result_1.f k l0_1).bind fun t148 => ((report_names.f k l0_0).bind fun t149 => (if t148 = true then (if t149.length < 8796093022208 then (report_Result.j1 k t148 (t149 ++ [(⟨#[118, 97, 108, 105, 100]⟩ : ByteArray)]) l0_0 l0_1 a0_2 a0_3) else (none)) else (report_Result.j1 k t148 t149 l0_0 l0_1 a0_2 a0_3))))
theorem report_Result.mono_l : ∀ k, (∀ y0 y1 y2 y3 y4, LeO (report_Result.j0 k y0 y1 y2 y3 y4) (report_Result.j0 (k + 1) y0 y1 y2 y3 y4)) ∧ (∀ y0 y1 y2 y3 y4 y5, LeO (report_Result.j1 k y0 y1 y2 y3 y4 y5) (report_Result.j1 (k + 1) y0 y1 y2 y3 y4 y5)) ∧ (∀ y0 y1 y2 y3 y4 y5 y6 y7 y8, LeO (report_Result.l0 k y0 y1 y2 y3 y4 y5 y6 y7 y8) (report_Result.l0 (k + 1) y0 y1 y2 y3 y4 y5 y6 y7 y8))
  | 0 => ⟨fun _ _ _ _ _ r h => by simp [report_Result.j0] at h, fun _ _ _ _ _ _ r h => by simp [report_Result.j1] at h, fun _ _ _ _ _ _ _ _ _ r h => by simp [report_Result.l0] at h⟩
  | k + 1 => by
    obtain ⟨ih0, ih1, ih2⟩ := report_Result.mono_l k
    refine ⟨?_, ?_, ?_⟩
    · intro y0 y1 y2 y3 y4
      unfold report_Result.j0
      repeat' first
      | (with_reducible exact ih0 _ _ _ _ _)
      | (with_reducible exact ih1 _ _ _ _ _ _)
      | (with_reducible exact ih2 _ _ _ _ _ _ _ _ _)
      | (with_reducible exact report_names.mono _ _)
      | (with_reducible exact report_values.mono _ _ _)
      | (with_reducible exact slices_ContainsFunc_report_Result_1.mono _ _)
      | (with_reducible exact LeO.refl _)
      | (with_reducible exact LeO.none _)
      | (with_reducible refine LeO.ite ?_ ?_)
      | (with_reducible refine LeO.bind ?_ (fun _ => ?_))
      | exact ih0 _ _ _ _ _
      | exact ih1 _ _ _ _ _ _
      | exact ih2 _ _ _ _ _ _ _ _ _
      | exact report_names.mono _ _
      | exact report_values.mono _ _ _
      | exact slices_ContainsFunc_report_Result_1.mono _ _
      | exact LeO.none _
      | refine LeO.ite ?_ ?_
      | refine LeO.bind ?_ (fun _ => ?_)
    · intro y0 y1 y2 y3 y4 y5
      unfold report_Result.j1
      repeat' first
      | (with_reducible exact ih0 _ _ _ _ _)
      | (with_reducible exact ih1 _ _ _ _ _ _)
      | (with_reducible exact ih2 _ _ _ _ _ _ _ _ _)
      | (with_reducible exact report_names.mono _ _)
      | (with_reducible exact report_values.mono _ _ _)
      | (with_reducible exact slices_ContainsFunc_report_Result_1.mono _ _)
      | (with_reducible exact LeO.refl _)
      | (with_reducible exact LeO.none _)
      | (with_reducible refine LeO.ite ?_ ?_)
      | (with_reducible refine LeO.bind ?_ (fun _ => ?_))
      | exact ih0 _ _ _ _ _
      | exact ih1 _ _ _ _ _ _
      | exact ih2 _ _ _ _ _ _ _ _ _
      | exact report_names.mono _ _
      | exact report_values.mono _ _ _
      | exact slices_ContainsFunc_report_Result_1.mono _ _
      | exact LeO.none _
      | refine LeO.ite ?_ ?_
      | refine LeO.bind ?_ (fun _ => ?_)
    · intro y0 y1 y2 y3 y4 y5 y6 y7 y8
      unfold report_Result.l0
      repeat' first
      | (with_reducible exact ih0 _ _ _ _ _)
      | (with_reducible exact ih1 _ _ _ _ _ _)
      | (with_reducible exact ih2 _ _ _ _ _ _ _ _ _)
      | (with_reducible exact report_names.mono _ _)
      | (with_reducible exact report_values.mono _ _ _)
      | (with_reducible exact slices_ContainsFunc_report_Result_1.mono _ _)
      | (with_reducible exact LeO.refl _)
      | (with_reducible exact LeO.none _)
      | (with_reducible refine LeO.ite ?_ ?_)
      | (with_reducible refine LeO.bind ?_ (fun _ => ?_))
      | exact ih0 _ _ _ _ _
      | exact ih1 _ _ _ _ _ _
      | exact ih2 _ _ _ _ _ _ _ _ _
      | exact report_names.mono _ _
      | exact report_values.mono _ _ _
      | exact slices_ContainsFunc_report_Result_1.mono _ _
      | exact LeO.none _
      | refine LeO.ite ?_ ?_
      | refine LeO.bind ?_ (fun _ => ?_)
theorem report_Result.mono : ∀ a0 a1 a2 a3 k, LeO (report_Result.f k a0 a1 a2 a3) (report_Result.f (k + 1) a0 a1 a2 a3) := by
  intro a0 a1 a2 a3 k
  obtain ⟨ih0, ih1, ih2⟩ := report_Result.mono_l k
  unfold report_Result.f
  repeat' first
      | (with_reducible exact ih0 _ _ _ _ _)
      | (with_reducible exact ih1 _ _ _ _ _ _)
      | (with_reducible exact ih2 _ _ _ _ _ _ _ _ _)
      | (with_reducible exact report_names.mono _ _)
      | (with_reducible exact report_values.mono _ _ _)
      | (with_reducible exact slices_ContainsFunc_report_Result_1.mono _ _)
      | (with_reducible exact LeO.refl _)
      | (with_reducible exact LeO.none _)
      | (with_reducible refine LeO.ite ?_ ?_)
      | (with_reducible refine LeO.bind ?_ (fun _ => ?_))
      | exact ih0 _ _ _ _ _
      | exact ih1 _ _ _ _ _ _
      | exact ih2 _ _ _ _ _ _ _ _ _
      | exact report_names.mono _ _
      | exact report_values.mono _ _ _
      | exact slices_ContainsFunc_report_Result_1.mono _ _
      | exact LeO.none _
      | refine LeO.ite ?_ ?_
      | refine LeO.bind ?_ (fun _ => ?_)
def report_Result.T24 : Bool × List (List Nat × List Nat) := (true, [([], []), ([0], [0]), ([], []), ([2], [2]), ([3], [3]), ([4, 1], [4]), ([], []), ([5, 6], [5, 6]), ([7, 5], [7]), ([1, 8], [1, 8]), ([9, 8, 0, 1, 2, 3, 4, 5, 6, 7, 8, 9], [9])])
def report_Result.B24 : List Nat := [0, 1, 0, 4, 12, 31, 0, 127, 255, 511, 1023]
theorem report_Result.tab24 : rtab .any (opsOf Tryz.f11 24) = report_Result.T24 := by kernel_rfl
theorem report_Result.bits24 : waitsOk report_Result.T24.2 report_Result.B24 = true := by kernel_rfl
set_option maxHeartbeats 8000000 in
set_option maxRecDepth 100000 in
theorem report_Result.calls (k : Nat) (A0_0 : Option Addr) (c0_0 : Nat) (l0_0 : List (S49)) (A0_1 : Option Addr) (c0_1 : Nat) (l0_1 : List (S45)) (a0_2 : Int) (a0_3 : Int) (r : ByteArray) (w : World) (hr0_0 : Kd.C k49 w A0_0 l0_0.length l0_0) (hc0_0 : l0_0.length ≤ c0_0) (hr0_1 : Kd.C k45 w A0_1 l0_1.length l0_1) (hc0_1 : l0_1.length ≤ c0_1) (h : report_Result.f k l0_0 l0_1 a0_2 a0_3 = some r) (hG : GW w) :
  Calls Tryz.prog 11 #[.agg #[.slice A0_0 l0_0.length c0_0, .slice A0_1 l0_1.length c0_1, .int .i64 a0_2, .int .i64 a0_3]] w fun e w' => e = .returned (.string r) ∧ Below w.heap.size w w' := by
 have HG := zM hG
 clear hG
 have hu25 := Tryz.underlying25
 have hu45 := Tryz.underlying45
 have hu33 := Tryz.underlying33
 have HR0_0 := zM hr0_0
 have HC0_0 := zM hc0_0
 clear hr0_0 hc0_0
 have HR0_1 := zM hr0_1
 have HC0_1 := zM hc0_1
 clear hr0_1 hc0_1
 have HB := zM (Below.refl w.heap.size w)
 have H : (if (l0_0.length : Int) = 0 then ((some (([(⟨#[111, 107]⟩ : ByteArray)] : List ByteArray) : List ByteArray)).bind fun y135 => (if a0_2 = 0 then (report_Result.j0 k y135 l0_0 l0_1 a0_2 a0_3) else ((strconv_Itoa.f a0_2).bind fun t138 => (if 6 + t138.size ≤ 9223372036854775807 then (if y135.length < 8796093022208 then (report_Result.j0 k (y135 ++ [(⟨#[99, 111, 117, 110, 116, 32]⟩ : ByteArray) ++ t138]) l0_0 l0_1 a0_2 a0_3) else (none)) else (none))))) else ((slices_ContainsFunc_report_Result_1.f k l0_1).bind fun t148 => ((report_names.f k l0_0).bind fun t149 => (if t148 = true then (if t149.length < 8796093022208 then (report_Result.j1 k t148 (t149 ++ [(⟨#[118, 97, 108, 105, 100]⟩ : ByteArray)]) l0_0 l0_1 a0_2 a0_3) else (none)) else (report_Result.j1 k t148 t149 l0_0 l0_1 a0_2 a0_3))))) = some r := h
 clear h
 by_cases c2 : (l0_0.length : Int) = 0
 ·rw [if_pos c2] at H
  have c2b0 : ((l0_0.length : Int) == 0) = true := beq_iff_eq.mpr c2
  have c2b1 : ((l0_0.length : Int) != 0) = false := bne_eq_false_iff_eq.mpr c2
  clear c2
  obtain ⟨y135, hy135⟩ : ∃ y_ : List ByteArray, y_ = (([(⟨#[111, 107]⟩ : ByteArray)] : List ByteArray)) := ⟨_, rfl⟩
  replace H : (if a0_2 = 0 then (report_Result.j0 k y135 l0_0 l0_1 a0_2 a0_3) else ((strconv_Itoa.f a0_2).bind fun t138 => (if 6 + t138.size ≤ 9223372036854775807 then (if y135.length < 8796093022208 then (report_Result.j0 k (y135 ++ [(⟨#[99, 111, 117, 110, 116, 32]⟩ : ByteArray) ++ t138]) l0_0 l0_1 a0_2 a0_3) else (none)) else (none)))) = some r := by first | (rw [hy135]; with_reducible exact H) | (have H2_ := (Option.bind_some _ _).symm.trans H; rw [hy135]; with_reducible exact H2_) | (have H2_ := (Option.bind_some _ _).symm.trans H; with_reducible exact H2_) | with_reducible exact H | (rw [hy135]; exact H) | exact H
  have Ny135 := zM hy135
  clear hy135
  have HC3 := zM H
  clear H
  go_enter Tryz.func11, Tryz.ntmps11
  go_upto_if 18 with (first | ((with_reducible refine gate_dst (N := 1) rfl ?_); refine box_event ?hg (N := 1) ?hd (cs := #[.slice A0_0 l0_0.length c0_0, .slice A0_1 l0_1.length c0_1, .int .i64 a0_2, .int .i64 a0_3]) (t := 25) ?hr ?_; (case hd => rfl); (case hg => rfl); (case hr => first | (go_simp; done) | (go_simp; rfl)); intro gb134 hg w4 hbox hb; have n0_ := zM (zT (by repeat (first | (with_reducible first | exact HB.1 | apply zA | apply zN | apply z1) | exact HB.1)) hb); have n1_ := zM (hbox); have n2_ := zM ((by rw [hg]; exact (zZ (by repeat (first | (with_reducible first | exact HB.1 | apply zA | apply zN | apply z1) | exact HB.1))) : w.heap.size ≤ gb134)); have n3_ := n2_; clear HB; have HB := n0_; have BK134 := n1_; have GW134 := n2_; have GE134 := n3_; clear n0_ n1_ n2_ n3_; clear hb hbox hg; have hcz5_0 : w4.cell? ⟨gb134, 0, none⟩ = some (.slice A0_0 l0_0.length c0_0) := (kC BK134.1 0).trans rfl; have hcz5_1 : w4.cell? ⟨gb134, 1, none⟩ = some (.slice A0_1 l0_1.length c0_1) := (kC BK134.1 1).trans rfl; have hcz5_2 : w4.cell? ⟨gb134, 2, none⟩ = some (.int .i64 a0_2) := (kC BK134.1 2).trans rfl; have hcz5_3 : w4.cell? ⟨gb134, 3, none⟩ = some (.int .i64 a0_3) := (kC BK134.1 3).trans rfl; have hfz5_0 := kF BK134.1 0; have hfz5_1 := kF BK134.1 1; have hfz5_2 := kF BK134.1 2; have hfz5_3 := kF BK134.1 3) | ((with_reducible refine gate_dst (N := 15) rfl ?_); refine Kd.R_lit Kd.string _ 9 ?hg (N := 15) ?hd (xs := ([(⟨#[111, 107]⟩ : ByteArray)] : List ByteArray)) (inner := [.string (⟨#[111, 107]⟩ : ByteArray)]) (ok := fun _ => True) (okp := fun _ => True) ?hr ?hp (fun _ hk => hk) trivial (Below.refl _ _) (Nat.le_refl _) (by simp) ?_; (case hd => rfl); (case hg => rfl); (case hr => first | (go_simp; done) | (go_simp; rfl)); (case hp => exact (Reps.one (show Kd.M Kd.string _ _ _ (⟨#[111, 107]⟩ : ByteArray) [.string (⟨#[111, 107]⟩ : ByteArray)] from rfl) (Reps.none _ _))); intro v136 w6 ho7 hb hg_ hnew_; clear hg_ hnew_; (first | rw [← Ny135.out] at ho7 | (simp only [Int.reduceToNat] at ho7; rw [← Ny135.out] at ho7)); have n0_ := zM (Kd.R_lower ho7 (zZ (by repeat (first | (with_reducible first | exact HB.1 | apply zA | apply zN | apply z1 | refine zS ?_ GE134.1) | exact HB.1)))); have n1_ := zM (kB (g := gb134) (o := .cells #[.slice A0_0 l0_0.length c0_0, .slice A0_1 l0_1.length c0_1, .int .i64 a0_2, .int .i64 a0_3] 25 (0, 0)) (by (with_reducible repeat (first | refine kN ?_ _ | refine kD ?_ | refine kA ?_ _)); exact BK134.1) hb); have n2_ := zM (zT (by repeat (first | (with_reducible first | exact HB.1 | apply zA | apply zN | apply z1 | refine zS ?_ GE134.1) | exact HB.1)) hb); clear BK134; clear HB; have HO137 := n0_; have BK134 := n1_; have HB := n2_; clear n0_ n1_ n2_; clear hb ho7; have hcz8_0 : w6.cell? ⟨gb134, 0, none⟩ = some (.slice A0_0 l0_0.length c0_0) := (kC BK134.1 0).trans rfl; have hcz8_1 : w6.cell? ⟨gb134, 1, none⟩ = some (.slice A0_1 l0_1.length c0_1) := (kC BK134.1 1).trans rfl; have hcz8_2 : w6.cell? ⟨gb134, 2, none⟩ = some (.int .i64 a0_2) := (kC BK134.1 2).trans rfl; have hcz8_3 : w6.cell? ⟨gb134, 3, none⟩ = some (.int .i64 a0_3) := (kC BK134.1 3).trans rfl; have hfz8_0 := kF BK134.1 0; have hfz8_1 := kF BK134.1 1; have hfz8_2 := kF BK134.1 2; have hfz8_3 := kF BK134.1 3))
  (try simp only [Act.put, List.setIfInBounds_toArray, List.set_cons_zero, List.set_cons_succ])
  go_cut [3] (fun v3 wc => ∃ (kq : Nat) (x3_2 : List ByteArray), Aside0 (report_Result.j0 kq x3_2 l0_0 l0_1 a0_2 a0_3 = some r) ∧ Aside0 (kq ≤ k) ∧ Aside0 (Kd.R Kd.string 9 wc w.heap.size (fun _ => True) v3 x3_2) ∧ Aside0 (wc.heap[gb134]? = some (.cells #[(.slice A0_0 l0_0.length c0_0), (.slice A0_1 l0_1.length c0_1), .int .i64 a0_2, .int .i64 a0_3] 25 (0, 0))) ∧ Aside0 (Below w.heap.size w wc))
  case first =>
   have H := HC3.out
   clear HC3
   by_cases c9 : a0_2 = 0
   ·rw [if_pos c9] at H
    have c9b0 : (a0_2 == 0) = true := beq_iff_eq.mpr c9
    have c9b1 : (a0_2 != 0) = false := bne_eq_false_iff_eq.mpr c9
    clear c9
    (first | rw [c9b0] | (simp only [i64_w, i32_w]; rw [c9b0]) | skip)
    have H' := zM H
    clear H
    go_wp2
    go_meet
    case rel => exact ⟨_, (y135), H', ⟨by first | omega | exact Nat.le_refl _⟩, ⟨by (with_reducible repeat (first | apply Kd.R_alloc | apply Kd.R_drewN | apply Kd.R_drew)); exact HO137.out⟩, ⟨by (with_reducible repeat (first | refine kN ?_ _ | refine kD ?_ | refine kA ?_ _)); exact BK134.1⟩, ⟨by repeat (first | (with_reducible first | exact HB.1 | apply zA | apply zN | apply z1 | refine zS ?_ GE134.1) | exact HB.1)⟩⟩
   ·rw [if_neg c9] at H
    have c9b0 : (a0_2 == 0) = false := beq_eq_false_iff_ne.mpr c9
    have c9b1 : (a0_2 != 0) = true := bne_iff_ne.mpr c9
    (first | rw [c9b0] | (simp only [i64_w, i32_w]; rw [c9b0]) | skip)
    replace H := Option.bind_eq_some_iff.mp H
    obtain ⟨t138, A100, H⟩ := H
    have A10 := zM A100
    clear A100
    by_cases c11 : 6 + t138.size ≤ 9223372036854775807
    case neg =>
     rw [if_neg c11] at H
     exact absurd H (by simp)
    rw [if_pos c11] at H
    have c11b0 := eq_true c11
    have c11b1 := decide_eq_true c11
    try have c11b2 := eq_false (Nat.not_lt.2 c11)
    by_cases c12 : y135.length < 8796093022208
    case neg =>
     rw [if_neg c12] at H
     exact absurd H (by simp)
    rw [if_pos c12] at H
    have LMc12 := zM c12
    clear c12
    obtain ⟨y139, hy139⟩ : ∃ y_ : List ByteArray, y_ = (y135 ++ [(⟨#[99, 111, 117, 110, 116, 32]⟩ : ByteArray) ++ t138]) := ⟨_, rfl⟩
    replace H : (report_Result.j0 k y139 l0_0 l0_1 a0_2 a0_3) = some r := by first | (rw [hy139]; with_reducible exact H) | (have H2_ := (Option.bind_some _ _).symm.trans H; rw [hy139]; with_reducible exact H2_) | (have H2_ := (Option.bind_some _ _).symm.trans H; with_reducible exact H2_) | with_reducible exact H | (rw [hy139]; exact H) | exact H
    have Ny139 := zM hy139
    clear hy139
    have H' := zM H
    clear H
    have hcz13_0 : w6.cell? ⟨gb134, 0, none⟩ = some (.slice A0_0 l0_0.length c0_0) := (kC BK134.1 0).trans rfl
    have hcz13_1 : w6.cell? ⟨gb134, 1, none⟩ = some (.slice A0_1 l0_1.length c0_1) := (kC BK134.1 1).trans rfl
    have hcz13_2 : w6.cell? ⟨gb134, 2, none⟩ = some (.int .i64 a0_2) := (kC BK134.1 2).trans rfl
    have hcz13_3 : w6.cell? ⟨gb134, 3, none⟩ = some (.int .i64 a0_3) := (kC BK134.1 3).trans rfl
    have hfz13_0 := kF BK134.1 0
    have hfz13_1 := kF BK134.1 1
    have hfz13_2 := kF BK134.1 2
    have hfz13_3 := kF BK134.1 3
    go_wp2_with (first | ((with_reducible refine gate_callee (f := 23) rfl ?_); refine goesL_ (some 22) rfl rfl Tryz.func23 (by kernel_rfl) rfl #[.int .i64 a0_2] rfl (by (try simp only [List.map_toArray, List.map_cons, List.map_nil]); first | done | rfl | (simp only [List.length_drop, List.length_take]; rfl)) ?_; (with_reducible refine (strconv_Itoa.calls a0_2 t138 _ A10.out ?gw_).mono ?_); (case gw_ => first | exact HG.1 | (refine GW.below HG.1 ?_; repeat (first | (with_reducible first | exact HB.1 | apply zA | apply zN | apply z1 | refine zS ?_ GE134.1) | exact HB.1))); rintro e w14 ⟨rfl, hb⟩; refine ⟨_, rfl, ?_⟩; have n0_ := zM (Kd.R_below (by (with_reducible repeat (first | apply Kd.R_alloc | apply Kd.R_drewN | apply Kd.R_drew)); exact HO137.out) hb); have n1_ := zM (kB (g := gb134) (o := .cells #[.slice A0_0 l0_0.length c0_0, .slice A0_1 l0_1.length c0_1, .int .i64 a0_2, .int .i64 a0_3] 25 (0, 0)) (by (with_reducible repeat (first | refine kN ?_ _ | refine kD ?_ | refine kA ?_ _)); exact BK134.1) hb); have n2_ := zM (zT (by repeat (first | (with_reducible first | exact HB.1 | apply zA | apply zN | apply z1 | refine zS ?_ GE134.1) | exact HB.1)) hb); clear HO137; clear BK134; clear HB; have HO137 := n0_; have BK134 := n1_; have HB := n2_; clear n0_ n1_ n2_; (try clear hb); (try clear hb2); (try clear hk); (try clear hi)) | ((with_reducible refine gate_builtin (b := .append) (xs := #[.tmp 19, .tmp 24]) rfl ?_); at_builtin; refine Kd.R_append Kd.string (w0 := w) w.heap.size rfl (.tmp 19) (.tmp 24) 59 9 (.string ⟨#[]⟩) 16 rfl Tryz.underlying59 info9 rfl (by decide) (by omega) v136 y135 ((⟨#[99, 111, 117, 110, 116, 32]⟩ : ByteArray) ++ t138) [.string ((⟨#[99, 111, 117, 110, 116, 32]⟩ : ByteArray) ++ t138)] (fun _ => True) (fun _ => False) rfl rfl ?aP (fun _ hk => hk.elim) ?aF ?aO ?aB ?aS ?aL ?_; (case aP => exact rfl); (case aB => exact (by repeat (first | (with_reducible first | exact HB.1 | apply zA | apply zN | apply z1 | refine zS ?_ GE134.1) | exact HB.1))); (case aF => exact (fun _ _ => trivial)); (case aO => exact (by (with_reducible repeat (first | apply Kd.R_alloc | apply Kd.R_drewN | apply Kd.R_drew)); exact HO137.out)); (case aS => exact (zZ (by repeat (first | (with_reducible first | exact HB.1 | apply zA | apply zN | apply z1 | refine zS ?_ GE134.1) | exact HB.1)))); (case aL => have := LMc12.out; omega); intro v140 w15 ho hb hg hat; rw [← Ny139.out] at ho; have n0_ := zM (blk_grown (g := gb134) (o := .cells #[.slice A0_0 l0_0.length c0_0, .slice A0_1 l0_1.length c0_1, .int .i64 a0_2, .int .i64 a0_3] 25 (0, 0)) (by (with_reducible repeat (first | refine kN ?_ _ | refine kD ?_ | refine kA ?_ _)); exact BK134.1) hg (Kd.R_ne HO137.out BK134.1 (by decide))); have n1_ := zM (hb); have n2_ := zM (ho); clear BK134; clear HB; clear HO137; have BK134 := n0_; have HB := n1_; have HO141 := n2_; clear n0_ n1_ n2_; clear ho hb hg hat))
    go_meet
    case rel => exact ⟨_, (y139), H', ⟨by first | omega | exact Nat.le_refl _⟩, ⟨by (with_reducible repeat (first | apply Kd.R_alloc | apply Kd.R_drewN | apply Kd.R_drew)); exact HO141.out⟩, ⟨by (with_reducible repeat (first | refine kN ?_ _ | refine kD ?_ | refine kA ?_ _)); exact BK134.1⟩, ⟨by repeat (first | (with_reducible first | exact HB.1 | apply zA | apply zN | apply z1 | refine zS ?_ GE134.1) | exact HB.1)⟩⟩
  case rest =>
   clear HC3
   try clear c1
   try clear c2
   try clear c2b0
   try clear c2b1
   try clear p2
   try clear c9
   try clear c9b0
   try clear c9b1
   try clear c11
   try clear c11b0
   try clear c11b1
   try clear c11b2
   try clear c12
   try clear hcz13_0
   try clear hcz13_1
   try clear hcz13_2
   try clear hcz13_3
   try clear hcz5_0
   try clear hcz5_1
   try clear hcz5_2
   try clear hcz5_3
   try clear hcz8_0
   try clear hcz8_1
   try clear hcz8_2
   try clear hcz8_3
   try clear hfz13_0
   try clear hfz13_1
   try clear hfz13_2
   try clear hfz13_3
   try clear hfz5_0
   try clear hfz5_1
   try clear hfz5_2
   try clear hfz5_3
   try clear hfz8_0
   try clear hfz8_1
   try clear hfz8_2
   try clear hfz8_3
   obtain ⟨kq, x3_2, HA, HJ2, HO_3, BK134, HB⟩ := hcut
   cases kq with
   | zero => exact absurd HA.out (by simp [report_Result.j0])
   | succ kj2 =>
    have H := HA.out
    clear HA
    simp only [report_Result.j0] at H
    by_cases c16 : a0_3 = 0
    ·rw [if_pos c16] at H
     have c16b0 : (a0_3 == 0) = true := beq_iff_eq.mpr c16
     have c16b1 : (a0_3 != 0) = false := bne_eq_false_iff_eq.mpr c16
     clear c16
     replace H := Option.bind_eq_some_iff.mp H
     obtain ⟨t142, A170, H⟩ := H
     have A17 := zM A170
     clear A170
     obtain rfl := Option.some.inj H
     have hcz18_0 : wc.cell? ⟨gb134, 0, none⟩ = some (.slice A0_0 l0_0.length c0_0) := (kC BK134.1 0).trans rfl
     have hcz18_1 : wc.cell? ⟨gb134, 1, none⟩ = some (.slice A0_1 l0_1.length c0_1) := (kC BK134.1 1).trans rfl
     have hcz18_2 : wc.cell? ⟨gb134, 2, none⟩ = some (.int .i64 a0_2) := (kC BK134.1 2).trans rfl
     have hcz18_3 : wc.cell? ⟨gb134, 3, none⟩ = some (.int .i64 a0_3) := (kC BK134.1 3).trans rfl
     have hfz18_0 := kF BK134.1 0
     have hfz18_1 := kF BK134.1 1
     have hfz18_2 := kF BK134.1 2
     have hfz18_3 := kF BK134.1 3
     obtain ⟨Ao19, co19, eo19⟩ := Kd.R_slice HO_3.out
     subst eo19
     go_wp2_with (first | ((with_reducible refine gate_callee (f := 24) rfl ?_); refine goesL_ (some 37) rfl rfl Tryz.func24 (by kernel_rfl) rfl #[.string (⟨#[44, 32]⟩ : ByteArray), .slice Ao19 x3_2.length co19] rfl (by (try simp only [List.map_toArray, List.map_cons, List.map_nil]); first | done | rfl | (simp only [List.length_drop, List.length_take]; rfl)) ?_; (with_reducible refine (report_line.calls (⟨#[44, 32]⟩ : ByteArray) _ _ x3_2 t142 _ ?side1 ?side2 A17.out ?gw_).mono ?_); (case gw_ => first | exact HG.1 | (refine GW.below HG.1 ?_; repeat (first | (with_reducible first | exact HB.1 | apply zA | apply zN | apply z1 | refine zS ?_ GE134.1) | exact HB.1))); (case side1 => repeat (first | exact (Kd.R_reads' HO_3.out).2.2 | (with_reducible refine Kd.C_alloc ?_ _) | (with_reducible refine Kd.C_drewN ?_ _) | (with_reducible refine Kd.C_drew ?_))); (case side2 => exact (Kd.R_reads' HO_3.out).2.1); rintro e w20 ⟨rfl, hb⟩; refine ⟨_, rfl, ?_⟩; have n0_ := zM (Kd.R_below (by (with_reducible repeat (first | apply Kd.R_alloc | apply Kd.R_drewN | apply Kd.R_drew)); exact HO_3.out) hb); have n1_ := zM (kB (g := gb134) (o := .cells #[.slice A0_0 l0_0.length c0_0, .slice A0_1 l0_1.length c0_1, .int .i64 a0_2, .int .i64 a0_3] 25 (0, 0)) (by (with_reducible repeat (first | refine kN ?_ _ | refine kD ?_ | refine kA ?_ _)); exact BK134.1) hb); have n2_ := zM (zT (by repeat (first | (with_reducible first | exact HB.1 | apply zA | apply zN | apply z1 | refine zS ?_ GE134.1) | exact HB.1)) hb); clear HO_3; clear BK134; clear HB; have HO_3 := n0_; have BK134 := n1_; have HB := n2_; clear n0_ n1_ n2_; (try clear hb); (try clear hb2); (try clear hk); (try clear hi)))
     go_ret
     exact ⟨by first | rfl | (simp [errW_none, errW_some] <;> rfl) | (simp [*, errW_none, errW_some] <;> rfl), by repeat (first | (with_reducible first | exact HB.1 | apply zA | apply zN | apply z1 | refine zS ?_ GE134.1) | exact HB.1)⟩
    ·rw [if_neg c16] at H
     have c16b0 : (a0_3 == 0) = false := beq_eq_false_iff_ne.mpr c16
     have c16b1 : (a0_3 != 0) = true := bne_iff_ne.mpr c16
     replace H := Option.bind_eq_some_iff.mp H
     obtain ⟨t143, A210, H⟩ := H
     have A21 := zM A210
     clear A210
     by_cases c22 : 5 + t143.size ≤ 9223372036854775807
     case neg =>
      rw [if_neg c22] at H
      exact absurd H (by simp)
     rw [if_pos c22] at H
     have c22b0 := eq_true c22
     have c22b1 := decide_eq_true c22
     try have c22b2 := eq_false (Nat.not_lt.2 c22)
     by_cases c23 : x3_2.length < 8796093022208
     case neg =>
      rw [if_neg c23] at H
      exact absurd H (by simp)
     rw [if_pos c23] at H
     have LMc23 := zM c23
     clear c23
     obtain ⟨y144, hy144⟩ : ∃ y_ : List ByteArray, y_ = (x3_2 ++ [(⟨#[116, 105, 109, 101, 32]⟩ : ByteArray) ++ t143]) := ⟨_, rfl⟩
     replace H : ((report_line.f (⟨#[44, 32]⟩ : ByteArray) y144).bind fun t147 => (some t147)) = some r := by first | (rw [hy144]; with_reducible exact H) | (have H2_ := (Option.bind_some _ _).symm.trans H; rw [hy144]; with_reducible exact H2_) | (have H2_ := (Option.bind_some _ _).symm.trans H; with_reducible exact H2_) | with_reducible exact H | (rw [hy144]; exact H) | exact H
     have Ny144 := zM hy144
     clear hy144
     replace H := Option.bind_eq_some_iff.mp H
     obtain ⟨t147, A240, H⟩ := H
     have A24 := zM A240
     clear A240
     obtain rfl := Option.some.inj H
     have hcz25_0 : wc.cell? ⟨gb134, 0, none⟩ = some (.slice A0_0 l0_0.length c0_0) := (kC BK134.1 0).trans rfl
     have hcz25_1 : wc.cell? ⟨gb134, 1, none⟩ = some (.slice A0_1 l0_1.length c0_1) := (kC BK134.1 1).trans rfl
     have hcz25_2 : wc.cell? ⟨gb134, 2, none⟩ = some (.int .i64 a0_2) := (kC BK134.1 2).trans rfl
     have hcz25_3 : wc.cell? ⟨gb134, 3, none⟩ = some (.int .i64 a0_3) := (kC BK134.1 3).trans rfl
     have hfz25_0 := kF BK134.1 0
     have hfz25_1 := kF BK134.1 1
     have hfz25_2 := kF BK134.1 2
     have hfz25_3 := kF BK134.1 3
     go_wp2_with (first | ((with_reducible refine gate_callee (f := 23) rfl ?_); refine goesL_ (some 32) rfl rfl Tryz.func23 (by kernel_rfl) rfl #[.int .i64 a0_3] rfl (by (try simp only [List.map_toArray, List.map_cons, List.map_nil]); first | done | rfl | (simp only [List.length_drop, List.length_take]; rfl)) ?_; (with_reducible refine (strconv_Itoa.calls a0_3 t143 _ A21.out ?gw_).mono ?_); (case gw_ => first | exact HG.1 | (refine GW.below HG.1 ?_; repeat (first | (with_reducible first | exact HB.1 | apply zA | apply zN | apply z1 | refine zS ?_ GE134.1) | exact HB.1))); rintro e w26 ⟨rfl, hb⟩; refine ⟨_, rfl, ?_⟩; have n0_ := zM (Kd.R_below (by (with_reducible repeat (first | apply Kd.R_alloc | apply Kd.R_drewN | apply Kd.R_drew)); exact HO_3.out) hb); have n1_ := zM (kB (g := gb134) (o := .cells #[.slice A0_0 l0_0.length c0_0, .slice A0_1 l0_1.length c0_1, .int .i64 a0_2, .int .i64 a0_3] 25 (0, 0)) (by (with_reducible repeat (first | refine kN ?_ _ | refine kD ?_ | refine kA ?_ _)); exact BK134.1) hb); have n2_ := zM (zT (by repeat (first | (with_reducible first | exact HB.1 | apply zA | apply zN | apply z1 | refine zS ?_ GE134.1) | exact HB.1)) hb); clear HO_3; clear BK134; clear HB; have HO_3 := n0_; have BK134 := n1_; have HB := n2_; clear n0_ n1_ n2_; (try clear hb); (try clear hb2); (try clear hk); (try clear hi)) | ((with_reducible refine gate_builtin (b := .append) (xs := #[.tmp 29, .tmp 34]) rfl ?_); at_builtin; refine Kd.R_append Kd.string (w0 := w) w.heap.size rfl (.tmp 29) (.tmp 34) 59 9 (.string ⟨#[]⟩) 16 rfl Tryz.underlying59 info9 rfl (by decide) (by omega) u3 x3_2 ((⟨#[116, 105, 109, 101, 32]⟩ : ByteArray) ++ t143) [.string ((⟨#[116, 105, 109, 101, 32]⟩ : ByteArray) ++ t143)] (fun _ => True) (fun _ => False) rfl rfl ?aP (fun _ hk => hk.elim) ?aF ?aO ?aB ?aS ?aL ?_; (case aP => exact rfl); (case aB => exact (by repeat (first | (with_reducible first | exact HB.1 | apply zA | apply zN | apply z1 | refine zS ?_ GE134.1) | exact HB.1))); (case aF => exact (fun _ _ => trivial)); (case aO => exact (by (with_reducible repeat (first | apply Kd.R_alloc | apply Kd.R_drewN | apply Kd.R_drew)); exact HO_3.out)); (case aS => exact (zZ (by repeat (first | (with_reducible first | exact HB.1 | apply zA | apply zN | apply z1 | refine zS ?_ GE134.1) | exact HB.1)))); (case aL => have := LMc23.out; omega); intro v145 w27 ho hb hg hat; rw [← Ny144.out] at ho; have n0_ := zM (blk_grown (g := gb134) (o := .cells #[.slice A0_0 l0_0.length c0_0, .slice A0_1 l0_1.length c0_1, .int .i64 a0_2, .int .i64 a0_3] 25 (0, 0)) (by (with_reducible repeat (first | refine kN ?_ _ | refine kD ?_ | refine kA ?_ _)); exact BK134.1) hg (Kd.R_ne HO_3.out BK134.1 (by decide))); have n1_ := zM (hb); have n2_ := zM (ho); clear BK134; clear HB; clear HO_3; have BK134 := n0_; have HB := n1_; have HO146 := n2_; clear n0_ n1_ n2_; clear ho hb hg hat; obtain ⟨Ao28, co28, eo28⟩ := Kd.R_slice HO146.out; subst eo28) | ((with_reducible refine gate_callee (f := 24) rfl ?_); refine goesL_ (some 37) rfl rfl Tryz.func24 (by kernel_rfl) rfl #[.string (⟨#[44, 32]⟩ : ByteArray), .slice Ao28 y144.length co28] rfl (by (try simp only [List.map_toArray, List.map_cons, List.map_nil]); first | done | rfl | (simp only [List.length_drop, List.length_take]; rfl)) ?_; (with_reducible refine (report_line.calls (⟨#[44, 32]⟩ : ByteArray) _ _ y144 t147 _ ?side1 ?side2 A24.out ?gw_).mono ?_); (case gw_ => first | exact HG.1 | (refine GW.below HG.1 ?_; repeat (first | (with_reducible first | exact HB.1 | apply zA | apply zN | apply z1 | refine zS ?_ GE134.1) | exact HB.1))); (case side1 => repeat (first | exact (Kd.R_reads' HO146.out).2.2 | (with_reducible refine Kd.C_alloc ?_ _) | (with_reducible refine Kd.C_drewN ?_ _) | (with_reducible refine Kd.C_drew ?_))); (case side2 => exact (Kd.R_reads' HO146.out).2.1); rintro e w29 ⟨rfl, hb⟩; refine ⟨_, rfl, ?_⟩; have n0_ := zM (Kd.R_below (by (with_reducible repeat (first | apply Kd.R_alloc | apply Kd.R_drewN | apply Kd.R_drew)); exact HO146.out) hb); have n1_ := zM (kB (g := gb134) (o := .cells #[.slice A0_0 l0_0.length c0_0, .slice A0_1 l0_1.length c0_1, .int .i64 a0_2, .int .i64 a0_3] 25 (0, 0)) (by (with_reducible repeat (first | refine kN ?_ _ | refine kD ?_ | refine kA ?_ _)); exact BK134.1) hb); have n2_ := zM (zT (by repeat (first | (with_reducible first | exact HB.1 | apply zA | apply zN | apply z1 | refine zS ?_ GE134.1) | exact HB.1)) hb); clear HO146; clear BK134; clear HB; have HO146 := n0_; have BK134 := n1_; have HB := n2_; clear n0_ n1_ n2_; (try clear hb); (try clear hb2); (try clear hk); (try clear hi)))
     go_ret
     exact ⟨by first | rfl | (simp [errW_none, errW_some] <;> rfl) | (simp [*, errW_none, errW_some] <;> rfl), by repeat (first | (with_reducible first | exact HB.1 | apply zA | apply zN | apply z1 | refine zS ?_ GE134.1) | exact HB.1)⟩
 ·rw [if_neg c2] at H
  have c2b0 : ((l0_0.length : Int) == 0) = false := beq_eq_false_iff_ne.mpr c2
  have c2b1 : ((l0_0.length : Int) != 0) = true := bne_iff_ne.mpr c2
  have c2b2 : ¬ (l0_0 = []) := fun h_ => c2 (by rw [h_]; rfl)
  replace H := Option.bind_eq_some_iff.mp H
  obtain ⟨t148, A300, H⟩ := H
  have A30 := zM A300
  clear A300
  replace H := Option.bind_eq_some_iff.mp H
  obtain ⟨t149, A310, H⟩ := H
  have A31 := zM A310
  clear A310
  have HC32 := zM H
  clear H
  go_enter Tryz.func11, Tryz.ntmps11
  go_upto_if 44 with (first | ((with_reducible refine gate_dst (N := 1) rfl ?_); refine box_event ?hg (N := 1) ?hd (cs := #[.slice A0_0 l0_0.length c0_0, .slice A0_1 l0_1.length c0_1, .int .i64 a0_2, .int .i64 a0_3]) (t := 25) ?hr ?_; (case hd => rfl); (case hg => rfl); (case hr => first | (go_simp; done) | (go_simp; rfl)); intro gb134 hg w33 hbox hb; have n0_ := zM (zT (by repeat (first | (with_reducible first | exact HB.1 | apply zA | apply zN | apply z1) | exact HB.1)) hb); have n1_ := zM (hbox); have n2_ := zM ((by rw [hg]; exact (zZ (by repeat (first | (with_reducible first | exact HB.1 | apply zA | apply zN | apply z1) | exact HB.1))) : w.heap.size ≤ gb134)); have n3_ := n2_; clear HB; have HB := n0_; have BK134 := n1_; have GW134 := n2_; have GE134 := n3_; clear n0_ n1_ n2_ n3_; clear hb hbox hg; have hcz34_0 : w33.cell? ⟨gb134, 0, none⟩ = some (.slice A0_0 l0_0.length c0_0) := (kC BK134.1 0).trans rfl; have hcz34_1 : w33.cell? ⟨gb134, 1, none⟩ = some (.slice A0_1 l0_1.length c0_1) := (kC BK134.1 1).trans rfl; have hcz34_2 : w33.cell? ⟨gb134, 2, none⟩ = some (.int .i64 a0_2) := (kC BK134.1 2).trans rfl; have hcz34_3 : w33.cell? ⟨gb134, 3, none⟩ = some (.int .i64 a0_3) := (kC BK134.1 3).trans rfl; have hfz34_0 := kF BK134.1 0; have hfz34_1 := kF BK134.1 1; have hfz34_2 := kF BK134.1 2; have hfz34_3 := kF BK134.1 3) | ((with_reducible refine gate_callee (f := 25) rfl ?_); refine goesL_ (some 40) rfl rfl Tryz.func25 (by kernel_rfl) rfl #[.slice A0_1 l0_1.length c0_1, .func (Fn.func 26) #[] #[]] rfl (by (try simp only [List.map_toArray, List.map_cons, List.map_nil]); first | done | rfl | (simp only [List.length_drop, List.length_take]; rfl)) ?_; (with_reducible refine (slices_ContainsFunc_report_Result_1.calls k _ _ l0_1  t148 _ ?side1 ?side2 A30.out ?gw_).mono ?_); (case gw_ => first | exact HG.1 | (refine GW.below HG.1 ?_; repeat (first | (with_reducible first | exact HB.1 | apply zA | apply zN | apply z1 | refine zS ?_ GE134.1) | exact HB.1))); (case side1 => repeat (first | exact (Kd.C_below HR0_1.out HB.1) | (with_reducible refine Kd.C_alloc ?_ _) | (with_reducible refine Kd.C_drewN ?_ _) | (with_reducible refine Kd.C_drew ?_))); (case side2 => exact HC0_1.out); rintro e w35 ⟨rfl, hb⟩; refine ⟨_, rfl, ?_⟩; have n0_ := zM (kB (g := gb134) (o := .cells #[.slice A0_0 l0_0.length c0_0, .slice A0_1 l0_1.length c0_1, .int .i64 a0_2, .int .i64 a0_3] 25 (0, 0)) (by (with_reducible repeat (first | refine kN ?_ _ | refine kD ?_ | refine kA ?_ _)); exact BK134.1) hb); have n1_ := zM (zT (by repeat (first | (with_reducible first | exact HB.1 | apply zA | apply zN | apply z1 | refine zS ?_ GE134.1) | exact HB.1)) hb); clear BK134; clear HB; have BK134 := n0_; have HB := n1_; clear n0_ n1_; (try clear hb); (try clear hb2); (try clear hk); (try clear hi); have hcz36_0 : w35.cell? ⟨gb134, 0, none⟩ = some (.slice A0_0 l0_0.length c0_0) := (kC BK134.1 0).trans rfl; have hcz36_1 : w35.cell? ⟨gb134, 1, none⟩ = some (.slice A0_1 l0_1.length c0_1) := (kC BK134.1 1).trans rfl; have hcz36_2 : w35.cell? ⟨gb134, 2, none⟩ = some (.int .i64 a0_2) := (kC BK134.1 2).trans rfl; have hcz36_3 : w35.cell? ⟨gb134, 3, none⟩ = some (.int .i64 a0_3) := (kC BK134.1 3).trans rfl; have hfz36_0 := kF BK134.1 0; have hfz36_1 := kF BK134.1 1; have hfz36_2 := kF BK134.1 2; have hfz36_3 := kF BK134.1 3) | ((with_reducible refine gate_callee (f := 27) rfl ?_); refine goesL_ (some 43) rfl rfl Tryz.func27 (by kernel_rfl) rfl #[.slice A0_0 l0_0.length c0_0] rfl (by (try simp only [List.map_toArray, List.map_cons, List.map_nil]); first | done | rfl | (simp only [List.length_drop, List.length_take]; rfl)) ?_; (with_reducible refine (report_names.calls k _ _ l0_0 t149 _ ?side1 ?side2 A31.out ?gw_).mono ?_); (case gw_ => first | exact HG.1 | (refine GW.below HG.1 ?_; repeat (first | (with_reducible first | exact HB.1 | apply zA | apply zN | apply z1 | refine zS ?_ GE134.1) | exact HB.1))); (case side1 => repeat (first | exact (Kd.C_below HR0_0.out HB.1) | (with_reducible refine Kd.C_alloc ?_ _) | (with_reducible refine Kd.C_drewN ?_ _) | (with_reducible refine Kd.C_drew ?_))); (case side2 => exact HC0_0.out); rintro e w37 ⟨v150, rfl, ho0, hb⟩; refine ⟨_, rfl, ?_⟩; have n0_ := zM (Kd.R_lower ho0 (zZ (by repeat (first | (with_reducible first | exact HB.1 | apply zA | apply zN | apply z1 | refine zS ?_ GE134.1) | exact HB.1)))); have n1_ := zM (kB (g := gb134) (o := .cells #[.slice A0_0 l0_0.length c0_0, .slice A0_1 l0_1.length c0_1, .int .i64 a0_2, .int .i64 a0_3] 25 (0, 0)) (by (with_reducible repeat (first | refine kN ?_ _ | refine kD ?_ | refine kA ?_ _)); exact BK134.1) hb); have n2_ := zM (zT (by repeat (first | (with_reducible first | exact HB.1 | apply zA | apply zN | apply z1 | refine zS ?_ GE134.1) | exact HB.1)) hb); clear BK134; clear HB; have HO151 := n0_; have BK134 := n1_; have HB := n2_; clear n0_ n1_ n2_; (try clear hb); (try clear hb2); (try clear hk); (try clear hi); (try clear ho0)))
  (try simp only [Act.put, List.setIfInBounds_toArray, List.set_cons_zero, List.set_cons_succ])
  go_cut [5] (fun v5 wc => ∃ (kq : Nat) (x5_31 : List ByteArray), Aside0 (report_Result.j1 kq t148 x5_31 l0_0 l0_1 a0_2 a0_3 = some r) ∧ Aside0 (kq ≤ k) ∧ Aside0 (Kd.R Kd.string 9 wc w.heap.size (fun _ => True) v5 x5_31) ∧ Aside0 (wc.heap[gb134]? = some (.cells #[(.slice A0_0 l0_0.length c0_0), (.slice A0_1 l0_1.length c0_1), .int .i64 a0_2, .int .i64 a0_3] 25 (0, 0))) ∧ Aside0 (Below w.heap.size w wc))
  case first =>
   have H := HC32.out
   clear HC32
   by_cases c38 : t148 = true
   ·subst c38
    have H1 : (if t149.length < 8796093022208 then (report_Result.j1 k true (t149 ++ [(⟨#[118, 97, 108, 105, 100]⟩ : ByteArray)]) l0_0 l0_1 a0_2 a0_3) else (none)) = some r := by rw [if_pos rfl] at H; exact H
    clear H
    have H := H1
    clear H1
    by_cases c39 : t149.length < 8796093022208
    case neg =>
     rw [if_neg c39] at H
     exact absurd H (by simp)
    rw [if_pos c39] at H
    have LMc39 := zM c39
    clear c39
    obtain ⟨y152, hy152⟩ : ∃ y_ : List ByteArray, y_ = (t149 ++ [(⟨#[118, 97, 108, 105, 100]⟩ : ByteArray)]) := ⟨_, rfl⟩
    replace H : (report_Result.j1 k true y152 l0_0 l0_1 a0_2 a0_3) = some r := by first | (rw [hy152]; with_reducible exact H) | (have H2_ := (Option.bind_some _ _).symm.trans H; rw [hy152]; with_reducible exact H2_) | (have H2_ := (Option.bind_some _ _).symm.trans H; with_reducible exact H2_) | with_reducible exact H | (rw [hy152]; exact H) | exact H
    have Ny152 := zM hy152
    clear hy152
    have H' := zM H
    clear H
    go_wp2_with (first | ((with_reducible refine gate_builtin (b := .append) (xs := #[.tmp 45, .tmp 46]) rfl ?_); at_builtin; refine Kd.R_append Kd.string (w0 := w) w.heap.size rfl (.tmp 45) (.tmp 46) 59 9 (.string ⟨#[]⟩) 16 rfl Tryz.underlying59 info9 rfl (by decide) (by omega) v150 t149 (⟨#[118, 97, 108, 105, 100]⟩ : ByteArray) [.string (⟨#[118, 97, 108, 105, 100]⟩ : ByteArray)] (fun _ => True) (fun _ => False) rfl rfl ?aP (fun _ hk => hk.elim) ?aF ?aO ?aB ?aS ?aL ?_; (case aP => exact rfl); (case aB => exact (by repeat (first | (with_reducible first | exact HB.1 | apply zA | apply zN | apply z1 | refine zS ?_ GE134.1) | exact HB.1))); (case aF => exact (fun _ _ => trivial)); (case aO => exact (by (with_reducible repeat (first | apply Kd.R_alloc | apply Kd.R_drewN | apply Kd.R_drew)); exact HO151.out)); (case aS => exact (zZ (by repeat (first | (with_reducible first | exact HB.1 | apply zA | apply zN | apply z1 | refine zS ?_ GE134.1) | exact HB.1)))); (case aL => have := LMc39.out; omega); intro v153 w40 ho hb hg hat; rw [← Ny152.out] at ho; have n0_ := zM (blk_grown (g := gb134) (o := .cells #[.slice A0_0 l0_0.length c0_0, .slice A0_1 l0_1.length c0_1, .int .i64 a0_2, .int .i64 a0_3] 25 (0, 0)) (by (with_reducible repeat (first | refine kN ?_ _ | refine kD ?_ | refine kA ?_ _)); exact BK134.1) hg (Kd.R_ne HO151.out BK134.1 (by decide))); have n1_ := zM (hb); have n2_ := zM (ho); clear BK134; clear HB; clear HO151; have BK134 := n0_; have HB := n1_; have HO154 := n2_; clear n0_ n1_ n2_; clear ho hb hg hat))
    go_meet
    case rel => exact ⟨_, (y152), H', ⟨by first | omega | exact Nat.le_refl _⟩, ⟨by (with_reducible repeat (first | apply Kd.R_alloc | apply Kd.R_drewN | apply Kd.R_drew)); exact HO154.out⟩, ⟨by (with_reducible repeat (first | refine kN ?_ _ | refine kD ?_ | refine kA ?_ _)); exact BK134.1⟩, ⟨by repeat (first | (with_reducible first | exact HB.1 | apply zA | apply zN | apply z1 | refine zS ?_ GE134.1) | exact HB.1)⟩⟩
   ·replace c38 := Bool.eq_false_iff.mpr c38
    subst c38
    have H1 : (report_Result.j1 k false t149 l0_0 l0_1 a0_2 a0_3) = some r := by rw [if_neg (show ¬ (false = true) by decide)] at H; exact H
    clear H
    have H := H1
    clear H1
    have H' := zM H
    clear H
    go_wp2
    go_meet
    case rel => exact ⟨_, (t149), H', ⟨by first | omega | exact Nat.le_refl _⟩, ⟨by (with_reducible repeat (first | apply Kd.R_alloc | apply Kd.R_drewN | apply Kd.R_drew)); exact HO151.out⟩, ⟨by (with_reducible repeat (first | refine kN ?_ _ | refine kD ?_ | refine kA ?_ _)); exact BK134.1⟩, ⟨by repeat (first | (with_reducible first | exact HB.1 | apply zA | apply zN | apply z1 | refine zS ?_ GE134.1) | exact HB.1)⟩⟩
  case rest =>
   clear HC32
   try clear c1
   try clear c2
   try clear c2b0
   try clear c2b1
   try clear c2b2
   try clear p2
   try clear c3
   try clear c9
   try clear c9b0
   try clear c9b1
   try clear c11
   try clear c11b0
   try clear c11b1
   try clear c11b2
   try clear c12
   try clear c15
   try clear c16
   try clear c16b0
   try clear c16b1
   try clear c22
   try clear c22b0
   try clear c22b1
   try clear c22b2
   try clear c23
   try clear c24
   try clear c27
   try clear c38
   try clear c39
   try clear hcz13_0
   try clear hcz13_1
   try clear hcz13_2
   try clear hcz13_3
   try clear hcz18_0
   try clear hcz18_1
   try clear hcz18_2
   try clear hcz18_3
   try clear hcz25_0
   try clear hcz25_1
   try clear hcz25_2
   try clear hcz25_3
   try clear hcz34_0
   try clear hcz34_1
   try clear hcz34_2
   try clear hcz34_3
   try clear hcz36_0
   try clear hcz36_1
   try clear hcz36_2
   try clear hcz36_3
   try clear hcz5_0
   try clear hcz5_1
   try clear hcz5_2
   try clear hcz5_3
   try clear hcz8_0
   try clear hcz8_1
   try clear hcz8_2
   try clear hcz8_3
   try clear hfz13_0
   try clear hfz13_1
   try clear hfz13_2
   try clear hfz13_3
   try clear hfz18_0
   try clear hfz18_1
   try clear hfz18_2
   try clear hfz18_3
   try clear hfz25_0
   try clear hfz25_1
   try clear hfz25_2
   try clear hfz25_3
   try clear hfz34_0
   try clear hfz34_1
   try clear hfz34_2
   try clear hfz34_3
   try clear hfz36_0
   try clear hfz36_1
   try clear hfz36_2
   try clear hfz36_3
   try clear hfz5_0
   try clear hfz5_1
   try clear hfz5_2
   try clear hfz5_3
   try clear hfz8_0
   try clear hfz8_1
   try clear hfz8_2
   try clear hfz8_3
   try clear p2
   obtain ⟨kq, x5_31, HA, HJ31, HO_5, BK134, HB⟩ := hcut
   cases kq with
   | zero => exact absurd HA.out (by simp [report_Result.j1])
   | succ kj31 =>
    have H := HA.out
    clear HA
    simp only [report_Result.j1] at H
    obtain ⟨y155, hy155⟩ : ∃ y_ : List (List ByteArray), y_ = (([x5_31] : List (List ByteArray))) := ⟨_, rfl⟩
    replace H : (report_Result.l0 kj31 t148 y155 l0_1 (l0_1.length : Int) 0 l0_0 l0_1 a0_2 a0_3) = some r := by first | (rw [hy155]; with_reducible exact H) | (have H2_ := (Option.bind_some _ _).symm.trans H; rw [hy155]; with_reducible exact H2_) | (have H2_ := (Option.bind_some _ _).symm.trans H; with_reducible exact H2_) | with_reducible exact H | (rw [hy155]; exact H) | exact H
    have Ny155 := zM hy155
    clear hy155
    have H' := zM H
    clear H
    obtain ⟨Ao41, co41, eo41⟩ := Kd.R_slice HO_5.out
    subst eo41
    go_wp2_with (first | ((with_reducible refine gate_dst (N := 49) rfl ?_); refine Kd.N_lit (Kd.slice 9 Kd.string) _ 59 ?hg (N' := 49) ?hd (xs := ([x5_31] : List (List ByteArray))) (inner := [.slice Ao41 x5_31.length co41]) (ok := (fun k_ => k_ ≠ gb134)) (okp := (fun k_ => k_ ≠ gb134)) ?hr ?hp (fun _ hk => hk) ((show ∀ k_, wc.heap.size ≤ k_ → (fun k_ => k_ ≠ gb134) k_ from fun k_ hk => Kd.freshB (g := gb134) (o := .cells #[.slice A0_0 l0_0.length c0_0, .slice A0_1 l0_1.length c0_1, .int .i64 a0_2, .int .i64 a0_3] 25 (0, 0)) (by (with_reducible repeat (first | refine kN ?_ _ | refine kD ?_ | refine kA ?_ _)); exact BK134.1) k_ hk) _ (Nat.le_refl _)) (Below.refl _ _) (Nat.le_refl _) (by simp) ?_; (case hd => rfl); (case hg => rfl); (case hr => first | (go_simp; done) | (go_simp; rfl)); (case hp => exact (Reps.one (show Kd.FK (Kd.slice 9 Kd.string) _ _ x5_31 [.slice Ao41 x5_31.length co41] from (Kd.FK_slice_mk (Kd.R_reads' (Kd.R_mono (ok' := (fun k_ => k_ ≠ gb134)) (Kd.R_types (HO_5.out) BK134.1 (by decide)) (fun k_ hk => hk.2))).2.1 (Kd.R_F (Kd.R_mono (ok' := (fun k_ => k_ ≠ gb134)) (Kd.R_types (HO_5.out) BK134.1 (by decide)) (fun k_ hk => hk.2))))) (Reps.none _ _))); intro v156 w42 ho43 hb hg_ hnew_; clear hg_ hnew_; (first | rw [← Ny155.out] at ho43 | (simp only [Int.reduceToNat] at ho43; rw [← Ny155.out] at ho43)); have n0_ := zM (Kd.N_lower ho43 (zZ (by repeat (first | (with_reducible first | exact HB.1 | apply zA | apply zN | apply z1 | refine zS ?_ GE134.1) | exact HB.1)))); have n1_ := zM (kB (g := gb134) (o := .cells #[.slice A0_0 l0_0.length c0_0, .slice A0_1 l0_1.length c0_1, .int .i64 a0_2, .int .i64 a0_3] 25 (0, 0)) (by (with_reducible repeat (first | refine kN ?_ _ | refine kD ?_ | refine kA ?_ _)); exact BK134.1) hb); have n2_ := zM (zT (by repeat (first | (with_reducible first | exact HB.1 | apply zA | apply zN | apply z1 | refine zS ?_ GE134.1) | exact HB.1)) hb); clear BK134; clear HB; clear HO_5; have HO157 := n0_; have BK134 := n1_; have HB := n2_; clear n0_ n1_ n2_; clear hb ho43; have hcz44_0 : w42.cell? ⟨gb134, 0, none⟩ = some (.slice A0_0 l0_0.length c0_0) := (kC BK134.1 0).trans rfl; have hcz44_1 : w42.cell? ⟨gb134, 1, none⟩ = some (.slice A0_1 l0_1.length c0_1) := (kC BK134.1 1).trans rfl; have hcz44_2 : w42.cell? ⟨gb134, 2, none⟩ = some (.int .i64 a0_2) := (kC BK134.1 2).trans rfl; have hcz44_3 : w42.cell? ⟨gb134, 3, none⟩ = some (.int .i64 a0_3) := (kC BK134.1 3).trans rfl; have hfz44_0 := kF BK134.1 0; have hfz44_1 := kF BK134.1 1; have hfz44_2 := kF BK134.1 2; have hfz44_3 := kF BK134.1 3))
    go_loopg [6, 53] kj31 (fun kq v6 v53 w' => ∃ (x6_2 : List (List ByteArray)) (x53_2 : Int), v53 = .int .i64 x53_2 ∧ Aside0 (report_Result.l0 kq t148 x6_2 l0_1 (l0_1.length : Int) x53_2 l0_0 l0_1 a0_2 a0_3 = some r) ∧ Aside0 (kq ≤ kj31) ∧ Aside0 (Kd.N (Kd.slice 9 Kd.string) 59 w' w.heap.size (fun k_ => k_ ≠ gb134) v6 x6_2) ∧ Aside0 (w'.heap[gb134]? = some (.cells #[(.slice A0_0 l0_0.length c0_0), (.slice A0_1 l0_1.length c0_1), .int .i64 a0_2, .int .i64 a0_3] 25 (0, 0))) ∧ Aside0 (Below w.heap.size w w'))
    case atStart => exact ⟨(y155), (0), (by first | rfl | (simp; done) | (simp [*]; done)), H', ⟨Nat.le_refl _⟩, ⟨by (with_reducible repeat (first | apply Kd.N_alloc | apply Kd.N_drewN | apply Kd.N_drew)); exact HO157.out⟩, ⟨by (with_reducible repeat (first | refine kN ?_ _ | refine kD ?_ | refine kA ?_ _)); exact BK134.1⟩, ⟨by repeat (first | (with_reducible first | exact HB.1 | apply zA | apply zN | apply z1 | refine zS ?_ GE134.1) | exact HB.1)⟩⟩
    case round =>
     clear H'
     try clear c1
     try clear c2
     try clear c2b0
     try clear c2b1
     try clear c2b2
     try clear p2
     try clear c3
     try clear c9
     try clear c9b0
     try clear c9b1
     try clear c11
     try clear c11b0
     try clear c11b1
     try clear c11b2
     try clear c12
     try clear c15
     try clear c16
     try clear c16b0
     try clear c16b1
     try clear c22
     try clear c22b0
     try clear c22b1
     try clear c22b2
     try clear c23
     try clear c24
     try clear c27
     try clear c38
     try clear c39
     try clear hcz13_0
     try clear hcz13_1
     try clear hcz13_2
     try clear hcz13_3
     try clear hcz18_0
     try clear hcz18_1
     try clear hcz18_2
     try clear hcz18_3
     try clear hcz25_0
     try clear hcz25_1
     try clear hcz25_2
     try clear hcz25_3
     try clear hcz34_0
     try clear hcz34_1
     try clear hcz34_2
     try clear hcz34_3
     try clear hcz36_0
     try clear hcz36_1
     try clear hcz36_2
     try clear hcz36_3
     try clear hcz44_0
     try clear hcz44_1
     try clear hcz44_2
     try clear hcz44_3
     try clear hcz5_0
     try clear hcz5_1
     try clear hcz5_2
     try clear hcz5_3
     try clear hcz8_0
     try clear hcz8_1
     try clear hcz8_2
     try clear hcz8_3
     try clear hfz13_0
     try clear hfz13_1
     try clear hfz13_2
     try clear hfz13_3
     try clear hfz18_0
     try clear hfz18_1
     try clear hfz18_2
     try clear hfz18_3
     try clear hfz25_0
     try clear hfz25_1
     try clear hfz25_2
     try clear hfz25_3
     try clear hfz34_0
     try clear hfz34_1
     try clear hfz34_2
     try clear hfz34_3
     try clear hfz36_0
     try clear hfz36_1
     try clear hfz36_2
     try clear hfz36_3
     try clear hfz44_0
     try clear hfz44_1
     try clear hfz44_2
     try clear hfz44_3
     try clear hfz5_0
     try clear hfz5_1
     try clear hfz5_2
     try clear hfz5_3
     try clear hfz8_0
     try clear hfz8_1
     try clear hfz8_2
     try clear hfz8_3
     try clear p2
     obtain ⟨x6_2, x53_2, rfl, HA, HK2, HO_6, BK134, HB⟩ := hrel
     cases gk with
     | zero => exact absurd HA.out (by simp [report_Result.l0])
     | succ k2 =>
      have H := HA.out
      clear HA
      simp only [report_Result.l0] at H
      by_cases c45 : x53_2 < (l0_1.length : Int)
      ·rw [if_pos c45] at H
       have c45b0 : decide (x53_2 < (l0_1.length : Int)) = true := decide_eq_true c45
       clear c45
       by_cases c46 : 0 ≤ x53_2
       case neg =>
        rw [if_neg c46] at H
        exact absurd H (by simp)
       rw [if_pos c46] at H
       have c46b0 : decide (0 ≤ x53_2) = true := decide_eq_true c46
       clear c46
       by_cases c47 : x53_2 < (l0_1.length : Int)
       case neg =>
        rw [if_neg c47] at H
        exact absurd H (by simp)
       rw [if_pos c47] at H
       have c47b0 : decide (x53_2 < (l0_1.length : Int)) = true := decide_eq_true c47
       clear c47
       replace H := Option.bind_eq_some_iff.mp H
       obtain ⟨t160, A480, H⟩ := H
       have A48 := zM A480
       clear A480
       by_cases c49 : t148 = true
       ·subst c49
        have H1 : ((period_Text.f ((rd_T45 l0_1 x53_2).f1.f0) ((rd_T45 l0_1 x53_2).f1.f1)).bind fun t163 => (if t160.length < 8796093022208 then (if x6_2.length < 5864062014805 then (report_Result.l0 k2 true (x6_2 ++ [(t160 ++ [t163])]) l0_1 (l0_1.length : Int) (wrap64 (x53_2 + 1)) l0_0 l0_1 a0_2 a0_3) else (none)) else (none))) = some r := by rw [if_pos rfl] at H; exact H
        clear H
        have H := H1
        clear H1
        replace H := Option.bind_eq_some_iff.mp H
        obtain ⟨t163, A500, H⟩ := H
        have A50 := zM A500
        clear A500
        by_cases c51 : t160.length < 8796093022208
        case neg =>
         rw [if_neg c51] at H
         exact absurd H (by simp)
        rw [if_pos c51] at H
        have LMc51 := zM c51
        clear c51
        obtain ⟨y164, hy164⟩ : ∃ y_ : List ByteArray, y_ = (t160 ++ [t163]) := ⟨_, rfl⟩
        replace H : (if x6_2.length < 5864062014805 then (report_Result.l0 k2 true (x6_2 ++ [y164]) l0_1 (l0_1.length : Int) (wrap64 (x53_2 + 1)) l0_0 l0_1 a0_2 a0_3) else (none)) = some r := by first | (rw [hy164]; with_reducible exact H) | (have H2_ := (Option.bind_some _ _).symm.trans H; rw [hy164]; with_reducible exact H2_) | (have H2_ := (Option.bind_some _ _).symm.trans H; with_reducible exact H2_) | with_reducible exact H | (rw [hy164]; exact H) | exact H
        have Ny164 := zM hy164
        clear hy164
        by_cases c52 : x6_2.length < 5864062014805
        case neg =>
         rw [if_neg c52] at H
         exact absurd H (by simp)
        rw [if_pos c52] at H
        have LMc52 := zM c52
        clear c52
        obtain ⟨y167, hy167⟩ : ∃ y_ : List (List ByteArray), y_ = (x6_2 ++ [y164]) := ⟨_, rfl⟩
        replace H : (report_Result.l0 k2 true y167 l0_1 (l0_1.length : Int) (wrap64 (x53_2 + 1)) l0_0 l0_1 a0_2 a0_3) = some r := by first | (rw [hy167]; with_reducible exact H) | (have H2_ := (Option.bind_some _ _).symm.trans H; rw [hy167]; with_reducible exact H2_) | (have H2_ := (Option.bind_some _ _).symm.trans H; with_reducible exact H2_) | with_reducible exact H | (rw [hy167]; exact H) | exact H
        have Ny167 := zM hy167
        clear hy167
        have H' := zM H
        clear H
        have p158 : 0 ≤ (x53_2 : Int) := of_decide_eq_true (by first | (with_reducible assumption) | assumption)
        have q158 : x53_2 < (l0_1.length : Int) := of_decide_eq_true (by first | (with_reducible assumption) | assumption)
        obtain ⟨ad158, A158_0, c158_0, e158, hx158_0, hx158_1, hx158_2, hl158_0, hi158_0⟩ := at_T45 HR0_1.out x53_2 p158 q158
        cases e158
        replace hx158_0 := (HB.1.cell (World.block_lt_of_cell? w _ hx158_0)).trans hx158_0
        replace hx158_1 := (HB.1.cell (World.block_lt_of_cell? w _ hx158_1)).trans hx158_1
        replace hx158_2 := (HB.1.cell (World.block_lt_of_cell? w _ hx158_2)).trans hx158_2
        have HR158_0 := zM hi158_0
        have HC158_0 := zM hl158_0
        clear hi158_0 hl158_0
        replace p158 := eq_true p158
        replace q158 := eq_true q158
        go_wp2_with (first | ((with_reducible refine gate_dst (N := 8) rfl ?_); refine box_event ?hg (N := 8) ?hd (cs := #[.slice none 0 0, .int .i64 0, .int .i64 0]) (t := 45) ?hr ?_; (case hd => rfl); (case hg => rfl); (case hr => first | (go_simp; done) | (go_simp; rfl)); intro gb159 hg w53 hbox hb; have n0_ := zM (Kd.N_below (Kd.N_elderB (by (with_reducible repeat (first | apply Kd.N_alloc | apply Kd.N_drewN | apply Kd.N_drew)); exact HO_6.out) gb159 (Nat.le_of_eq hg.symm)) hb); have n1_ := zM (kB (g := gb134) (o := .cells #[.slice A0_0 l0_0.length c0_0, .slice (some ad158) l0_1.length c0_1, .int .i64 a0_2, .int .i64 a0_3] 25 (0, 0)) (by (with_reducible repeat (first | refine kN ?_ _ | refine kD ?_ | refine kA ?_ _)); exact BK134.1) hb); have n2_ := zM (zT (by repeat (first | (with_reducible first | exact HB.1 | apply zA | apply zN | apply z1 | refine zS ?_ GE134.1) | exact HB.1)) hb); have n3_ := zM (hbox); have n4_ := zM ((by rw [hg]; exact (zZ (by repeat (first | (with_reducible first | exact HB.1 | apply zA | apply zN | apply z1 | refine zS ?_ GE134.1) | exact HB.1))) : w.heap.size ≤ gb159)); have n5_ := n4_; have n6_ := zM ((by rw [hg]; exact Nat.ne_of_lt (kL (g := gb134) (o := .cells #[.slice A0_0 l0_0.length c0_0, .slice (some ad158) l0_1.length c0_1, .int .i64 a0_2, .int .i64 a0_3] 25 (0, 0)) (by (with_reducible repeat (first | refine kN ?_ _ | refine kD ?_ | refine kA ?_ _)); exact BK134.1)) : gb134 ≠ gb159)); have n7_ := zM ((by rw [hg]; exact Nat.ne_of_gt (kL (g := gb134) (o := .cells #[.slice A0_0 l0_0.length c0_0, .slice (some ad158) l0_1.length c0_1, .int .i64 a0_2, .int .i64 a0_3] 25 (0, 0)) (by (with_reducible repeat (first | refine kN ?_ _ | refine kD ?_ | refine kA ?_ _)); exact BK134.1)) : gb159 ≠ gb134)); clear HO_6; clear BK134; clear HB; have HO_6 := n0_; have BK134 := n1_; have HB := n2_; have BK159 := n3_; have GW159 := n4_; have GE159 := n5_; have NB134_159 := n6_; have NB159_134 := n7_; clear n0_ n1_ n2_ n3_ n4_ n5_ n6_ n7_; clear hb hbox hg; have hnb54 := NB159_134.1; have hnc54 := NB134_159.1; have hcz55_0 : w53.cell? ⟨gb159, 0, none⟩ = some (.slice none 0 0) := (kC BK159.1 0).trans rfl; have hcz55_1 : w53.cell? ⟨gb159, 1, none⟩ = some (.int .i64 0) := (kC BK159.1 1).trans rfl; have hcz55_2 : w53.cell? ⟨gb159, 2, none⟩ = some (.int .i64 0) := (kC BK159.1 2).trans rfl; have hfz55_0 := kF BK159.1 0; have hfz55_1 := kF BK159.1 1; have hfz55_2 := kF BK159.1 2; have hcz56_0 : w53.cell? ⟨gb134, 0, none⟩ = some (.slice A0_0 l0_0.length c0_0) := (kC BK134.1 0).trans rfl; have hcz56_1 : w53.cell? ⟨gb134, 1, none⟩ = some (.slice (some ad158) l0_1.length c0_1) := (kC BK134.1 1).trans rfl; have hcz56_2 : w53.cell? ⟨gb134, 2, none⟩ = some (.int .i64 a0_2) := (kC BK134.1 2).trans rfl; have hcz56_3 : w53.cell? ⟨gb134, 3, none⟩ = some (.int .i64 a0_3) := (kC BK134.1 3).trans rfl; have hfz56_0 := kF BK134.1 0; have hfz56_1 := kF BK134.1 1; have hfz56_2 := kF BK134.1 2; have hfz56_3 := kF BK134.1 3) | ((with_reducible refine gate_callee (f := 28) rfl ?_); refine goesL_ (some 62) rfl rfl Tryz.func28 (by kernel_rfl) rfl #[.slice A158_0 ((rd_T45 l0_1 x53_2).f0).length c158_0, .int .i64 (l0_0.length : Int)] rfl (by (try simp only [List.map_toArray, List.map_cons, List.map_nil]); first | done | rfl | (simp only [List.length_drop, List.length_take]; rfl)) ?_; (with_reducible refine (report_values.calls k2 _ _ ((rd_T45 l0_1 x53_2).f0) (l0_0.length : Int) t160 _ ?side1 ?side2 A48.out ?gw_).mono ?_); (case gw_ => first | exact HG.1 | (refine GW.below HG.1 ?_; repeat (first | (with_reducible first | exact HB.1 | apply zA | apply zN | apply z1 | refine zS ?_ GE134.1 | refine zS ?_ GE159.1) | exact HB.1))); (case side1 => exact Kd.C_below HR158_0.out (by repeat (first | (with_reducible first | exact HB.1 | apply zA | apply zN | apply z1 | refine zS ?_ GE134.1 | refine zS ?_ GE159.1) | exact HB.1))); (case side2 => exact HC158_0.out); rintro e w57 ⟨v161, rfl, ho0, hb⟩; refine ⟨_, rfl, ?_⟩; have n0_ := zM (Kd.N_elder' (by (with_reducible repeat (first | apply Kd.N_alloc | apply Kd.N_drewN | apply Kd.N_drew)); exact (Kd.N_mono (Kd.N_far (p := ⟨gb159, 2, none⟩) (Kd.N_far (p := ⟨gb159, 1, none⟩) (Kd.N_far (p := ⟨gb159, 0, none⟩) (Kd.N_mono HO_6.out (fun k_ hk => (⟨hk, hk.2⟩ : _ ∧ k_ ≠ gb159))) (fun _ hk => hk.2) (.slice A158_0 ((rd_T45 l0_1 x53_2).f0).length c158_0)) (fun _ hk => hk.2) (.int .i64 ((rd_T45 l0_1 x53_2).f1.f0))) (fun _ hk => hk.2) (.int .i64 ((rd_T45 l0_1 x53_2).f1.f1))) (fun _ h_ => h_.1))) (Kd.R_base ho0) hb); have n1_ := zM (Kd.R_lower ho0 (zZ (by repeat (first | (with_reducible first | exact HB.1 | apply zA | apply zN | apply z1 | refine zS ?_ GE134.1 | refine zS ?_ GE159.1) | exact HB.1)))); have n2_ := zM (kB (g := gb134) (o := .cells #[.slice A0_0 l0_0.length c0_0, .slice (some ad158) l0_1.length c0_1, .int .i64 a0_2, .int .i64 a0_3] 25 (0, 0)) (by (with_reducible repeat (first | refine kN ?_ _ | refine kD ?_ | refine kA ?_ _)); refine blk_far ?_ NB134_159.1 _; (with_reducible repeat (first | refine kN ?_ _ | refine kD ?_ | refine kA ?_ _)); refine blk_far ?_ NB134_159.1 _; (with_reducible repeat (first | refine kN ?_ _ | refine kD ?_ | refine kA ?_ _)); refine blk_far ?_ NB134_159.1 _; (with_reducible repeat (first | refine kN ?_ _ | refine kD ?_ | refine kA ?_ _)); exact BK134.1) hb); have n3_ := zM (kB (g := gb159) (o := .cells #[.slice A158_0 ((rd_T45 l0_1 x53_2).f0).length c158_0, .int .i64 ((rd_T45 l0_1 x53_2).f1.f0), .int .i64 ((rd_T45 l0_1 x53_2).f1.f1)] 45 (0, 0)) (by (with_reducible repeat (first | refine kN ?_ _ | refine kD ?_ | refine kA ?_ _)); refine blk_put (cs := #[.slice A158_0 ((rd_T45 l0_1 x53_2).f0).length c158_0, .int .i64 ((rd_T45 l0_1 x53_2).f1.f0), .int .i64 0]) ?_ 2 _ rfl; (with_reducible repeat (first | refine kN ?_ _ | refine kD ?_ | refine kA ?_ _)); refine blk_put (cs := #[.slice A158_0 ((rd_T45 l0_1 x53_2).f0).length c158_0, .int .i64 0, .int .i64 0]) ?_ 1 _ rfl; (with_reducible repeat (first | refine kN ?_ _ | refine kD ?_ | refine kA ?_ _)); refine blk_put (cs := #[.slice none 0 0, .int .i64 0, .int .i64 0]) ?_ 0 _ rfl; (with_reducible repeat (first | refine kN ?_ _ | refine kD ?_ | refine kA ?_ _)); exact BK159.1) hb); have n4_ := zM (zT (by repeat (first | (with_reducible first | exact HB.1 | apply zA | apply zN | apply z1 | refine zS ?_ GE134.1 | refine zS ?_ GE159.1) | exact HB.1)) hb); clear HO_6; clear BK134; clear BK159; clear HB; have HO_6 := n0_; have HO162 := n1_; have BK134 := n2_; have BK159 := n3_; have HB := n4_; clear n0_ n1_ n2_ n3_ n4_; (try clear hb); (try clear hb2); (try clear hk); (try clear hi); (try clear ho0); have hcz58_0 : w57.cell? ⟨gb159, 0, none⟩ = some (.slice A158_0 ((rd_T45 l0_1 x53_2).f0).length c158_0) := (kC BK159.1 0).trans rfl; have hcz58_1 : w57.cell? ⟨gb159, 1, none⟩ = some (.int .i64 ((rd_T45 l0_1 x53_2).f1.f0)) := (kC BK159.1 1).trans rfl; have hcz58_2 : w57.cell? ⟨gb159, 2, none⟩ = some (.int .i64 ((rd_T45 l0_1 x53_2).f1.f1)) := (kC BK159.1 2).trans rfl; have hfz58_0 := kF BK159.1 0; have hfz58_1 := kF BK159.1 1; have hfz58_2 := kF BK159.1 2) | ((with_reducible refine gate_callee (f := 29) rfl ?_); refine goesL_ (some 67) rfl rfl Tryz.func29 (by kernel_rfl) rfl #[.agg #[.int .i64 ((rd_T45 l0_1 x53_2).f1.f0), .int .i64 ((rd_T45 l0_1 x53_2).f1.f1)]] rfl (by (try simp only [List.map_toArray, List.map_cons, List.map_nil]); first | done | rfl | (simp only [List.length_drop, List.length_take]; rfl)) ?_; (with_reducible refine (period_Text.calls ((rd_T45 l0_1 x53_2).f1.f0) ((rd_T45 l0_1 x53_2).f1.f1) t163 _ A50.out ?gw_).mono ?_); (case gw_ => first | exact HG.1 | (refine GW.below HG.1 ?_; repeat (first | (with_reducible first | exact HB.1 | apply zA | apply zN | apply z1 | refine zS ?_ GE134.1 | refine zS ?_ GE159.1) | exact HB.1))); rintro e w59 ⟨rfl, hb⟩; refine ⟨_, rfl, ?_⟩; have n0_ := zM (Kd.N_below (by (with_reducible repeat (first | apply Kd.N_alloc | apply Kd.N_drewN | apply Kd.N_drew)); exact HO_6.out) hb); have n1_ := zM (Kd.R_below (by (with_reducible repeat (first | apply Kd.R_alloc | apply Kd.R_drewN | apply Kd.R_drew)); exact HO162.out) hb); have n2_ := zM (kB (g := gb134) (o := .cells #[.slice A0_0 l0_0.length c0_0, .slice (some ad158) l0_1.length c0_1, .int .i64 a0_2, .int .i64 a0_3] 25 (0, 0)) (by (with_reducible repeat (first | refine kN ?_ _ | refine kD ?_ | refine kA ?_ _)); exact BK134.1) hb); have n3_ := zM (kB (g := gb159) (o := .cells #[.slice A158_0 ((rd_T45 l0_1 x53_2).f0).length c158_0, .int .i64 ((rd_T45 l0_1 x53_2).f1.f0), .int .i64 ((rd_T45 l0_1 x53_2).f1.f1)] 45 (0, 0)) (by (with_reducible repeat (first | refine kN ?_ _ | refine kD ?_ | refine kA ?_ _)); exact BK159.1) hb); have n4_ := zM (zT (by repeat (first | (with_reducible first | exact HB.1 | apply zA | apply zN | apply z1 | refine zS ?_ GE134.1 | refine zS ?_ GE159.1) | exact HB.1)) hb); clear HO_6; clear HO162; clear BK134; clear BK159; clear HB; have HO_6 := n0_; have HO162 := n1_; have BK134 := n2_; have BK159 := n3_; have HB := n4_; clear n0_ n1_ n2_ n3_ n4_; (try clear hb); (try clear hb2); (try clear hk); (try clear hi)) | ((with_reducible refine gate_builtin (b := .append) (xs := #[.tmp 64, .tmp 68]) rfl ?_); at_builtin; refine Kd.R_append Kd.string (w0 := w) w.heap.size rfl (.tmp 64) (.tmp 68) 59 9 (.string ⟨#[]⟩) 16 rfl Tryz.underlying59 info9 rfl (by decide) (by omega) v161 t160 t163 [.string t163] (fun _ => True) (fun _ => False) rfl rfl ?aP (fun _ hk => hk.elim) ?aF ?aO ?aB ?aS ?aL ?_; (case aP => exact rfl); (case aB => exact (by repeat (first | (with_reducible first | exact HB.1 | apply zA | apply zN | apply z1 | refine zS ?_ GE134.1 | refine zS ?_ GE159.1) | exact HB.1))); (case aF => exact (fun _ _ => trivial)); (case aO => exact (by (with_reducible repeat (first | apply Kd.R_alloc | apply Kd.R_drewN | apply Kd.R_drew)); exact HO162.out)); (case aS => exact (zZ (by repeat (first | (with_reducible first | exact HB.1 | apply zA | apply zN | apply z1 | refine zS ?_ GE134.1 | refine zS ?_ GE159.1) | exact HB.1)))); (case aL => have := LMc51.out; omega); intro v165 w60 ho hb hg hat; rw [← Ny164.out] at ho; have n0_ := zM (Kd.N_afterv (ok := (fun k_ => k_ ≠ gb134 ∧ k_ ≠ gb159)) (by (with_reducible repeat (first | apply Kd.N_alloc | apply Kd.N_drewN | apply Kd.N_drew)); exact HO_6.out) hg hat); have n1_ := zM (blk_grown (g := gb134) (o := .cells #[.slice A0_0 l0_0.length c0_0, .slice (some ad158) l0_1.length c0_1, .int .i64 a0_2, .int .i64 a0_3] 25 (0, 0)) (by (with_reducible repeat (first | refine kN ?_ _ | refine kD ?_ | refine kA ?_ _)); exact BK134.1) hg (Kd.R_ne HO162.out BK134.1 (by decide))); have n2_ := zM (blk_grown (g := gb159) (o := .cells #[.slice A158_0 ((rd_T45 l0_1 x53_2).f0).length c158_0, .int .i64 ((rd_T45 l0_1 x53_2).f1.f0), .int .i64 ((rd_T45 l0_1 x53_2).f1.f1)] 45 (0, 0)) (by (with_reducible repeat (first | refine kN ?_ _ | refine kD ?_ | refine kA ?_ _)); exact BK159.1) hg (Kd.R_ne HO162.out BK159.1 (by decide))); have n3_ := zM (hb); have n4_ := zM (ho); clear HO_6; clear BK134; clear BK159; clear HB; clear HO162; have HO_6 := n0_; have BK134 := n1_; have BK159 := n2_; have HB := n3_; have HO166 := n4_; clear n0_ n1_ n2_ n3_ n4_; clear ho hb hg hat; obtain ⟨Ao62, co62, eo62⟩ := Kd.R_slice HO166.out; subst eo62) | ((with_reducible refine gate_builtin (b := .append) (xs := #[.tmp 70, .tmp 72]) rfl ?_); at_builtin; refine Kd.N_append (Kd.slice 9 Kd.string) (w0 := w) w.heap.size rfl (.tmp 70) (.tmp 72) 65 59 (.slice none 0 0) 24 rfl Tryz.underlying65 info59 rfl (by decide) (by omega) u6 x6_2 y164 [.slice Ao62 y164.length co62] (fun k_ => k_ ≠ gb134 ∧ k_ ≠ gb159) (fun k_ => ((fun k_ => k_ ≠ gb134 ∧ k_ ≠ gb159)) k_ ∧ some k_ ≠ (u6 : Value).ownBlock) rfl rfl ?aP (fun _ hk => hk) ?aF ?aO ?aB ?aS ?aL ?_; (case aP => exact (Kd.FK_slice_mk (Kd.R_reads' (Kd.R_mono (ok' := (fun k_ => ((fun k_ => k_ ≠ gb134 ∧ k_ ≠ gb159)) k_ ∧ some k_ ≠ (u6 : Value).ownBlock)) (Kd.R_types (Kd.R_types (Kd.R_apart' (HO166.out) (Kd.N_typed HO_6.out) (by decide)) BK134.1 (by decide)) BK159.1 (by decide)) (fun k_ hk => ⟨⟨hk.1.2, hk.2⟩, hk.1.1.2⟩))).2.1 (Kd.R_F (Kd.R_mono (ok' := (fun k_ => ((fun k_ => k_ ≠ gb134 ∧ k_ ≠ gb159)) k_ ∧ some k_ ≠ (u6 : Value).ownBlock)) (Kd.R_types (Kd.R_types (Kd.R_apart' (HO166.out) (Kd.N_typed HO_6.out) (by decide)) BK134.1 (by decide)) BK159.1 (by decide)) (fun k_ hk => ⟨⟨hk.1.2, hk.2⟩, hk.1.1.2⟩))))); (case aB => exact (by repeat (first | (with_reducible first | exact HB.1 | apply zA | apply zN | apply z1 | refine zS ?_ GE134.1 | refine zS ?_ GE159.1) | exact HB.1))); (case aF => exact (fun k_ hk => ⟨Kd.freshB (g := gb134) (o := .cells #[.slice A0_0 l0_0.length c0_0, .slice (some ad158) l0_1.length c0_1, .int .i64 a0_2, .int .i64 a0_3] 25 (0, 0)) (by (with_reducible repeat (first | refine kN ?_ _ | refine kD ?_ | refine kA ?_ _)); exact BK134.1) k_ hk, Kd.freshB (g := gb159) (o := .cells #[.slice A158_0 ((rd_T45 l0_1 x53_2).f0).length c158_0, .int .i64 ((rd_T45 l0_1 x53_2).f1.f0), .int .i64 ((rd_T45 l0_1 x53_2).f1.f1)] 45 (0, 0)) (by (with_reducible repeat (first | refine kN ?_ _ | refine kD ?_ | refine kA ?_ _)); exact BK159.1) k_ hk⟩)); (case aO => exact (by (with_reducible repeat (first | apply Kd.N_alloc | apply Kd.N_drewN | apply Kd.N_drew)); exact Kd.N_mono HO_6.out (fun _ hk => ⟨hk.1.1, hk.1.2⟩))); (case aS => exact (zZ (by repeat (first | (with_reducible first | exact HB.1 | apply zA | apply zN | apply z1 | refine zS ?_ GE134.1 | refine zS ?_ GE159.1) | exact HB.1)))); (case aL => have := LMc52.out; omega); intro v168 w61 ho hb hg hat; rw [← Ny167.out] at ho; have n0_ := zM (blk_grown (g := gb134) (o := .cells #[.slice A0_0 l0_0.length c0_0, .slice (some ad158) l0_1.length c0_1, .int .i64 a0_2, .int .i64 a0_3] 25 (0, 0)) (by (with_reducible repeat (first | refine kN ?_ _ | refine kD ?_ | refine kA ?_ _)); exact BK134.1) hg (Kd.N_ne HO_6.out BK134.1 (by decide))); have n1_ := zM (blk_grown (g := gb159) (o := .cells #[.slice A158_0 ((rd_T45 l0_1 x53_2).f0).length c158_0, .int .i64 ((rd_T45 l0_1 x53_2).f1.f0), .int .i64 ((rd_T45 l0_1 x53_2).f1.f1)] 45 (0, 0)) (by (with_reducible repeat (first | refine kN ?_ _ | refine kD ?_ | refine kA ?_ _)); exact BK159.1) hg (Kd.N_ne HO_6.out BK159.1 (by decide))); have n2_ := zM (hb); have n3_ := zM (ho); clear BK134; clear BK159; clear HB; clear HO_6; clear HO166; have BK134 := n0_; have BK159 := n1_; have HB := n2_; have HO169 := n3_; clear n0_ n1_ n2_ n3_; clear ho hb hg hat))
        go_roundg k2
        case measure => have := HJ31.out; have := HK2.out; omega
        case rel => exact ⟨(y167), (wrap64 (x53_2 + 1)), (by first | rfl | (simp; done) | (simp [*]; done)), H', ⟨by have := HJ31.out; have := HK2.out; omega⟩, ⟨by (with_reducible repeat (first | apply Kd.N_alloc | apply Kd.N_drewN | apply Kd.N_drew)); exact Kd.N_mono HO169.out (fun _ hk => hk.1)⟩, ⟨by (with_reducible repeat (first | refine kN ?_ _ | refine kD ?_ | refine kA ?_ _)); exact BK134.1⟩, ⟨by repeat (first | (with_reducible first | exact HB.1 | apply zA | apply zN | apply z1 | refine zS ?_ GE134.1 | refine zS ?_ GE159.1) | exact HB.1)⟩⟩
       ·replace c49 := Bool.eq_false_iff.mpr c49
        subst c49
        have H1 : (if x6_2.length < 5864062014805 then (report_Result.l0 k2 false (x6_2 ++ [t160]) l0_1 (l0_1.length : Int) (wrap64 (x53_2 + 1)) l0_0 l0_1 a0_2 a0_3) else (none)) = some r := by rw [if_neg (show ¬ (false = true) by decide)] at H; exact H
        clear H
        have H := H1
        clear H1
        by_cases c63 : x6_2.length < 5864062014805
        case neg =>
         rw [if_neg c63] at H
         exact absurd H (by simp)
        rw [if_pos c63] at H
        have LMc63 := zM c63
        clear c63
        obtain ⟨y170, hy170⟩ : ∃ y_ : List (List ByteArray), y_ = (x6_2 ++ [t160]) := ⟨_, rfl⟩
        replace H : (report_Result.l0 k2 false y170 l0_1 (l0_1.length : Int) (wrap64 (x53_2 + 1)) l0_0 l0_1 a0_2 a0_3) = some r := by first | (rw [hy170]; with_reducible exact H) | (have H2_ := (Option.bind_some _ _).symm.trans H; rw [hy170]; with_reducible exact H2_) | (have H2_ := (Option.bind_some _ _).symm.trans H; with_reducible exact H2_) | with_reducible exact H | (rw [hy170]; exact H) | exact H
        have Ny170 := zM hy170
        clear hy170
        have H' := zM H
        clear H
        have p158 : 0 ≤ (x53_2 : Int) := of_decide_eq_true (by first | (with_reducible assumption) | assumption)
        have q158 : x53_2 < (l0_1.length : Int) := of_decide_eq_true (by first | (with_reducible assumption) | assumption)
        obtain ⟨ad158, A158_0, c158_0, e158, hx158_0, hx158_1, hx158_2, hl158_0, hi158_0⟩ := at_T45 HR0_1.out x53_2 p158 q158
        cases e158
        replace hx158_0 := (HB.1.cell (World.block_lt_of_cell? w _ hx158_0)).trans hx158_0
        replace hx158_1 := (HB.1.cell (World.block_lt_of_cell? w _ hx158_1)).trans hx158_1
        replace hx158_2 := (HB.1.cell (World.block_lt_of_cell? w _ hx158_2)).trans hx158_2
        have HR158_0 := zM hi158_0
        have HC158_0 := zM hl158_0
        clear hi158_0 hl158_0
        replace p158 := eq_true p158
        replace q158 := eq_true q158
        go_wp2_with (first | ((with_reducible refine gate_dst (N := 8) rfl ?_); refine box_event ?hg (N := 8) ?hd (cs := #[.slice none 0 0, .int .i64 0, .int .i64 0]) (t := 45) ?hr ?_; (case hd => rfl); (case hg => rfl); (case hr => first | (go_simp; done) | (go_simp; rfl)); intro gb159 hg w64 hbox hb; have n0_ := zM (Kd.N_below (Kd.N_elderB (by (with_reducible repeat (first | apply Kd.N_alloc | apply Kd.N_drewN | apply Kd.N_drew)); exact HO_6.out) gb159 (Nat.le_of_eq hg.symm)) hb); have n1_ := zM (kB (g := gb134) (o := .cells #[.slice A0_0 l0_0.length c0_0, .slice (some ad158) l0_1.length c0_1, .int .i64 a0_2, .int .i64 a0_3] 25 (0, 0)) (by (with_reducible repeat (first | refine kN ?_ _ | refine kD ?_ | refine kA ?_ _)); exact BK134.1) hb); have n2_ := zM (zT (by repeat (first | (with_reducible first | exact HB.1 | apply zA | apply zN | apply z1 | refine zS ?_ GE134.1) | exact HB.1)) hb); have n3_ := zM (hbox); have n4_ := zM ((by rw [hg]; exact (zZ (by repeat (first | (with_reducible first | exact HB.1 | apply zA | apply zN | apply z1 | refine zS ?_ GE134.1) | exact HB.1))) : w.heap.size ≤ gb159)); have n5_ := n4_; have n6_ := zM ((by rw [hg]; exact Nat.ne_of_lt (kL (g := gb134) (o := .cells #[.slice A0_0 l0_0.length c0_0, .slice (some ad158) l0_1.length c0_1, .int .i64 a0_2, .int .i64 a0_3] 25 (0, 0)) (by (with_reducible repeat (first | refine kN ?_ _ | refine kD ?_ | refine kA ?_ _)); exact BK134.1)) : gb134 ≠ gb159)); have n7_ := zM ((by rw [hg]; exact Nat.ne_of_gt (kL (g := gb134) (o := .cells #[.slice A0_0 l0_0.length c0_0, .slice (some ad158) l0_1.length c0_1, .int .i64 a0_2, .int .i64 a0_3] 25 (0, 0)) (by (with_reducible repeat (first | refine kN ?_ _ | refine kD ?_ | refine kA ?_ _)); exact BK134.1)) : gb159 ≠ gb134)); clear HO_6; clear BK134; clear HB; have HO_6 := n0_; have BK134 := n1_; have HB := n2_; have BK159 := n3_; have GW159 := n4_; have GE159 := n5_; have NB134_159 := n6_; have NB159_134 := n7_; clear n0_ n1_ n2_ n3_ n4_ n5_ n6_ n7_; clear hb hbox hg; have hnb65 := NB159_134.1; have hnc65 := NB134_159.1; have hcz66_0 : w64.cell? ⟨gb159, 0, none⟩ = some (.slice none 0 0) := (kC BK159.1 0).trans rfl; have hcz66_1 : w64.cell? ⟨gb159, 1, none⟩ = some (.int .i64 0) := (kC BK159.1 1).trans rfl; have hcz66_2 : w64.cell? ⟨gb159, 2, none⟩ = some (.int .i64 0) := (kC BK159.1 2).trans rfl; have hfz66_0 := kF BK159.1 0; have hfz66_1 := kF BK159.1 1; have hfz66_2 := kF BK159.1 2; have hcz67_0 : w64.cell? ⟨gb134, 0, none⟩ = some (.slice A0_0 l0_0.length c0_0) := (kC BK134.1 0).trans rfl; have hcz67_1 : w64.cell? ⟨gb134, 1, none⟩ = some (.slice (some ad158) l0_1.length c0_1) := (kC BK134.1 1).trans rfl; have hcz67_2 : w64.cell? ⟨gb134, 2, none⟩ = some (.int .i64 a0_2) := (kC BK134.1 2).trans rfl; have hcz67_3 : w64.cell? ⟨gb134, 3, none⟩ = some (.int .i64 a0_3) := (kC BK134.1 3).trans rfl; have hfz67_0 := kF BK134.1 0; have hfz67_1 := kF BK134.1 1; have hfz67_2 := kF BK134.1 2; have hfz67_3 := kF BK134.1 3) | ((with_reducible refine gate_callee (f := 28) rfl ?_); refine goesL_ (some 62) rfl rfl Tryz.func28 (by kernel_rfl) rfl #[.slice A158_0 ((rd_T45 l0_1 x53_2).f0).length c158_0, .int .i64 (l0_0.length : Int)] rfl (by (try simp only [List.map_toArray, List.map_cons, List.map_nil]); first | done | rfl | (simp only [List.length_drop, List.length_take]; rfl)) ?_; (with_reducible refine (report_values.calls k2 _ _ ((rd_T45 l0_1 x53_2).f0) (l0_0.length : Int) t160 _ ?side1 ?side2 A48.out ?gw_).mono ?_); (case gw_ => first | exact HG.1 | (refine GW.below HG.1 ?_; repeat (first | (with_reducible first | exact HB.1 | apply zA | apply zN | apply z1 | refine zS ?_ GE134.1 | refine zS ?_ GE159.1) | exact HB.1))); (case side1 => exact Kd.C_below HR158_0.out (by repeat (first | (with_reducible first | exact HB.1 | apply zA | apply zN | apply z1 | refine zS ?_ GE134.1 | refine zS ?_ GE159.1) | exact HB.1))); (case side2 => exact HC158_0.out); rintro e w68 ⟨v161, rfl, ho0, hb⟩; refine ⟨_, rfl, ?_⟩; have n0_ := zM (Kd.N_elder' (by (with_reducible repeat (first | apply Kd.N_alloc | apply Kd.N_drewN | apply Kd.N_drew)); exact (Kd.N_mono (Kd.N_far (p := ⟨gb159, 2, none⟩) (Kd.N_far (p := ⟨gb159, 1, none⟩) (Kd.N_far (p := ⟨gb159, 0, none⟩) (Kd.N_mono HO_6.out (fun k_ hk => (⟨hk, hk.2⟩ : _ ∧ k_ ≠ gb159))) (fun _ hk => hk.2) (.slice A158_0 ((rd_T45 l0_1 x53_2).f0).length c158_0)) (fun _ hk => hk.2) (.int .i64 ((rd_T45 l0_1 x53_2).f1.f0))) (fun _ hk => hk.2) (.int .i64 ((rd_T45 l0_1 x53_2).f1.f1))) (fun _ h_ => h_.1))) (Kd.R_base ho0) hb); have n1_ := zM (Kd.R_lower ho0 (zZ (by repeat (first | (with_reducible first | exact HB.1 | apply zA | apply zN | apply z1 | refine zS ?_ GE134.1 | refine zS ?_ GE159.1) | exact HB.1)))); have n2_ := zM (kB (g := gb134) (o := .cells #[.slice A0_0 l0_0.length c0_0, .slice (some ad158) l0_1.length c0_1, .int .i64 a0_2, .int .i64 a0_3] 25 (0, 0)) (by (with_reducible repeat (first | refine kN ?_ _ | refine kD ?_ | refine kA ?_ _)); refine blk_far ?_ NB134_159.1 _; (with_reducible repeat (first | refine kN ?_ _ | refine kD ?_ | refine kA ?_ _)); refine blk_far ?_ NB134_159.1 _; (with_reducible repeat (first | refine kN ?_ _ | refine kD ?_ | refine kA ?_ _)); refine blk_far ?_ NB134_159.1 _; (with_reducible repeat (first | refine kN ?_ _ | refine kD ?_ | refine kA ?_ _)); exact BK134.1) hb); have n3_ := zM (kB (g := gb159) (o := .cells #[.slice A158_0 ((rd_T45 l0_1 x53_2).f0).length c158_0, .int .i64 ((rd_T45 l0_1 x53_2).f1.f0), .int .i64 ((rd_T45 l0_1 x53_2).f1.f1)] 45 (0, 0)) (by (with_reducible repeat (first | refine kN ?_ _ | refine kD ?_ | refine kA ?_ _)); refine blk_put (cs := #[.slice A158_0 ((rd_T45 l0_1 x53_2).f0).length c158_0, .int .i64 ((rd_T45 l0_1 x53_2).f1.f0), .int .i64 0]) ?_ 2 _ rfl; (with_reducible repeat (first | refine kN ?_ _ | refine kD ?_ | refine kA ?_ _)); refine blk_put (cs := #[.slice A158_0 ((rd_T45 l0_1 x53_2).f0).length c158_0, .int .i64 0, .int .i64 0]) ?_ 1 _ rfl; (with_reducible repeat (first | refine kN ?_ _ | refine kD ?_ | refine kA ?_ _)); refine blk_put (cs := #[.slice none 0 0, .int .i64 0, .int .i64 0]) ?_ 0 _ rfl; (with_reducible repeat (first | refine kN ?_ _ | refine kD ?_ | refine kA ?_ _)); exact BK159.1) hb); have n4_ := zM (zT (by repeat (first | (with_reducible first | exact HB.1 | apply zA | apply zN | apply z1 | refine zS ?_ GE134.1 | refine zS ?_ GE159.1) | exact HB.1)) hb); clear HO_6; clear BK134; clear BK159; clear HB; have HO_6 := n0_; have HO162 := n1_; have BK134 := n2_; have BK159 := n3_; have HB := n4_; clear n0_ n1_ n2_ n3_ n4_; (try clear hb); (try clear hb2); (try clear hk); (try clear hi); (try clear ho0); obtain ⟨Ao70, co70, eo70⟩ := Kd.R_slice HO162.out; subst eo70) | ((with_reducible refine gate_builtin (b := .append) (xs := #[.tmp 70, .tmp 72]) rfl ?_); at_builtin; refine Kd.N_append (Kd.slice 9 Kd.string) (w0 := w) w.heap.size rfl (.tmp 70) (.tmp 72) 65 59 (.slice none 0 0) 24 rfl Tryz.underlying65 info59 rfl (by decide) (by omega) u6 x6_2 t160 [.slice Ao70 t160.length co70] (fun k_ => k_ ≠ gb134 ∧ k_ ≠ gb159) (fun k_ => ((fun k_ => k_ ≠ gb134 ∧ k_ ≠ gb159)) k_ ∧ some k_ ≠ (u6 : Value).ownBlock) rfl rfl ?aP (fun _ hk => hk) ?aF ?aO ?aB ?aS ?aL ?_; (case aP => exact (Kd.FK_slice_mk (Kd.R_reads' (Kd.R_mono (ok' := (fun k_ => ((fun k_ => k_ ≠ gb134 ∧ k_ ≠ gb159)) k_ ∧ some k_ ≠ (u6 : Value).ownBlock)) (Kd.R_types (Kd.R_types (Kd.R_apart' (HO162.out) (Kd.N_typed HO_6.out) (by decide)) BK134.1 (by decide)) BK159.1 (by decide)) (fun k_ hk => ⟨⟨hk.1.2, hk.2⟩, hk.1.1.2⟩))).2.1 (Kd.R_F (Kd.R_mono (ok' := (fun k_ => ((fun k_ => k_ ≠ gb134 ∧ k_ ≠ gb159)) k_ ∧ some k_ ≠ (u6 : Value).ownBlock)) (Kd.R_types (Kd.R_types (Kd.R_apart' (HO162.out) (Kd.N_typed HO_6.out) (by decide)) BK134.1 (by decide)) BK159.1 (by decide)) (fun k_ hk => ⟨⟨hk.1.2, hk.2⟩, hk.1.1.2⟩))))); (case aB => exact (by repeat (first | (with_reducible first | exact HB.1 | apply zA | apply zN | apply z1 | refine zS ?_ GE134.1 | refine zS ?_ GE159.1) | exact HB.1))); (case aF => exact (fun k_ hk => ⟨Kd.freshB (g := gb134) (o := .cells #[.slice A0_0 l0_0.length c0_0, .slice (some ad158) l0_1.length c0_1, .int .i64 a0_2, .int .i64 a0_3] 25 (0, 0)) (by (with_reducible repeat (first | refine kN ?_ _ | refine kD ?_ | refine kA ?_ _)); exact BK134.1) k_ hk, Kd.freshB (g := gb159) (o := .cells #[.slice A158_0 ((rd_T45 l0_1 x53_2).f0).length c158_0, .int .i64 ((rd_T45 l0_1 x53_2).f1.f0), .int .i64 ((rd_T45 l0_1 x53_2).f1.f1)] 45 (0, 0)) (by (with_reducible repeat (first | refine kN ?_ _ | refine kD ?_ | refine kA ?_ _)); exact BK159.1) k_ hk⟩)); (case aO => exact (by (with_reducible repeat (first | apply Kd.N_alloc | apply Kd.N_drewN | apply Kd.N_drew)); exact Kd.N_mono HO_6.out (fun _ hk => ⟨hk.1.1, hk.1.2⟩))); (case aS => exact (zZ (by repeat (first | (with_reducible first | exact HB.1 | apply zA | apply zN | apply z1 | refine zS ?_ GE134.1 | refine zS ?_ GE159.1) | exact HB.1)))); (case aL => have := LMc63.out; omega); intro v171 w69 ho hb hg hat; rw [← Ny170.out] at ho; have n0_ := zM (blk_grown (g := gb134) (o := .cells #[.slice A0_0 l0_0.length c0_0, .slice (some ad158) l0_1.length c0_1, .int .i64 a0_2, .int .i64 a0_3] 25 (0, 0)) (by (with_reducible repeat (first | refine kN ?_ _ | refine kD ?_ | refine kA ?_ _)); exact BK134.1) hg (Kd.N_ne HO_6.out BK134.1 (by decide))); have n1_ := zM (blk_grown (g := gb159) (o := .cells #[.slice A158_0 ((rd_T45 l0_1 x53_2).f0).length c158_0, .int .i64 ((rd_T45 l0_1 x53_2).f1.f0), .int .i64 ((rd_T45 l0_1 x53_2).f1.f1)] 45 (0, 0)) (by (with_reducible repeat (first | refine kN ?_ _ | refine kD ?_ | refine kA ?_ _)); exact BK159.1) hg (Kd.N_ne HO_6.out BK159.1 (by decide))); have n2_ := zM (hb); have n3_ := zM (ho); clear BK134; clear BK159; clear HB; clear HO_6; clear HO162; have BK134 := n0_; have BK159 := n1_; have HB := n2_; have HO172 := n3_; clear n0_ n1_ n2_ n3_; clear ho hb hg hat))
        go_roundg k2
        case measure => have := HJ31.out; have := HK2.out; omega
        case rel => exact ⟨(y170), (wrap64 (x53_2 + 1)), (by first | rfl | (simp; done) | (simp [*]; done)), H', ⟨by have := HJ31.out; have := HK2.out; omega⟩, ⟨by (with_reducible repeat (first | apply Kd.N_alloc | apply Kd.N_drewN | apply Kd.N_drew)); exact Kd.N_mono HO172.out (fun _ hk => hk.1)⟩, ⟨by (with_reducible repeat (first | refine kN ?_ _ | refine kD ?_ | refine kA ?_ _)); exact BK134.1⟩, ⟨by repeat (first | (with_reducible first | exact HB.1 | apply zA | apply zN | apply z1 | refine zS ?_ GE134.1 | refine zS ?_ GE159.1) | exact HB.1)⟩⟩
      ·rw [if_neg c45] at H
       have c45b0 : decide (x53_2 < (l0_1.length : Int)) = false := decide_eq_false c45
       clear c45
       by_cases c71 : (l0_1.length : Int) = 1
       ·rw [if_pos c71] at H
        have c71b0 : ((l0_1.length : Int) == 1) = true := beq_iff_eq.mpr c71
        have c71b1 : ((l0_1.length : Int) != 1) = false := bne_eq_false_iff_eq.mpr c71
        clear c71
        replace H := Option.bind_eq_some_iff.mp H
        obtain ⟨t173, A720, H⟩ := H
        have A72 := zM A720
        clear A720
        replace H := Option.bind_eq_some_iff.mp H
        obtain ⟨t174, A730, H⟩ := H
        have A73 := zM A730
        clear A730
        obtain ⟨y175, hy175⟩ : ∃ y_ : List ByteArray, y_ = (([t174, (⟨#[114, 111, 119]⟩ : ByteArray)] : List ByteArray)) := ⟨_, rfl⟩
        replace H : ((report_line.f (⟨#[32]⟩ : ByteArray) y175).bind fun t178 => (if t173.size + t178.size ≤ 9223372036854775807 then (some (t173 ++ t178)) else (none))) = some r := by first | (rw [hy175]; with_reducible exact H) | (have H2_ := (Option.bind_some _ _).symm.trans H; rw [hy175]; with_reducible exact H2_) | (have H2_ := (Option.bind_some _ _).symm.trans H; with_reducible exact H2_) | with_reducible exact H | (rw [hy175]; exact H) | exact H
        have Ny175 := zM hy175
        clear hy175
        replace H := Option.bind_eq_some_iff.mp H
        obtain ⟨t178, A740, H⟩ := H
        have A74 := zM A740
        clear A740
        by_cases c75 : t173.size + t178.size ≤ 9223372036854775807
        case neg =>
         rw [if_neg c75] at H
         exact absurd H (by simp)
        rw [if_pos c75] at H
        have c75b0 := eq_true c75
        have c75b1 := decide_eq_true c75
        try have c75b2 := eq_false (Nat.not_lt.2 c75)
        obtain rfl := Option.some.inj H
        have hcz76_0 : wr.cell? ⟨gb134, 0, none⟩ = some (.slice A0_0 l0_0.length c0_0) := (kC BK134.1 0).trans rfl
        have hcz76_1 : wr.cell? ⟨gb134, 1, none⟩ = some (.slice A0_1 l0_1.length c0_1) := (kC BK134.1 1).trans rfl
        have hcz76_2 : wr.cell? ⟨gb134, 2, none⟩ = some (.int .i64 a0_2) := (kC BK134.1 2).trans rfl
        have hcz76_3 : wr.cell? ⟨gb134, 3, none⟩ = some (.int .i64 a0_3) := (kC BK134.1 3).trans rfl
        have hfz76_0 := kF BK134.1 0
        have hfz76_1 := kF BK134.1 1
        have hfz76_2 := kF BK134.1 2
        have hfz76_3 := kF BK134.1 3
        try go_wp2
        have n0_ := zM (Kd.N_drew HO_6.out)
        have n1_ := zM (kD BK134.1)
        have n2_ := zM (z1 HB.1)
        clear HO_6
        clear BK134
        clear HB
        have HO_6 := n0_
        have BK134 := n1_
        have HB := n2_
        clear n0_ n1_ n2_
        obtain ⟨Ao78, co78, eo78⟩ := Kd.N_slice HO_6.out
        (first | subst eo78 | (injection eo78 with f1_ f2_ f3_; have f4_ := f1_.symm; have f5_ := f3_.symm; clear f1_ f2_ f3_; subst f4_; subst f5_))
        refine start_ (n := 11) (S := fun w' => w'.cell? ⟨gb134, 0, none⟩ = some (.slice A0_0 l0_0.length c0_0) ∧ w'.cell? ⟨gb134, 1, none⟩ = some (.slice A0_1 l0_1.length c0_1) ∧ w'.cell? ⟨gb134, 2, none⟩ = some (.int .i64 a0_2) ∧ w'.cell? ⟨gb134, 3, none⟩ = some (.int .i64 a0_3)) (ds := []) #[false, false, false, false, false, false, false, false, false, false, false] (by kernel_rfl) rfl rfl ⟨(kC BK134.1 0).trans rfl, (kC BK134.1 1).trans rfl, (kC BK134.1 2).trans rfl, (kC BK134.1 3).trans rfl⟩ (fun hHeld => ?_); refine with_tabW report_Result.tab24 report_Result.bits24 (fun HT_ HW_ => ?_)
        generalize wr.drew = w77 at HO_6 BK134 HB hHeld ⊢
        refine pure_ (i := 0) (N := some 79) (v := ?_) (a' := ?_) #[true, false, false, false, false, false, false, false, false, false, false] rfl rfl (any_of HT_.out (by kernel_rfl)) (fun _ _ _ h => h) (Or.inl ⟨by rfl, ?_⟩) ?_ ?_
        rotate_left
        ·intro w'
         go_simp
         with_reducible rfl
        rotate_left
        ·simp only [Act.put, List.setIfInBounds_toArray, List.set_cons_zero, List.set_cons_succ, i64_w, i32_w]
         rfl
        refine pure_ (i := 2) (N := some 81) (v := ?_) (a' := ?_) #[true, false, true, false, false, false, false, false, false, false, false] rfl rfl (any_of HT_.out (by kernel_rfl)) (fun _ _ _ h => h) (Or.inl ⟨by rfl, ?_⟩) ?_ ?_
        rotate_left
        ·intro w'
         go_simp
         with_reducible rfl
        rotate_left
        ·simp only [Act.put, List.setIfInBounds_toArray, List.set_cons_zero, List.set_cons_succ, i64_w, i32_w]
         rfl
        refine pure_ (i := 6) (N := some 85) (v := ?_) (a' := ?_) #[true, false, true, false, false, false, true, false, false, false, false] rfl rfl (any_of HT_.out (by kernel_rfl)) (fun _ _ _ h => h) (Or.inl ⟨by rfl, ?_⟩) ?_ ?_
        rotate_left
        ·intro w'
         go_simp
         with_reducible rfl
        rotate_left
        ·simp only [Act.put, List.setIfInBounds_toArray, List.set_cons_zero, List.set_cons_succ, i64_w, i32_w]
         rfl
        refine take_ (i := 3) (N := some 82) (v := ?_) (a' := ?_) #[true, false, true, true, false, false, true, false, false, false, false] rfl rfl (take_ofW HT_.out HW_.out (by kernel_rfl)) (fun _ _ _ h => h) (Or.inl ⟨by rfl, ?_⟩) hHeld ?_ ?_
        rotate_left
        ·rintro w' ⟨s0, s1, s2, s3⟩
         go_simp
         with_reducible rfl
        rotate_left
        ·simp only [Act.put, List.setIfInBounds_toArray, List.set_cons_zero, List.set_cons_succ, i64_w, i32_w]
         rfl
        refine pure_ (i := 4) (N := some 83) (v := ?_) (a' := ?_) #[true, false, true, true, true, false, true, false, false, false, false] rfl rfl (any_of HT_.out (by kernel_rfl)) (fun _ _ _ h => h) (Or.inl ⟨by rfl, ?_⟩) ?_ ?_
        rotate_left
        ·intro w'
         go_simp
         with_reducible rfl
        rotate_left
        ·simp only [Act.put, List.setIfInBounds_toArray, List.set_cons_zero, List.set_cons_succ, i64_w, i32_w]
         rfl
        refine one_ (i := 1) (N := some 80) #[true, true, true, true, true, false, true, false, false, false, false] rfl rfl (one_of HT_.out (by kernel_rfl)) (by decide) (fun K hK => ?_)
        refine goes_ Tryz.func30 (by kernel_rfl) rfl #[.slice Ao78 x6_2.length co78] (by rfl) rfl rfl (by (try simp only [List.map_toArray, List.map_cons, List.map_nil]); first | done | rfl | (simp only [List.length_drop, List.length_take]; rfl)) ?_
        with_reducible refine (report_table.calls _ _ x6_2 t173 _ ?side1 ?side2 A72.out ?gw_).mono ?_
        (case gw_ => first | exact HG.1 | (refine GW.below HG.1 ?_; repeat (first | (with_reducible first | exact HB.1 | apply zA | apply zN | apply z1 | refine zS ?_ GE134.1) | exact HB.1)))
        (case side1 => repeat (first | exact (Kd.N_reads' HO_6.out).2.2 | (with_reducible refine Kd.C_alloc ?_ _) | (with_reducible refine Kd.C_drewN ?_ _) | (with_reducible refine Kd.C_drew ?_)))
        (case side2 => exact (Kd.N_reads' HO_6.out).2.1)
        rintro e w79 ⟨rfl, hb⟩
        refine ⟨_, rfl, ?_⟩
        have n0_ := zM (Kd.N_below (by (with_reducible repeat (first | apply Kd.N_alloc | apply Kd.N_drewN | apply Kd.N_drew)); exact HO_6.out) hb)
        have n1_ := zM (kB (g := gb134) (o := .cells #[.slice A0_0 l0_0.length c0_0, .slice A0_1 l0_1.length c0_1, .int .i64 a0_2, .int .i64 a0_3] 25 (0, 0)) (by (with_reducible repeat (first | refine kN ?_ _ | refine kD ?_ | refine kA ?_ _)); exact BK134.1) hb)
        have n2_ := zM (zT (by repeat (first | (with_reducible first | exact HB.1 | apply zA | apply zN | apply z1 | refine zS ?_ GE134.1) | exact HB.1)) hb)
        clear HO_6
        clear BK134
        clear HB
        have HO_6 := n0_
        have BK134 := n1_
        have HB := n2_
        clear n0_ n1_ n2_
        (try clear hb)
        (try clear hb2)
        (try clear hk)
        (try clear hi)
        refine hK.out _ _ ⟨(kC BK134.1 0).trans rfl, (kC BK134.1 1).trans rfl, (kC BK134.1 2).trans rfl, (kC BK134.1 3).trans rfl⟩ (fun hHeld => ?_)
        clear hK K
        refine norm_ (a' := ?_) ?_ ?_
        rotate_left
        ·show Act.put _ (some 80) _ = _
         simp only [Act.put, List.setIfInBounds_toArray, List.set_cons_zero, List.set_cons_succ, i64_w, i32_w]
         rfl
        refine one_ (i := 5) (N := some 84) #[true, true, true, true, true, true, true, false, false, false, false] rfl rfl (one_of HT_.out (by kernel_rfl)) (by decide) (fun K hK => ?_)
        refine goes_ Tryz.func23 (by kernel_rfl) rfl #[.int .i64 (l0_1.length : Int)] (by rfl) rfl rfl (by (try simp only [List.map_toArray, List.map_cons, List.map_nil]); first | done | rfl | (simp only [List.length_drop, List.length_take]; rfl)) ?_
        with_reducible refine (strconv_Itoa.calls (l0_1.length : Int) t174 _ A73.out ?gw_).mono ?_
        (case gw_ => first | exact HG.1 | (refine GW.below HG.1 ?_; repeat (first | (with_reducible first | exact HB.1 | apply zA | apply zN | apply z1 | refine zS ?_ GE134.1) | exact HB.1)))
        rintro e w80 ⟨rfl, hb⟩
        refine ⟨_, rfl, ?_⟩
        have n0_ := zM (Kd.N_below (by (with_reducible repeat (first | apply Kd.N_alloc | apply Kd.N_drewN | apply Kd.N_drew)); exact HO_6.out) hb)
        have n1_ := zM (kB (g := gb134) (o := .cells #[.slice A0_0 l0_0.length c0_0, .slice A0_1 l0_1.length c0_1, .int .i64 a0_2, .int .i64 a0_3] 25 (0, 0)) (by (with_reducible repeat (first | refine kN ?_ _ | refine kD ?_ | refine kA ?_ _)); exact BK134.1) hb)
        have n2_ := zM (zT (by repeat (first | (with_reducible first | exact HB.1 | apply zA | apply zN | apply z1 | refine zS ?_ GE134.1) | exact HB.1)) hb)
        clear HO_6
        clear BK134
        clear HB
        have HO_6 := n0_
        have BK134 := n1_
        have HB := n2_
        clear n0_ n1_ n2_
        (try clear hb)
        (try clear hb2)
        (try clear hk)
        (try clear hi)
        refine hK.out _ _ ⟨(kC BK134.1 0).trans rfl, (kC BK134.1 1).trans rfl, (kC BK134.1 2).trans rfl, (kC BK134.1 3).trans rfl⟩ (fun hHeld => ?_)
        clear hK K
        refine norm_ (a' := ?_) ?_ ?_
        rotate_left
        ·show Act.put _ (some 84) _ = _
         simp only [Act.put, List.setIfInBounds_toArray, List.set_cons_zero, List.set_cons_succ, i64_w, i32_w]
         rfl
        refine one_ (i := 7) (N := some 86) #[true, true, true, true, true, true, true, true, false, false, false] rfl rfl (one_of HT_.out (by kernel_rfl)) (by decide) (fun K hK => ?_)
        refine Kd.R_lit_step Kd.string _ 9 ?hg (N := 86) ?hd (xs := ([t174, (⟨#[114, 111, 119]⟩ : ByteArray)] : List ByteArray)) (inner := [.string t174, .string (⟨#[114, 111, 119]⟩ : ByteArray)]) (ok := fun _ => True) (okp := fun _ => True) ?hr ?hp (fun _ hk => hk) trivial (Below.refl _ _) (Nat.le_refl _) (by simp) ?_; (case hd => rfl); (case hg => rfl); (case hr => first | (go_simp; done) | (go_simp; rfl)); (case hp => exact (Reps.one (show Kd.M Kd.string _ _ _ t174 [.string t174] from rfl) (Reps.one (show Kd.M Kd.string _ _ _ (⟨#[114, 111, 119]⟩ : ByteArray) [.string (⟨#[114, 111, 119]⟩ : ByteArray)] from rfl) (Reps.none _ _))))
        intro v176 w81 ho82 hb hg_ hnew_
        clear hg_ hnew_
        (first | rw [← Ny175.out] at ho82 | (simp only [Int.reduceToNat] at ho82; rw [← Ny175.out] at ho82))
        have n0_ := zM (Kd.N_elder' (by (with_reducible repeat (first | apply Kd.N_alloc | apply Kd.N_drewN | apply Kd.N_drew)); exact HO_6.out) (Kd.R_base ho82) hb)
        have n1_ := zM (Kd.R_lower ho82 (zZ (by repeat (first | (with_reducible first | exact HB.1 | apply zA | apply zN | apply z1 | refine zS ?_ GE134.1) | exact HB.1))))
        have n2_ := zM (kB (g := gb134) (o := .cells #[.slice A0_0 l0_0.length c0_0, .slice A0_1 l0_1.length c0_1, .int .i64 a0_2, .int .i64 a0_3] 25 (0, 0)) (by (with_reducible repeat (first | refine kN ?_ _ | refine kD ?_ | refine kA ?_ _)); exact BK134.1) hb)
        have n3_ := zM (zT (by repeat (first | (with_reducible first | exact HB.1 | apply zA | apply zN | apply z1 | refine zS ?_ GE134.1) | exact HB.1)) hb)
        clear HO_6
        clear BK134
        clear HB
        have HO_6 := n0_
        have HO177 := n1_
        have BK134 := n2_
        have HB := n3_
        clear n0_ n1_ n2_ n3_
        clear hb ho82
        obtain ⟨Ao83, co83, eo83⟩ := Kd.R_slice HO177.out
        (first | subst eo83 | (injection eo83 with f1_ f2_ f3_; have f4_ := f1_.symm; have f5_ := f3_.symm; clear f1_ f2_ f3_; subst f4_; subst f5_))
        refine hK.out _ _ ⟨(kC BK134.1 0).trans rfl, (kC BK134.1 1).trans rfl, (kC BK134.1 2).trans rfl, (kC BK134.1 3).trans rfl⟩ (fun hHeld => ?_)
        clear hK K
        refine norm_ (a' := ?_) ?_ ?_
        rotate_left
        ·show Act.put _ (some 86) _ = _
         simp only [Act.put, List.setIfInBounds_toArray, List.set_cons_zero, List.set_cons_succ, i64_w, i32_w]
         rfl
        refine one_ (i := 8) (N := some 87) #[true, true, true, true, true, true, true, true, true, false, false] rfl rfl (one_of HT_.out (by kernel_rfl)) (by decide) (fun K hK => ?_)
        refine goes_ Tryz.func24 (by kernel_rfl) rfl #[.string (⟨#[32]⟩ : ByteArray), .slice Ao83 y175.length co83] (by rfl) rfl rfl (by (try simp only [List.map_toArray, List.map_cons, List.map_nil]); first | done | rfl | (simp only [List.length_drop, List.length_take]; rfl)) ?_
        with_reducible refine (report_line.calls (⟨#[32]⟩ : ByteArray) _ _ y175 t178 _ ?side1 ?side2 A74.out ?gw_).mono ?_
        (case gw_ => first | exact HG.1 | (refine GW.below HG.1 ?_; repeat (first | (with_reducible first | exact HB.1 | apply zA | apply zN | apply z1 | refine zS ?_ GE134.1) | exact HB.1)))
        (case side1 => repeat (first | exact (Kd.R_reads' HO177.out).2.2 | (with_reducible refine Kd.C_alloc ?_ _) | (with_reducible refine Kd.C_drewN ?_ _) | (with_reducible refine Kd.C_drew ?_)))
        (case side2 => exact (Kd.R_reads' HO177.out).2.1)
        rintro e w84 ⟨rfl, hb⟩
        refine ⟨_, rfl, ?_⟩
        have n0_ := zM (Kd.N_below (by (with_reducible repeat (first | apply Kd.N_alloc | apply Kd.N_drewN | apply Kd.N_drew)); exact HO_6.out) hb)
        have n1_ := zM (Kd.R_below (by (with_reducible repeat (first | apply Kd.R_alloc | apply Kd.R_drewN | apply Kd.R_drew)); exact HO177.out) hb)
        have n2_ := zM (kB (g := gb134) (o := .cells #[.slice A0_0 l0_0.length c0_0, .slice A0_1 l0_1.length c0_1, .int .i64 a0_2, .int .i64 a0_3] 25 (0, 0)) (by (with_reducible repeat (first | refine kN ?_ _ | refine kD ?_ | refine kA ?_ _)); exact BK134.1) hb)
        have n3_ := zM (zT (by repeat (first | (with_reducible first | exact HB.1 | apply zA | apply zN | apply z1 | refine zS ?_ GE134.1) | exact HB.1)) hb)
        clear HO_6
        clear HO177
        clear BK134
        clear HB
        have HO_6 := n0_
        have HO177 := n1_
        have BK134 := n2_
        have HB := n3_
        clear n0_ n1_ n2_ n3_
        (try clear hb)
        (try clear hb2)
        (try clear hk)
        (try clear hi)
        refine hK.out _ _ ⟨(kC BK134.1 0).trans rfl, (kC BK134.1 1).trans rfl, (kC BK134.1 2).trans rfl, (kC BK134.1 3).trans rfl⟩ (fun hHeld => ?_)
        clear hK K
        refine norm_ (a' := ?_) ?_ ?_
        rotate_left
        ·show Act.put _ (some 87) _ = _
         simp only [Act.put, List.setIfInBounds_toArray, List.set_cons_zero, List.set_cons_succ, i64_w, i32_w]
         rfl
        refine pure_ (i := 9) (N := some 88) (v := ?_) (a' := ?_) #[true, true, true, true, true, true, true, true, true, true, false] rfl rfl (any_of HT_.out (by kernel_rfl)) (fun _ _ _ h => h) (Or.inl ⟨by rfl, ?_⟩) ?_ ?_
        rotate_left
        ·intro w'
         go_simp
         with_reducible rfl
        rotate_left
        ·simp only [Act.put, List.setIfInBounds_toArray, List.set_cons_zero, List.set_cons_succ, i64_w, i32_w]
         rfl
        refine pure_ (i := 10) (N := some 2) (v := ?_) (a' := ?_) #[true, true, true, true, true, true, true, true, true, true, true] rfl rfl (any_of HT_.out (by kernel_rfl)) (fun _ _ _ h => h) (Or.inl ⟨by rfl, ?_⟩) ?_ ?_
        rotate_left
        ·intro w'
         go_simp
         with_reducible rfl
        rotate_left
        ·simp only [Act.put, List.setIfInBounds_toArray, List.set_cons_zero, List.set_cons_succ, i64_w, i32_w]
         rfl
        refine done_ (done_of HT_.out (by kernel_rfl)) ?_
        try go_wp2
        go_ret
        exact ⟨by first | rfl | (simp [errW_none, errW_some] <;> rfl) | (simp [*, errW_none, errW_some] <;> rfl), by repeat (first | (with_reducible first | exact HB.1 | apply zA | apply zN | apply z1 | refine zS ?_ GE134.1) | exact HB.1)⟩
       ·rw [if_neg c71] at H
        have c71b0 : ((l0_1.length : Int) == 1) = false := beq_eq_false_iff_ne.mpr c71
        have c71b1 : ((l0_1.length : Int) != 1) = true := bne_iff_ne.mpr c71
        replace H := Option.bind_eq_some_iff.mp H
        obtain ⟨t179, A850, H⟩ := H
        have A85 := zM A850
        clear A850
        replace H := Option.bind_eq_some_iff.mp H
        obtain ⟨t180, A860, H⟩ := H
        have A86 := zM A860
        clear A860
        obtain ⟨y181, hy181⟩ : ∃ y_ : List ByteArray, y_ = (([t180, (⟨#[114, 111, 119, 115]⟩ : ByteArray)] : List ByteArray)) := ⟨_, rfl⟩
        replace H : ((report_line.f (⟨#[32]⟩ : ByteArray) y181).bind fun t184 => (if t179.size + t184.size ≤ 9223372036854775807 then (some (t179 ++ t184)) else (none))) = some r := by first | (rw [hy181]; with_reducible exact H) | (have H2_ := (Option.bind_some _ _).symm.trans H; rw [hy181]; with_reducible exact H2_) | (have H2_ := (Option.bind_some _ _).symm.trans H; with_reducible exact H2_) | with_reducible exact H | (rw [hy181]; exact H) | exact H
        have Ny181 := zM hy181
        clear hy181
        replace H := Option.bind_eq_some_iff.mp H
        obtain ⟨t184, A870, H⟩ := H
        have A87 := zM A870
        clear A870
        by_cases c88 : t179.size + t184.size ≤ 9223372036854775807
        case neg =>
         rw [if_neg c88] at H
         exact absurd H (by simp)
        rw [if_pos c88] at H
        have c88b0 := eq_true c88
        have c88b1 := decide_eq_true c88
        try have c88b2 := eq_false (Nat.not_lt.2 c88)
        obtain rfl := Option.some.inj H
        have hcz89_0 : wr.cell? ⟨gb134, 0, none⟩ = some (.slice A0_0 l0_0.length c0_0) := (kC BK134.1 0).trans rfl
        have hcz89_1 : wr.cell? ⟨gb134, 1, none⟩ = some (.slice A0_1 l0_1.length c0_1) := (kC BK134.1 1).trans rfl
        have hcz89_2 : wr.cell? ⟨gb134, 2, none⟩ = some (.int .i64 a0_2) := (kC BK134.1 2).trans rfl
        have hcz89_3 : wr.cell? ⟨gb134, 3, none⟩ = some (.int .i64 a0_3) := (kC BK134.1 3).trans rfl
        have hfz89_0 := kF BK134.1 0
        have hfz89_1 := kF BK134.1 1
        have hfz89_2 := kF BK134.1 2
        have hfz89_3 := kF BK134.1 3
        try go_wp2
        have n0_ := zM (Kd.N_drew HO_6.out)
        have n1_ := zM (kD BK134.1)
        have n2_ := zM (z1 HB.1)
        clear HO_6
        clear BK134
        clear HB
        have HO_6 := n0_
        have BK134 := n1_
        have HB := n2_
        clear n0_ n1_ n2_
        obtain ⟨Ao91, co91, eo91⟩ := Kd.N_slice HO_6.out
        (first | subst eo91 | (injection eo91 with f1_ f2_ f3_; have f4_ := f1_.symm; have f5_ := f3_.symm; clear f1_ f2_ f3_; subst f4_; subst f5_))
        refine start_ (n := 11) (S := fun w' => w'.cell? ⟨gb134, 0, none⟩ = some (.slice A0_0 l0_0.length c0_0) ∧ w'.cell? ⟨gb134, 1, none⟩ = some (.slice A0_1 l0_1.length c0_1) ∧ w'.cell? ⟨gb134, 2, none⟩ = some (.int .i64 a0_2) ∧ w'.cell? ⟨gb134, 3, none⟩ = some (.int .i64 a0_3)) (ds := []) #[false, false, false, false, false, false, false, false, false, false, false] (by kernel_rfl) rfl rfl ⟨(kC BK134.1 0).trans rfl, (kC BK134.1 1).trans rfl, (kC BK134.1 2).trans rfl, (kC BK134.1 3).trans rfl⟩ (fun hHeld => ?_); refine with_tabW report_Result.tab24 report_Result.bits24 (fun HT_ HW_ => ?_)
        generalize wr.drew = w90 at HO_6 BK134 HB hHeld ⊢
        refine pure_ (i := 0) (N := some 79) (v := ?_) (a' := ?_) #[true, false, false, false, false, false, false, false, false, false, false] rfl rfl (any_of HT_.out (by kernel_rfl)) (fun _ _ _ h => h) (Or.inl ⟨by rfl, ?_⟩) ?_ ?_
        rotate_left
        ·intro w'
         go_simp
         with_reducible rfl
        rotate_left
        ·simp only [Act.put, List.setIfInBounds_toArray, List.set_cons_zero, List.set_cons_succ, i64_w, i32_w]
         rfl
        refine pure_ (i := 2) (N := some 81) (v := ?_) (a' := ?_) #[true, false, true, false, false, false, false, false, false, false, false] rfl rfl (any_of HT_.out (by kernel_rfl)) (fun _ _ _ h => h) (Or.inl ⟨by rfl, ?_⟩) ?_ ?_
        rotate_left
        ·intro w'
         go_simp
         with_reducible rfl
        rotate_left
        ·simp only [Act.put, List.setIfInBounds_toArray, List.set_cons_zero, List.set_cons_succ, i64_w, i32_w]
         rfl
        refine pure_ (i := 6) (N := some 85) (v := ?_) (a' := ?_) #[true, false, true, false, false, false, true, false, false, false, false] rfl rfl (any_of HT_.out (by kernel_rfl)) (fun _ _ _ h => h) (Or.inl ⟨by rfl, ?_⟩) ?_ ?_
        rotate_left
        ·intro w'
         go_simp
         with_reducible rfl
        rotate_left
        ·simp only [Act.put, List.setIfInBounds_toArray, List.set_cons_zero, List.set_cons_succ, i64_w, i32_w]
         rfl
        refine take_ (i := 3) (N := some 82) (v := ?_) (a' := ?_) #[true, false, true, true, false, false, true, false, false, false, false] rfl rfl (take_ofW HT_.out HW_.out (by kernel_rfl)) (fun _ _ _ h => h) (Or.inl ⟨by rfl, ?_⟩) hHeld ?_ ?_
        rotate_left
        ·rintro w' ⟨s0, s1, s2, s3⟩
         go_simp
         with_reducible rfl
        rotate_left
        ·simp only [Act.put, List.setIfInBounds_toArray, List.set_cons_zero, List.set_cons_succ, i64_w, i32_w]
         rfl
        refine pure_ (i := 4) (N := some 83) (v := ?_) (a' := ?_) #[true, false, true, true, true, false, true, false, false, false, false] rfl rfl (any_of HT_.out (by kernel_rfl)) (fun _ _ _ h => h) (Or.inl ⟨by rfl, ?_⟩) ?_ ?_
        rotate_left
        ·intro w'
         go_simp
         with_reducible rfl
        rotate_left
        ·simp only [Act.put, List.setIfInBounds_toArray, List.set_cons_zero, List.set_cons_succ, i64_w, i32_w]
         rfl
        refine one_ (i := 1) (N := some 80) #[true, true, true, true, true, false, true, false, false, false, false] rfl rfl (one_of HT_.out (by kernel_rfl)) (by decide) (fun K hK => ?_)
        refine goes_ Tryz.func30 (by kernel_rfl) rfl #[.slice Ao91 x6_2.length co91] (by rfl) rfl rfl (by (try simp only [List.map_toArray, List.map_cons, List.map_nil]); first | done | rfl | (simp only [List.length_drop, List.length_take]; rfl)) ?_
        with_reducible refine (report_table.calls _ _ x6_2 t179 _ ?side1 ?side2 A85.out ?gw_).mono ?_
        (case gw_ => first | exact HG.1 | (refine GW.below HG.1 ?_; repeat (first | (with_reducible first | exact HB.1 | apply zA | apply zN | apply z1 | refine zS ?_ GE134.1) | exact HB.1)))
        (case side1 => repeat (first | exact (Kd.N_reads' HO_6.out).2.2 | (with_reducible refine Kd.C_alloc ?_ _) | (with_reducible refine Kd.C_drewN ?_ _) | (with_reducible refine Kd.C_drew ?_)))
        (case side2 => exact (Kd.N_reads' HO_6.out).2.1)
        rintro e w92 ⟨rfl, hb⟩
        refine ⟨_, rfl, ?_⟩
        have n0_ := zM (Kd.N_below (by (with_reducible repeat (first | apply Kd.N_alloc | apply Kd.N_drewN | apply Kd.N_drew)); exact HO_6.out) hb)
        have n1_ := zM (kB (g := gb134) (o := .cells #[.slice A0_0 l0_0.length c0_0, .slice A0_1 l0_1.length c0_1, .int .i64 a0_2, .int .i64 a0_3] 25 (0, 0)) (by (with_reducible repeat (first | refine kN ?_ _ | refine kD ?_ | refine kA ?_ _)); exact BK134.1) hb)
        have n2_ := zM (zT (by repeat (first | (with_reducible first | exact HB.1 | apply zA | apply zN | apply z1 | refine zS ?_ GE134.1) | exact HB.1)) hb)
        clear HO_6
        clear BK134
        clear HB
        have HO_6 := n0_
        have BK134 := n1_
        have HB := n2_
        clear n0_ n1_ n2_
        (try clear hb)
        (try clear hb2)
        (try clear hk)
        (try clear hi)
        refine hK.out _ _ ⟨(kC BK134.1 0).trans rfl, (kC BK134.1 1).trans rfl, (kC BK134.1 2).trans rfl, (kC BK134.1 3).trans rfl⟩ (fun hHeld => ?_)
        clear hK K
        refine norm_ (a' := ?_) ?_ ?_
        rotate_left
        ·show Act.put _ (some 80) _ = _
         simp only [Act.put, List.setIfInBounds_toArray, List.set_cons_zero, List.set_cons_succ, i64_w, i32_w]
         rfl
        refine one_ (i := 5) (N := some 84) #[true, true, true, true, true, true, true, false, false, false, false] rfl rfl (one_of HT_.out (by kernel_rfl)) (by decide) (fun K hK => ?_)
        refine goes_ Tryz.func23 (by kernel_rfl) rfl #[.int .i64 (l0_1.length : Int)] (by rfl) rfl rfl (by (try simp only [List.map_toArray, List.map_cons, List.map_nil]); first | done | rfl | (simp only [List.length_drop, List.length_take]; rfl)) ?_
        with_reducible refine (strconv_Itoa.calls (l0_1.length : Int) t180 _ A86.out ?gw_).mono ?_
        (case gw_ => first | exact HG.1 | (refine GW.below HG.1 ?_; repeat (first | (with_reducible first | exact HB.1 | apply zA | apply zN | apply z1 | refine zS ?_ GE134.1) | exact HB.1)))
        rintro e w93 ⟨rfl, hb⟩
        refine ⟨_, rfl, ?_⟩
        have n0_ := zM (Kd.N_below (by (with_reducible repeat (first | apply Kd.N_alloc | apply Kd.N_drewN | apply Kd.N_drew)); exact HO_6.out) hb)
        have n1_ := zM (kB (g := gb134) (o := .cells #[.slice A0_0 l0_0.length c0_0, .slice A0_1 l0_1.length c0_1, .int .i64 a0_2, .int .i64 a0_3] 25 (0, 0)) (by (with_reducible repeat (first | refine kN ?_ _ | refine kD ?_ | refine kA ?_ _)); exact BK134.1) hb)
        have n2_ := zM (zT (by repeat (first | (with_reducible first | exact HB.1 | apply zA | apply zN | apply z1 | refine zS ?_ GE134.1) | exact HB.1)) hb)
        clear HO_6
        clear BK134
        clear HB
        have HO_6 := n0_
        have BK134 := n1_
        have HB := n2_
        clear n0_ n1_ n2_
        (try clear hb)
        (try clear hb2)
        (try clear hk)
        (try clear hi)
        refine hK.out _ _ ⟨(kC BK134.1 0).trans rfl, (kC BK134.1 1).trans rfl, (kC BK134.1 2).trans rfl, (kC BK134.1 3).trans rfl⟩ (fun hHeld => ?_)
        clear hK K
        refine norm_ (a' := ?_) ?_ ?_
        rotate_left
        ·show Act.put _ (some 84) _ = _
         simp only [Act.put, List.setIfInBounds_toArray, List.set_cons_zero, List.set_cons_succ, i64_w, i32_w]
         rfl
        refine one_ (i := 7) (N := some 86) #[true, true, true, true, true, true, true, true, false, false, false] rfl rfl (one_of HT_.out (by kernel_rfl)) (by decide) (fun K hK => ?_)
        refine Kd.R_lit_step Kd.string _ 9 ?hg (N := 86) ?hd (xs := ([t180, (⟨#[114, 111, 119, 115]⟩ : ByteArray)] : List ByteArray)) (inner := [.string t180, .string (⟨#[114, 111, 119, 115]⟩ : ByteArray)]) (ok := fun _ => True) (okp := fun _ => True) ?hr ?hp (fun _ hk => hk) trivial (Below.refl _ _) (Nat.le_refl _) (by simp) ?_; (case hd => rfl); (case hg => rfl); (case hr => first | (go_simp; done) | (go_simp; rfl)); (case hp => exact (Reps.one (show Kd.M Kd.string _ _ _ t180 [.string t180] from rfl) (Reps.one (show Kd.M Kd.string _ _ _ (⟨#[114, 111, 119, 115]⟩ : ByteArray) [.string (⟨#[114, 111, 119, 115]⟩ : ByteArray)] from rfl) (Reps.none _ _))))
        intro v182 w94 ho95 hb hg_ hnew_
        clear hg_ hnew_
        (first | rw [← Ny181.out] at ho95 | (simp only [Int.reduceToNat] at ho95; rw [← Ny181.out] at ho95))
        have n0_ := zM (Kd.N_elder' (by (with_reducible repeat (first | apply Kd.N_alloc | apply Kd.N_drewN | apply Kd.N_drew)); exact HO_6.out) (Kd.R_base ho95) hb)
        have n1_ := zM (Kd.R_lower ho95 (zZ (by repeat (first | (with_reducible first | exact HB.1 | apply zA | apply zN | apply z1 | refine zS ?_ GE134.1) | exact HB.1))))
        have n2_ := zM (kB (g := gb134) (o := .cells #[.slice A0_0 l0_0.length c0_0, .slice A0_1 l0_1.length c0_1, .int .i64 a0_2, .int .i64 a0_3] 25 (0, 0)) (by (with_reducible repeat (first | refine kN ?_ _ | refine kD ?_ | refine kA ?_ _)); exact BK134.1) hb)
        have n3_ := zM (zT (by repeat (first | (with_reducible first | exact HB.1 | apply zA | apply zN | apply z1 | refine zS ?_ GE134.1) | exact HB.1)) hb)
        clear HO_6
        clear BK134
        clear HB
        have HO_6 := n0_
        have HO183 := n1_
        have BK134 := n2_
        have HB := n3_
        clear n0_ n1_ n2_ n3_
        clear hb ho95
        obtain ⟨Ao96, co96, eo96⟩ := Kd.R_slice HO183.out
        (first | subst eo96 | (injection eo96 with f1_ f2_ f3_; have f4_ := f1_.symm; have f5_ := f3_.symm; clear f1_ f2_ f3_; subst f4_; subst f5_))
        refine hK.out _ _ ⟨(kC BK134.1 0).trans rfl, (kC BK134.1 1).trans rfl, (kC BK134.1 2).trans rfl, (kC BK134.1 3).trans rfl⟩ (fun hHeld => ?_)
        clear hK K
        refine norm_ (a' := ?_) ?_ ?_
        rotate_left
        ·show Act.put _ (some 86) _ = _
         simp only [Act.put, List.setIfInBounds_toArray, List.set_cons_zero, List.set_cons_succ, i64_w, i32_w]
         rfl
        refine one_ (i := 8) (N := some 87) #[true, true, true, true, true, true, true, true, true, false, false] rfl rfl (one_of HT_.out (by kernel_rfl)) (by decide) (fun K hK => ?_)
        refine goes_ Tryz.func24 (by kernel_rfl) rfl #[.string (⟨#[32]⟩ : ByteArray), .slice Ao96 y181.length co96] (by rfl) rfl rfl (by (try simp only [List.map_toArray, List.map_cons, List.map_nil]); first | done | rfl | (simp only [List.length_drop, List.length_take]; rfl)) ?_
        with_reducible refine (report_line.calls (⟨#[32]⟩ : ByteArray) _ _ y181 t184 _ ?side1 ?side2 A87.out ?gw_).mono ?_
        (case gw_ => first | exact HG.1 | (refine GW.below HG.1 ?_; repeat (first | (with_reducible first | exact HB.1 | apply zA | apply zN | apply z1 | refine zS ?_ GE134.1) | exact HB.1)))
        (case side1 => repeat (first | exact (Kd.R_reads' HO183.out).2.2 | (with_reducible refine Kd.C_alloc ?_ _) | (with_reducible refine Kd.C_drewN ?_ _) | (with_reducible refine Kd.C_drew ?_)))
        (case side2 => exact (Kd.R_reads' HO183.out).2.1)
        rintro e w97 ⟨rfl, hb⟩
        refine ⟨_, rfl, ?_⟩
        have n0_ := zM (Kd.N_below (by (with_reducible repeat (first | apply Kd.N_alloc | apply Kd.N_drewN | apply Kd.N_drew)); exact HO_6.out) hb)
        have n1_ := zM (Kd.R_below (by (with_reducible repeat (first | apply Kd.R_alloc | apply Kd.R_drewN | apply Kd.R_drew)); exact HO183.out) hb)
        have n2_ := zM (kB (g := gb134) (o := .cells #[.slice A0_0 l0_0.length c0_0, .slice A0_1 l0_1.length c0_1, .int .i64 a0_2, .int .i64 a0_3] 25 (0, 0)) (by (with_reducible repeat (first | refine kN ?_ _ | refine kD ?_ | refine kA ?_ _)); exact BK134.1) hb)
        have n3_ := zM (zT (by repeat (first | (with_reducible first | exact HB.1 | apply zA | apply zN | apply z1 | refine zS ?_ GE134.1) | exact HB.1)) hb)
        clear HO_6
        clear HO183
        clear BK134
        clear HB
        have HO_6 := n0_
        have HO183 := n1_
        have BK134 := n2_
        have HB := n3_
        clear n0_ n1_ n2_ n3_
        (try clear hb)
        (try clear hb2)
        (try clear hk)
        (try clear hi)
        refine hK.out _ _ ⟨(kC BK134.1 0).trans rfl, (kC BK134.1 1).trans rfl, (kC BK134.1 2).trans rfl, (kC BK134.1 3).trans rfl⟩ (fun hHeld => ?_)
        clear hK K
        refine norm_ (a' := ?_) ?_ ?_
        rotate_left
        ·show Act.put _ (some 87) _ = _
         simp only [Act.put, List.setIfInBounds_toArray, List.set_cons_zero, List.set_cons_succ, i64_w, i32_w]
         rfl
        refine pure_ (i := 9) (N := some 88) (v := ?_) (a' := ?_) #[true, true, true, true, true, true, true, true, true, true, false] rfl rfl (any_of HT_.out (by kernel_rfl)) (fun _ _ _ h => h) (Or.inl ⟨by rfl, ?_⟩) ?_ ?_
        rotate_left
        ·intro w'
         go_simp
         with_reducible rfl
        rotate_left
        ·simp only [Act.put, List.setIfInBounds_toArray, List.set_cons_zero, List.set_cons_succ, i64_w, i32_w]
         rfl
        refine pure_ (i := 10) (N := some 2) (v := ?_) (a' := ?_) #[true, true, true, true, true, true, true, true, true, true, true] rfl rfl (any_of HT_.out (by kernel_rfl)) (fun _ _ _ h => h) (Or.inl ⟨by rfl, ?_⟩) ?_ ?_
        rotate_left
        ·intro w'
         go_simp
         with_reducible rfl
        rotate_left
        ·simp only [Act.put, List.setIfInBounds_toArray, List.set_cons_zero, List.set_cons_succ, i64_w, i32_w]
         rfl
        refine done_ (done_of HT_.out (by kernel_rfl)) ?_
        try go_wp2
        go_ret
        exact ⟨by first | rfl | (simp [errW_none, errW_some] <;> rfl) | (simp [*, errW_none, errW_some] <;> rfl), by repeat (first | (with_reducible first | exact HB.1 | apply zA | apply zN | apply z1 | refine zS ?_ GE134.1) | exact HB.1)⟩

end Go.Proofs.YthdgjobhofpjeaaGreatDoor.X
