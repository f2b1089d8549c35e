/- Walks of Go functions of this seat, printed by a program of mine (wip/tools/xprint.py) over the kit's printer: each function as a plain Lean function, and the proof that the call comes to what it says. No conditions but those in each theorem. -/
import Derived.Test.YthdgjobhofpjeaaGreatDoorX0
import Derived.Test.YthdgjobhofpjeaaGreatDoorX24
import Derived.Test.YthdgjobhofpjeaaGreatDoorX28
namespace Go.Proofs.YthdgjobhofpjeaaGreatDoor.X
open Go.RowKit Go.Proofs.YthdgjobhofpjeaaGreatDoorW.PrintWords Go.Proofs.YthdgjobhofpjeaaGreatDoorW.PrintLast Go.Proofs.YthdgjobhofpjeaaGreatDoorW.PrintMore
attribute [local go_sem] max2_int min2_int max_two min_two max_three min_three max_four min_four   -- for this text's walks alone
set_option linter.unusedVariables false
set_option linter.unusedSimpArgs false

/-! ### span_sweep_span_Intersect_1: function 161 -/
mutual
def span_sweep_span_Intersect_1.l0 : Nat → List (S114) → List (S33) → Int → Int → Int → Int → Option ((List (S33)))
  | 0, _, _, _, _, _, _ => none
  | k + 1, x7, x8, x9, x10, x11, x12 => if x12 < 1099511627776 then (span_sweep_span_Intersect_1.l1 k x7 x8 x9 x10 x11 x12) else (some x8)
def span_sweep_span_Intersect_1.j2 : Nat → List (S114) → List (S33) → Int → Int → Int → Int → Option ((List (S33)))
  | 0, _, _, _, _, _, _ => none
  | k + 1, x7, x8, x9, x10, x11, x12 => if x11 < (x7.length : Int) then (if 0 ≤ x11 then (span_sweep_span_Intersect_1.j3 k x7 x8 x9 x10 x11 x12 ((rd_T114 x7 x11).f0)) else (none)) else (span_sweep_span_Intersect_1.j3 k x7 x8 x9 x10 x11 x12 1099511627776)
def span_sweep_span_Intersect_1.j3 : Nat → List (S114) → List (S33) → Int → Int → Int → Int → Int → Option ((List (S33)))
  | 0, _, _, _, _, _, _, _ => none
  | k + 1, x7, x8, x9, x10, x11, x12, x13 => (span_Intersect_1.f (decide (x9 > 0)) (decide (x10 > 0))).bind fun t642 => (if t642 = true then (if (x8.length : Int) > 0 then (if 0 ≤ (wrap64 ((x8.length : Int) - 1)) then (if (wrap64 ((x8.length : Int) - 1)) < (x8.length : Int) then (if ((rd_T33 x8 (wrap64 ((x8.length : Int) - 1))).f1) = x12 then (span_sweep_span_Intersect_1.l0 k x7 (x8.set ((wrap64 ((x8.length : Int) - 1)) : Int).toNat (⟨(rd_T33 x8 (wrap64 ((x8.length : Int) - 1))).f0, x13⟩ : S33)) x9 x10 x11 x13) else (if x8.length < 8796093022208 then (span_sweep_span_Intersect_1.l0 k x7 (x8 ++ [(⟨x12, x13⟩ : S33)]) x9 x10 x11 x13) else (none))) else (none)) else (none)) else (if x8.length < 8796093022208 then (span_sweep_span_Intersect_1.l0 k x7 (x8 ++ [(⟨x12, x13⟩ : S33)]) x9 x10 x11 x13) else (none))) else (span_sweep_span_Intersect_1.l0 k x7 x8 x9 x10 x11 x13))
def span_sweep_span_Intersect_1.l1 : Nat → List (S114) → List (S33) → Int → Int → Int → Int → Option ((List (S33)))
  | 0, _, _, _, _, _, _ => none
  | k + 1, x7, x8, x9, x10, x11, x12 => if x11 < (x7.length : Int) then (if 0 ≤ x11 then (if ((rd_T114 x7 x11).f0) = x12 then (span_sweep_span_Intersect_1.l1 k x7 x8 (wrap64 (x9 + ((rd_T114 x7 x11).f1))) (wrap64 (x10 + ((rd_T114 x7 x11).f2))) (wrap64 (x11 + 1)) x12) else (span_sweep_span_Intersect_1.j2 k x7 x8 x9 x10 x11 x12)) else (none)) else (span_sweep_span_Intersect_1.j2 k x7 x8 x9 x10 x11 x12)
end
def span_sweep_span_Intersect_1.f (k : Nat) (l0 : List (S33)) (l1 : List (S33))  : Option ((List (S33))) := (span_edges.f k l0 l1).bind fun t635 => (span_sweep_span_Intersect_1.l0 k t635 ([] : List (S33)) 0 0 0 0)
theorem span_sweep_span_Intersect_1.mono_l : ∀ k, (∀ y0 y1 y2 y3 y4 y5, LeO (span_sweep_span_Intersect_1.l0 k y0 y1 y2 y3 y4 y5) (span_sweep_span_Intersect_1.l0 (k + 1) y0 y1 y2 y3 y4 y5)) ∧ (∀ y0 y1 y2 y3 y4 y5, LeO (span_sweep_span_Intersect_1.j2 k y0 y1 y2 y3 y4 y5) (span_sweep_span_Intersect_1.j2 (k + 1) y0 y1 y2 y3 y4 y5)) ∧ (∀ y0 y1 y2 y3 y4 y5 y6, LeO (span_sweep_span_Intersect_1.j3 k y0 y1 y2 y3 y4 y5 y6) (span_sweep_span_Intersect_1.j3 (k + 1) y0 y1 y2 y3 y4 y5 y6)) ∧ (∀ y0 y1 y2 y3 y4 y5, LeO (span_sweep_span_Intersect_1.l1 k y0 y1 y2 y3 y4 y5) (span_sweep_span_Intersect_1.l1 (k + 1) y0 y1 y2 y3 y4 y5))
  | 0 => ⟨fun _ _ _ _ _ _ r h => by simp [span_sweep_span_Intersect_1.l0] at h, fun _ _ _ _ _ _ r h => by simp [span_sweep_span_Intersect_1.j2] at h, fun _ _ _ _ _ _ _ r h => by simp [span_sweep_span_Intersect_1.j3] at h, fun _ _ _ _ _ _ r h => by simp [span_sweep_span_Intersect_1.l1] at h⟩
  | k + 1 => by
    obtain ⟨ih0, ih1, ih2, ih3⟩ := span_sweep_span_Intersect_1.mono_l k
    refine ⟨?_, ?_, ?_, ?_⟩
    · intro y0 y1 y2 y3 y4 y5
      unfold span_sweep_span_Intersect_1.l0
      repeat' first
      | (with_reducible exact ih0 _ _ _ _ _ _)
      | (with_reducible exact ih1 _ _ _ _ _ _)
      | (with_reducible exact ih2 _ _ _ _ _ _ _)
      | (with_reducible exact ih3 _ _ _ _ _ _)
      | (with_reducible exact span_edges.mono _ _ _)
      | (with_reducible exact LeO.refl _)
      | (with_reducible exact LeO.none _)
      | (with_reducible refine LeO.ite ?_ ?_)
      | (with_reducible refine LeO.bind ?_ (fun _ => ?_))
      | exact ih0 _ _ _ _ _ _
      | exact ih1 _ _ _ _ _ _
      | exact ih2 _ _ _ _ _ _ _
      | exact ih3 _ _ _ _ _ _
      | exact span_edges.mono _ _ _
      | exact LeO.none _
      | refine LeO.ite ?_ ?_
      | refine LeO.bind ?_ (fun _ => ?_)
    · intro y0 y1 y2 y3 y4 y5
      unfold span_sweep_span_Intersect_1.j2
      repeat' first
      | (with_reducible exact ih0 _ _ _ _ _ _)
      | (with_reducible exact ih1 _ _ _ _ _ _)
      | (with_reducible exact ih2 _ _ _ _ _ _ _)
      | (with_reducible exact ih3 _ _ _ _ _ _)
      | (with_reducible exact span_edges.mono _ _ _)
      | (with_reducible exact LeO.refl _)
      | (with_reducible exact LeO.none _)
      | (with_reducible refine LeO.ite ?_ ?_)
      | (with_reducible refine LeO.bind ?_ (fun _ => ?_))
      | exact ih0 _ _ _ _ _ _
      | exact ih1 _ _ _ _ _ _
      | exact ih2 _ _ _ _ _ _ _
      | exact ih3 _ _ _ _ _ _
      | exact span_edges.mono _ _ _
      | exact LeO.none _
      | refine LeO.ite ?_ ?_
      | refine LeO.bind ?_ (fun _ => ?_)
    · intro y0 y1 y2 y3 y4 y5 y6
      unfold span_sweep_span_Intersect_1.j3
      repeat' first
      | (with_reducible exact ih0 _ _ _ _ _ _)
      | (with_reducible exact ih1 _ _ _ _ _ _)
      | (with_reducible exact ih2 _ _ _ _ _ _ _)
      | (with_reducible exact ih3 _ _ _ _ _ _)
      | (with_reducible exact span_edges.mono _ _ _)
      | (with_reducible exact LeO.refl _)
      | (with_reducible exact LeO.none _)
      | (with_reducible refine LeO.ite ?_ ?_)
      | (with_reducible refine LeO.bind ?_ (fun _ => ?_))
      | exact ih0 _ _ _ _ _ _
      | exact ih1 _ _ _ _ _ _
      | exact ih2 _ _ _ _ _ _ _
      | exact ih3 _ _ _ _ _ _
      | exact span_edges.mono _ _ _
      | exact LeO.none _
      | refine LeO.ite ?_ ?_
      | refine LeO.bind ?_ (fun _ => ?_)
    · intro y0 y1 y2 y3 y4 y5
      unfold span_sweep_span_Intersect_1.l1
      repeat' first
      | (with_reducible exact ih0 _ _ _ _ _ _)
      | (with_reducible exact ih1 _ _ _ _ _ _)
      | (with_reducible exact ih2 _ _ _ _ _ _ _)
      | (with_reducible exact ih3 _ _ _ _ _ _)
      | (with_reducible exact span_edges.mono _ _ _)
      | (with_reducible exact LeO.refl _)
      | (with_reducible exact LeO.none _)
      | (with_reducible refine LeO.ite ?_ ?_)
      | (with_reducible refine LeO.bind ?_ (fun _ => ?_))
      | exact ih0 _ _ _ _ _ _
      | exact ih1 _ _ _ _ _ _
      | exact ih2 _ _ _ _ _ _ _
      | exact ih3 _ _ _ _ _ _
      | exact span_edges.mono _ _ _
      | exact LeO.none _
      | refine LeO.ite ?_ ?_
      | refine LeO.bind ?_ (fun _ => ?_)
theorem span_sweep_span_Intersect_1.mono : ∀ a0 a1 k, LeO (span_sweep_span_Intersect_1.f k a0 a1) (span_sweep_span_Intersect_1.f (k + 1) a0 a1) := by
  intro a0 a1 k
  obtain ⟨ih0, ih1, ih2, ih3⟩ := span_sweep_span_Intersect_1.mono_l k
  unfold span_sweep_span_Intersect_1.f
  repeat' first
      | (with_reducible exact ih0 _ _ _ _ _ _)
      | (with_reducible exact ih1 _ _ _ _ _ _)
      | (with_reducible exact ih2 _ _ _ _ _ _ _)
      | (with_reducible exact ih3 _ _ _ _ _ _)
      | (with_reducible exact span_edges.mono _ _ _)
      | (with_reducible exact LeO.refl _)
      | (with_reducible exact LeO.none _)
      | (with_reducible refine LeO.ite ?_ ?_)
      | (with_reducible refine LeO.bind ?_ (fun _ => ?_))
      | exact ih0 _ _ _ _ _ _
      | exact ih1 _ _ _ _ _ _
      | exact ih2 _ _ _ _ _ _ _
      | exact ih3 _ _ _ _ _ _
      | exact span_edges.mono _ _ _
      | exact LeO.none _
      | refine LeO.ite ?_ ?_
      | refine LeO.bind ?_ (fun _ => ?_)
set_option maxHeartbeats 8000000 in
set_option maxRecDepth 100000 in
theorem span_sweep_span_Intersect_1.calls (k : Nat) (A0 : Option Addr) (c0 : Nat) (l0 : List (S33)) (A1 : Option Addr) (c1 : Nat) (l1 : List (S33))  (r : List (S33)) (w : World) (hr0 : Kd.C k33 w A0 l0.length l0) (hc0 : l0.length ≤ c0) (hr1 : Kd.C k33 w A1 l1.length l1) (hc1 : l1.length ≤ c1) (h : span_sweep_span_Intersect_1.f k l0 l1 = some r) (hG : GW w) :
  Calls Tryz.prog 61 #[.slice A0 l0.length c0, .slice A1 l1.length c1, .func (Fn.func 62) #[] #[]] w fun e w' => ∃ v0_ : Value, e = .returned (v0_) ∧ Kd.R k33 33 w' w.heap.size (fun _ => True) v0_ r ∧ Below w.heap.size w w' := by
 have HG := zM hG
 clear hG
 have hu33 := Tryz.underlying33
 have HR0 := zM hr0
 have HC0 := zM hc0
 clear hr0 hc0
 have HR1 := zM hr1
 have HC1 := zM hc1
 clear hr1 hc1
 have HB := zM (Below.refl w.heap.size w)
 have H : ((span_edges.f k l0 l1).bind fun t635 => (span_sweep_span_Intersect_1.l0 k t635 ([] : List (S33)) 0 0 0 0)) = some r := h
 clear h
 replace H := Option.bind_eq_some_iff.mp H
 obtain ⟨t635, A40, H⟩ := H
 have A4 := zM A40
 clear A40
 have H' := zM H
 clear H
 go_enter Tryz.func61, Tryz.ntmps61
 go_wp2_with (first | ((with_reducible refine gate_callee (f := 79) rfl ?_); refine goesL_ (some 17) rfl rfl Tryz.func79 (by kernel_rfl) rfl #[.slice A0 l0.length c0, .slice A1 l1.length c1] rfl (by (try simp only [List.map_toArray, List.map_cons, List.map_nil]); first | done | rfl | (simp only [List.length_drop, List.length_take]; rfl)) ?_; (with_reducible refine (span_edges.calls k _ _ l0 _ _ l1 t635 _ ?side1 ?side2 ?side3 ?side4 A4.out ?gw_).mono ?_); (case gw_ => first | exact HG.1 | (refine GW.below HG.1 ?_; repeat (first | (with_reducible first | exact HB.1 | apply zA | apply zN | apply z1) | exact HB.1))); (case side1 => repeat (first | exact HR0.out | (with_reducible refine Kd.C_alloc ?_ _) | (with_reducible refine Kd.C_drewN ?_ _) | (with_reducible refine Kd.C_drew ?_))); (case side2 => exact HC0.out); (case side3 => repeat (first | exact HR1.out | (with_reducible refine Kd.C_alloc ?_ _) | (with_reducible refine Kd.C_drewN ?_ _) | (with_reducible refine Kd.C_drew ?_))); (case side4 => exact HC1.out); rintro e w5 ⟨v636, rfl, ho0, hb⟩; refine ⟨_, rfl, ?_⟩; have n0_ := zM (Kd.R_lower ho0 (zZ (by repeat (first | (with_reducible first | exact HB.1 | apply zA | apply zN | apply z1) | exact HB.1)))); have n1_ := zM (zT (by repeat (first | (with_reducible first | exact HB.1 | apply zA | apply zN | apply z1) | exact HB.1)) hb); clear HB; have HO637 := n0_; have HB := n1_; clear n0_ n1_; (try clear hb); (try clear hb2); (try clear hk); (try clear hi); (try clear ho0)))
 go_loopg [8, 9, 10, 11, 12] k (fun kq v8 v9 v10 v11 v12 w' => ∃ (x8_1 : List (S33)) (x9_1 : Int) (x10_1 : Int) (x11_1 : Int) (x12_1 : Int), v9 = .int .i64 x9_1 ∧ v10 = .int .i64 x10_1 ∧ v11 = .int .i64 x11_1 ∧ v12 = .int .i64 x12_1 ∧ Aside0 (span_sweep_span_Intersect_1.l0 kq t635 x8_1 x9_1 x10_1 x11_1 x12_1 = some r) ∧ Aside0 (kq ≤ k) ∧ Aside0 (Kd.R k114 114 w' w.heap.size (fun _ => True) v636 t635) ∧ Aside0 (Kd.R k33 33 w' w.heap.size (fun _ => True) v8 x8_1) ∧ Aside0 (Below w.heap.size w w'))
 case atStart => exact ⟨(([] : List (S33))), (0), (0), (0), (0), (by first | rfl | (simp; done) | (simp [*]; done)), (by first | rfl | (simp; done) | (simp [*]; done)), (by first | rfl | (simp; done) | (simp [*]; done)), (by first | rfl | (simp; done) | (simp [*]; done)), H', ⟨Nat.le_refl _⟩, ⟨by (with_reducible repeat (first | apply Kd.R_alloc | apply Kd.R_drewN | apply Kd.R_drew)); exact HO637.out⟩, ⟨by first | exact Kd.R_nil _ _ _ _ _ | exact Kd.N_nil _ _ _ _ _ | exact Kd.V_nil _ _ _ _ _ | exact Kd.Q_nil _ _ _ _ _ | exact Kd.S_nil _ _ _ _ _⟩, ⟨by repeat (first | (with_reducible first | exact HB.1 | apply zA | apply zN | apply z1) | exact HB.1)⟩⟩
 case round =>
  clear H'
  try clear c1
  try clear p2
  obtain ⟨x8_1, x9_1, x10_1, x11_1, x12_1, rfl, rfl, rfl, rfl, HA, HK1, HO_7, HO_8, HB⟩ := hrel
  cases gk with
  | zero => exact absurd HA.out (by simp [span_sweep_span_Intersect_1.l0])
  | succ k1 =>
   have H := HA.out
   clear HA
   simp only [span_sweep_span_Intersect_1.l0] at H
   by_cases c6 : x12_1 < 1099511627776
   ·rw [if_pos c6] at H
    have c6b0 : decide (x12_1 < 1099511627776) = true := decide_eq_true c6
    clear c6
    have HC7 := zM H
    clear H
    go_upto_block 2 with (fail)
    go_cut [9, 10, 11] (fun v9 v10 v11 wc => ∃ (kq : Nat) (x9_6 : Int) (x10_6 : Int) (x11_6 : Int), v9 = .int .i64 x9_6 ∧ v10 = .int .i64 x10_6 ∧ v11 = .int .i64 x11_6 ∧ Aside0 (span_sweep_span_Intersect_1.j2 kq t635 x8_1 x9_6 x10_6 x11_6 x12_1 = some r) ∧ Aside0 (kq ≤ k1) ∧ Aside0 (Kd.R k114 114 wc w.heap.size (fun _ => True) v636 t635) ∧ Aside0 (Kd.R k33 33 wc w.heap.size (fun _ => True) u8 x8_1) ∧ Aside0 (Below w.heap.size w wc))
    case first =>
     have H := HC7.out
     clear HC7
     have H' := zM H
     clear H
     go_wp2
     go_loopg [9, 10, 11] k1 (fun kq v9 v10 v11 w' => ∃ (x9_2 : Int) (x10_2 : Int) (x11_2 : Int), v9 = .int .i64 x9_2 ∧ v10 = .int .i64 x10_2 ∧ v11 = .int .i64 x11_2 ∧ Aside0 (span_sweep_span_Intersect_1.l1 kq t635 x8_1 x9_2 x10_2 x11_2 x12_1 = some r) ∧ Aside0 (kq ≤ k1) ∧ Aside0 (Kd.R k114 114 w' w.heap.size (fun _ => True) v636 t635) ∧ Aside0 (Kd.R k33 33 w' w.heap.size (fun _ => True) u8 x8_1) ∧ Aside0 (Below w.heap.size w w'))
     case atStart => exact ⟨(x9_1), (x10_1), (x11_1), (by first | rfl | (simp; done) | (simp [*]; done)), (by first | rfl | (simp; done) | (simp [*]; done)), (by first | rfl | (simp; done) | (simp [*]; done)), H', ⟨Nat.le_refl _⟩, ⟨by (with_reducible repeat (first | apply Kd.R_alloc | apply Kd.R_drewN | apply Kd.R_drew)); exact HO_7.out⟩, ⟨by (with_reducible repeat (first | apply Kd.R_alloc | apply Kd.R_drewN | apply Kd.R_drew)); exact HO_8.out⟩, ⟨by repeat (first | (with_reducible first | exact HB.1 | apply zA | apply zN | apply z1) | exact HB.1)⟩⟩
     case round =>
      clear H'
      try clear c1
      try clear p2
      try clear c6
      try clear c6b0
      try clear c7
      try clear p2
      obtain ⟨x9_2, x10_2, x11_2, rfl, rfl, rfl, HA, HK2, HO_7, HO_8, HB⟩ := hrel
      cases gk with
      | zero => exact absurd HA.out (by simp [span_sweep_span_Intersect_1.l1])
      | succ k2 =>
       have H := HA.out
       clear HA
       simp only [span_sweep_span_Intersect_1.l1] at H
       by_cases c8 : x11_2 < (t635.length : Int)
       ·rw [if_pos c8] at H
        have c8b0 : decide (x11_2 < (t635.length : Int)) = true := decide_eq_true c8
        clear c8
        (first | rw [c8b0] | (simp only [i64_w, i32_w]; rw [c8b0]) | skip)
        by_cases c9 : 0 ≤ x11_2
        case neg =>
         rw [if_neg c9] at H
         exact absurd H (by simp)
        rw [if_pos c9] at H
        have c9b0 : decide (0 ≤ x11_2) = true := decide_eq_true c9
        clear c9
        by_cases c10 : ((rd_T114 t635 x11_2).f0) = x12_1
        ·rw [if_pos c10] at H
         have c10b0 : (((rd_T114 t635 x11_2).f0) == x12_1) = true := beq_iff_eq.mpr c10
         have c10b1 : (((rd_T114 t635 x11_2).f0) != x12_1) = false := bne_eq_false_iff_eq.mpr c10
         clear c10
         have H' := zM H
         clear H
         obtain ⟨Ao11, co11, eo11⟩ := Kd.R_slice HO_7.out
         subst eo11
         have p638 : 0 ≤ (x11_2 : Int) := of_decide_eq_true (by first | (with_reducible assumption) | assumption)
         have q638 : x11_2 < (t635.length : Int) := of_decide_eq_true (by first | (with_reducible assumption) | assumption)
         obtain ⟨ad638, e638, hx638_0, hx638_1, hx638_2⟩ := at_T114 (Kd.R_reads' HO_7.out).2.2 x11_2 p638 q638
         cases e638
         replace p638 := eq_true p638
         replace q638 := eq_true q638
         have p639 : 0 ≤ (x11_2 : Int) := of_decide_eq_true (by first | (with_reducible assumption) | assumption)
         have q639 : x11_2 < (t635.length : Int) := of_decide_eq_true (by first | (with_reducible assumption) | assumption)
         obtain ⟨ad639, e639, hx639_0, hx639_1, hx639_2⟩ := at_T114 (Kd.R_reads' HO_7.out).2.2 x11_2 p639 q639
         obtain rfl : ad638 = ad639 := (by injection e639)
         replace p639 := eq_true p639
         replace q639 := eq_true q639
         have p640 : 0 ≤ (x11_2 : Int) := of_decide_eq_true (by first | (with_reducible assumption) | assumption)
         have q640 : x11_2 < (t635.length : Int) := of_decide_eq_true (by first | (with_reducible assumption) | assumption)
         obtain ⟨ad640, e640, hx640_0, hx640_1, hx640_2⟩ := at_T114 (Kd.R_reads' HO_7.out).2.2 x11_2 p640 q640
         obtain rfl : ad638 = ad640 := (by injection e640)
         replace p640 := eq_true p640
         replace q640 := eq_true q640
         go_wp2
         go_roundg k2
         case measure => have := HK1.out; have := HK2.out; omega
         case rel => exact ⟨(wrap64 (x9_2 + ((rd_T114 t635 x11_2).f1))), (wrap64 (x10_2 + ((rd_T114 t635 x11_2).f2))), (wrap64 (x11_2 + 1)), (by first | rfl | (simp; done) | (simp [*]; done)), (by first | rfl | (simp; done) | (simp [*]; done)), (by first | rfl | (simp; done) | (simp [*]; done)), H', ⟨by have := HK1.out; have := HK2.out; omega⟩, ⟨by (with_reducible repeat (first | apply Kd.R_alloc | apply Kd.R_drewN | apply Kd.R_drew)); exact HO_7.out⟩, ⟨by (with_reducible repeat (first | apply Kd.R_alloc | apply Kd.R_drewN | apply Kd.R_drew)); exact HO_8.out⟩, ⟨by repeat (first | (with_reducible first | exact HB.1 | apply zA | apply zN | apply z1) | exact HB.1)⟩⟩
        ·rw [if_neg c10] at H
         have c10b0 : (((rd_T114 t635 x11_2).f0) == x12_1) = false := beq_eq_false_iff_ne.mpr c10
         have c10b1 : (((rd_T114 t635 x11_2).f0) != x12_1) = true := bne_iff_ne.mpr c10
         have H' := zM H
         clear H
         obtain ⟨Ao12, co12, eo12⟩ := Kd.R_slice HO_7.out
         subst eo12
         have p638 : 0 ≤ (x11_2 : Int) := of_decide_eq_true (by first | (with_reducible assumption) | assumption)
         have q638 : x11_2 < (t635.length : Int) := of_decide_eq_true (by first | (with_reducible assumption) | assumption)
         obtain ⟨ad638, e638, hx638_0, hx638_1, hx638_2⟩ := at_T114 (Kd.R_reads' HO_7.out).2.2 x11_2 p638 q638
         cases e638
         replace p638 := eq_true p638
         replace q638 := eq_true q638
         go_wp2
         go_meet
         case rel => exact ⟨_, (x9_2), (x10_2), (x11_2), (by first | rfl | (simp; done) | (simp [*]; done)), (by first | rfl | (simp; done) | (simp [*]; done)), (by first | rfl | (simp; done) | (simp [*]; done)), H', ⟨by have := HK1.out; have := HK2.out; first | omega | exact Nat.le_refl _⟩, ⟨by (with_reducible repeat (first | apply Kd.R_alloc | apply Kd.R_drewN | apply Kd.R_drew)); exact HO_7.out⟩, ⟨by (with_reducible repeat (first | apply Kd.R_alloc | apply Kd.R_drewN | apply Kd.R_drew)); exact HO_8.out⟩, ⟨by repeat (first | (with_reducible first | exact HB.1 | apply zA | apply zN | apply z1) | exact HB.1)⟩⟩
       ·rw [if_neg c8] at H
        have c8b0 : decide (x11_2 < (t635.length : Int)) = false := decide_eq_false c8
        clear c8
        (first | rw [c8b0] | (simp only [i64_w, i32_w]; rw [c8b0]) | skip)
        have H' := zM H
        clear H
        obtain ⟨Ao13, co13, eo13⟩ := Kd.R_slice HO_7.out
        subst eo13
        go_wp2
        go_meet
        case rel => exact ⟨_, (x9_2), (x10_2), (x11_2), (by first | rfl | (simp; done) | (simp [*]; done)), (by first | rfl | (simp; done) | (simp [*]; done)), (by first | rfl | (simp; done) | (simp [*]; done)), H', ⟨by have := HK1.out; have := HK2.out; first | omega | exact Nat.le_refl _⟩, ⟨by (with_reducible repeat (first | apply Kd.R_alloc | apply Kd.R_drewN | apply Kd.R_drew)); exact HO_7.out⟩, ⟨by (with_reducible repeat (first | apply Kd.R_alloc | apply Kd.R_drewN | apply Kd.R_drew)); exact HO_8.out⟩, ⟨by repeat (first | (with_reducible first | exact HB.1 | apply zA | apply zN | apply z1) | exact HB.1)⟩⟩
    case rest =>
     clear HC7
     try clear c1
     try clear p2
     try clear c6
     try clear c6b0
     try clear p6
     try clear q6
     try clear hx6
     try clear c7
     try clear c8
     try clear c8b0
     try clear c9
     try clear c9b0
     try clear c10
     try clear c10b0
     try clear c10b1
     try clear hx638_0
     try clear hx638_1
     try clear hx638_2
     try clear hx639_0
     try clear hx639_1
     try clear hx639_2
     try clear hx640_0
     try clear hx640_1
     try clear hx640_2
     try clear p2
     try clear p638
     try clear p639
     try clear p640
     try clear q638
     try clear q639
     try clear q640
     obtain ⟨kq, x9_6, x10_6, x11_6, rfl, rfl, rfl, HA, HJ6, HO_7, HO_8, HB⟩ := hcut
     cases kq with
     | zero => exact absurd HA.out (by simp [span_sweep_span_Intersect_1.j2])
     | succ kj6 =>
      have H := HA.out
      clear HA
      simp only [span_sweep_span_Intersect_1.j2] at H
      have HC14 := zM H
      clear H
      obtain ⟨Ao15, co15, eo15⟩ := Kd.R_slice HO_7.out
      subst eo15
      go_upto_if 52 with (fail)
      go_cut [13] (fun v13 wc => ∃ (kq : Nat) (x13_13 : Int), v13 = .int .i64 x13_13 ∧ Aside0 (span_sweep_span_Intersect_1.j3 kq t635 x8_1 x9_6 x10_6 x11_6 x12_1 x13_13 = some r) ∧ Aside0 (kq ≤ kj6) ∧ Aside0 (Kd.R k114 114 wc w.heap.size (fun _ => True) (.slice Ao15 t635.length co15) t635) ∧ Aside0 (Kd.R k33 33 wc w.heap.size (fun _ => True) u8 x8_1) ∧ Aside0 (Below w.heap.size w wc))
      case first =>
       have H := HC14.out
       clear HC14
       by_cases c16 : x11_6 < (t635.length : Int)
       ·rw [if_pos c16] at H
        have c16b0 : decide (x11_6 < (t635.length : Int)) = true := decide_eq_true c16
        clear c16
        (first | rw [c16b0] | (simp only [i64_w, i32_w]; rw [c16b0]) | skip)
        by_cases c17 : 0 ≤ x11_6
        case neg =>
         rw [if_neg c17] at H
         exact absurd H (by simp)
        rw [if_pos c17] at H
        have c17b0 : decide (0 ≤ x11_6) = true := decide_eq_true c17
        clear c17
        have H' := zM H
        clear H
        have p641 : 0 ≤ (x11_6 : Int) := of_decide_eq_true (by first | (with_reducible assumption) | assumption)
        have q641 : x11_6 < (t635.length : Int) := of_decide_eq_true (by first | (with_reducible assumption) | assumption)
        obtain ⟨ad641, e641, hx641_0, hx641_1, hx641_2⟩ := at_T114 (Kd.R_reads' HO_7.out).2.2 x11_6 p641 q641
        cases e641
        replace p641 := eq_true p641
        replace q641 := eq_true q641
        go_wp2
        go_meet
        case rel => exact ⟨_, ((rd_T114 t635 x11_6).f0), (by first | rfl | (simp; done) | (simp [*]; done)), H', ⟨by have := HK1.out; have := HJ6.out; first | omega | exact Nat.le_refl _⟩, ⟨by (with_reducible repeat (first | apply Kd.R_alloc | apply Kd.R_drewN | apply Kd.R_drew)); exact HO_7.out⟩, ⟨by (with_reducible repeat (first | apply Kd.R_alloc | apply Kd.R_drewN | apply Kd.R_drew)); exact HO_8.out⟩, ⟨by repeat (first | (with_reducible first | exact HB.1 | apply zA | apply zN | apply z1) | exact HB.1)⟩⟩
       ·rw [if_neg c16] at H
        have c16b0 : decide (x11_6 < (t635.length : Int)) = false := decide_eq_false c16
        clear c16
        (first | rw [c16b0] | (simp only [i64_w, i32_w]; rw [c16b0]) | skip)
        have H' := zM H
        clear H
        go_wp2
        go_meet
        case rel => exact ⟨_, (1099511627776), (by first | rfl | (simp; done) | (simp [*]; done)), H', ⟨by have := HK1.out; have := HJ6.out; first | omega | exact Nat.le_refl _⟩, ⟨by (with_reducible repeat (first | apply Kd.R_alloc | apply Kd.R_drewN | apply Kd.R_drew)); exact HO_7.out⟩, ⟨by (with_reducible repeat (first | apply Kd.R_alloc | apply Kd.R_drewN | apply Kd.R_drew)); exact HO_8.out⟩, ⟨by repeat (first | (with_reducible first | exact HB.1 | apply zA | apply zN | apply z1) | exact HB.1)⟩⟩
      case rest =>
       clear HC14
       try clear c1
       try clear p2
       try clear c6
       try clear c6b0
       try clear p6
       try clear q6
       try clear hx6
       try clear c7
       try clear c8
       try clear c8b0
       try clear c9
       try clear c9b0
       try clear c10
       try clear c10b0
       try clear c10b1
       try clear c16
       try clear c16b0
       try clear c17
       try clear c17b0
       try clear hx638_0
       try clear hx638_1
       try clear hx638_2
       try clear hx639_0
       try clear hx639_1
       try clear hx639_2
       try clear hx640_0
       try clear hx640_1
       try clear hx640_2
       try clear hx641_0
       try clear hx641_1
       try clear hx641_2
       try clear p2
       try clear p6
       try clear p638
       try clear p639
       try clear p640
       try clear p641
       try clear q6
       try clear q638
       try clear q639
       try clear q640
       try clear q641
       obtain ⟨kq, x13_13, rfl, HA, HJ13, HO_7, HO_8, HB⟩ := hcut
       cases kq with
       | zero => exact absurd HA.out (by simp [span_sweep_span_Intersect_1.j3])
       | succ kj13 =>
        have H := HA.out
        clear HA
        simp only [span_sweep_span_Intersect_1.j3] at H
        replace H := Option.bind_eq_some_iff.mp H
        obtain ⟨t642, A180, H⟩ := H
        have A18 := zM A180
        clear A180
        by_cases c19 : t642 = true
        ·subst c19
         have H1 : (if (x8_1.length : Int) > 0 then (if 0 ≤ (wrap64 ((x8_1.length : Int) - 1)) then (if (wrap64 ((x8_1.length : Int) - 1)) < (x8_1.length : Int) then (if ((rd_T33 x8_1 (wrap64 ((x8_1.length : Int) - 1))).f1) = x12_1 then (span_sweep_span_Intersect_1.l0 kj13 t635 (x8_1.set ((wrap64 ((x8_1.length : Int) - 1)) : Int).toNat (⟨(rd_T33 x8_1 (wrap64 ((x8_1.length : Int) - 1))).f0, x13_13⟩ : S33)) x9_6 x10_6 x11_6 x13_13) else (if x8_1.length < 8796093022208 then (span_sweep_span_Intersect_1.l0 kj13 t635 (x8_1 ++ [(⟨x12_1, x13_13⟩ : S33)]) x9_6 x10_6 x11_6 x13_13) else (none))) else (none)) else (none)) else (if x8_1.length < 8796093022208 then (span_sweep_span_Intersect_1.l0 kj13 t635 (x8_1 ++ [(⟨x12_1, x13_13⟩ : S33)]) x9_6 x10_6 x11_6 x13_13) else (none))) = some r := by rw [if_pos rfl] at H; exact H
         clear H
         have H := H1
         clear H1
         by_cases c20 : (x8_1.length : Int) > 0
         ·rw [if_pos c20] at H
          have c20b0 : decide (0 < (x8_1.length : Int)) = true := decide_eq_true c20
          have c20b1 : decide (0 < x8_1.length) = true := decide_eq_true (by omega)
          clear c20
          obtain ⟨ji21, hji21⟩ : ∃ j_ : Int, (wrap64 ((x8_1.length : Int) - 1)) = j_ := ⟨_, rfl⟩
          replace H : (if 0 ≤ (ji21) then (if (ji21) < (x8_1.length : Int) then (if ((rd_T33 x8_1 (ji21)).f1) = x12_1 then (span_sweep_span_Intersect_1.l0 kj13 t635 (x8_1.set ((ji21) : Int).toNat (⟨(rd_T33 x8_1 (ji21)).f0, x13_13⟩ : S33)) x9_6 x10_6 x11_6 x13_13) else (if x8_1.length < 8796093022208 then (span_sweep_span_Intersect_1.l0 kj13 t635 (x8_1 ++ [(⟨x12_1, x13_13⟩ : S33)]) x9_6 x10_6 x11_6 x13_13) else (none))) else (none)) else (none)) = some r := by first | (rw [hji21] at H; exact H) | (simp only [hji21] at H ⊢; exact H)
          (try rw [hji21] at A18)
          have hji21w : (IntKind.i64.wrap ((x8_1.length : Int) - 1)) = ji21 := (i64_w _).trans hji21
          by_cases c22 : 0 ≤ (ji21)
          case neg =>
           rw [if_neg c22] at H
           exact absurd H (by simp)
          rw [if_pos c22] at H
          have c22b0 : decide (0 ≤ (ji21)) = true := decide_eq_true c22
          clear c22
          by_cases c23 : (ji21) < (x8_1.length : Int)
          case neg =>
           rw [if_neg c23] at H
           exact absurd H (by simp)
          rw [if_pos c23] at H
          have c23b0 : decide ((ji21) < (x8_1.length : Int)) = true := decide_eq_true c23
          clear c23
          by_cases c24 : ((rd_T33 x8_1 (ji21)).f1) = x12_1
          ·rw [if_pos c24] at H
           have c24b0 : (((rd_T33 x8_1 (ji21)).f1) == x12_1) = true := beq_iff_eq.mpr c24
           have c24b1 : (((rd_T33 x8_1 (ji21)).f1) != x12_1) = false := bne_eq_false_iff_eq.mpr c24
           clear c24
           obtain ⟨y644, hy644⟩ : ∃ y_ : List (S33), y_ = (x8_1.set ((ji21) : Int).toNat (⟨(rd_T33 x8_1 (ji21)).f0, x13_13⟩ : S33)) := ⟨_, rfl⟩
           replace H : (span_sweep_span_Intersect_1.l0 kj13 t635 y644 x9_6 x10_6 x11_6 x13_13) = some r := by first | (rw [hy644]; with_reducible exact H) | (have H2_ := (Option.bind_some _ _).symm.trans H; rw [hy644]; with_reducible exact H2_) | (have H2_ := (Option.bind_some _ _).symm.trans H; with_reducible exact H2_) | with_reducible exact H | (rw [hy644]; exact H) | exact H
           have Ny644 := zM hy644
           clear hy644
           have H' := zM H
           clear H
           go_wp2_with (first | (go_at_call 62; (with_reducible refine (span_Intersect_1.calls (decide (x9_6 > 0)) (decide (x10_6 > 0)) true _ A18.out ?gw_).mono ?_); (case gw_ => first | exact HG.1 | (refine GW.below HG.1 ?_; repeat (first | (with_reducible first | exact HB.1 | apply zA | apply zN | apply z1) | exact HB.1))); rintro e w' ⟨rfl, ⟨nd, rfl⟩⟩; (try (rw [drewN_self wc]; generalize hq_ : World.drewN wc _ = wc; have n0_ : Aside0 (Kd.R k114 114 wc w.heap.size (fun _ => True) (.slice Ao15 t635.length co15) t635) := ⟨by rw [← hq_]; exact (by (with_reducible repeat (first | apply Kd.R_alloc | apply Kd.R_drewN | apply Kd.R_drew)); exact HO_7.out)⟩; have n1_ : Aside0 (Kd.R k33 33 wc w.heap.size (fun _ => True) u8 x8_1) := ⟨by rw [← hq_]; exact (by (with_reducible repeat (first | apply Kd.R_alloc | apply Kd.R_drewN | apply Kd.R_drew)); exact HO_8.out)⟩; have n2_ : Aside0 (Below w.heap.size w wc) := ⟨by rw [← hq_]; exact (by repeat (first | (with_reducible first | exact HB.1 | apply zA | apply zN | apply z1) | exact HB.1))⟩; clear HO_7 HO_8 HB hq_; have HO_7 := n0_; have HO_8 := n1_; have HB := n2_; clear n0_ n1_ n2_)); obtain ⟨Ao26, co26, eo26⟩ := Kd.R_slice HO_8.out; subst eo26; have p643 : 0 ≤ ((ji21) : Int) := of_decide_eq_true (by first | (with_reducible assumption) | assumption); have q643 : (ji21) < (x8_1.length : Int) := of_decide_eq_true (by first | (with_reducible assumption) | assumption); obtain ⟨ad643, e643, hx643_0, hx643_1⟩ := at_T33 (Kd.R_reads' HO_8.out).2.2 (ji21) p643 q643; cases e643; replace p643 := eq_true p643; replace q643 := eq_true q643; have p25 : 0 ≤ ((ji21) : Int) := of_decide_eq_true (by first | (with_reducible assumption) | assumption); have q25 : ((ji21) : Int) < ((x8_1.length : Int) : Int) := of_decide_eq_true (by first | (with_reducible assumption) | assumption); obtain ⟨go25, co25, eo25, gb25, gl25, cl25, HG25⟩ := Kd.R_form HO_8.out (by omega); (first | cases eo25 | (injection eo25 with ea_ en_ ec_; (first | subst ea_ | (injection ea_ with ea_; subst ea_)); subst ec_; clear en_)); have GB25 := zM gb25; have GG25 := zM HG25; clear gb25 gl25 HG25; (first | simp only [add_plain] at hx643_0 | skip); (first | simp only [add_plain] at hx643_1 | skip); obtain ⟨ce25, hcl25, hM25, hcc25, hfr25⟩ := Kd.R_elem HO_8.out z33 ((ji21) : Int) p25 q25; obtain rfl := k33_openM hM25; have hx25_0 : wc.cell? ⟨go25, ((ji21) : Int).toNat * 2, none⟩ = some (.int .i64 ((rd_T33 x8_1 (ji21)).f0)) := hcc25 0 _ rfl; have hx25_1 : wc.cell? ⟨go25, ((ji21) : Int).toNat * 2 + 1, none⟩ = some (.int .i64 ((rd_T33 x8_1 (ji21)).f1)) := hcc25 1 _ rfl; have hf25_0 : wc.frozen? ⟨go25, ((ji21) : Int).toNat * 2, none⟩ = false := hfr25 0; have hf25_1 : wc.frozen? ⟨go25, ((ji21) : Int).toNat * 2 + 1, none⟩ = false := hfr25 1; clear hcl25 hcc25 hfr25 hM25; replace p25 := eq_true p25; replace q25 := eq_true q25; have HX27 := zM (show Kd.R k33 33 wc w.heap.size (fun _ => True) (.slice (some ⟨go25, 0, none⟩) x8_1.length co26) x8_1 from (by (with_reducible repeat (first | apply Kd.R_alloc | apply Kd.R_drewN | apply Kd.R_drew)); exact HO_8.out)); obtain ⟨ce27, hcl27, hM27, hcc27, hfr27⟩ := Kd.R_elem HX27.out z33 ((ji21) : Int) (of_decide_eq_true (by first | (with_reducible assumption) | assumption)) (by have h_ : ((ji21) : Int) < ((x8_1.length : Int) : Int) := of_decide_eq_true (by first | (with_reducible assumption) | assumption); first | exact h_ | (have e_ := (Kd.R_reads' HO_8.out).1; omega) | simpa using h_); obtain rfl := k33_openM hM27; have HP27 := Kd.R_seg HX27.out ((ji21) : Int) (of_decide_eq_true (by first | (with_reducible assumption) | assumption)) (by have h_ : ((ji21) : Int) < ((x8_1.length : Int) : Int) := of_decide_eq_true (by first | (with_reducible assumption) | assumption); first | exact h_ | (have e_ := (Kd.R_reads' HO_8.out).1; omega) | simpa using h_) (seg := [.int .i64 x13_13]) (j := 1) hcl27 hcc27 (show 2 ≤ 2 from by decide) (x' := (⟨(rd_T33 x8_1 (ji21)).f0, x13_13⟩ : S33)) (k33_mkM _ _ _ (⟨(rd_T33 x8_1 (ji21)).f0, x13_13⟩ : S33) ) (fun _ hk => hk); have hx27_1 := hcc27 1 _ rfl; (try simp only [show (k33).sz = 2 from rfl, Nat.mul_one, Nat.add_zero] at hx27_1); have hf27_1 := hfr27 1; (try simp only [show (k33).sz = 2 from rfl, Nat.mul_one, Nat.add_zero] at hf27_1); clear hcl27 hcc27 hfr27 hM27) | ((with_reducible refine gate_store (t := 3) (p := 83) rfl ?_); refine store_event (t := 3) (p := 83) (v := ?vo_w28) (w1 := (wc.setCell ⟨go25, ((ji21) : Int).toNat * 2 + 1, none⟩ (.int .i64 x13_13))) ?hg ?ho ?hn ?hr ?_; (case ho => rfl); (case hg => rfl); (case hn => rfl); (case hr => first | (go_simp; done) | (go_simp; rfl)); intro w28 hw; have hg : wc.grownBy w28 (some go25) := (by rw [hw]; exact HP27.2); have hp_ : Kd.R k33 33 w28 w.heap.size (fun _ => True) (.slice (some ⟨go25, 0, none⟩) x8_1.length co26) y644 := (by rw [hw, Ny644.out]; exact HP27.1); clear HP27; have n0_ := zM (Kd.R_over' (v := (.slice (some ⟨go25, 0, none⟩) x8_1.length co26)) (by (with_reducible repeat (first | apply Kd.R_alloc | apply Kd.R_drewN | apply Kd.R_drew)); exact HO_7.out) (Kd.R_typed HO_8.out) (by decide) hg); have n1_ := zM (hp_); have n2_ := zM ((by rw [hw]; exact zS (HB.1) GB25.out : Below w.heap.size w w28)); clear HO_7; clear HO_8; clear HB; have HO_7 := n0_; have HO_8 := n1_; have HB := n2_; clear n0_ n1_ n2_; clear hg hw hp_))
           go_roundg kj13
           case measure => have := HK1.out; have := HJ6.out; have := HJ13.out; omega
           case rel => exact ⟨(y644), (x9_6), (x10_6), (x11_6), (x13_13), (by first | rfl | (simp; done) | (simp [*]; done)), (by first | rfl | (simp; done) | (simp [*]; done)), (by first | rfl | (simp; done) | (simp [*]; done)), (by first | rfl | (simp; done) | (simp [*]; done)), H', ⟨by have := HK1.out; have := HJ6.out; have := HJ13.out; omega⟩, ⟨by (with_reducible repeat (first | apply Kd.R_alloc | apply Kd.R_drewN | apply Kd.R_drew)); exact HO_7.out⟩, ⟨by (with_reducible repeat (first | apply Kd.R_alloc | apply Kd.R_drewN | apply Kd.R_drew)); exact HO_8.out⟩, ⟨by repeat (first | (with_reducible first | exact HB.1 | apply zA | apply zN | apply z1) | exact HB.1)⟩⟩
          ·rw [if_neg c24] at H
           have c24b0 : (((rd_T33 x8_1 (ji21)).f1) == x12_1) = false := beq_eq_false_iff_ne.mpr c24
           have c24b1 : (((rd_T33 x8_1 (ji21)).f1) != x12_1) = true := bne_iff_ne.mpr c24
           by_cases c29 : x8_1.length < 8796093022208
           case neg =>
            rw [if_neg c29] at H
            exact absurd H (by simp)
           rw [if_pos c29] at H
           have LMc29 := zM c29
           clear c29
           obtain ⟨y645, hy645⟩ : ∃ y_ : List (S33), y_ = (x8_1 ++ [(⟨x12_1, x13_13⟩ : S33)]) := ⟨_, rfl⟩
           replace H : (span_sweep_span_Intersect_1.l0 kj13 t635 y645 x9_6 x10_6 x11_6 x13_13) = some r := by first | (rw [hy645]; with_reducible exact H) | (have H2_ := (Option.bind_some _ _).symm.trans H; rw [hy645]; with_reducible exact H2_) | (have H2_ := (Option.bind_some _ _).symm.trans H; with_reducible exact H2_) | with_reducible exact H | (rw [hy645]; exact H) | exact H
           have Ny645 := zM hy645
           clear hy645
           have H' := zM H
           clear H
           go_wp2_with (first | (go_at_call 62; (with_reducible refine (span_Intersect_1.calls (decide (x9_6 > 0)) (decide (x10_6 > 0)) true _ A18.out ?gw_).mono ?_); (case gw_ => first | exact HG.1 | (refine GW.below HG.1 ?_; repeat (first | (with_reducible first | exact HB.1 | apply zA | apply zN | apply z1) | exact HB.1))); rintro e w' ⟨rfl, ⟨nd, rfl⟩⟩; obtain ⟨Ao30, co30, eo30⟩ := Kd.R_slice HO_8.out; subst eo30; have p643 : 0 ≤ ((ji21) : Int) := of_decide_eq_true (by first | (with_reducible assumption) | assumption); have q643 : (ji21) < (x8_1.length : Int) := of_decide_eq_true (by first | (with_reducible assumption) | assumption); obtain ⟨ad643, e643, hx643_0, hx643_1⟩ := at_T33 (Kd.R_reads' HO_8.out).2.2 (ji21) p643 q643; cases e643; replace p643 := eq_true p643; replace q643 := eq_true q643) | ((with_reducible refine gate_builtin (b := .append) (xs := #[.tmp 84, .tmp 88]) rfl ?_); at_builtin; refine Kd.R_append k33 (w0 := w) w.heap.size rfl (.tmp 84) (.tmp 88) 31 33 (.agg #[(.int .i64 0), (.int .i64 0)]) 16 rfl Tryz.underlying31 info33 rfl (by decide) (by omega) (.slice (some ad643) x8_1.length co30) x8_1 (⟨x12_1, x13_13⟩ : S33) [.int .i64 x12_1, .int .i64 x13_13] (fun _ => True) (fun _ => False) rfl rfl ?aP (fun _ hk => hk.elim) ?aF ?aO ?aB ?aS ?aL ?_; (case aP => exact k33_mkM _ _ _ (⟨x12_1, x13_13⟩ : S33)); (case aB => exact (by repeat (first | (with_reducible first | exact HB.1 | apply zA | apply zN | apply z1) | exact HB.1))); (case aF => exact (fun _ _ => trivial)); (case aO => exact (by (with_reducible repeat (first | apply Kd.R_alloc | apply Kd.R_drewN | apply Kd.R_drew)); exact HO_8.out)); (case aS => exact (zZ (by repeat (first | (with_reducible first | exact HB.1 | apply zA | apply zN | apply z1) | exact HB.1)))); (case aL => have := LMc29.out; omega); intro v646 w31 ho hb hg hat; rw [← Ny645.out] at ho; have n0_ := zM (Kd.R_over' (by (with_reducible repeat (first | apply Kd.R_alloc | apply Kd.R_drewN | apply Kd.R_drew)); exact HO_7.out) (Kd.R_typed (by (with_reducible repeat (first | apply Kd.R_alloc | apply Kd.R_drewN | apply Kd.R_drew)); exact HO_8.out)) (by decide) hg); have n1_ := zM (hb); have n2_ := zM (ho); clear HO_7; clear HB; clear HO_8; have HO_7 := n0_; have HB := n1_; have HO647 := n2_; clear n0_ n1_ n2_; clear ho hb hg hat))
           go_roundg kj13
           case measure => have := HK1.out; have := HJ6.out; have := HJ13.out; omega
           case rel => exact ⟨(y645), (x9_6), (x10_6), (x11_6), (x13_13), (by first | rfl | (simp; done) | (simp [*]; done)), (by first | rfl | (simp; done) | (simp [*]; done)), (by first | rfl | (simp; done) | (simp [*]; done)), (by first | rfl | (simp; done) | (simp [*]; done)), H', ⟨by have := HK1.out; have := HJ6.out; have := HJ13.out; omega⟩, ⟨by (with_reducible repeat (first | apply Kd.R_alloc | apply Kd.R_drewN | apply Kd.R_drew)); exact HO_7.out⟩, ⟨by (with_reducible repeat (first | apply Kd.R_alloc | apply Kd.R_drewN | apply Kd.R_drew)); exact HO647.out⟩, ⟨by repeat (first | (with_reducible first | exact HB.1 | apply zA | apply zN | apply z1) | exact HB.1)⟩⟩
         ·rw [if_neg c20] at H
          have c20b0 : decide (0 < (x8_1.length : Int)) = false := decide_eq_false c20
          have c20b1 : decide (0 < x8_1.length) = false := decide_eq_false (by omega)
          clear c20
          by_cases c32 : x8_1.length < 8796093022208
          case neg =>
           rw [if_neg c32] at H
           exact absurd H (by simp)
          rw [if_pos c32] at H
          have LMc32 := zM c32
          clear c32
          obtain ⟨y648, hy648⟩ : ∃ y_ : List (S33), y_ = (x8_1 ++ [(⟨x12_1, x13_13⟩ : S33)]) := ⟨_, rfl⟩
          replace H : (span_sweep_span_Intersect_1.l0 kj13 t635 y648 x9_6 x10_6 x11_6 x13_13) = some r := by first | (rw [hy648]; with_reducible exact H) | (have H2_ := (Option.bind_some _ _).symm.trans H; rw [hy648]; with_reducible exact H2_) | (have H2_ := (Option.bind_some _ _).symm.trans H; with_reducible exact H2_) | with_reducible exact H | (rw [hy648]; exact H) | exact H
          have Ny648 := zM hy648
          clear hy648
          have H' := zM H
          clear H
          go_wp2_with (first | (go_at_call 62; (with_reducible refine (span_Intersect_1.calls (decide (x9_6 > 0)) (decide (x10_6 > 0)) true _ A18.out ?gw_).mono ?_); (case gw_ => first | exact HG.1 | (refine GW.below HG.1 ?_; repeat (first | (with_reducible first | exact HB.1 | apply zA | apply zN | apply z1) | exact HB.1))); rintro e w' ⟨rfl, ⟨nd, rfl⟩⟩; obtain ⟨Ao33, co33, eo33⟩ := Kd.R_slice HO_8.out; subst eo33) | ((with_reducible refine gate_builtin (b := .append) (xs := #[.tmp 84, .tmp 88]) rfl ?_); at_builtin; refine Kd.R_append k33 (w0 := w) w.heap.size rfl (.tmp 84) (.tmp 88) 31 33 (.agg #[(.int .i64 0), (.int .i64 0)]) 16 rfl Tryz.underlying31 info33 rfl (by decide) (by omega) (.slice Ao33 x8_1.length co33) x8_1 (⟨x12_1, x13_13⟩ : S33) [.int .i64 x12_1, .int .i64 x13_13] (fun _ => True) (fun _ => False) rfl rfl ?aP (fun _ hk => hk.elim) ?aF ?aO ?aB ?aS ?aL ?_; (case aP => exact k33_mkM _ _ _ (⟨x12_1, x13_13⟩ : S33)); (case aB => exact (by repeat (first | (with_reducible first | exact HB.1 | apply zA | apply zN | apply z1) | exact HB.1))); (case aF => exact (fun _ _ => trivial)); (case aO => exact (by (with_reducible repeat (first | apply Kd.R_alloc | apply Kd.R_drewN | apply Kd.R_drew)); exact HO_8.out)); (case aS => exact (zZ (by repeat (first | (with_reducible first | exact HB.1 | apply zA | apply zN | apply z1) | exact HB.1)))); (case aL => have := LMc32.out; omega); intro v649 w34 ho hb hg hat; rw [← Ny648.out] at ho; have n0_ := zM (Kd.R_over' (by (with_reducible repeat (first | apply Kd.R_alloc | apply Kd.R_drewN | apply Kd.R_drew)); exact HO_7.out) (Kd.R_typed (by (with_reducible repeat (first | apply Kd.R_alloc | apply Kd.R_drewN | apply Kd.R_drew)); exact HO_8.out)) (by decide) hg); have n1_ := zM (hb); have n2_ := zM (ho); clear HO_7; clear HB; clear HO_8; have HO_7 := n0_; have HB := n1_; have HO650 := n2_; clear n0_ n1_ n2_; clear ho hb hg hat))
          go_roundg kj13
          case measure => have := HK1.out; have := HJ6.out; have := HJ13.out; omega
          case rel => exact ⟨(y648), (x9_6), (x10_6), (x11_6), (x13_13), (by first | rfl | (simp; done) | (simp [*]; done)), (by first | rfl | (simp; done) | (simp [*]; done)), (by first | rfl | (simp; done) | (simp [*]; done)), (by first | rfl | (simp; done) | (simp [*]; done)), H', ⟨by have := HK1.out; have := HJ6.out; have := HJ13.out; omega⟩, ⟨by (with_reducible repeat (first | apply Kd.R_alloc | apply Kd.R_drewN | apply Kd.R_drew)); exact HO_7.out⟩, ⟨by (with_reducible repeat (first | apply Kd.R_alloc | apply Kd.R_drewN | apply Kd.R_drew)); exact HO650.out⟩, ⟨by repeat (first | (with_reducible first | exact HB.1 | apply zA | apply zN | apply z1) | exact HB.1)⟩⟩
        ·replace c19 := Bool.eq_false_iff.mpr c19
         subst c19
         have H1 : (span_sweep_span_Intersect_1.l0 kj13 t635 x8_1 x9_6 x10_6 x11_6 x13_13) = some r := by rw [if_neg (show ¬ (false = true) by decide)] at H; exact H
         clear H
         have H := H1
         clear H1
         have H' := zM H
         clear H
         go_wp2_with (first | (go_at_call 62; (with_reducible refine (span_Intersect_1.calls (decide (x9_6 > 0)) (decide (x10_6 > 0)) false _ A18.out ?gw_).mono ?_); (case gw_ => first | exact HG.1 | (refine GW.below HG.1 ?_; repeat (first | (with_reducible first | exact HB.1 | apply zA | apply zN | apply z1) | exact HB.1))); rintro e w' ⟨rfl, ⟨nd, rfl⟩⟩))
         go_roundg kj13
         case measure => have := HK1.out; have := HJ6.out; have := HJ13.out; omega
         case rel => exact ⟨(x8_1), (x9_6), (x10_6), (x11_6), (x13_13), (by first | rfl | (simp; done) | (simp [*]; done)), (by first | rfl | (simp; done) | (simp [*]; done)), (by first | rfl | (simp; done) | (simp [*]; done)), (by first | rfl | (simp; done) | (simp [*]; done)), H', ⟨by have := HK1.out; have := HJ6.out; have := HJ13.out; omega⟩, ⟨by (with_reducible repeat (first | apply Kd.R_alloc | apply Kd.R_drewN | apply Kd.R_drew)); exact HO_7.out⟩, ⟨by (with_reducible repeat (first | apply Kd.R_alloc | apply Kd.R_drewN | apply Kd.R_drew)); exact HO_8.out⟩, ⟨by repeat (first | (with_reducible first | exact HB.1 | apply zA | apply zN | apply z1) | exact HB.1)⟩⟩
   ·rw [if_neg c6] at H
    have c6b0 : decide (x12_1 < 1099511627776) = false := decide_eq_false c6
    clear c6
    obtain rfl := Option.some.inj H
    go_wp2
    go_ret
    exact ⟨_, by first | rfl | (simp [errW_none, errW_some] <;> rfl) | (simp [*, errW_none, errW_some] <;> rfl), by (with_reducible repeat (first | apply Kd.R_alloc | apply Kd.R_drewN | apply Kd.R_drew)); exact HO_8.out, by repeat (first | (with_reducible first | exact HB.1 | apply zA | apply zN | apply z1) | exact HB.1)⟩

/-! ### span_Intersect: function 38 -/
def span_Intersect.f (k : Nat) (l0 : List (S33)) (l1 : List (S33)) : Option ((List (S33))) := (span_sweep_span_Intersect_1.f k l0 l1).bind fun t651 => (some t651)
theorem span_Intersect.mono : ∀ a0 a1 k, LeO (span_Intersect.f k a0 a1) (span_Intersect.f (k + 1) a0 a1) := by
  intro a0 a1 k
  unfold span_Intersect.f
  repeat' first
      | (with_reducible exact span_sweep_span_Intersect_1.mono _ _ _)
      | (with_reducible exact LeO.refl _)
      | (with_reducible exact LeO.none _)
      | (with_reducible refine LeO.ite ?_ ?_)
      | (with_reducible refine LeO.bind ?_ (fun _ => ?_))
      | exact span_sweep_span_Intersect_1.mono _ _ _
      | exact LeO.none _
      | refine LeO.ite ?_ ?_
      | refine LeO.bind ?_ (fun _ => ?_)
set_option maxHeartbeats 8000000 in
set_option maxRecDepth 100000 in
theorem span_Intersect.calls (k : Nat) (A0 : Option Addr) (c0 : Nat) (l0 : List (S33)) (A1 : Option Addr) (c1 : Nat) (l1 : List (S33)) (r : List (S33)) (w : World) (hr0 : Kd.C k33 w A0 l0.length l0) (hc0 : l0.length ≤ c0) (hr1 : Kd.C k33 w A1 l1.length l1) (hc1 : l1.length ≤ c1) (h : span_Intersect.f k l0 l1 = some r) (hG : GW w) :
  Calls Tryz.prog 38 #[.slice A0 l0.length c0, .slice A1 l1.length c1] w fun e w' => ∃ v0_ : Value, e = .returned (v0_) ∧ Kd.R k33 33 w' w.heap.size (fun _ => True) v0_ r ∧ Below w.heap.size w w' := by
 have HG := zM hG
 clear hG
 have HR0 := zM hr0
 have HC0 := zM hc0
 clear hr0 hc0
 have HR1 := zM hr1
 have HC1 := zM hc1
 clear hr1 hc1
 have HB := zM (Below.refl w.heap.size w)
 have H : ((span_sweep_span_Intersect_1.f k l0 l1).bind fun t651 => (some t651)) = some r := h
 clear h
 replace H := Option.bind_eq_some_iff.mp H
 obtain ⟨t651, A30, H⟩ := H
 have A3 := zM A30
 clear A30
 obtain rfl := Option.some.inj H
 go_enter Tryz.func38, Tryz.ntmps38
 go_wp2_with (first | ((with_reducible refine gate_callee (f := 61) rfl ?_); refine goesL_ (some 7) rfl rfl Tryz.func61 (by kernel_rfl) rfl #[.slice A0 l0.length c0, .slice A1 l1.length c1, .func (Fn.func 62) #[] #[]] rfl (by (try simp only [List.map_toArray, List.map_cons, List.map_nil]); first | done | rfl | (simp only [List.length_drop, List.length_take]; rfl)) ?_; (with_reducible refine (span_sweep_span_Intersect_1.calls k _ _ l0 _ _ l1  t651 _ ?side1 ?side2 ?side3 ?side4 A3.out ?gw_).mono ?_); (case gw_ => first | exact HG.1 | (refine GW.below HG.1 ?_; repeat (first | (with_reducible first | exact HB.1 | apply zA | apply zN | apply z1) | exact HB.1))); (case side1 => repeat (first | exact HR0.out | (with_reducible refine Kd.C_alloc ?_ _) | (with_reducible refine Kd.C_drewN ?_ _) | (with_reducible refine Kd.C_drew ?_))); (case side2 => exact HC0.out); (case side3 => repeat (first | exact HR1.out | (with_reducible refine Kd.C_alloc ?_ _) | (with_reducible refine Kd.C_drewN ?_ _) | (with_reducible refine Kd.C_drew ?_))); (case side4 => exact HC1.out); rintro e w4 ⟨v652, rfl, ho0, hb⟩; refine ⟨_, rfl, ?_⟩; have n0_ := zM (Kd.R_lower ho0 (zZ (by repeat (first | (with_reducible first | exact HB.1 | apply zA | apply zN | apply z1) | exact HB.1)))); have n1_ := zM (zT (by repeat (first | (with_reducible first | exact HB.1 | apply zA | apply zN | apply z1) | exact HB.1)) hb); clear HB; have HO653 := n0_; have HB := n1_; clear n0_ n1_; (try clear hb); (try clear hb2); (try clear hk); (try clear hi); (try clear ho0)))
 go_ret
 exact ⟨_, by first | rfl | (simp [errW_none, errW_some] <;> rfl) | (simp [*, errW_none, errW_some] <;> rfl), by (with_reducible repeat (first | apply Kd.R_alloc | apply Kd.R_drewN | apply Kd.R_drew)); exact HO653.out, by repeat (first | (with_reducible first | exact HB.1 | apply zA | apply zN | apply z1) | exact HB.1)⟩

end Go.Proofs.YthdgjobhofpjeaaGreatDoor.X
