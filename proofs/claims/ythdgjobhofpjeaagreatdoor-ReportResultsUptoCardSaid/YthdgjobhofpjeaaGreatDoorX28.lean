/- Walks of Go functions of this seat, printed by a program of mine (wip/tools/xprint.py) over the kit's printer: each function as a plain Lean function, and the proof that the call comes to what it says. No conditions but those in each theorem. -/
import Derived.Test.YthdgjobhofpjeaaGreatDoorX0
import Derived.Test.YthdgjobhofpjeaaGreatDoorX3
import Derived.Test.YthdgjobhofpjeaaGreatDoorH1
namespace Go.Proofs.YthdgjobhofpjeaaGreatDoor.X
open Go.RowKit Go.Proofs.YthdgjobhofpjeaaGreatDoorW.PrintWords Go.Proofs.YthdgjobhofpjeaaGreatDoorW.PrintLast Go.Proofs.YthdgjobhofpjeaaGreatDoorW.PrintMore
attribute [local go_sem] max2_int min2_int max_two min_two max_three min_three max_four min_four   -- for this text's walks alone
set_option linter.unusedVariables false
set_option linter.unusedSimpArgs false

/-! ### span_edges: function 79 -/
mutual
def span_edges.l0 : Nat → List (S33) → List (S114) → List (S33) → Int → Int → Option ((List (S114)))
  | 0, _, _, _, _, _ => none
  | k + 1, x1, x5, x10, x11, x12 => if x12 < x11 then (if 0 ≤ x12 then (if x12 < (x10.length : Int) then ((period_Valid.f ((rd_T33 x10 x12).f0) ((rd_T33 x10 x12).f1)).bind fun t596 => (if t596 = true then ((some (([(⟨(rd_T33 x10 x12).f0, 1, 0⟩ : S114), (⟨(rd_T33 x10 x12).f1, (-1), 0⟩ : S114)] : List (S114)) : List (S114))).bind fun y597 => (if x5.length + y597.length < 5864062014805 then (span_edges.l0 k x1 (x5 ++ y597) x10 x11 (wrap64 (x12 + 1))) else (none))) else (span_edges.l0 k x1 x5 x10 x11 (wrap64 (x12 + 1))))) else (none)) else (none)) else (span_edges.l1 k x5 x1 (x1.length : Int) 0)
def span_edges.l1 : Nat → List (S114) → List (S33) → Int → Int → Option ((List (S114)))
  | 0, _, _, _, _ => none
  | k + 1, x5, x28, x29, x30 => if x30 < x29 then (if 0 ≤ x30 then (if x30 < (x28.length : Int) then ((period_Valid.f ((rd_T33 x28 x30).f0) ((rd_T33 x28 x30).f1)).bind fun t605 => (if t605 = true then ((some (([(⟨(rd_T33 x28 x30).f0, 0, 1⟩ : S114), (⟨(rd_T33 x28 x30).f1, 0, (-1)⟩ : S114)] : List (S114)) : List (S114))).bind fun y606 => (if x5.length + y606.length < 5864062014805 then (span_edges.l1 k (x5 ++ y606) x28 x29 (wrap64 (x30 + 1))) else (none))) else (span_edges.l1 k x5 x28 x29 (wrap64 (x30 + 1))))) else (none)) else (none)) else ((slices_SortFunc_span_edges_1.f x5).bind fun t612 => (some t612))
end
def span_edges.f (k : Nat) (l0 : List (S33)) (l1 : List (S33)) : Option ((List (S114))) := span_edges.l0 k l1 ([] : List (S114)) l0 (l0.length : Int) 0
theorem span_edges.mono_l : ∀ k, (∀ y0 y1 y2 y3 y4, LeO (span_edges.l0 k y0 y1 y2 y3 y4) (span_edges.l0 (k + 1) y0 y1 y2 y3 y4)) ∧ (∀ y0 y1 y2 y3, LeO (span_edges.l1 k y0 y1 y2 y3) (span_edges.l1 (k + 1) y0 y1 y2 y3))
  | 0 => ⟨fun _ _ _ _ _ r h => by simp [span_edges.l0] at h, fun _ _ _ _ r h => by simp [span_edges.l1] at h⟩
  | k + 1 => by
    obtain ⟨ih0, ih1⟩ := span_edges.mono_l k
    refine ⟨?_, ?_⟩
    · intro y0 y1 y2 y3 y4
      unfold span_edges.l0
      repeat' first
      | (with_reducible exact ih0 _ _ _ _ _)
      | (with_reducible exact ih1 _ _ _ _)
      | (with_reducible exact LeO.refl _)
      | (with_reducible exact LeO.none _)
      | (with_reducible refine LeO.ite ?_ ?_)
      | (with_reducible refine LeO.bind ?_ (fun _ => ?_))
      | exact ih0 _ _ _ _ _
      | exact ih1 _ _ _ _
      | exact LeO.none _
      | refine LeO.ite ?_ ?_
      | refine LeO.bind ?_ (fun _ => ?_)
    · intro y0 y1 y2 y3
      unfold span_edges.l1
      repeat' first
      | (with_reducible exact ih0 _ _ _ _ _)
      | (with_reducible exact ih1 _ _ _ _)
      | (with_reducible exact LeO.refl _)
      | (with_reducible exact LeO.none _)
      | (with_reducible refine LeO.ite ?_ ?_)
      | (with_reducible refine LeO.bind ?_ (fun _ => ?_))
      | exact ih0 _ _ _ _ _
      | exact ih1 _ _ _ _
      | exact LeO.none _
      | refine LeO.ite ?_ ?_
      | refine LeO.bind ?_ (fun _ => ?_)
theorem span_edges.mono : ∀ a0 a1 k, LeO (span_edges.f k a0 a1) (span_edges.f (k + 1) a0 a1) := by
  intro a0 a1 k
  obtain ⟨ih0, ih1⟩ := span_edges.mono_l k
  unfold span_edges.f
  repeat' first
      | (with_reducible exact ih0 _ _ _ _ _)
      | (with_reducible exact ih1 _ _ _ _)
      | (with_reducible exact LeO.refl _)
      | (with_reducible exact LeO.none _)
      | (with_reducible refine LeO.ite ?_ ?_)
      | (with_reducible refine LeO.bind ?_ (fun _ => ?_))
      | exact ih0 _ _ _ _ _
      | exact ih1 _ _ _ _
      | exact LeO.none _
      | refine LeO.ite ?_ ?_
      | refine LeO.bind ?_ (fun _ => ?_)
set_option maxHeartbeats 8000000 in
set_option maxRecDepth 100000 in
theorem span_edges.calls (k : Nat) (A0 : Option Addr) (c0 : Nat) (l0 : List (S33)) (A1 : Option Addr) (c1 : Nat) (l1 : List (S33)) (r : List (S114)) (w : World) (hr0 : Kd.C k33 w A0 l0.length l0) (hc0 : l0.length ≤ c0) (hr1 : Kd.C k33 w A1 l1.length l1) (hc1 : l1.length ≤ c1) (h : span_edges.f k l0 l1 = some r) (hG : GW w) :
  Calls Tryz.prog 79 #[.slice A0 l0.length c0, .slice A1 l1.length c1] w fun e w' => ∃ v0_ : Value, e = .returned (v0_) ∧ Kd.R k114 114 w' w.heap.size (fun _ => True) v0_ r ∧ Below w.heap.size w w' := by
 have HG := zM hG
 clear hG
 have hu33 := Tryz.underlying33
 have hu114 := Tryz.underlying114
 have HR0 := zM hr0
 have HC0 := zM hc0
 clear hr0 hc0
 have HR1 := zM hr1
 have HC1 := zM hc1
 clear hr1 hc1
 have HB := zM (Below.refl w.heap.size w)
 have H : (span_edges.l0 k l1 ([] : List (S114)) l0 (l0.length : Int) 0) = some r := h
 clear h
 have H' := zM H
 clear H
 go_enter Tryz.func79, Tryz.ntmps79
 go_wp2
 go_loopg [5, 12] k (fun kq v5 v12 w' => ∃ (x5_1 : List (S114)) (x12_1 : Int), v12 = .int .i64 x12_1 ∧ Aside0 (span_edges.l0 kq l1 x5_1 l0 (l0.length : Int) x12_1 = some r) ∧ Aside0 (kq ≤ k) ∧ Aside0 (Kd.R k114 114 w' w.heap.size (fun _ => True) v5 x5_1) ∧ Aside0 (Below w.heap.size w w'))
 case atStart => exact ⟨(([] : List (S114))), (0), (by first | rfl | (simp; done) | (simp [*]; done)), H', ⟨Nat.le_refl _⟩, ⟨by first | exact Kd.R_nil _ _ _ _ _ | exact Kd.N_nil _ _ _ _ _ | exact Kd.V_nil _ _ _ _ _ | exact Kd.Q_nil _ _ _ _ _ | exact Kd.S_nil _ _ _ _ _⟩, ⟨by repeat (first | (with_reducible first | exact HB.1 | apply zA | apply zN | apply z1) | exact HB.1)⟩⟩
 case round =>
  clear H'
  try clear c1
  try clear p2
  obtain ⟨x5_1, x12_1, rfl, HA, HK1, HO_5, HB⟩ := hrel
  cases gk with
  | zero => exact absurd HA.out (by simp [span_edges.l0])
  | succ k1 =>
   have H := HA.out
   clear HA
   simp only [span_edges.l0] at H
   by_cases c3 : x12_1 < (l0.length : Int)
   ·rw [if_pos c3] at H
    have c3b0 : decide (x12_1 < (l0.length : Int)) = true := decide_eq_true c3
    clear c3
    by_cases c4 : 0 ≤ x12_1
    case neg =>
     rw [if_neg c4] at H
     exact absurd H (by simp)
    rw [if_pos c4] at H
    have c4b0 : decide (0 ≤ x12_1) = true := decide_eq_true c4
    clear c4
    by_cases c5 : x12_1 < (l0.length : Int)
    case neg =>
     rw [if_neg c5] at H
     exact absurd H (by simp)
    rw [if_pos c5] at H
    have c5b0 : decide (x12_1 < (l0.length : Int)) = true := decide_eq_true c5
    clear c5
    replace H := Option.bind_eq_some_iff.mp H
    obtain ⟨t596, A60, H⟩ := H
    have A6 := zM A60
    clear A60
    by_cases c7 : t596 = true
    ·subst c7
     have H1 : ((some (([(⟨(rd_T33 l0 x12_1).f0, 1, 0⟩ : S114), (⟨(rd_T33 l0 x12_1).f1, (-1), 0⟩ : S114)] : List (S114)) : List (S114))).bind fun y597 => (if x5_1.length + y597.length < 5864062014805 then (span_edges.l0 k1 l1 (x5_1 ++ y597) l0 (l0.length : Int) (wrap64 (x12_1 + 1))) else (none))) = some r := by rw [if_pos rfl] at H; exact H
     clear H
     have H := H1
     clear H1
     obtain ⟨y597, hy597⟩ : ∃ y_ : List (S114), y_ = (([(⟨(rd_T33 l0 x12_1).f0, 1, 0⟩ : S114), (⟨(rd_T33 l0 x12_1).f1, (-1), 0⟩ : S114)] : List (S114))) := ⟨_, rfl⟩
     replace H : (if x5_1.length + y597.length < 5864062014805 then (span_edges.l0 k1 l1 (x5_1 ++ y597) l0 (l0.length : Int) (wrap64 (x12_1 + 1))) else (none)) = some r := by first | (rw [hy597]; with_reducible exact H) | (have H2_ := (Option.bind_some _ _).symm.trans H; rw [hy597]; with_reducible exact H2_) | (have H2_ := (Option.bind_some _ _).symm.trans H; with_reducible exact H2_) | with_reducible exact H | (rw [hy597]; exact H) | exact H
     have Ny597 := zM hy597
     clear hy597
     by_cases c8 : x5_1.length + y597.length < 5864062014805
     case neg =>
      rw [if_neg c8] at H
      exact absurd H (by simp)
     rw [if_pos c8] at H
     have LMc8 := zM c8
     clear c8
     obtain ⟨y600, hy600⟩ : ∃ y_ : List (S114), y_ = (x5_1 ++ y597) := ⟨_, rfl⟩
     replace H : (span_edges.l0 k1 l1 y600 l0 (l0.length : Int) (wrap64 (x12_1 + 1))) = some r := by first | (rw [hy600]; with_reducible exact H) | (have H2_ := (Option.bind_some _ _).symm.trans H; rw [hy600]; with_reducible exact H2_) | (have H2_ := (Option.bind_some _ _).symm.trans H; with_reducible exact H2_) | with_reducible exact H | (rw [hy600]; exact H) | exact H
     have Ny600 := zM hy600
     clear hy600
     have H' := zM H
     clear H
     have p594 : 0 ≤ (x12_1 : Int) := of_decide_eq_true (by first | (with_reducible assumption) | assumption)
     have q594 : x12_1 < (l0.length : Int) := of_decide_eq_true (by first | (with_reducible assumption) | assumption)
     obtain ⟨ad594, e594, hx594_0, hx594_1⟩ := at_T33 HR0.out x12_1 p594 q594
     cases e594
     replace hx594_0 := (HB.1.cell (World.block_lt_of_cell? w _ hx594_0)).trans hx594_0
     replace hx594_1 := (HB.1.cell (World.block_lt_of_cell? w _ hx594_1)).trans hx594_1
     replace p594 := eq_true p594
     replace q594 := eq_true q594
     go_wp2_with (first | ((with_reducible refine gate_dst (N := 7) rfl ?_); refine box_event ?hg (N := 7) ?hd (cs := #[.int .i64 0, .int .i64 0]) (t := 33) ?hr ?_; (case hd => rfl); (case hg => rfl); (case hr => first | (go_simp; done) | (go_simp; rfl)); intro gb595 hg w9 hbox hb; have n0_ := zM (Kd.R_below (by (with_reducible repeat (first | apply Kd.R_alloc | apply Kd.R_drewN | apply Kd.R_drew)); exact HO_5.out) hb); have n1_ := zM (zT (by repeat (first | (with_reducible first | exact HB.1 | apply zA | apply zN | apply z1) | exact HB.1)) hb); have n2_ := zM (hbox); have n3_ := zM ((by rw [hg]; exact (zZ (by repeat (first | (with_reducible first | exact HB.1 | apply zA | apply zN | apply z1) | exact HB.1))) : w.heap.size ≤ gb595)); have n4_ := n3_; clear HO_5; clear HB; have HO_5 := n0_; have HB := n1_; have BK595 := n2_; have GW595 := n3_; have GE595 := n4_; clear n0_ n1_ n2_ n3_ n4_; clear hb hbox hg; have hcz10_0 : w9.cell? ⟨gb595, 0, none⟩ = some (.int .i64 0) := (kC BK595.1 0).trans rfl; have hcz10_1 : w9.cell? ⟨gb595, 1, none⟩ = some (.int .i64 0) := (kC BK595.1 1).trans rfl; have hfz10_0 := kF BK595.1 0; have hfz10_1 := kF BK595.1 1) | ((with_reducible refine gate_callee (f := 37) rfl ?_); refine goesL_ (some 17) rfl rfl Tryz.func37 (by kernel_rfl) rfl #[.agg #[.int .i64 ((rd_T33 l0 x12_1).f0), .int .i64 ((rd_T33 l0 x12_1).f1)]] rfl (by (try simp only [List.map_toArray, List.map_cons, List.map_nil]); first | done | rfl | (simp only [List.length_drop, List.length_take]; rfl)) ?_; (with_reducible refine (period_Valid.calls ((rd_T33 l0 x12_1).f0) ((rd_T33 l0 x12_1).f1) true _ A6.out ?gw_).mono ?_); (case gw_ => first | exact HG.1 | (refine GW.below HG.1 ?_; repeat (first | (with_reducible first | exact HB.1 | apply zA | apply zN | apply z1 | refine zS ?_ GE595.1) | exact HB.1))); rintro e w11 ⟨rfl, hb⟩; refine ⟨_, rfl, ?_⟩; have n0_ := zM (Kd.R_below (by (with_reducible repeat (first | apply Kd.R_alloc | apply Kd.R_drewN | apply Kd.R_drew)); exact (Kd.R_mono (Kd.R_far (p := ⟨gb595, 1, none⟩) (Kd.R_far (p := ⟨gb595, 0, none⟩) (Kd.R_types HO_5.out BK595.1 (by decide)) (fun _ hk => hk.2) (.int .i64 ((rd_T33 l0 x12_1).f0))) (fun _ hk => hk.2) (.int .i64 ((rd_T33 l0 x12_1).f1))) (fun _ h_ => h_.1))) hb); have n1_ := zM (kB (g := gb595) (o := .cells #[.int .i64 ((rd_T33 l0 x12_1).f0), .int .i64 ((rd_T33 l0 x12_1).f1)] 33 (0, 0)) (by (with_reducible repeat (first | refine kN ?_ _ | refine kD ?_ | refine kA ?_ _)); refine blk_put (cs := #[.int .i64 ((rd_T33 l0 x12_1).f0), .int .i64 0]) ?_ 1 _ rfl; (with_reducible repeat (first | refine kN ?_ _ | refine kD ?_ | refine kA ?_ _)); refine blk_put (cs := #[.int .i64 0, .int .i64 0]) ?_ 0 _ rfl; (with_reducible repeat (first | refine kN ?_ _ | refine kD ?_ | refine kA ?_ _)); exact BK595.1) hb); have n2_ := zM (zT (by repeat (first | (with_reducible first | exact HB.1 | apply zA | apply zN | apply z1 | refine zS ?_ GE595.1) | exact HB.1)) hb); clear HO_5; clear BK595; clear HB; have HO_5 := n0_; have BK595 := n1_; have HB := n2_; clear n0_ n1_ n2_; (try clear hb); (try clear hb2); (try clear hk); (try clear hi); have hcz12_0 : w11.cell? ⟨gb595, 0, none⟩ = some (.int .i64 ((rd_T33 l0 x12_1).f0)) := (kC BK595.1 0).trans rfl; have hcz12_1 : w11.cell? ⟨gb595, 1, none⟩ = some (.int .i64 ((rd_T33 l0 x12_1).f1)) := (kC BK595.1 1).trans rfl; have hfz12_0 := kF BK595.1 0; have hfz12_1 := kF BK595.1 1) | ((with_reducible refine gate_dst (N := 25) rfl ?_); refine Kd.R_lit k114 _ 114 ?hg (N := 25) ?hd (xs := ([(⟨(rd_T33 l0 x12_1).f0, 1, 0⟩ : S114), (⟨(rd_T33 l0 x12_1).f1, (-1), 0⟩ : S114)] : List (S114))) (inner := [.int .i64 ((rd_T33 l0 x12_1).f0), .int .i64 1, .int .i64 0, .int .i64 ((rd_T33 l0 x12_1).f1), .int .i64 (-1), .int .i64 0]) (ok := fun _ => True) (okp := fun _ => True) ?hr ?hp (fun _ hk => hk) trivial (Below.refl _ _) (Nat.le_refl _) (by simp) ?_; (case hd => rfl); (case hg => rfl); (case hr => first | (go_simp; done) | (go_simp; rfl)); (case hp => exact (Reps.c3 (show Kd.M k114 _ _ _ (⟨(rd_T33 l0 x12_1).f0, 1, 0⟩ : S114) [.int .i64 ((rd_T33 l0 x12_1).f0), .int .i64 1, .int .i64 0] from (k114_mkM _ _ _ (⟨(rd_T33 l0 x12_1).f0, 1, 0⟩ : S114) )) (Reps.c3 (show Kd.M k114 _ _ _ (⟨(rd_T33 l0 x12_1).f1, (-1), 0⟩ : S114) [.int .i64 ((rd_T33 l0 x12_1).f1), .int .i64 (-1), .int .i64 0] from (k114_mkM _ _ _ (⟨(rd_T33 l0 x12_1).f1, (-1), 0⟩ : S114) )) (Reps.none _ _)))); intro v598 w13 ho14 hb hg_ hnew_; clear hg_ hnew_; (first | rw [← Ny597.out] at ho14 | (simp only [Int.reduceToNat] at ho14; rw [← Ny597.out] at ho14)); have n0_ := zM (Kd.R_elder' (by (with_reducible repeat (first | apply Kd.R_alloc | apply Kd.R_drewN | apply Kd.R_drew)); exact HO_5.out) (Kd.R_base ho14) hb); have n1_ := zM (Kd.R_lower (Kd.R_new' ho14 (Kd.R_lt (by (with_reducible repeat (first | apply Kd.R_alloc | apply Kd.R_drewN | apply Kd.R_drew)); exact HO_5.out))) (zZ (by repeat (first | (with_reducible first | exact HB.1 | apply zA | apply zN | apply z1 | refine zS ?_ GE595.1) | exact HB.1)))); have n2_ := zM (kB (g := gb595) (o := .cells #[.int .i64 ((rd_T33 l0 x12_1).f0), .int .i64 ((rd_T33 l0 x12_1).f1)] 33 (0, 0)) (by (with_reducible repeat (first | refine kN ?_ _ | refine kD ?_ | refine kA ?_ _)); exact BK595.1) hb); have n3_ := zM (zT (by repeat (first | (with_reducible first | exact HB.1 | apply zA | apply zN | apply z1 | refine zS ?_ GE595.1) | exact HB.1)) hb); clear HO_5; clear BK595; clear HB; have HO_5 := n0_; have HO599 := n1_; have BK595 := n2_; have HB := n3_; clear n0_ n1_ n2_ n3_; clear hb ho14; obtain ⟨Ao16, co16, eo16⟩ := Kd.R_slice HO599.out; subst eo16) | ((with_reducible refine gate_builtin (b := .append) (xs := #[.tmp 18, .tmp 25]) rfl ?_); at_builtin; refine Kd.R_append_rows k114 (w0 := w) w.heap.size rfl (.tmp 18) (.tmp 25) 111 114 (.agg #[(.int .i64 0), (.int .i64 0), (.int .i64 0)]) 24 rfl Tryz.underlying111 info114 rfl (by decide) (by omega) u5 x5_1 y597 _ _ _ (fun k_ => some k_ ≠ (.slice Ao16 y597.length co16 : Value).ownBlock) (fun _ => False) rfl rfl ?aO ?aR (fun _ _ h => h) (fun _ h => h.elim) ?aF ?aB ?aS ?aL ?_; (case aR => repeat (first | exact (Kd.R_reads' HO599.out).2.2 | (with_reducible refine Kd.C_alloc ?_ _) | (with_reducible refine Kd.C_drewN ?_ _) | (with_reducible refine Kd.C_drew ?_))); (case aB => exact (by repeat (first | (with_reducible first | exact HB.1 | apply zA | apply zN | apply z1 | refine zS ?_ GE595.1) | exact HB.1))); (case aF => exact (fun k_ hk => Kd.fresh' (Kd.R_lt (by (with_reducible repeat (first | apply Kd.R_alloc | apply Kd.R_drewN | apply Kd.R_drew)); exact HO599.out)) k_ hk)); (case aO => exact (by (with_reducible repeat (first | apply Kd.R_alloc | apply Kd.R_drewN | apply Kd.R_drew)); exact Kd.R_mono HO_5.out (fun _ hk => hk.2))); (case aS => exact (zZ (by repeat (first | (with_reducible first | exact HB.1 | apply zA | apply zN | apply z1 | refine zS ?_ GE595.1) | exact HB.1)))); (case aL => have := LMc8.out; omega); intro v601 w15 ho hb hg hat; rw [← Ny600.out] at ho; have n0_ := zM (blk_grown (g := gb595) (o := .cells #[.int .i64 ((rd_T33 l0 x12_1).f0), .int .i64 ((rd_T33 l0 x12_1).f1)] 33 (0, 0)) (by (with_reducible repeat (first | refine kN ?_ _ | refine kD ?_ | refine kA ?_ _)); exact BK595.1) hg (Kd.R_ne HO_5.out BK595.1 (by decide))); have n1_ := zM (Kd.R_after (ok := (fun _ => True)) (by (with_reducible repeat (first | apply Kd.R_alloc | apply Kd.R_drewN | apply Kd.R_drew)); exact HO599.out) hg hat); have n2_ := zM (hb); have n3_ := zM (ho); clear BK595; clear HO599; clear HB; clear HO_5; have BK595 := n0_; have HO599 := n1_; have HB := n2_; have HO602 := n3_; clear n0_ n1_ n2_ n3_; clear ho hb hg hat))
     go_roundg k1
     case measure => have := HK1.out; omega
     case rel => exact ⟨(y600), (wrap64 (x12_1 + 1)), (by first | rfl | (simp; done) | (simp [*]; done)), H', ⟨by have := HK1.out; omega⟩, ⟨by (with_reducible repeat (first | apply Kd.R_alloc | apply Kd.R_drewN | apply Kd.R_drew)); exact Kd.R_mono HO602.out (fun _ hk => trivial)⟩, ⟨by repeat (first | (with_reducible first | exact HB.1 | apply zA | apply zN | apply z1 | refine zS ?_ GE595.1) | exact HB.1)⟩⟩
    ·replace c7 := Bool.eq_false_iff.mpr c7
     subst c7
     have H1 : (span_edges.l0 k1 l1 x5_1 l0 (l0.length : Int) (wrap64 (x12_1 + 1))) = some r := by rw [if_neg (show ¬ (false = true) by decide)] at H; exact H
     clear H
     have H := H1
     clear H1
     have H' := zM H
     clear H
     have p594 : 0 ≤ (x12_1 : Int) := of_decide_eq_true (by first | (with_reducible assumption) | assumption)
     have q594 : x12_1 < (l0.length : Int) := of_decide_eq_true (by first | (with_reducible assumption) | assumption)
     obtain ⟨ad594, e594, hx594_0, hx594_1⟩ := at_T33 HR0.out x12_1 p594 q594
     cases e594
     replace hx594_0 := (HB.1.cell (World.block_lt_of_cell? w _ hx594_0)).trans hx594_0
     replace hx594_1 := (HB.1.cell (World.block_lt_of_cell? w _ hx594_1)).trans hx594_1
     replace p594 := eq_true p594
     replace q594 := eq_true q594
     go_wp2_with (first | ((with_reducible refine gate_dst (N := 7) rfl ?_); refine box_event ?hg (N := 7) ?hd (cs := #[.int .i64 0, .int .i64 0]) (t := 33) ?hr ?_; (case hd => rfl); (case hg => rfl); (case hr => first | (go_simp; done) | (go_simp; rfl)); intro gb595 hg w17 hbox hb; have n0_ := zM (Kd.R_below (by (with_reducible repeat (first | apply Kd.R_alloc | apply Kd.R_drewN | apply Kd.R_drew)); exact HO_5.out) hb); have n1_ := zM (zT (by repeat (first | (with_reducible first | exact HB.1 | apply zA | apply zN | apply z1) | exact HB.1)) hb); have n2_ := zM (hbox); have n3_ := zM ((by rw [hg]; exact (zZ (by repeat (first | (with_reducible first | exact HB.1 | apply zA | apply zN | apply z1) | exact HB.1))) : w.heap.size ≤ gb595)); have n4_ := n3_; clear HO_5; clear HB; have HO_5 := n0_; have HB := n1_; have BK595 := n2_; have GW595 := n3_; have GE595 := n4_; clear n0_ n1_ n2_ n3_ n4_; clear hb hbox hg; have hcz18_0 : w17.cell? ⟨gb595, 0, none⟩ = some (.int .i64 0) := (kC BK595.1 0).trans rfl; have hcz18_1 : w17.cell? ⟨gb595, 1, none⟩ = some (.int .i64 0) := (kC BK595.1 1).trans rfl; have hfz18_0 := kF BK595.1 0; have hfz18_1 := kF BK595.1 1) | ((with_reducible refine gate_callee (f := 37) rfl ?_); refine goesL_ (some 17) rfl rfl Tryz.func37 (by kernel_rfl) rfl #[.agg #[.int .i64 ((rd_T33 l0 x12_1).f0), .int .i64 ((rd_T33 l0 x12_1).f1)]] rfl (by (try simp only [List.map_toArray, List.map_cons, List.map_nil]); first | done | rfl | (simp only [List.length_drop, List.length_take]; rfl)) ?_; (with_reducible refine (period_Valid.calls ((rd_T33 l0 x12_1).f0) ((rd_T33 l0 x12_1).f1) false _ A6.out ?gw_).mono ?_); (case gw_ => first | exact HG.1 | (refine GW.below HG.1 ?_; repeat (first | (with_reducible first | exact HB.1 | apply zA | apply zN | apply z1 | refine zS ?_ GE595.1) | exact HB.1))); rintro e w19 ⟨rfl, hb⟩; refine ⟨_, rfl, ?_⟩; have n0_ := zM (Kd.R_below (by (with_reducible repeat (first | apply Kd.R_alloc | apply Kd.R_drewN | apply Kd.R_drew)); exact (Kd.R_mono (Kd.R_far (p := ⟨gb595, 1, none⟩) (Kd.R_far (p := ⟨gb595, 0, none⟩) (Kd.R_types HO_5.out BK595.1 (by decide)) (fun _ hk => hk.2) (.int .i64 ((rd_T33 l0 x12_1).f0))) (fun _ hk => hk.2) (.int .i64 ((rd_T33 l0 x12_1).f1))) (fun _ h_ => h_.1))) hb); have n1_ := zM (kB (g := gb595) (o := .cells #[.int .i64 ((rd_T33 l0 x12_1).f0), .int .i64 ((rd_T33 l0 x12_1).f1)] 33 (0, 0)) (by (with_reducible repeat (first | refine kN ?_ _ | refine kD ?_ | refine kA ?_ _)); refine blk_put (cs := #[.int .i64 ((rd_T33 l0 x12_1).f0), .int .i64 0]) ?_ 1 _ rfl; (with_reducible repeat (first | refine kN ?_ _ | refine kD ?_ | refine kA ?_ _)); refine blk_put (cs := #[.int .i64 0, .int .i64 0]) ?_ 0 _ rfl; (with_reducible repeat (first | refine kN ?_ _ | refine kD ?_ | refine kA ?_ _)); exact BK595.1) hb); have n2_ := zM (zT (by repeat (first | (with_reducible first | exact HB.1 | apply zA | apply zN | apply z1 | refine zS ?_ GE595.1) | exact HB.1)) hb); clear HO_5; clear BK595; clear HB; have HO_5 := n0_; have BK595 := n1_; have HB := n2_; clear n0_ n1_ n2_; (try clear hb); (try clear hb2); (try clear hk); (try clear hi)))
     go_roundg k1
     case measure => have := HK1.out; omega
     case rel => exact ⟨(x5_1), (wrap64 (x12_1 + 1)), (by first | rfl | (simp; done) | (simp [*]; done)), H', ⟨by have := HK1.out; omega⟩, ⟨by (with_reducible repeat (first | apply Kd.R_alloc | apply Kd.R_drewN | apply Kd.R_drew)); exact HO_5.out⟩, ⟨by repeat (first | (with_reducible first | exact HB.1 | apply zA | apply zN | apply z1 | refine zS ?_ GE595.1) | exact HB.1)⟩⟩
   ·rw [if_neg c3] at H
    have c3b0 : decide (x12_1 < (l0.length : Int)) = false := decide_eq_false c3
    clear c3
    have H' := zM H
    clear H
    go_wp2
    go_loopg [5, 30] k1 (fun kq v5 v30 w' => ∃ (x5_2 : List (S114)) (x30_2 : Int), v30 = .int .i64 x30_2 ∧ Aside0 (span_edges.l1 kq x5_2 l1 (l1.length : Int) x30_2 = some r) ∧ Aside0 (kq ≤ k1) ∧ Aside0 (Kd.R k114 114 w' w.heap.size (fun _ => True) v5 x5_2) ∧ Aside0 (Below w.heap.size w w'))
    case atStart => exact ⟨(x5_1), (0), (by first | rfl | (simp; done) | (simp [*]; done)), H', ⟨Nat.le_refl _⟩, ⟨by (with_reducible repeat (first | apply Kd.R_alloc | apply Kd.R_drewN | apply Kd.R_drew)); exact HO_5.out⟩, ⟨by repeat (first | (with_reducible first | exact HB.1 | apply zA | apply zN | apply z1) | exact HB.1)⟩⟩
    case round =>
     clear H'
     try clear c1
     try clear p2
     try clear c3
     try clear c3b0
     try clear c4
     try clear c4b0
     try clear c5
     try clear c5b0
     try clear p5
     try clear q5
     try clear hx5
     try clear p6
     try clear c7
     try clear c8
     try clear hcz10_0
     try clear hcz10_1
     try clear hcz12_0
     try clear hcz12_1
     try clear hcz18_0
     try clear hcz18_1
     try clear hfz10_0
     try clear hfz10_1
     try clear hfz12_0
     try clear hfz12_1
     try clear hfz18_0
     try clear hfz18_1
     try clear hx594_0
     try clear hx594_1
     try clear p2
     try clear p594
     try clear q594
     obtain ⟨x5_2, x30_2, rfl, HA, HK2, HO_5, HB⟩ := hrel
     cases gk with
     | zero => exact absurd HA.out (by simp [span_edges.l1])
     | succ k2 =>
      have H := HA.out
      clear HA
      simp only [span_edges.l1] at H
      by_cases c20 : x30_2 < (l1.length : Int)
      ·rw [if_pos c20] at H
       have c20b0 : decide (x30_2 < (l1.length : Int)) = true := decide_eq_true c20
       clear c20
       by_cases c21 : 0 ≤ x30_2
       case neg =>
        rw [if_neg c21] at H
        exact absurd H (by simp)
       rw [if_pos c21] at H
       have c21b0 : decide (0 ≤ x30_2) = true := decide_eq_true c21
       clear c21
       by_cases c22 : x30_2 < (l1.length : Int)
       case neg =>
        rw [if_neg c22] at H
        exact absurd H (by simp)
       rw [if_pos c22] at H
       have c22b0 : decide (x30_2 < (l1.length : Int)) = true := decide_eq_true c22
       clear c22
       replace H := Option.bind_eq_some_iff.mp H
       obtain ⟨t605, A230, H⟩ := H
       have A23 := zM A230
       clear A230
       by_cases c24 : t605 = true
       ·subst c24
        have H1 : ((some (([(⟨(rd_T33 l1 x30_2).f0, 0, 1⟩ : S114), (⟨(rd_T33 l1 x30_2).f1, 0, (-1)⟩ : S114)] : List (S114)) : List (S114))).bind fun y606 => (if x5_2.length + y606.length < 5864062014805 then (span_edges.l1 k2 (x5_2 ++ y606) l1 (l1.length : Int) (wrap64 (x30_2 + 1))) else (none))) = some r := by rw [if_pos rfl] at H; exact H
        clear H
        have H := H1
        clear H1
        obtain ⟨y606, hy606⟩ : ∃ y_ : List (S114), y_ = (([(⟨(rd_T33 l1 x30_2).f0, 0, 1⟩ : S114), (⟨(rd_T33 l1 x30_2).f1, 0, (-1)⟩ : S114)] : List (S114))) := ⟨_, rfl⟩
        replace H : (if x5_2.length + y606.length < 5864062014805 then (span_edges.l1 k2 (x5_2 ++ y606) l1 (l1.length : Int) (wrap64 (x30_2 + 1))) else (none)) = some r := by first | (rw [hy606]; with_reducible exact H) | (have H2_ := (Option.bind_some _ _).symm.trans H; rw [hy606]; with_reducible exact H2_) | (have H2_ := (Option.bind_some _ _).symm.trans H; with_reducible exact H2_) | with_reducible exact H | (rw [hy606]; exact H) | exact H
        have Ny606 := zM hy606
        clear hy606
        by_cases c25 : x5_2.length + y606.length < 5864062014805
        case neg =>
         rw [if_neg c25] at H
         exact absurd H (by simp)
        rw [if_pos c25] at H
        have LMc25 := zM c25
        clear c25
        obtain ⟨y609, hy609⟩ : ∃ y_ : List (S114), y_ = (x5_2 ++ y606) := ⟨_, rfl⟩
        replace H : (span_edges.l1 k2 y609 l1 (l1.length : Int) (wrap64 (x30_2 + 1))) = some r := by first | (rw [hy609]; with_reducible exact H) | (have H2_ := (Option.bind_some _ _).symm.trans H; rw [hy609]; with_reducible exact H2_) | (have H2_ := (Option.bind_some _ _).symm.trans H; with_reducible exact H2_) | with_reducible exact H | (rw [hy609]; exact H) | exact H
        have Ny609 := zM hy609
        clear hy609
        have H' := zM H
        clear H
        have p603 : 0 ≤ (x30_2 : Int) := of_decide_eq_true (by first | (with_reducible assumption) | assumption)
        have q603 : x30_2 < (l1.length : Int) := of_decide_eq_true (by first | (with_reducible assumption) | assumption)
        obtain ⟨ad603, e603, hx603_0, hx603_1⟩ := at_T33 HR1.out x30_2 p603 q603
        cases e603
        replace hx603_0 := (HB.1.cell (World.block_lt_of_cell? w _ hx603_0)).trans hx603_0
        replace hx603_1 := (HB.1.cell (World.block_lt_of_cell? w _ hx603_1)).trans hx603_1
        replace p603 := eq_true p603
        replace q603 := eq_true q603
        go_wp2_with (first | ((with_reducible refine gate_dst (N := 9) rfl ?_); refine box_event ?hg (N := 9) ?hd (cs := #[.int .i64 0, .int .i64 0]) (t := 33) ?hr ?_; (case hd => rfl); (case hg => rfl); (case hr => first | (go_simp; done) | (go_simp; rfl)); intro gb604 hg w26 hbox hb; have n0_ := zM (Kd.R_below (by (with_reducible repeat (first | apply Kd.R_alloc | apply Kd.R_drewN | apply Kd.R_drew)); exact HO_5.out) hb); have n1_ := zM (zT (by repeat (first | (with_reducible first | exact HB.1 | apply zA | apply zN | apply z1) | exact HB.1)) hb); have n2_ := zM (hbox); have n3_ := zM ((by rw [hg]; exact (zZ (by repeat (first | (with_reducible first | exact HB.1 | apply zA | apply zN | apply z1) | exact HB.1))) : w.heap.size ≤ gb604)); have n4_ := n3_; clear HO_5; clear HB; have HO_5 := n0_; have HB := n1_; have BK604 := n2_; have GW604 := n3_; have GE604 := n4_; clear n0_ n1_ n2_ n3_ n4_; clear hb hbox hg; have hcz27_0 : w26.cell? ⟨gb604, 0, none⟩ = some (.int .i64 0) := (kC BK604.1 0).trans rfl; have hcz27_1 : w26.cell? ⟨gb604, 1, none⟩ = some (.int .i64 0) := (kC BK604.1 1).trans rfl; have hfz27_0 := kF BK604.1 0; have hfz27_1 := kF BK604.1 1) | ((with_reducible refine gate_callee (f := 37) rfl ?_); refine goesL_ (some 35) rfl rfl Tryz.func37 (by kernel_rfl) rfl #[.agg #[.int .i64 ((rd_T33 l1 x30_2).f0), .int .i64 ((rd_T33 l1 x30_2).f1)]] rfl (by (try simp only [List.map_toArray, List.map_cons, List.map_nil]); first | done | rfl | (simp only [List.length_drop, List.length_take]; rfl)) ?_; (with_reducible refine (period_Valid.calls ((rd_T33 l1 x30_2).f0) ((rd_T33 l1 x30_2).f1) true _ A23.out ?gw_).mono ?_); (case gw_ => first | exact HG.1 | (refine GW.below HG.1 ?_; repeat (first | (with_reducible first | exact HB.1 | apply zA | apply zN | apply z1 | refine zS ?_ GE604.1) | exact HB.1))); rintro e w28 ⟨rfl, hb⟩; refine ⟨_, rfl, ?_⟩; have n0_ := zM (Kd.R_below (by (with_reducible repeat (first | apply Kd.R_alloc | apply Kd.R_drewN | apply Kd.R_drew)); exact (Kd.R_mono (Kd.R_far (p := ⟨gb604, 1, none⟩) (Kd.R_far (p := ⟨gb604, 0, none⟩) (Kd.R_types HO_5.out BK604.1 (by decide)) (fun _ hk => hk.2) (.int .i64 ((rd_T33 l1 x30_2).f0))) (fun _ hk => hk.2) (.int .i64 ((rd_T33 l1 x30_2).f1))) (fun _ h_ => h_.1))) hb); have n1_ := zM (kB (g := gb604) (o := .cells #[.int .i64 ((rd_T33 l1 x30_2).f0), .int .i64 ((rd_T33 l1 x30_2).f1)] 33 (0, 0)) (by (with_reducible repeat (first | refine kN ?_ _ | refine kD ?_ | refine kA ?_ _)); refine blk_put (cs := #[.int .i64 ((rd_T33 l1 x30_2).f0), .int .i64 0]) ?_ 1 _ rfl; (with_reducible repeat (first | refine kN ?_ _ | refine kD ?_ | refine kA ?_ _)); refine blk_put (cs := #[.int .i64 0, .int .i64 0]) ?_ 0 _ rfl; (with_reducible repeat (first | refine kN ?_ _ | refine kD ?_ | refine kA ?_ _)); exact BK604.1) hb); have n2_ := zM (zT (by repeat (first | (with_reducible first | exact HB.1 | apply zA | apply zN | apply z1 | refine zS ?_ GE604.1) | exact HB.1)) hb); clear HO_5; clear BK604; clear HB; have HO_5 := n0_; have BK604 := n1_; have HB := n2_; clear n0_ n1_ n2_; (try clear hb); (try clear hb2); (try clear hk); (try clear hi); have hcz29_0 : w28.cell? ⟨gb604, 0, none⟩ = some (.int .i64 ((rd_T33 l1 x30_2).f0)) := (kC BK604.1 0).trans rfl; have hcz29_1 : w28.cell? ⟨gb604, 1, none⟩ = some (.int .i64 ((rd_T33 l1 x30_2).f1)) := (kC BK604.1 1).trans rfl; have hfz29_0 := kF BK604.1 0; have hfz29_1 := kF BK604.1 1) | ((with_reducible refine gate_dst (N := 43) rfl ?_); refine Kd.R_lit k114 _ 114 ?hg (N := 43) ?hd (xs := ([(⟨(rd_T33 l1 x30_2).f0, 0, 1⟩ : S114), (⟨(rd_T33 l1 x30_2).f1, 0, (-1)⟩ : S114)] : List (S114))) (inner := [.int .i64 ((rd_T33 l1 x30_2).f0), .int .i64 0, .int .i64 1, .int .i64 ((rd_T33 l1 x30_2).f1), .int .i64 0, .int .i64 (-1)]) (ok := fun _ => True) (okp := fun _ => True) ?hr ?hp (fun _ hk => hk) trivial (Below.refl _ _) (Nat.le_refl _) (by simp) ?_; (case hd => rfl); (case hg => rfl); (case hr => first | (go_simp; done) | (go_simp; rfl)); (case hp => exact (Reps.c3 (show Kd.M k114 _ _ _ (⟨(rd_T33 l1 x30_2).f0, 0, 1⟩ : S114) [.int .i64 ((rd_T33 l1 x30_2).f0), .int .i64 0, .int .i64 1] from (k114_mkM _ _ _ (⟨(rd_T33 l1 x30_2).f0, 0, 1⟩ : S114) )) (Reps.c3 (show Kd.M k114 _ _ _ (⟨(rd_T33 l1 x30_2).f1, 0, (-1)⟩ : S114) [.int .i64 ((rd_T33 l1 x30_2).f1), .int .i64 0, .int .i64 (-1)] from (k114_mkM _ _ _ (⟨(rd_T33 l1 x30_2).f1, 0, (-1)⟩ : S114) )) (Reps.none _ _)))); intro v607 w30 ho31 hb hg_ hnew_; clear hg_ hnew_; (first | rw [← Ny606.out] at ho31 | (simp only [Int.reduceToNat] at ho31; rw [← Ny606.out] at ho31)); have n0_ := zM (Kd.R_elder' (by (with_reducible repeat (first | apply Kd.R_alloc | apply Kd.R_drewN | apply Kd.R_drew)); exact HO_5.out) (Kd.R_base ho31) hb); have n1_ := zM (Kd.R_lower (Kd.R_new' ho31 (Kd.R_lt (by (with_reducible repeat (first | apply Kd.R_alloc | apply Kd.R_drewN | apply Kd.R_drew)); exact HO_5.out))) (zZ (by repeat (first | (with_reducible first | exact HB.1 | apply zA | apply zN | apply z1 | refine zS ?_ GE604.1) | exact HB.1)))); have n2_ := zM (kB (g := gb604) (o := .cells #[.int .i64 ((rd_T33 l1 x30_2).f0), .int .i64 ((rd_T33 l1 x30_2).f1)] 33 (0, 0)) (by (with_reducible repeat (first | refine kN ?_ _ | refine kD ?_ | refine kA ?_ _)); exact BK604.1) hb); have n3_ := zM (zT (by repeat (first | (with_reducible first | exact HB.1 | apply zA | apply zN | apply z1 | refine zS ?_ GE604.1) | exact HB.1)) hb); clear HO_5; clear BK604; clear HB; have HO_5 := n0_; have HO608 := n1_; have BK604 := n2_; have HB := n3_; clear n0_ n1_ n2_ n3_; clear hb ho31; obtain ⟨Ao33, co33, eo33⟩ := Kd.R_slice HO608.out; subst eo33) | ((with_reducible refine gate_builtin (b := .append) (xs := #[.tmp 36, .tmp 43]) rfl ?_); at_builtin; refine Kd.R_append_rows k114 (w0 := w) w.heap.size rfl (.tmp 36) (.tmp 43) 111 114 (.agg #[(.int .i64 0), (.int .i64 0), (.int .i64 0)]) 24 rfl Tryz.underlying111 info114 rfl (by decide) (by omega) u5 x5_2 y606 _ _ _ (fun k_ => some k_ ≠ (.slice Ao33 y606.length co33 : Value).ownBlock) (fun _ => False) rfl rfl ?aO ?aR (fun _ _ h => h) (fun _ h => h.elim) ?aF ?aB ?aS ?aL ?_; (case aR => repeat (first | exact (Kd.R_reads' HO608.out).2.2 | (with_reducible refine Kd.C_alloc ?_ _) | (with_reducible refine Kd.C_drewN ?_ _) | (with_reducible refine Kd.C_drew ?_))); (case aB => exact (by repeat (first | (with_reducible first | exact HB.1 | apply zA | apply zN | apply z1 | refine zS ?_ GE604.1) | exact HB.1))); (case aF => exact (fun k_ hk => Kd.fresh' (Kd.R_lt (by (with_reducible repeat (first | apply Kd.R_alloc | apply Kd.R_drewN | apply Kd.R_drew)); exact HO608.out)) k_ hk)); (case aO => exact (by (with_reducible repeat (first | apply Kd.R_alloc | apply Kd.R_drewN | apply Kd.R_drew)); exact Kd.R_mono HO_5.out (fun _ hk => hk.2))); (case aS => exact (zZ (by repeat (first | (with_reducible first | exact HB.1 | apply zA | apply zN | apply z1 | refine zS ?_ GE604.1) | exact HB.1)))); (case aL => have := LMc25.out; omega); intro v610 w32 ho hb hg hat; rw [← Ny609.out] at ho; have n0_ := zM (blk_grown (g := gb604) (o := .cells #[.int .i64 ((rd_T33 l1 x30_2).f0), .int .i64 ((rd_T33 l1 x30_2).f1)] 33 (0, 0)) (by (with_reducible repeat (first | refine kN ?_ _ | refine kD ?_ | refine kA ?_ _)); exact BK604.1) hg (Kd.R_ne HO_5.out BK604.1 (by decide))); have n1_ := zM (Kd.R_after (ok := (fun _ => True)) (by (with_reducible repeat (first | apply Kd.R_alloc | apply Kd.R_drewN | apply Kd.R_drew)); exact HO608.out) hg hat); have n2_ := zM (hb); have n3_ := zM (ho); clear BK604; clear HO608; clear HB; clear HO_5; have BK604 := n0_; have HO608 := n1_; have HB := n2_; have HO611 := n3_; clear n0_ n1_ n2_ n3_; clear ho hb hg hat))
        go_roundg k2
        case measure => have := HK1.out; have := HK2.out; omega
        case rel => exact ⟨(y609), (wrap64 (x30_2 + 1)), (by first | rfl | (simp; done) | (simp [*]; done)), H', ⟨by have := HK1.out; have := HK2.out; omega⟩, ⟨by (with_reducible repeat (first | apply Kd.R_alloc | apply Kd.R_drewN | apply Kd.R_drew)); exact Kd.R_mono HO611.out (fun _ hk => trivial)⟩, ⟨by repeat (first | (with_reducible first | exact HB.1 | apply zA | apply zN | apply z1 | refine zS ?_ GE604.1) | exact HB.1)⟩⟩
       ·replace c24 := Bool.eq_false_iff.mpr c24
        subst c24
        have H1 : (span_edges.l1 k2 x5_2 l1 (l1.length : Int) (wrap64 (x30_2 + 1))) = some r := by rw [if_neg (show ¬ (false = true) by decide)] at H; exact H
        clear H
        have H := H1
        clear H1
        have H' := zM H
        clear H
        have p603 : 0 ≤ (x30_2 : Int) := of_decide_eq_true (by first | (with_reducible assumption) | assumption)
        have q603 : x30_2 < (l1.length : Int) := of_decide_eq_true (by first | (with_reducible assumption) | assumption)
        obtain ⟨ad603, e603, hx603_0, hx603_1⟩ := at_T33 HR1.out x30_2 p603 q603
        cases e603
        replace hx603_0 := (HB.1.cell (World.block_lt_of_cell? w _ hx603_0)).trans hx603_0
        replace hx603_1 := (HB.1.cell (World.block_lt_of_cell? w _ hx603_1)).trans hx603_1
        replace p603 := eq_true p603
        replace q603 := eq_true q603
        go_wp2_with (first | ((with_reducible refine gate_dst (N := 9) rfl ?_); refine box_event ?hg (N := 9) ?hd (cs := #[.int .i64 0, .int .i64 0]) (t := 33) ?hr ?_; (case hd => rfl); (case hg => rfl); (case hr => first | (go_simp; done) | (go_simp; rfl)); intro gb604 hg w34 hbox hb; have n0_ := zM (Kd.R_below (by (with_reducible repeat (first | apply Kd.R_alloc | apply Kd.R_drewN | apply Kd.R_drew)); exact HO_5.out) hb); have n1_ := zM (zT (by repeat (first | (with_reducible first | exact HB.1 | apply zA | apply zN | apply z1) | exact HB.1)) hb); have n2_ := zM (hbox); have n3_ := zM ((by rw [hg]; exact (zZ (by repeat (first | (with_reducible first | exact HB.1 | apply zA | apply zN | apply z1) | exact HB.1))) : w.heap.size ≤ gb604)); have n4_ := n3_; clear HO_5; clear HB; have HO_5 := n0_; have HB := n1_; have BK604 := n2_; have GW604 := n3_; have GE604 := n4_; clear n0_ n1_ n2_ n3_ n4_; clear hb hbox hg; have hcz35_0 : w34.cell? ⟨gb604, 0, none⟩ = some (.int .i64 0) := (kC BK604.1 0).trans rfl; have hcz35_1 : w34.cell? ⟨gb604, 1, none⟩ = some (.int .i64 0) := (kC BK604.1 1).trans rfl; have hfz35_0 := kF BK604.1 0; have hfz35_1 := kF BK604.1 1) | ((with_reducible refine gate_callee (f := 37) rfl ?_); refine goesL_ (some 35) rfl rfl Tryz.func37 (by kernel_rfl) rfl #[.agg #[.int .i64 ((rd_T33 l1 x30_2).f0), .int .i64 ((rd_T33 l1 x30_2).f1)]] rfl (by (try simp only [List.map_toArray, List.map_cons, List.map_nil]); first | done | rfl | (simp only [List.length_drop, List.length_take]; rfl)) ?_; (with_reducible refine (period_Valid.calls ((rd_T33 l1 x30_2).f0) ((rd_T33 l1 x30_2).f1) false _ A23.out ?gw_).mono ?_); (case gw_ => first | exact HG.1 | (refine GW.below HG.1 ?_; repeat (first | (with_reducible first | exact HB.1 | apply zA | apply zN | apply z1 | refine zS ?_ GE604.1) | exact HB.1))); rintro e w36 ⟨rfl, hb⟩; refine ⟨_, rfl, ?_⟩; have n0_ := zM (Kd.R_below (by (with_reducible repeat (first | apply Kd.R_alloc | apply Kd.R_drewN | apply Kd.R_drew)); exact (Kd.R_mono (Kd.R_far (p := ⟨gb604, 1, none⟩) (Kd.R_far (p := ⟨gb604, 0, none⟩) (Kd.R_types HO_5.out BK604.1 (by decide)) (fun _ hk => hk.2) (.int .i64 ((rd_T33 l1 x30_2).f0))) (fun _ hk => hk.2) (.int .i64 ((rd_T33 l1 x30_2).f1))) (fun _ h_ => h_.1))) hb); have n1_ := zM (kB (g := gb604) (o := .cells #[.int .i64 ((rd_T33 l1 x30_2).f0), .int .i64 ((rd_T33 l1 x30_2).f1)] 33 (0, 0)) (by (with_reducible repeat (first | refine kN ?_ _ | refine kD ?_ | refine kA ?_ _)); refine blk_put (cs := #[.int .i64 ((rd_T33 l1 x30_2).f0), .int .i64 0]) ?_ 1 _ rfl; (with_reducible repeat (first | refine kN ?_ _ | refine kD ?_ | refine kA ?_ _)); refine blk_put (cs := #[.int .i64 0, .int .i64 0]) ?_ 0 _ rfl; (with_reducible repeat (first | refine kN ?_ _ | refine kD ?_ | refine kA ?_ _)); exact BK604.1) hb); have n2_ := zM (zT (by repeat (first | (with_reducible first | exact HB.1 | apply zA | apply zN | apply z1 | refine zS ?_ GE604.1) | exact HB.1)) hb); clear HO_5; clear BK604; clear HB; have HO_5 := n0_; have BK604 := n1_; have HB := n2_; clear n0_ n1_ n2_; (try clear hb); (try clear hb2); (try clear hk); (try clear hi)))
        go_roundg k2
        case measure => have := HK1.out; have := HK2.out; omega
        case rel => exact ⟨(x5_2), (wrap64 (x30_2 + 1)), (by first | rfl | (simp; done) | (simp [*]; done)), H', ⟨by have := HK1.out; have := HK2.out; omega⟩, ⟨by (with_reducible repeat (first | apply Kd.R_alloc | apply Kd.R_drewN | apply Kd.R_drew)); exact HO_5.out⟩, ⟨by repeat (first | (with_reducible first | exact HB.1 | apply zA | apply zN | apply z1 | refine zS ?_ GE604.1) | exact HB.1)⟩⟩
      ·rw [if_neg c20] at H
       have c20b0 : decide (x30_2 < (l1.length : Int)) = false := decide_eq_false c20
       clear c20
       replace H := Option.bind_eq_some_iff.mp H
       obtain ⟨t612, A370, H⟩ := H
       have A37 := zM A370
       clear A370
       obtain rfl := Option.some.inj H
       obtain ⟨Ao38, co38, eo38⟩ := Kd.R_slice HO_5.out
       subst eo38
       go_wp2_with (first | ((with_reducible refine gate_callee (f := 94) rfl ?_); refine goesL_ (some 47) rfl rfl Tryz.func94 (by kernel_rfl) rfl #[.slice Ao38 x5_2.length co38, .func (Fn.func 95) #[] #[]] rfl (by (try simp only [List.map_toArray, List.map_cons, List.map_nil]); first | done | rfl | (simp only [List.length_drop, List.length_take]; rfl)) ?_; (with_reducible refine (slices_SortFunc_span_edges_1.calls (fun k_ => some k_ = (.slice Ao38 x5_2.length co38 : Value).ownBlock) (.slice Ao38 x5_2.length co38) x5_2  t612 w _ ?side1 ?side2 A37.out ?gw_).mono ?_); (case gw_ => exact HG.1); (case side1 => repeat (first | (with_reducible first | exact HB.1 | apply zA | apply zN | apply z1) | exact HB.1)); (case side2 => exact Kd.R_tight rfl HO_5.out); rintro e w39 ⟨rfl, hy0, hb, hkp⟩; refine ⟨_, rfl, ?_⟩; have n0_ := zM (Kd.R_reok rfl hy0 (fun k_ e_ => HO_5.out.1 k_ e_)); have n1_ := zM (hb); clear HO_5; clear HB; have HO_5 := n0_; have HB := n1_; clear n0_ n1_; (try clear hb); (try clear hkp); (try clear hy0)))
       go_ret
       exact ⟨_, by first | rfl | (simp [errW_none, errW_some] <;> rfl) | (simp [*, errW_none, errW_some] <;> rfl), by (with_reducible repeat (first | apply Kd.R_alloc | apply Kd.R_drewN | apply Kd.R_drew)); exact HO_5.out, by repeat (first | (with_reducible first | exact HB.1 | apply zA | apply zN | apply z1) | exact HB.1)⟩

end Go.Proofs.YthdgjobhofpjeaaGreatDoor.X
