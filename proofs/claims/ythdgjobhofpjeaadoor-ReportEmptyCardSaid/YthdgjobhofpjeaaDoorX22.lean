/- Walks of Go functions of this seat, printed by a program of mine (wip/tools/xprint.py) over the kit's printer: each function as a plain Lean function, and the proof that the call comes to what it says. No conditions but those in each theorem. -/
import Derived.Test.YthdgjobhofpjeaaDoorX0
import Derived.Test.YthdgjobhofpjeaaDoorX13
import Derived.Test.YthdgjobhofpjeaaDoorX20
import Derived.Test.YthdgjobhofpjeaaDoorH2
namespace Go.Proofs.YthdgjobhofpjeaaDoor.X
open Go.RowKit Go.Proofs.YthdgjobhofpjeaaDoorW.PrintWords Go.Proofs.YthdgjobhofpjeaaDoorW.PrintLast Go.Proofs.YthdgjobhofpjeaaDoorW.PrintMore
attribute [local go_sem] max2_int min2_int max_two min_two max_three min_three max_four min_four   -- for this text's walks alone
set_option linter.unusedVariables false
set_option linter.unusedSimpArgs false

/-! ### bitemporallaw55_ReportEmpty: function 4 -/
mutual
noncomputable def bitemporallaw55_ReportEmpty.j0 : Nat → Int → ByteArray → ByteArray → Bool → Int → Int → Option (Bool)
  | 0, _, _, _, _, _, _ => none
  | k + 1, x1, x5, x6, x27, x232000, x232001 => if x27 = true then (if x5.toList = ([] : List UInt8) then (if x6.toList = ([] : List UInt8) then ((bitemporallaw55_awake.f k).bind fun t238 => (some t238)) else (some false)) else (some false)) else (if (x5.size : Int) = (wrap64 ((mn x1 (wrap64 (x232001 - x232000))) + 1)) then (bitemporallaw55_ReportEmpty.j1 k x5 x6 (mn x1 (wrap64 (x232001 - x232000))) ((x6.size : Int) != (wrap64 ((mn x1 (wrap64 (x232001 - x232000))) + 1)))) else (bitemporallaw55_ReportEmpty.j1 k x5 x6 (mn x1 (wrap64 (x232001 - x232000))) true))
noncomputable def bitemporallaw55_ReportEmpty.j1 : Nat → ByteArray → ByteArray → Int → Bool → Option (Bool)
  | 0, _, _, _, _ => none
  | k + 1, x5, x6, x7, x55 => if x55 = true then (some false) else (bitemporallaw55_ReportEmpty.l0 k x5 x6 x7 x7 0)
noncomputable def bitemporallaw55_ReportEmpty.l0 : Nat → ByteArray → ByteArray → Int → Int → Int → Option (Bool)
  | 0, _, _, _, _, _ => none
  | k + 1, x5, x6, x7, x56, x57 => if x57 < x56 then (if 0 ≤ x57 then (if x57 < (x5.size : Int) then (if (bt x5 x57) = 46 then (if x57 < (x6.size : Int) then (if (bt x6 x57) = 35 then (bitemporallaw55_ReportEmpty.l0 k x5 x6 x7 x56 (wrap64 (x57 + 1))) else (some false)) else (none)) else (some false)) else (none)) else (none)) else (if 0 ≤ x7 then (if x7 < (x5.size : Int) then (if (bt x5 x7) = 10 then (if x7 < (x6.size : Int) then (if (bt x6 x7) = 10 then ((bitemporallaw55_awake.f k).bind fun t239 => (some t239)) else (some false)) else (none)) else (some false)) else (none)) else (none))
end
noncomputable def bitemporallaw55_ReportEmpty.f (k : Nat) (a0_0 : Int) (a0_1 : Int) (a1 : Int) : Option (Bool) := (report_Chart.f ([] : List (S27)) a0_0 a0_1 a1).bind fun t232 => ((report_Chart.f (([(⟨a0_0, a0_1⟩ : S27)] : List (S27))) a0_0 a0_1 a1).bind fun t236 => ((bitemporalref01_Valid.f a0_0 a0_1).bind fun t237 => (if t237 = true then (if a1 < 1 then (bitemporallaw55_ReportEmpty.j0 k a1 t232 t236 true a0_0 a0_1) else (bitemporallaw55_ReportEmpty.j0 k a1 t232 t236 (decide (a1 > 200)) a0_0 a0_1)) else (bitemporallaw55_ReportEmpty.j0 k a1 t232 t236 true a0_0 a0_1))))
theorem bitemporallaw55_ReportEmpty.mono_l : ∀ k, (∀ y0 y1 y2 y3 y4 y5, LeO (bitemporallaw55_ReportEmpty.j0 k y0 y1 y2 y3 y4 y5) (bitemporallaw55_ReportEmpty.j0 (k + 1) y0 y1 y2 y3 y4 y5)) ∧ (∀ y0 y1 y2 y3, LeO (bitemporallaw55_ReportEmpty.j1 k y0 y1 y2 y3) (bitemporallaw55_ReportEmpty.j1 (k + 1) y0 y1 y2 y3)) ∧ (∀ y0 y1 y2 y3 y4, LeO (bitemporallaw55_ReportEmpty.l0 k y0 y1 y2 y3 y4) (bitemporallaw55_ReportEmpty.l0 (k + 1) y0 y1 y2 y3 y4))
  | 0 => ⟨fun _ _ _ _ _ _ r h => by simp [bitemporallaw55_ReportEmpty.j0] at h, fun _ _ _ _ r h => by simp [bitemporallaw55_ReportEmpty.j1] at h, fun _ _ _ _ _ r h => by simp [bitemporallaw55_ReportEmpty.l0] at h⟩
  | k + 1 => by
    obtain ⟨ih0, ih1, ih2⟩ := bitemporallaw55_ReportEmpty.mono_l k
    refine ⟨?_, ?_, ?_⟩
    · intro y0 y1 y2 y3 y4 y5
      unfold bitemporallaw55_ReportEmpty.j0
      repeat' first
      | (with_reducible exact ih0 _ _ _ _ _ _)
      | (with_reducible exact ih1 _ _ _ _)
      | (with_reducible exact ih2 _ _ _ _ _)
      | (with_reducible exact bitemporallaw55_awake.mono _)
      | (with_reducible exact LeO.refl _)
      | (with_reducible exact LeO.none _)
      | (with_reducible refine LeO.ite ?_ ?_)
      | (with_reducible refine LeO.bind ?_ (fun _ => ?_))
      | exact ih0 _ _ _ _ _ _
      | exact ih1 _ _ _ _
      | exact ih2 _ _ _ _ _
      | exact bitemporallaw55_awake.mono _
      | exact LeO.none _
      | refine LeO.ite ?_ ?_
      | refine LeO.bind ?_ (fun _ => ?_)
    · intro y0 y1 y2 y3
      unfold bitemporallaw55_ReportEmpty.j1
      repeat' first
      | (with_reducible exact ih0 _ _ _ _ _ _)
      | (with_reducible exact ih1 _ _ _ _)
      | (with_reducible exact ih2 _ _ _ _ _)
      | (with_reducible exact bitemporallaw55_awake.mono _)
      | (with_reducible exact LeO.refl _)
      | (with_reducible exact LeO.none _)
      | (with_reducible refine LeO.ite ?_ ?_)
      | (with_reducible refine LeO.bind ?_ (fun _ => ?_))
      | exact ih0 _ _ _ _ _ _
      | exact ih1 _ _ _ _
      | exact ih2 _ _ _ _ _
      | exact bitemporallaw55_awake.mono _
      | exact LeO.none _
      | refine LeO.ite ?_ ?_
      | refine LeO.bind ?_ (fun _ => ?_)
    · intro y0 y1 y2 y3 y4
      unfold bitemporallaw55_ReportEmpty.l0
      repeat' first
      | (with_reducible exact ih0 _ _ _ _ _ _)
      | (with_reducible exact ih1 _ _ _ _)
      | (with_reducible exact ih2 _ _ _ _ _)
      | (with_reducible exact bitemporallaw55_awake.mono _)
      | (with_reducible exact LeO.refl _)
      | (with_reducible exact LeO.none _)
      | (with_reducible refine LeO.ite ?_ ?_)
      | (with_reducible refine LeO.bind ?_ (fun _ => ?_))
      | exact ih0 _ _ _ _ _ _
      | exact ih1 _ _ _ _
      | exact ih2 _ _ _ _ _
      | exact bitemporallaw55_awake.mono _
      | exact LeO.none _
      | refine LeO.ite ?_ ?_
      | refine LeO.bind ?_ (fun _ => ?_)
theorem bitemporallaw55_ReportEmpty.mono : ∀ a0 a1 a2 k, LeO (bitemporallaw55_ReportEmpty.f k a0 a1 a2) (bitemporallaw55_ReportEmpty.f (k + 1) a0 a1 a2) := by
  intro a0 a1 a2 k
  obtain ⟨ih0, ih1, ih2⟩ := bitemporallaw55_ReportEmpty.mono_l k
  unfold bitemporallaw55_ReportEmpty.f
  repeat' first
      | (with_reducible exact ih0 _ _ _ _ _ _)
      | (with_reducible exact ih1 _ _ _ _)
      | (with_reducible exact ih2 _ _ _ _ _)
      | (with_reducible exact bitemporallaw55_awake.mono _)
      | (with_reducible exact LeO.refl _)
      | (with_reducible exact LeO.none _)
      | (with_reducible refine LeO.ite ?_ ?_)
      | (with_reducible refine LeO.bind ?_ (fun _ => ?_))
      | exact ih0 _ _ _ _ _ _
      | exact ih1 _ _ _ _
      | exact ih2 _ _ _ _ _
      | exact bitemporallaw55_awake.mono _
      | exact LeO.none _
      | refine LeO.ite ?_ ?_
      | refine LeO.bind ?_ (fun _ => ?_)
set_option maxHeartbeats 8000000 in
set_option maxRecDepth 100000 in
theorem bitemporallaw55_ReportEmpty.calls (k : Nat) (a0_0 : Int) (a0_1 : Int) (a1 : Int) (r : Bool) (w : World) (h : bitemporallaw55_ReportEmpty.f k a0_0 a0_1 a1 = some r) (hG : GW w) :
  Calls Tryd.prog 4 #[.agg #[.int .i64 a0_0, .int .i64 a0_1], .int .i64 a1] w fun e w' => e = .returned (.bool r) ∧ Below w.heap.size w w' := by
 have HG := Aside0.mk hG
 clear hG
 have hu27 := Tryd.underlying27
 have HB := Aside0.mk (Below.refl w.heap.size w)
 have H : ((report_Chart.f ([] : List (S27)) a0_0 a0_1 a1).bind fun t232 => ((report_Chart.f (([(⟨a0_0, a0_1⟩ : S27)] : List (S27))) a0_0 a0_1 a1).bind fun t236 => ((bitemporalref01_Valid.f a0_0 a0_1).bind fun t237 => (if t237 = true then (if a1 < 1 then (bitemporallaw55_ReportEmpty.j0 k a1 t232 t236 true a0_0 a0_1) else (bitemporallaw55_ReportEmpty.j0 k a1 t232 t236 (decide (a1 > 200)) a0_0 a0_1)) else (bitemporallaw55_ReportEmpty.j0 k a1 t232 t236 true a0_0 a0_1))))) = some r := h
 clear h
 replace H := Option.bind_eq_some_iff.mp H
 obtain ⟨t232, A30, H⟩ := H
 replace H : ((report_Chart.f (([(⟨a0_0, a0_1⟩ : S27)] : List (S27))) a0_0 a0_1 a1).bind fun t236 => ((bitemporalref01_Valid.f a0_0 a0_1).bind fun t237 => (if t237 = true then (if a1 < 1 then (bitemporallaw55_ReportEmpty.j0 k a1 t232 t236 true a0_0 a0_1) else (bitemporallaw55_ReportEmpty.j0 k a1 t232 t236 (decide (a1 > 200)) a0_0 a0_1)) else (bitemporallaw55_ReportEmpty.j0 k a1 t232 t236 true a0_0 a0_1)))) = some r := H
 have A3 := Aside0.mk A30
 clear A30
 obtain ⟨y233, hy233⟩ : ∃ y_ : List (S27), y_ = (([(⟨a0_0, a0_1⟩ : S27)] : List (S27))) := ⟨_, rfl⟩
 replace H : ((report_Chart.f y233 a0_0 a0_1 a1).bind fun t236 => ((bitemporalref01_Valid.f a0_0 a0_1).bind fun t237 => (if t237 = true then (if a1 < 1 then (bitemporallaw55_ReportEmpty.j0 k a1 t232 t236 true a0_0 a0_1) else (bitemporallaw55_ReportEmpty.j0 k a1 t232 t236 (decide (a1 > 200)) a0_0 a0_1)) else (bitemporallaw55_ReportEmpty.j0 k a1 t232 t236 true a0_0 a0_1)))) = some r := by first | (rw [hy233]; with_reducible exact H) | (have H2_ := (Option.bind_some _ _).symm.trans H; rw [hy233]; with_reducible exact H2_) | (have H2_ := (Option.bind_some _ _).symm.trans H; with_reducible exact H2_) | with_reducible exact H | (rw [hy233]; exact H) | exact H
 have Ny233 := Aside0.mk hy233
 clear hy233
 replace H := Option.bind_eq_some_iff.mp H
 obtain ⟨t236, A40, H⟩ := H
 replace H : ((bitemporalref01_Valid.f a0_0 a0_1).bind fun t237 => (if t237 = true then (if a1 < 1 then (bitemporallaw55_ReportEmpty.j0 k a1 t232 t236 true a0_0 a0_1) else (bitemporallaw55_ReportEmpty.j0 k a1 t232 t236 (decide (a1 > 200)) a0_0 a0_1)) else (bitemporallaw55_ReportEmpty.j0 k a1 t232 t236 true a0_0 a0_1))) = some r := H
 have A4 := Aside0.mk A40
 clear A40
 have HC5 := Aside0.mk H
 clear H
 go_enter Tryd.func4, Tryd.ntmps4
 go_upto_region 3 with (first | ((with_reducible refine gate_dst (N := 2) rfl ?_); (try (refine gate_guard (by rfl) ?_; dsimp only)); refine box_event ?hg (N := 2) ?hd (cs := #[.int .i64 a0_0, .int .i64 a0_1]) (t := 27) ?hr ?_; (case hd => rfl); (case hg => rfl); (case hr => first | (go_simp; done) | (go_simp; rfl)); intro gb231 hg w6 hbox hb; have n0_ := Aside0.mk (below_step (by repeat (first | (with_reducible first | exact HB.out | apply below_alloc | apply pw_below_drewN | apply below_drew1) | exact HB.out)) hb); have n1_ := Aside0.mk (hbox); have n2_ := Aside0.mk ((by rw [hg]; exact (below_size (by repeat (first | (with_reducible first | exact HB.out | apply below_alloc | apply pw_below_drewN | apply below_drew1) | exact HB.out))) : w.heap.size ≤ gb231)); have n3_ := Aside0.mk ((by rw [hg]; exact (below_size (by repeat (first | (with_reducible first | exact HB.out | apply below_alloc | apply pw_below_drewN | apply below_drew1) | exact HB.out))) : w.heap.size ≤ gb231)); clear HB; have HB := n0_; have BK231 := n1_; have GW231 := n2_; have GE231 := n3_; clear n0_ n1_ n2_ n3_; clear hb hbox hg; have hcz7_0 : w6.cell? ⟨gb231, 0, none⟩ = some (.int .i64 a0_0) := (blk_cell BK231.out 0).trans rfl; have hcz7_1 : w6.cell? ⟨gb231, 1, none⟩ = some (.int .i64 a0_1) := (blk_cell BK231.out 1).trans rfl; have hfz7_0 := blk_frozen BK231.out 0; have hfz7_1 := blk_frozen BK231.out 1) | ((with_reducible refine gate_callee (f := 8) rfl ?_); refine goesL_ (some 11) rfl rfl Tryd.func8 (by kernel_rfl) rfl #[.slice none 0 0, .agg #[.int .i64 a0_0, .int .i64 a0_1], .int .i64 a1] rfl (by (try simp only [List.map_toArray, List.map_cons, List.map_nil]); first | done | rfl | (simp only [List.length_drop, List.length_take]; rfl)) ?_; (refine (report_Chart.calls none 0 ([] : List (S27)) a0_0 a0_1 a1 t232 _ ?side1 ?side2 A3.out ?gw_).mono ?_); (case gw_ => first | exact HG.out | (refine GW.below HG.out ?_; repeat (first | (with_reducible first | exact HB.out | apply below_alloc | apply pw_below_drewN | apply below_drew1 | refine below_set ?_ GE231.out) | exact HB.out))); (case side1 => exact Kd.C_nil _ _); (case side2 => exact Nat.le_refl _); rintro e w8 ⟨rfl, hb⟩; refine ⟨_, rfl, ?_⟩; have n0_ := Aside0.mk (blk_below (g := gb231) (o := .cells #[.int .i64 a0_0, .int .i64 a0_1] 27 (0, 0)) (by (with_reducible repeat (first | refine blk_drewN ?_ _ | refine blk_drew ?_ | refine blk_alloc ?_ _)); exact BK231.out) hb); have n1_ := Aside0.mk (below_step (by repeat (first | (with_reducible first | exact HB.out | apply below_alloc | apply pw_below_drewN | apply below_drew1 | refine below_set ?_ GE231.out) | exact HB.out)) hb); clear BK231; clear HB; have BK231 := n0_; have HB := n1_; clear n0_ n1_; (try clear hb); (try clear hb2); (try clear hk); (try clear hi); have hcz9_0 : w8.cell? ⟨gb231, 0, none⟩ = some (.int .i64 a0_0) := (blk_cell BK231.out 0).trans rfl; have hcz9_1 : w8.cell? ⟨gb231, 1, none⟩ = some (.int .i64 a0_1) := (blk_cell BK231.out 1).trans rfl; have hfz9_0 := blk_frozen BK231.out 0; have hfz9_1 := blk_frozen BK231.out 1) | ((with_reducible refine gate_dst (N := 13) rfl ?_); (try (refine gate_guard (by rfl) ?_; dsimp only)); refine Kd.R_lit k27 _ 27 ?hg (N := 13) ?hd (xs := ([(⟨a0_0, a0_1⟩ : S27)] : List (S27))) (inner := [.int .i64 a0_0, .int .i64 a0_1]) (ok := fun _ => True) (okp := fun _ => True) ?hr ?hp (fun _ hk => hk) trivial (Below.refl _ _) (Nat.le_refl _) (by simp) ?_; (case hd => rfl); (case hg => rfl); (case hr => first | (go_simp; done) | (go_simp; rfl)); (case hp => exact (Reps.c2 (show Kd.M k27 _ _ _ (⟨a0_0, a0_1⟩ : S27) [.int .i64 a0_0, .int .i64 a0_1] from (k27_mkM _ _ _ (⟨a0_0, a0_1⟩ : S27) )) (Reps.none _ _))); intro v234 w10 ho11 hb hg_ hnew_; clear hg_ hnew_; (first | rw [← Ny233.out] at ho11 | (simp only [Int.reduceToNat] at ho11; rw [← Ny233.out] at ho11)); have n0_ := Aside0.mk (Kd.R_lower (Kd.R_newB ho11 (g := gb231) (o := .cells #[.int .i64 a0_0, .int .i64 a0_1] 27 (0, 0)) (by (with_reducible repeat (first | refine blk_drewN ?_ _ | refine blk_drew ?_ | refine blk_alloc ?_ _)); exact BK231.out)) (below_size (by repeat (first | (with_reducible first | exact HB.out | apply below_alloc | apply pw_below_drewN | apply below_drew1 | refine below_set ?_ GE231.out) | exact HB.out)))); have n1_ := Aside0.mk (blk_below (g := gb231) (o := .cells #[.int .i64 a0_0, .int .i64 a0_1] 27 (0, 0)) (by (with_reducible repeat (first | refine blk_drewN ?_ _ | refine blk_drew ?_ | refine blk_alloc ?_ _)); exact BK231.out) hb); have n2_ := Aside0.mk (below_step (by repeat (first | (with_reducible first | exact HB.out | apply below_alloc | apply pw_below_drewN | apply below_drew1 | refine below_set ?_ GE231.out) | exact HB.out)) hb); clear BK231; clear HB; have HO235 := n0_; have BK231 := n1_; have HB := n2_; clear n0_ n1_ n2_; clear hb ho11; have hcz12_0 : w10.cell? ⟨gb231, 0, none⟩ = some (.int .i64 a0_0) := (blk_cell BK231.out 0).trans rfl; have hcz12_1 : w10.cell? ⟨gb231, 1, none⟩ = some (.int .i64 a0_1) := (blk_cell BK231.out 1).trans rfl; have hfz12_0 := blk_frozen BK231.out 0; have hfz12_1 := blk_frozen BK231.out 1; obtain ⟨Ao13, co13, eo13⟩ := Kd.R_slice HO235.out; subst eo13) | ((with_reducible refine gate_callee (f := 8) rfl ?_); refine goesL_ (some 16) rfl rfl Tryd.func8 (by kernel_rfl) rfl #[.slice Ao13 y233.length co13, .agg #[.int .i64 a0_0, .int .i64 a0_1], .int .i64 a1] rfl (by (try simp only [List.map_toArray, List.map_cons, List.map_nil]); first | done | rfl | (simp only [List.length_drop, List.length_take]; rfl)) ?_; (with_reducible refine (report_Chart.calls _ _ y233 a0_0 a0_1 a1 t236 _ ?side1 ?side2 A4.out ?gw_).mono ?_); (case gw_ => first | exact HG.out | (refine GW.below HG.out ?_; repeat (first | (with_reducible first | exact HB.out | apply below_alloc | apply pw_below_drewN | apply below_drew1 | refine below_set ?_ GE231.out) | exact HB.out))); (case side1 => repeat (first | exact (Kd.R_reads' HO235.out).2.2 | (with_reducible refine Kd.C_alloc ?_ _) | (with_reducible refine Kd.C_drewN ?_ _) | (with_reducible refine Kd.C_drew ?_))); (case side2 => exact (Kd.R_reads' HO235.out).2.1); rintro e w14 ⟨rfl, hb⟩; refine ⟨_, rfl, ?_⟩; have n0_ := Aside0.mk (Kd.R_below (by (with_reducible repeat (first | apply Kd.R_alloc | apply Kd.R_drewN | apply Kd.R_drew)); exact HO235.out) hb); have n1_ := Aside0.mk (blk_below (g := gb231) (o := .cells #[.int .i64 a0_0, .int .i64 a0_1] 27 (0, 0)) (by (with_reducible repeat (first | refine blk_drewN ?_ _ | refine blk_drew ?_ | refine blk_alloc ?_ _)); exact BK231.out) hb); have n2_ := Aside0.mk (below_step (by repeat (first | (with_reducible first | exact HB.out | apply below_alloc | apply pw_below_drewN | apply below_drew1 | refine below_set ?_ GE231.out) | exact HB.out)) hb); clear HO235; clear BK231; clear HB; have HO235 := n0_; have BK231 := n1_; have HB := n2_; clear n0_ n1_ n2_; (try clear hb); (try clear hb2); (try clear hk); (try clear hi)))
 (try simp only [Act.put, List.setIfInBounds_toArray, List.set_cons_zero, List.set_cons_succ])
 go_cut [27] (fun v27 wc => ∃ (kq : Nat) (x27_4 : Bool), v27 = .bool x27_4 ∧ Aside0 (bitemporallaw55_ReportEmpty.j0 kq a1 t232 t236 x27_4 a0_0 a0_1 = some r) ∧ Aside0 (kq ≤ k) ∧ Aside0 (wc.heap[gb231]? = some (.cells #[.int .i64 a0_0, .int .i64 a0_1] 27 (0, 0))) ∧ Aside0 (Below w.heap.size w wc))
 case first =>
  have H := HC5.out
  clear HC5
  replace H := Option.bind_eq_some_iff.mp H
  obtain ⟨t237, A150, H⟩ := H
  replace H : (if t237 = true then (if a1 < 1 then (bitemporallaw55_ReportEmpty.j0 k a1 t232 t236 true a0_0 a0_1) else (bitemporallaw55_ReportEmpty.j0 k a1 t232 t236 (decide (a1 > 200)) a0_0 a0_1)) else (bitemporallaw55_ReportEmpty.j0 k a1 t232 t236 true a0_0 a0_1)) = some r := H
  have A15 := Aside0.mk A150
  clear A150
  by_cases c16 : t237 = true
  ·subst c16
   have H1 : (if a1 < 1 then (bitemporallaw55_ReportEmpty.j0 k a1 t232 t236 true a0_0 a0_1) else (bitemporallaw55_ReportEmpty.j0 k a1 t232 t236 (decide (a1 > 200)) a0_0 a0_1)) = some r := by rw [if_pos rfl] at H; exact H
   clear H
   have H := H1
   clear H1
   by_cases c17 : a1 < 1
   ·rw [if_pos c17] at H
    have c17b0 : decide (a1 < 1) = true := decide_eq_true c17
    clear c17
    (first | rw [c17b0] | (simp only [i64_w, i32_w]; rw [c17b0]) | skip)
    have H' := Aside0.mk H
    clear H
    have hcz18_0 : w14.cell? ⟨gb231, 0, none⟩ = some (.int .i64 a0_0) := (blk_cell BK231.out 0).trans rfl
    have hcz18_1 : w14.cell? ⟨gb231, 1, none⟩ = some (.int .i64 a0_1) := (blk_cell BK231.out 1).trans rfl
    have hfz18_0 := blk_frozen BK231.out 0
    have hfz18_1 := blk_frozen BK231.out 1
    go_wp2_with (first | ((with_reducible refine gate_callee (f := 9) rfl ?_); refine goesL_ (some 18) rfl rfl Tryd.func9 (by kernel_rfl) rfl #[.agg #[.int .i64 a0_0, .int .i64 a0_1]] rfl (by (try simp only [List.map_toArray, List.map_cons, List.map_nil]); first | done | rfl | (simp only [List.length_drop, List.length_take]; rfl)) ?_; (with_reducible refine (bitemporalref01_Valid.calls a0_0 a0_1 true _ A15.out ?gw_).mono ?_); (case gw_ => first | exact HG.out | (refine GW.below HG.out ?_; repeat (first | (with_reducible first | exact HB.out | apply below_alloc | apply pw_below_drewN | apply below_drew1 | refine below_set ?_ GE231.out) | exact HB.out))); rintro e w19 ⟨rfl, hb⟩; refine ⟨_, rfl, ?_⟩; have n0_ := Aside0.mk (Kd.R_below (by (with_reducible repeat (first | apply Kd.R_alloc | apply Kd.R_drewN | apply Kd.R_drew)); exact HO235.out) hb); have n1_ := Aside0.mk (blk_below (g := gb231) (o := .cells #[.int .i64 a0_0, .int .i64 a0_1] 27 (0, 0)) (by (with_reducible repeat (first | refine blk_drewN ?_ _ | refine blk_drew ?_ | refine blk_alloc ?_ _)); exact BK231.out) hb); have n2_ := Aside0.mk (below_step (by repeat (first | (with_reducible first | exact HB.out | apply below_alloc | apply pw_below_drewN | apply below_drew1 | refine below_set ?_ GE231.out) | exact HB.out)) hb); clear HO235; clear BK231; clear HB; have HO235 := n0_; have BK231 := n1_; have HB := n2_; clear n0_ n1_ n2_; (try clear hb); (try clear hb2); (try clear hk); (try clear hi)))
    go_meet
    case rel => exact ⟨_, (true), (by first | rfl | (simp; done) | (simp [*]; done)), H', ⟨by first | omega | exact Nat.le_refl _⟩, ⟨by (with_reducible repeat (first | refine blk_drewN ?_ _ | refine blk_drew ?_ | refine blk_alloc ?_ _)); exact BK231.out⟩, ⟨by repeat (first | (with_reducible first | exact HB.out | apply below_alloc | apply pw_below_drewN | apply below_drew1 | refine below_set ?_ GE231.out) | exact HB.out)⟩⟩
   ·rw [if_neg c17] at H
    have c17b0 : decide (a1 < 1) = false := decide_eq_false c17
    clear c17
    (first | rw [c17b0] | (simp only [i64_w, i32_w]; rw [c17b0]) | skip)
    have H' := Aside0.mk H
    clear H
    have hcz20_0 : w14.cell? ⟨gb231, 0, none⟩ = some (.int .i64 a0_0) := (blk_cell BK231.out 0).trans rfl
    have hcz20_1 : w14.cell? ⟨gb231, 1, none⟩ = some (.int .i64 a0_1) := (blk_cell BK231.out 1).trans rfl
    have hfz20_0 := blk_frozen BK231.out 0
    have hfz20_1 := blk_frozen BK231.out 1
    go_wp2_with (first | ((with_reducible refine gate_callee (f := 9) rfl ?_); refine goesL_ (some 18) rfl rfl Tryd.func9 (by kernel_rfl) rfl #[.agg #[.int .i64 a0_0, .int .i64 a0_1]] rfl (by (try simp only [List.map_toArray, List.map_cons, List.map_nil]); first | done | rfl | (simp only [List.length_drop, List.length_take]; rfl)) ?_; (with_reducible refine (bitemporalref01_Valid.calls a0_0 a0_1 true _ A15.out ?gw_).mono ?_); (case gw_ => first | exact HG.out | (refine GW.below HG.out ?_; repeat (first | (with_reducible first | exact HB.out | apply below_alloc | apply pw_below_drewN | apply below_drew1 | refine below_set ?_ GE231.out) | exact HB.out))); rintro e w21 ⟨rfl, hb⟩; refine ⟨_, rfl, ?_⟩; have n0_ := Aside0.mk (Kd.R_below (by (with_reducible repeat (first | apply Kd.R_alloc | apply Kd.R_drewN | apply Kd.R_drew)); exact HO235.out) hb); have n1_ := Aside0.mk (blk_below (g := gb231) (o := .cells #[.int .i64 a0_0, .int .i64 a0_1] 27 (0, 0)) (by (with_reducible repeat (first | refine blk_drewN ?_ _ | refine blk_drew ?_ | refine blk_alloc ?_ _)); exact BK231.out) hb); have n2_ := Aside0.mk (below_step (by repeat (first | (with_reducible first | exact HB.out | apply below_alloc | apply pw_below_drewN | apply below_drew1 | refine below_set ?_ GE231.out) | exact HB.out)) hb); clear HO235; clear BK231; clear HB; have HO235 := n0_; have BK231 := n1_; have HB := n2_; clear n0_ n1_ n2_; (try clear hb); (try clear hb2); (try clear hk); (try clear hi)))
    go_meet
    case rel => exact ⟨_, (decide (a1 > 200)), (by first | rfl | (simp; done) | (simp [*]; done)), H', ⟨by first | omega | exact Nat.le_refl _⟩, ⟨by (with_reducible repeat (first | refine blk_drewN ?_ _ | refine blk_drew ?_ | refine blk_alloc ?_ _)); exact BK231.out⟩, ⟨by repeat (first | (with_reducible first | exact HB.out | apply below_alloc | apply pw_below_drewN | apply below_drew1 | refine below_set ?_ GE231.out) | exact HB.out)⟩⟩
  ·replace c16 := Bool.eq_false_iff.mpr c16
   subst c16
   have H1 : (bitemporallaw55_ReportEmpty.j0 k a1 t232 t236 true a0_0 a0_1) = some r := by rw [if_neg (show ¬ (false = true) by decide)] at H; exact H
   clear H
   have H := H1
   clear H1
   have H' := Aside0.mk H
   clear H
   have hcz22_0 : w14.cell? ⟨gb231, 0, none⟩ = some (.int .i64 a0_0) := (blk_cell BK231.out 0).trans rfl
   have hcz22_1 : w14.cell? ⟨gb231, 1, none⟩ = some (.int .i64 a0_1) := (blk_cell BK231.out 1).trans rfl
   have hfz22_0 := blk_frozen BK231.out 0
   have hfz22_1 := blk_frozen BK231.out 1
   go_wp2_with (first | ((with_reducible refine gate_callee (f := 9) rfl ?_); refine goesL_ (some 18) rfl rfl Tryd.func9 (by kernel_rfl) rfl #[.agg #[.int .i64 a0_0, .int .i64 a0_1]] rfl (by (try simp only [List.map_toArray, List.map_cons, List.map_nil]); first | done | rfl | (simp only [List.length_drop, List.length_take]; rfl)) ?_; (with_reducible refine (bitemporalref01_Valid.calls a0_0 a0_1 false _ A15.out ?gw_).mono ?_); (case gw_ => first | exact HG.out | (refine GW.below HG.out ?_; repeat (first | (with_reducible first | exact HB.out | apply below_alloc | apply pw_below_drewN | apply below_drew1 | refine below_set ?_ GE231.out) | exact HB.out))); rintro e w23 ⟨rfl, hb⟩; refine ⟨_, rfl, ?_⟩; have n0_ := Aside0.mk (Kd.R_below (by (with_reducible repeat (first | apply Kd.R_alloc | apply Kd.R_drewN | apply Kd.R_drew)); exact HO235.out) hb); have n1_ := Aside0.mk (blk_below (g := gb231) (o := .cells #[.int .i64 a0_0, .int .i64 a0_1] 27 (0, 0)) (by (with_reducible repeat (first | refine blk_drewN ?_ _ | refine blk_drew ?_ | refine blk_alloc ?_ _)); exact BK231.out) hb); have n2_ := Aside0.mk (below_step (by repeat (first | (with_reducible first | exact HB.out | apply below_alloc | apply pw_below_drewN | apply below_drew1 | refine below_set ?_ GE231.out) | exact HB.out)) hb); clear HO235; clear BK231; clear HB; have HO235 := n0_; have BK231 := n1_; have HB := n2_; clear n0_ n1_ n2_; (try clear hb); (try clear hb2); (try clear hk); (try clear hi)))
   go_meet
   case rel => exact ⟨_, (true), (by first | rfl | (simp; done) | (simp [*]; done)), H', ⟨by first | omega | exact Nat.le_refl _⟩, ⟨by (with_reducible repeat (first | refine blk_drewN ?_ _ | refine blk_drew ?_ | refine blk_alloc ?_ _)); exact BK231.out⟩, ⟨by repeat (first | (with_reducible first | exact HB.out | apply below_alloc | apply pw_below_drewN | apply below_drew1 | refine below_set ?_ GE231.out) | exact HB.out)⟩⟩
 case rest =>
  clear HC5
  try clear c1
  try clear c2
  try clear p2
  try clear c4
  try clear c8
  try clear c9
  try clear c16
  try clear c17
  try clear c17b0
  try clear hcz12_0
  try clear hcz12_1
  try clear hcz18_0
  try clear hcz18_1
  try clear hcz20_0
  try clear hcz20_1
  try clear hcz22_0
  try clear hcz22_1
  try clear hcz7_0
  try clear hcz7_1
  try clear hcz9_0
  try clear hcz9_1
  try clear hfz12_0
  try clear hfz12_1
  try clear hfz18_0
  try clear hfz18_1
  try clear hfz20_0
  try clear hfz20_1
  try clear hfz22_0
  try clear hfz22_1
  try clear hfz7_0
  try clear hfz7_1
  try clear hfz9_0
  try clear hfz9_1
  obtain ⟨kq, x27_4, rfl, HA, HJ4, BK231, HB⟩ := hcut
  cases kq with
  | zero => exact absurd HA.out (by simp [bitemporallaw55_ReportEmpty.j0])
  | succ kj4 =>
   have H := HA.out
   clear HA
   simp only [bitemporallaw55_ReportEmpty.j0] at H
   by_cases c24 : x27_4 = true
   ·subst c24
    have H1 : (if t232.toList = ([] : List UInt8) then (if t236.toList = ([] : List UInt8) then ((bitemporallaw55_awake.f kj4).bind fun t238 => (some t238)) else (some false)) else (some false)) = some r := by rw [if_pos rfl] at H; exact H
    clear H
    have H := H1
    clear H1
    by_cases c25 : t232.toList = ([] : List UInt8)
    ·rw [if_pos c25] at H
     have c25b0 : (t232.toList == ([] : List UInt8)) = true := beq_iff_eq.mpr c25
     have c25b1 : (t232.toList != ([] : List UInt8)) = false := bne_eq_false_iff_eq.mpr c25
     clear c25
     by_cases c26 : t236.toList = ([] : List UInt8)
     ·rw [if_pos c26] at H
      have c26b0 : (t236.toList == ([] : List UInt8)) = true := beq_iff_eq.mpr c26
      have c26b1 : (t236.toList != ([] : List UInt8)) = false := bne_eq_false_iff_eq.mpr c26
      clear c26
      replace H := Option.bind_eq_some_iff.mp H
      obtain ⟨t238, A270, H⟩ := H
      replace H : (some t238) = some r := H
      have A27 := Aside0.mk A270
      clear A270
      obtain rfl := Option.some.inj H
      go_wp2_with (first | (go_at_call 7; (with_reducible refine (bitemporallaw55_awake.calls kj4  t238 _ A27.out ?gw_).mono ?_); (case gw_ => first | exact HG.out | (refine GW.below HG.out ?_; repeat (first | (with_reducible first | exact HB.out | apply below_alloc | apply pw_below_drewN | apply below_drew1 | refine below_set ?_ GE231.out) | exact HB.out))); rintro e w28 ⟨rfl, hb⟩; have n0_ := Aside0.mk (blk_below (g := gb231) (o := .cells #[.int .i64 a0_0, .int .i64 a0_1] 27 (0, 0)) (by (with_reducible repeat (first | refine blk_drewN ?_ _ | refine blk_drew ?_ | refine blk_alloc ?_ _)); exact BK231.out) hb); have n1_ := Aside0.mk (below_step (by repeat (first | (with_reducible first | exact HB.out | apply below_alloc | apply pw_below_drewN | apply below_drew1 | refine below_set ?_ GE231.out) | exact HB.out)) hb); clear BK231; clear HB; have BK231 := n0_; have HB := n1_; clear n0_ n1_; (try clear hb); (try clear hb2); (try clear hk); (try clear hi)))
      go_ret
      exact ⟨by first | rfl | (simp [errW_none, errW_some] <;> rfl) | (simp [*, errW_none, errW_some] <;> rfl), by repeat (first | (with_reducible first | exact HB.out | apply below_alloc | apply pw_below_drewN | apply below_drew1 | refine below_set ?_ GE231.out) | exact HB.out)⟩
     ·rw [if_neg c26] at H
      have c26b0 : (t236.toList == ([] : List UInt8)) = false := beq_eq_false_iff_ne.mpr c26
      have c26b1 : (t236.toList != ([] : List UInt8)) = true := bne_iff_ne.mpr c26
      obtain rfl := Option.some.inj H
      go_wp2
      go_ret
      exact ⟨by first | rfl | (simp [errW_none, errW_some] <;> rfl) | (simp [*, errW_none, errW_some] <;> rfl), by repeat (first | (with_reducible first | exact HB.out | apply below_alloc | apply pw_below_drewN | apply below_drew1 | refine below_set ?_ GE231.out) | exact HB.out)⟩
    ·rw [if_neg c25] at H
     have c25b0 : (t232.toList == ([] : List UInt8)) = false := beq_eq_false_iff_ne.mpr c25
     have c25b1 : (t232.toList != ([] : List UInt8)) = true := bne_iff_ne.mpr c25
     obtain rfl := Option.some.inj H
     go_wp2
     go_ret
     exact ⟨by first | rfl | (simp [errW_none, errW_some] <;> rfl) | (simp [*, errW_none, errW_some] <;> rfl), by repeat (first | (with_reducible first | exact HB.out | apply below_alloc | apply pw_below_drewN | apply below_drew1 | refine below_set ?_ GE231.out) | exact HB.out)⟩
   ·replace c24 := Bool.eq_false_iff.mpr c24
    subst c24
    have H1 : (if (t232.size : Int) = (wrap64 ((mn a1 (wrap64 (a0_1 - a0_0))) + 1)) then (bitemporallaw55_ReportEmpty.j1 kj4 t232 t236 (mn a1 (wrap64 (a0_1 - a0_0))) ((t236.size : Int) != (wrap64 ((mn a1 (wrap64 (a0_1 - a0_0))) + 1)))) else (bitemporallaw55_ReportEmpty.j1 kj4 t232 t236 (mn a1 (wrap64 (a0_1 - a0_0))) true)) = some r := by rw [if_neg (show ¬ (false = true) by decide)] at H; exact H
    clear H
    have H := H1
    clear H1
    obtain ⟨ji29, hji29⟩ : ∃ j_ : Int, (mn a1 (wrap64 (a0_1 - a0_0))) = j_ := ⟨_, rfl⟩
    replace H : (if (t232.size : Int) = (wrap64 ((ji29) + 1)) then (bitemporallaw55_ReportEmpty.j1 kj4 t232 t236 ji29 ((t236.size : Int) != (wrap64 ((ji29) + 1)))) else (bitemporallaw55_ReportEmpty.j1 kj4 t232 t236 ji29 true)) = some r := by first | (rw [hji29] at H; exact H) | (simp only [hji29] at H ⊢; exact H)
    have hji29_ : (if (wrap64 (a0_1 - a0_0)) < a1 then (wrap64 (a0_1 - a0_0)) else a1) = ji29 := hji29
    have HC30 := Aside0.mk H
    clear H
    have hcz31_0 : wc.cell? ⟨gb231, 0, none⟩ = some (.int .i64 a0_0) := (blk_cell BK231.out 0).trans rfl
    have hcz31_1 : wc.cell? ⟨gb231, 1, none⟩ = some (.int .i64 a0_1) := (blk_cell BK231.out 1).trans rfl
    have hfz31_0 := blk_frozen BK231.out 0
    have hfz31_1 := blk_frozen BK231.out 1
    go_upto_region 6 with (fail)
    go_cut [55] (fun v55 wc => ∃ (kq : Nat) (x55_29 : Bool), v55 = .bool x55_29 ∧ Aside0 (bitemporallaw55_ReportEmpty.j1 kq t232 t236 ji29 x55_29 = some r) ∧ Aside0 (kq ≤ kj4) ∧ Aside0 (wc.heap[gb231]? = some (.cells #[.int .i64 a0_0, .int .i64 a0_1] 27 (0, 0))) ∧ Aside0 (Below w.heap.size w wc))
    case first =>
     have H := HC30.out
     clear HC30
     by_cases c32 : (t232.size : Int) = (wrap64 ((ji29) + 1))
     ·rw [if_pos c32] at H
      have c32b0 : ((t232.size : Int) == (wrap64 ((ji29) + 1))) = true := beq_iff_eq.mpr c32
      have c32b1 : ((t232.size : Int) != (wrap64 ((ji29) + 1))) = false := bne_eq_false_iff_eq.mpr c32
      clear c32
      (first | rw [c32b0] | (simp only [i64_w, i32_w]; rw [c32b0]) | skip)
      have H' := Aside0.mk H
      clear H
      go_wp2
      go_meet
      case rel => exact ⟨_, (((t236.size : Int) != (wrap64 ((ji29) + 1)))), (by first | rfl | (simp; done) | (simp only [← hji29] <;> (first | rfl | simp)) | (simp [*]; done)), H', ⟨by have := HJ4.out; first | omega | exact Nat.le_refl _⟩, ⟨by (with_reducible repeat (first | refine blk_drewN ?_ _ | refine blk_drew ?_ | refine blk_alloc ?_ _)); exact BK231.out⟩, ⟨by repeat (first | (with_reducible first | exact HB.out | apply below_alloc | apply pw_below_drewN | apply below_drew1 | refine below_set ?_ GE231.out) | exact HB.out)⟩⟩
     ·rw [if_neg c32] at H
      have c32b0 : ((t232.size : Int) == (wrap64 ((ji29) + 1))) = false := beq_eq_false_iff_ne.mpr c32
      have c32b1 : ((t232.size : Int) != (wrap64 ((ji29) + 1))) = true := bne_iff_ne.mpr c32
      (first | rw [c32b0] | (simp only [i64_w, i32_w]; rw [c32b0]) | skip)
      have H' := Aside0.mk H
      clear H
      go_wp2
      go_meet
      case rel => exact ⟨_, (true), (by first | rfl | (simp; done) | (simp [*]; done)), H', ⟨by have := HJ4.out; first | omega | exact Nat.le_refl _⟩, ⟨by (with_reducible repeat (first | refine blk_drewN ?_ _ | refine blk_drew ?_ | refine blk_alloc ?_ _)); exact BK231.out⟩, ⟨by repeat (first | (with_reducible first | exact HB.out | apply below_alloc | apply pw_below_drewN | apply below_drew1 | refine below_set ?_ GE231.out) | exact HB.out)⟩⟩
    case rest =>
     clear HC30
     try clear c1
     try clear c2
     try clear p2
     try clear c3
     try clear c4
     try clear p6
     try clear c8
     try clear c9
     try clear c16
     try clear c17
     try clear c17b0
     try clear c24
     try clear c25
     try clear c25b0
     try clear c25b1
     try clear c26
     try clear c26b0
     try clear c26b1
     try clear c32
     try clear c32b0
     try clear c32b1
     try clear hcz12_0
     try clear hcz12_1
     try clear hcz18_0
     try clear hcz18_1
     try clear hcz20_0
     try clear hcz20_1
     try clear hcz22_0
     try clear hcz22_1
     try clear hcz31_0
     try clear hcz31_1
     try clear hcz7_0
     try clear hcz7_1
     try clear hcz9_0
     try clear hcz9_1
     try clear hfz12_0
     try clear hfz12_1
     try clear hfz18_0
     try clear hfz18_1
     try clear hfz20_0
     try clear hfz20_1
     try clear hfz22_0
     try clear hfz22_1
     try clear hfz31_0
     try clear hfz31_1
     try clear hfz7_0
     try clear hfz7_1
     try clear hfz9_0
     try clear hfz9_1
     try clear p2
     obtain ⟨kq, x55_29, rfl, HA, HJ29, BK231, HB⟩ := hcut
     cases kq with
     | zero => exact absurd HA.out (by simp [bitemporallaw55_ReportEmpty.j1])
     | succ kj29 =>
      have H := HA.out
      clear HA
      simp only [bitemporallaw55_ReportEmpty.j1] at H
      by_cases c33 : x55_29 = true
      ·subst c33
       have H1 : (some false) = some r := by rw [if_pos rfl] at H; exact H
       clear H
       have H := H1
       clear H1
       obtain rfl := Option.some.inj H
       go_wp2
       go_ret
       exact ⟨by first | rfl | (simp [errW_none, errW_some] <;> rfl) | (simp only [← hji29]; first | rfl | (simp [errW_none, errW_some] <;> rfl)) | (simp [*, errW_none, errW_some] <;> rfl), by repeat (first | (with_reducible first | exact HB.out | apply below_alloc | apply pw_below_drewN | apply below_drew1 | refine below_set ?_ GE231.out) | exact HB.out)⟩
      ·replace c33 := Bool.eq_false_iff.mpr c33
       subst c33
       have H1 : (bitemporallaw55_ReportEmpty.l0 kj29 t232 t236 ji29 ji29 0) = some r := by rw [if_neg (show ¬ (false = true) by decide)] at H; exact H
       clear H
       have H := H1
       clear H1
       have H' := Aside0.mk H
       clear H
       go_wp2
       go_loopg [57] kj29 (fun kq v57 w' => ∃ (x57_3 : Int), v57 = .int .i64 x57_3 ∧ Aside0 (bitemporallaw55_ReportEmpty.l0 kq t232 t236 ji29 ji29 x57_3 = some r) ∧ Aside0 (kq ≤ kj29) ∧ Aside0 (w'.heap[gb231]? = some (.cells #[.int .i64 a0_0, .int .i64 a0_1] 27 (0, 0))) ∧ Aside0 (Below w.heap.size w w'))
       case atStart => exact ⟨(0), (by first | rfl | (simp; done) | (simp [*]; done)), H', ⟨Nat.le_refl _⟩, ⟨by (with_reducible repeat (first | refine blk_drewN ?_ _ | refine blk_drew ?_ | refine blk_alloc ?_ _)); exact BK231.out⟩, ⟨by repeat (first | (with_reducible first | exact HB.out | apply below_alloc | apply pw_below_drewN | apply below_drew1 | refine below_set ?_ GE231.out) | exact HB.out)⟩⟩
       case round =>
        clear H'
        try clear c1
        try clear c2
        try clear p2
        try clear c3
        try clear c4
        try clear p6
        try clear c8
        try clear c9
        try clear c16
        try clear c17
        try clear c17b0
        try clear c24
        try clear c25
        try clear c25b0
        try clear c25b1
        try clear c26
        try clear c26b0
        try clear c26b1
        try clear c32
        try clear c32b0
        try clear c32b1
        try clear c33
        try clear hcz12_0
        try clear hcz12_1
        try clear hcz18_0
        try clear hcz18_1
        try clear hcz20_0
        try clear hcz20_1
        try clear hcz22_0
        try clear hcz22_1
        try clear hcz31_0
        try clear hcz31_1
        try clear hcz7_0
        try clear hcz7_1
        try clear hcz9_0
        try clear hcz9_1
        try clear hfz12_0
        try clear hfz12_1
        try clear hfz18_0
        try clear hfz18_1
        try clear hfz20_0
        try clear hfz20_1
        try clear hfz22_0
        try clear hfz22_1
        try clear hfz31_0
        try clear hfz31_1
        try clear hfz7_0
        try clear hfz7_1
        try clear hfz9_0
        try clear hfz9_1
        try clear p2
        try clear p6
        obtain ⟨x57_3, rfl, HA, HK3, BK231, HB⟩ := hrel
        cases gk with
        | zero => exact absurd HA.out (by simp [bitemporallaw55_ReportEmpty.l0])
        | succ k3 =>
         have H := HA.out
         clear HA
         simp only [bitemporallaw55_ReportEmpty.l0] at H
         by_cases c34 : x57_3 < ji29
         ·rw [if_pos c34] at H
          have c34b0 : decide (x57_3 < ji29) = true := decide_eq_true c34
          clear c34
          by_cases c35 : 0 ≤ x57_3
          case neg =>
           rw [if_neg c35] at H
           exact absurd H (by simp)
          rw [if_pos c35] at H
          have c35b0 : decide (0 ≤ x57_3) = true := decide_eq_true c35
          clear c35
          by_cases c36 : x57_3 < (t232.size : Int)
          case neg =>
           rw [if_neg c36] at H
           exact absurd H (by simp)
          rw [if_pos c36] at H
          have c36b0 : decide (x57_3 < (t232.size : Int)) = true := decide_eq_true c36
          clear c36
          by_cases c38 : (bt t232 x57_3) = 46
          ·rw [if_pos c38] at H
           have c38b0 : ((bt t232 x57_3) == 46) = true := beq_iff_eq.mpr c38
           have c38b1 : ((bt t232 x57_3) != 46) = false := bne_eq_false_iff_eq.mpr c38
           clear c38
           by_cases c39 : x57_3 < (t236.size : Int)
           case neg =>
            rw [if_neg c39] at H
            exact absurd H (by simp)
           rw [if_pos c39] at H
           have c39b0 : decide (x57_3 < (t236.size : Int)) = true := decide_eq_true c39
           clear c39
           by_cases c41 : (bt t236 x57_3) = 35
           ·rw [if_pos c41] at H
            have c41b0 : ((bt t236 x57_3) == 35) = true := beq_iff_eq.mpr c41
            have c41b1 : ((bt t236 x57_3) != 35) = false := bne_eq_false_iff_eq.mpr c41
            clear c41
            have H' := Aside0.mk H
            clear H
            have p37 : 0 ≤ (x57_3 : Int) := of_decide_eq_true (by first | (with_reducible assumption) | assumption)
            have q37 : x57_3 < (t232.size : Int) := of_decide_eq_true (by first | (with_reducible assumption) | assumption)
            have hx37 := bt_at t232 x57_3
            replace p37 := eq_true p37
            replace q37 := eq_true q37
            have p40 : 0 ≤ (x57_3 : Int) := of_decide_eq_true (by first | (with_reducible assumption) | assumption)
            have q40 : x57_3 < (t236.size : Int) := of_decide_eq_true (by first | (with_reducible assumption) | assumption)
            have hx40 := bt_at t236 x57_3
            replace p40 := eq_true p40
            replace q40 := eq_true q40
            go_wp2
            go_roundg k3
            case measure => have := HJ4.out; have := HJ29.out; have := HK3.out; omega
            case rel => exact ⟨(wrap64 (x57_3 + 1)), (by first | rfl | (simp; done) | (simp [*]; done)), H', ⟨by have := HJ4.out; have := HJ29.out; have := HK3.out; omega⟩, ⟨by (with_reducible repeat (first | refine blk_drewN ?_ _ | refine blk_drew ?_ | refine blk_alloc ?_ _)); exact BK231.out⟩, ⟨by repeat (first | (with_reducible first | exact HB.out | apply below_alloc | apply pw_below_drewN | apply below_drew1 | refine below_set ?_ GE231.out) | exact HB.out)⟩⟩
           ·rw [if_neg c41] at H
            have c41b0 : ((bt t236 x57_3) == 35) = false := beq_eq_false_iff_ne.mpr c41
            have c41b1 : ((bt t236 x57_3) != 35) = true := bne_iff_ne.mpr c41
            obtain rfl := Option.some.inj H
            have p37 : 0 ≤ (x57_3 : Int) := of_decide_eq_true (by first | (with_reducible assumption) | assumption)
            have q37 : x57_3 < (t232.size : Int) := of_decide_eq_true (by first | (with_reducible assumption) | assumption)
            have hx37 := bt_at t232 x57_3
            replace p37 := eq_true p37
            replace q37 := eq_true q37
            have p40 : 0 ≤ (x57_3 : Int) := of_decide_eq_true (by first | (with_reducible assumption) | assumption)
            have q40 : x57_3 < (t236.size : Int) := of_decide_eq_true (by first | (with_reducible assumption) | assumption)
            have hx40 := bt_at t236 x57_3
            replace p40 := eq_true p40
            replace q40 := eq_true q40
            go_wp2
            go_ret
            exact ⟨by first | rfl | (simp [errW_none, errW_some] <;> rfl) | (simp only [← hji29]; first | rfl | (simp [errW_none, errW_some] <;> rfl)) | (simp [*, errW_none, errW_some] <;> rfl), by repeat (first | (with_reducible first | exact HB.out | apply below_alloc | apply pw_below_drewN | apply below_drew1 | refine below_set ?_ GE231.out) | exact HB.out)⟩
          ·rw [if_neg c38] at H
           have c38b0 : ((bt t232 x57_3) == 46) = false := beq_eq_false_iff_ne.mpr c38
           have c38b1 : ((bt t232 x57_3) != 46) = true := bne_iff_ne.mpr c38
           obtain rfl := Option.some.inj H
           have p37 : 0 ≤ (x57_3 : Int) := of_decide_eq_true (by first | (with_reducible assumption) | assumption)
           have q37 : x57_3 < (t232.size : Int) := of_decide_eq_true (by first | (with_reducible assumption) | assumption)
           have hx37 := bt_at t232 x57_3
           replace p37 := eq_true p37
           replace q37 := eq_true q37
           go_wp2
           go_ret
           exact ⟨by first | rfl | (simp [errW_none, errW_some] <;> rfl) | (simp only [← hji29]; first | rfl | (simp [errW_none, errW_some] <;> rfl)) | (simp [*, errW_none, errW_some] <;> rfl), by repeat (first | (with_reducible first | exact HB.out | apply below_alloc | apply pw_below_drewN | apply below_drew1 | refine below_set ?_ GE231.out) | exact HB.out)⟩
         ·rw [if_neg c34] at H
          have c34b0 : decide (x57_3 < ji29) = false := decide_eq_false c34
          clear c34
          by_cases c42 : 0 ≤ ji29
          case neg =>
           rw [if_neg c42] at H
           exact absurd H (by simp)
          rw [if_pos c42] at H
          have c42b0 : decide (0 ≤ ji29) = true := decide_eq_true c42
          clear c42
          by_cases c43 : ji29 < (t232.size : Int)
          case neg =>
           rw [if_neg c43] at H
           exact absurd H (by simp)
          rw [if_pos c43] at H
          have c43b0 : decide (ji29 < (t232.size : Int)) = true := decide_eq_true c43
          clear c43
          by_cases c45 : (bt t232 ji29) = 10
          ·rw [if_pos c45] at H
           have c45b0 : ((bt t232 ji29) == 10) = true := beq_iff_eq.mpr c45
           have c45b1 : ((bt t232 ji29) != 10) = false := bne_eq_false_iff_eq.mpr c45
           clear c45
           by_cases c46 : ji29 < (t236.size : Int)
           case neg =>
            rw [if_neg c46] at H
            exact absurd H (by simp)
           rw [if_pos c46] at H
           have c46b0 : decide (ji29 < (t236.size : Int)) = true := decide_eq_true c46
           clear c46
           by_cases c48 : (bt t236 ji29) = 10
           ·rw [if_pos c48] at H
            have c48b0 : ((bt t236 ji29) == 10) = true := beq_iff_eq.mpr c48
            have c48b1 : ((bt t236 ji29) != 10) = false := bne_eq_false_iff_eq.mpr c48
            clear c48
            replace H := Option.bind_eq_some_iff.mp H
            obtain ⟨t239, A490, H⟩ := H
            replace H : (some t239) = some r := H
            have A49 := Aside0.mk A490
            clear A490
            obtain rfl := Option.some.inj H
            have p44 : 0 ≤ (ji29 : Int) := of_decide_eq_true (by first | (with_reducible assumption) | assumption)
            have q44 : ji29 < (t232.size : Int) := of_decide_eq_true (by first | (with_reducible assumption) | assumption)
            have hx44 := bt_at t232 ji29
            replace p44 := eq_true p44
            replace q44 := eq_true q44
            have p47 : 0 ≤ (ji29 : Int) := of_decide_eq_true (by first | (with_reducible assumption) | assumption)
            have q47 : ji29 < (t236.size : Int) := of_decide_eq_true (by first | (with_reducible assumption) | assumption)
            have hx47 := bt_at t236 ji29
            replace p47 := eq_true p47
            replace q47 := eq_true q47
            go_wp2_with (first | (go_at_call 7; (with_reducible refine (bitemporallaw55_awake.calls k3  t239 _ A49.out ?gw_).mono ?_); (case gw_ => first | exact HG.out | (refine GW.below HG.out ?_; repeat (first | (with_reducible first | exact HB.out | apply below_alloc | apply pw_below_drewN | apply below_drew1 | refine below_set ?_ GE231.out) | exact HB.out))); rintro e w50 ⟨rfl, hb⟩; have n0_ := Aside0.mk (blk_below (g := gb231) (o := .cells #[.int .i64 a0_0, .int .i64 a0_1] 27 (0, 0)) (by (with_reducible repeat (first | refine blk_drewN ?_ _ | refine blk_drew ?_ | refine blk_alloc ?_ _)); exact BK231.out) hb); have n1_ := Aside0.mk (below_step (by repeat (first | (with_reducible first | exact HB.out | apply below_alloc | apply pw_below_drewN | apply below_drew1 | refine below_set ?_ GE231.out) | exact HB.out)) hb); clear BK231; clear HB; have BK231 := n0_; have HB := n1_; clear n0_ n1_; (try clear hb); (try clear hb2); (try clear hk); (try clear hi)))
            go_ret
            exact ⟨by first | rfl | (simp [errW_none, errW_some] <;> rfl) | (simp only [← hji29]; first | rfl | (simp [errW_none, errW_some] <;> rfl)) | (simp [*, errW_none, errW_some] <;> rfl), by repeat (first | (with_reducible first | exact HB.out | apply below_alloc | apply pw_below_drewN | apply below_drew1 | refine below_set ?_ GE231.out) | exact HB.out)⟩
           ·rw [if_neg c48] at H
            have c48b0 : ((bt t236 ji29) == 10) = false := beq_eq_false_iff_ne.mpr c48
            have c48b1 : ((bt t236 ji29) != 10) = true := bne_iff_ne.mpr c48
            obtain rfl := Option.some.inj H
            have p44 : 0 ≤ (ji29 : Int) := of_decide_eq_true (by first | (with_reducible assumption) | assumption)
            have q44 : ji29 < (t232.size : Int) := of_decide_eq_true (by first | (with_reducible assumption) | assumption)
            have hx44 := bt_at t232 ji29
            replace p44 := eq_true p44
            replace q44 := eq_true q44
            have p47 : 0 ≤ (ji29 : Int) := of_decide_eq_true (by first | (with_reducible assumption) | assumption)
            have q47 : ji29 < (t236.size : Int) := of_decide_eq_true (by first | (with_reducible assumption) | assumption)
            have hx47 := bt_at t236 ji29
            replace p47 := eq_true p47
            replace q47 := eq_true q47
            go_wp2
            go_ret
            exact ⟨by first | rfl | (simp [errW_none, errW_some] <;> rfl) | (simp only [← hji29]; first | rfl | (simp [errW_none, errW_some] <;> rfl)) | (simp [*, errW_none, errW_some] <;> rfl), by repeat (first | (with_reducible first | exact HB.out | apply below_alloc | apply pw_below_drewN | apply below_drew1 | refine below_set ?_ GE231.out) | exact HB.out)⟩
          ·rw [if_neg c45] at H
           have c45b0 : ((bt t232 ji29) == 10) = false := beq_eq_false_iff_ne.mpr c45
           have c45b1 : ((bt t232 ji29) != 10) = true := bne_iff_ne.mpr c45
           obtain rfl := Option.some.inj H
           have p44 : 0 ≤ (ji29 : Int) := of_decide_eq_true (by first | (with_reducible assumption) | assumption)
           have q44 : ji29 < (t232.size : Int) := of_decide_eq_true (by first | (with_reducible assumption) | assumption)
           have hx44 := bt_at t232 ji29
           replace p44 := eq_true p44
           replace q44 := eq_true q44
           go_wp2
           go_ret
           exact ⟨by first | rfl | (simp [errW_none, errW_some] <;> rfl) | (simp only [← hji29]; first | rfl | (simp [errW_none, errW_some] <;> rfl)) | (simp [*, errW_none, errW_some] <;> rfl), by repeat (first | (with_reducible first | exact HB.out | apply below_alloc | apply pw_below_drewN | apply below_drew1 | refine below_set ?_ GE231.out) | exact HB.out)⟩

end Go.Proofs.YthdgjobhofpjeaaDoor.X
