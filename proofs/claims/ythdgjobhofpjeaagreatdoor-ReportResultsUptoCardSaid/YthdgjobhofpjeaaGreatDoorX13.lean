/- Walks of Go functions of this seat, printed by a program of mine (wip/tools/xprint.py) over the kit's printer: each function as a plain Lean function, and the proof that the call comes to what it says. No conditions but those in each theorem. -/
import Derived.Test.YthdgjobhofpjeaaGreatDoorX0
namespace Go.Proofs.YthdgjobhofpjeaaGreatDoor.X
open Go.RowKit Go.Proofs.YthdgjobhofpjeaaGreatDoorW.PrintWords Go.Proofs.YthdgjobhofpjeaaGreatDoorW.PrintLast Go.Proofs.YthdgjobhofpjeaaGreatDoorW.PrintMore
attribute [local go_sem] max2_int min2_int max_two min_two max_three min_three max_four min_four   -- for this text's walks alone
set_option linter.unusedVariables false
set_option linter.unusedSimpArgs false

/-! ### bitemporalref01_Valid: function 42 -/
def bitemporalref01_Valid.f (a0_0 : Int) (a0_1 : Int) : Option (Bool) := if a0_0 ≥ 0 then (if a0_0 < a0_1 then (some (decide (a0_1 ≤ 1099511627776))) else (some false)) else (some false)
set_option maxHeartbeats 8000000 in
set_option maxRecDepth 100000 in
theorem bitemporalref01_Valid.calls (a0_0 : Int) (a0_1 : Int) (r : Bool) (w : World) (h : bitemporalref01_Valid.f a0_0 a0_1 = some r) (hG : GW w) :
  Calls Tryz.prog 42 #[.agg #[.int .i64 a0_0, .int .i64 a0_1]] w fun e w' => e = .returned (.bool r) ∧ Below w.heap.size w w' := by
 have HG := zM hG
 clear hG
 have hu33 := Tryz.underlying33
 have HB := zM (Below.refl w.heap.size w)
 have H : (if a0_0 ≥ 0 then (if a0_0 < a0_1 then (some (decide (a0_1 ≤ 1099511627776))) else (some false)) else (some false)) = some r := h
 clear h
 by_cases c2 : a0_0 ≥ 0
 ·rw [if_pos c2] at H
  have c2b0 : decide (0 ≤ a0_0) = true := decide_eq_true c2
  clear c2
  by_cases c3 : a0_0 < a0_1
  ·rw [if_pos c3] at H
   have c3b0 : decide (a0_0 < a0_1) = true := decide_eq_true c3
   clear c3
   obtain rfl := Option.some.inj H
   go_enter Tryz.func42, Tryz.ntmps42
   go_wp2_with (first | ((with_reducible refine gate_dst (N := 1) rfl ?_); refine box_event ?hg (N := 1) ?hd (cs := #[.int .i64 a0_0, .int .i64 a0_1]) (t := 33) ?hr ?_; (case hd => rfl); (case hg => rfl); (case hr => first | (go_simp; done) | (go_simp; rfl)); intro gb268 hg w4 hbox hb; have n0_ := zM (zT (by repeat (first | (with_reducible first | exact HB.1 | apply zA | apply zN | apply z1) | exact HB.1)) hb); have n1_ := zM (hbox); have n2_ := zM ((by rw [hg]; exact (zZ (by repeat (first | (with_reducible first | exact HB.1 | apply zA | apply zN | apply z1) | exact HB.1))) : w.heap.size ≤ gb268)); have n3_ := n2_; clear HB; have HB := n0_; have BK268 := n1_; have GW268 := n2_; have GE268 := n3_; clear n0_ n1_ n2_ n3_; clear hb hbox hg; have hcz5_0 : w4.cell? ⟨gb268, 0, none⟩ = some (.int .i64 a0_0) := (kC BK268.1 0).trans rfl; have hcz5_1 : w4.cell? ⟨gb268, 1, none⟩ = some (.int .i64 a0_1) := (kC BK268.1 1).trans rfl; have hfz5_0 := kF BK268.1 0; have hfz5_1 := kF BK268.1 1))
   go_ret
   exact ⟨by first | rfl | (simp [errW_none, errW_some] <;> rfl) | (simp [*, errW_none, errW_some] <;> rfl), by repeat (first | (with_reducible first | exact HB.1 | apply zA | apply zN | apply z1 | refine zS ?_ GE268.1) | exact HB.1)⟩
  ·rw [if_neg c3] at H
   have c3b0 : decide (a0_0 < a0_1) = false := decide_eq_false c3
   clear c3
   obtain rfl := Option.some.inj H
   go_enter Tryz.func42, Tryz.ntmps42
   go_wp2_with (first | ((with_reducible refine gate_dst (N := 1) rfl ?_); refine box_event ?hg (N := 1) ?hd (cs := #[.int .i64 a0_0, .int .i64 a0_1]) (t := 33) ?hr ?_; (case hd => rfl); (case hg => rfl); (case hr => first | (go_simp; done) | (go_simp; rfl)); intro gb268 hg w6 hbox hb; have n0_ := zM (zT (by repeat (first | (with_reducible first | exact HB.1 | apply zA | apply zN | apply z1) | exact HB.1)) hb); have n1_ := zM (hbox); have n2_ := zM ((by rw [hg]; exact (zZ (by repeat (first | (with_reducible first | exact HB.1 | apply zA | apply zN | apply z1) | exact HB.1))) : w.heap.size ≤ gb268)); have n3_ := n2_; clear HB; have HB := n0_; have BK268 := n1_; have GW268 := n2_; have GE268 := n3_; clear n0_ n1_ n2_ n3_; clear hb hbox hg; have hcz7_0 : w6.cell? ⟨gb268, 0, none⟩ = some (.int .i64 a0_0) := (kC BK268.1 0).trans rfl; have hcz7_1 : w6.cell? ⟨gb268, 1, none⟩ = some (.int .i64 a0_1) := (kC BK268.1 1).trans rfl; have hfz7_0 := kF BK268.1 0; have hfz7_1 := kF BK268.1 1))
   go_ret
   exact ⟨by first | rfl | (simp [errW_none, errW_some] <;> rfl) | (simp [*, errW_none, errW_some] <;> rfl), by repeat (first | (with_reducible first | exact HB.1 | apply zA | apply zN | apply z1 | refine zS ?_ GE268.1) | exact HB.1)⟩
 ·rw [if_neg c2] at H
  have c2b0 : decide (0 ≤ a0_0) = false := decide_eq_false c2
  clear c2
  obtain rfl := Option.some.inj H
  go_enter Tryz.func42, Tryz.ntmps42
  go_wp2_with (first | ((with_reducible refine gate_dst (N := 1) rfl ?_); refine box_event ?hg (N := 1) ?hd (cs := #[.int .i64 a0_0, .int .i64 a0_1]) (t := 33) ?hr ?_; (case hd => rfl); (case hg => rfl); (case hr => first | (go_simp; done) | (go_simp; rfl)); intro gb268 hg w8 hbox hb; have n0_ := zM (zT (by repeat (first | (with_reducible first | exact HB.1 | apply zA | apply zN | apply z1) | exact HB.1)) hb); have n1_ := zM (hbox); have n2_ := zM ((by rw [hg]; exact (zZ (by repeat (first | (with_reducible first | exact HB.1 | apply zA | apply zN | apply z1) | exact HB.1))) : w.heap.size ≤ gb268)); have n3_ := n2_; clear HB; have HB := n0_; have BK268 := n1_; have GW268 := n2_; have GE268 := n3_; clear n0_ n1_ n2_ n3_; clear hb hbox hg; have hcz9_0 : w8.cell? ⟨gb268, 0, none⟩ = some (.int .i64 a0_0) := (kC BK268.1 0).trans rfl; have hcz9_1 : w8.cell? ⟨gb268, 1, none⟩ = some (.int .i64 a0_1) := (kC BK268.1 1).trans rfl; have hfz9_0 := kF BK268.1 0; have hfz9_1 := kF BK268.1 1))
  go_ret
  exact ⟨by first | rfl | (simp [errW_none, errW_some] <;> rfl) | (simp [*, errW_none, errW_some] <;> rfl), by repeat (first | (with_reducible first | exact HB.1 | apply zA | apply zN | apply z1 | refine zS ?_ GE268.1) | exact HB.1)⟩

end Go.Proofs.YthdgjobhofpjeaaGreatDoor.X
