/- Walks of Go functions of this seat, printed by a program of mine (wip/tools/xprint.py) over the kit's printer: each function as a plain Lean function, and the proof that the call comes to what it says. No conditions but those in each theorem. -/
import Derived.Test.YtoopomkeigjekaaDoorX0
import Derived.Test.YtoopomkeigjekaaDoorX1
import Derived.Test.YtoopomkeigjekaaDoorX3
import Derived.Test.YtoopomkeigjekaaDoorX4
import Derived.Test.YtoopomkeigjekaaDoorX5
import Derived.Test.YtoopomkeigjekaaDoorX8
namespace Go.Proofs.YtoopomkeigjekaaDoor.X
open Go.RowKit Go.Proofs.YtoopomkeigjekaaDoorW.PrintWords Go.Proofs.YtoopomkeigjekaaDoorW.PrintLast Go.Proofs.YtoopomkeigjekaaDoorW.PrintMore
attribute [local go_sem] max2_int min2_int max_two min_two max_three min_three max_four min_four   -- for this text's walks alone
set_option linter.unusedVariables false
set_option linter.unusedSimpArgs false

attribute [local go_sem high] eqA23
/-! ### bitemporallaw07_ValueOrder: function 7 -/
mutual
def bitemporallaw07_ValueOrder.j0 : Nat → Bool → Int → Int → ByteArray → Int → Int → ByteArray → Option (Bool)
  | 0, _, _, _, _, _, _, _ => none
  | k + 1, x51, x380000, x380001, x380002, x381000, x381001, x381002 => if x51 = true then (some false) else (if x380000 = x381000 then (bitemporallaw07_ValueOrder.j1 k (x380000 == 0) x380000 x380001 x380002 x381000 x381001 x381002) else (bitemporallaw07_ValueOrder.j1 k true x380000 x380001 x380002 x381000 x381001 x381002))
def bitemporallaw07_ValueOrder.j1 : Nat → Bool → Int → Int → ByteArray → Int → Int → ByteArray → Option (Bool)
  | 0, _, _, _, _, _, _, _ => none
  | k + 1, x61, x380000, x380001, x380002, x381000, x381001, x381002 => if x61 = true then ((value_Less.f k x380000 x380001 x380002 x381000 x381001 x381002).bind fun t386 => (if t386 = 1 then ((value_Equal.f k x380000 x380001 x380002 x381000 x381001 x381002).bind fun t387 => (if t387 = 1 then ((bitemporallaw07_awake.f k).bind fun t388 => (some t388)) else (some false))) else (some false))) else ((value_Less.f k x380000 x380001 x380002 x381000 x381001 x381002).bind fun t389 => (if t389 = 2 then (bitemporallaw07_ValueOrder.j2 k (0 + 1) x380000 x380001 x380002 x381000 x381001 x381002) else (bitemporallaw07_ValueOrder.j2 k 0 x380000 x380001 x380002 x381000 x381001 x381002)))
def bitemporallaw07_ValueOrder.j2 : Nat → Int → Int → Int → ByteArray → Int → Int → ByteArray → Option (Bool)
  | 0, _, _, _, _, _, _, _ => none
  | k + 1, x9, x380000, x380001, x380002, x381000, x381001, x381002 => (value_Equal.f k x380000 x380001 x380002 x381000 x381001 x381002).bind fun t390 => (if t390 = 2 then (bitemporallaw07_ValueOrder.j3 k (wrap64 (x9 + 1)) x380000 x380001 x380002 x381000 x381001 x381002) else (bitemporallaw07_ValueOrder.j3 k x9 x380000 x380001 x380002 x381000 x381001 x381002))
def bitemporallaw07_ValueOrder.j3 : Nat → Int → Int → Int → ByteArray → Int → Int → ByteArray → Option (Bool)
  | 0, _, _, _, _, _, _, _ => none
  | k + 1, x9, x380000, x380001, x380002, x381000, x381001, x381002 => (value_Less.f k x381000 x381001 x381002 x380000 x380001 x380002).bind fun t391 => (if t391 = 2 then (if (wrap64 (x9 + 1)) = 1 then ((bitemporallaw07_awake.f k).bind fun t392 => (some t392)) else (some false)) else (if x9 = 1 then ((bitemporallaw07_awake.f k).bind fun t393 => (some t393)) else (some false)))
end
def bitemporallaw07_ValueOrder.f (k : Nat) (a0_0 : Int) (a0_1 : Int) (a0_2 : ByteArray) (a1_0 : Int) (a1_1 : Int) (a1_2 : ByteArray) (a2_0 : Int) (a2_1 : Int) (a2_2 : ByteArray) : Option (Bool) := (value_Compare.f k a0_0 a0_1 a0_2 a1_0 a1_1 a1_2).bind fun t382 => ((value_Compare.f k a1_0 a1_1 a1_2 a2_0 a2_1 a2_2).bind fun t383 => (if t382 < (-1) then (bitemporallaw07_ValueOrder.j0 k true a0_0 a0_1 a0_2 a1_0 a1_1 a1_2) else (if t382 > 1 then (bitemporallaw07_ValueOrder.j0 k true a0_0 a0_1 a0_2 a1_0 a1_1 a1_2) else ((value_Compare.f k a1_0 a1_1 a1_2 a0_0 a0_1 a0_2).bind fun t384 => (if t384 = (wrap64 (-t382)) then (if ((t382 == 0) != (a0_0 == a1_0 && (a0_1 == a1_1 && (a0_2.toList == a1_2.toList)))) = true then (bitemporallaw07_ValueOrder.j0 k true a0_0 a0_1 a0_2 a1_0 a1_1 a1_2) else (if t382 ≤ 0 then (if t383 ≤ 0 then ((value_Compare.f k a0_0 a0_1 a0_2 a2_0 a2_1 a2_2).bind fun t385 => (bitemporallaw07_ValueOrder.j0 k (decide (t385 > 0)) a0_0 a0_1 a0_2 a1_0 a1_1 a1_2)) else (bitemporallaw07_ValueOrder.j0 k false a0_0 a0_1 a0_2 a1_0 a1_1 a1_2)) else (bitemporallaw07_ValueOrder.j0 k false a0_0 a0_1 a0_2 a1_0 a1_1 a1_2))) else (bitemporallaw07_ValueOrder.j0 k true a0_0 a0_1 a0_2 a1_0 a1_1 a1_2))))))
theorem bitemporallaw07_ValueOrder.mono_l : ∀ k, (∀ y0 y1 y2 y3 y4 y5 y6, LeO (bitemporallaw07_ValueOrder.j0 k y0 y1 y2 y3 y4 y5 y6) (bitemporallaw07_ValueOrder.j0 (k + 1) y0 y1 y2 y3 y4 y5 y6)) ∧ (∀ y0 y1 y2 y3 y4 y5 y6, LeO (bitemporallaw07_ValueOrder.j1 k y0 y1 y2 y3 y4 y5 y6) (bitemporallaw07_ValueOrder.j1 (k + 1) y0 y1 y2 y3 y4 y5 y6)) ∧ (∀ y0 y1 y2 y3 y4 y5 y6, LeO (bitemporallaw07_ValueOrder.j2 k y0 y1 y2 y3 y4 y5 y6) (bitemporallaw07_ValueOrder.j2 (k + 1) y0 y1 y2 y3 y4 y5 y6)) ∧ (∀ y0 y1 y2 y3 y4 y5 y6, LeO (bitemporallaw07_ValueOrder.j3 k y0 y1 y2 y3 y4 y5 y6) (bitemporallaw07_ValueOrder.j3 (k + 1) y0 y1 y2 y3 y4 y5 y6))
  | 0 => ⟨fun _ _ _ _ _ _ _ r h => by simp [bitemporallaw07_ValueOrder.j0] at h, fun _ _ _ _ _ _ _ r h => by simp [bitemporallaw07_ValueOrder.j1] at h, fun _ _ _ _ _ _ _ r h => by simp [bitemporallaw07_ValueOrder.j2] at h, fun _ _ _ _ _ _ _ r h => by simp [bitemporallaw07_ValueOrder.j3] at h⟩
  | k + 1 => by
    obtain ⟨ih0, ih1, ih2, ih3⟩ := bitemporallaw07_ValueOrder.mono_l k
    refine ⟨?_, ?_, ?_, ?_⟩
    · intro y0 y1 y2 y3 y4 y5 y6
      unfold bitemporallaw07_ValueOrder.j0
      repeat' first
      | (with_reducible exact ih0 _ _ _ _ _ _ _)
      | (with_reducible exact ih1 _ _ _ _ _ _ _)
      | (with_reducible exact ih2 _ _ _ _ _ _ _)
      | (with_reducible exact ih3 _ _ _ _ _ _ _)
      | (with_reducible exact bitemporallaw07_awake.mono _)
      | (with_reducible exact value_Compare.mono _ _ _ _ _ _ _)
      | (with_reducible exact value_Equal.mono _ _ _ _ _ _ _)
      | (with_reducible exact value_Less.mono _ _ _ _ _ _ _)
      | (with_reducible exact LeO.refl _)
      | (with_reducible exact LeO.none _)
      | (with_reducible refine LeO.ite ?_ ?_)
      | (with_reducible refine LeO.bind ?_ (fun _ => ?_))
      | exact ih0 _ _ _ _ _ _ _
      | exact ih1 _ _ _ _ _ _ _
      | exact ih2 _ _ _ _ _ _ _
      | exact ih3 _ _ _ _ _ _ _
      | exact bitemporallaw07_awake.mono _
      | exact value_Compare.mono _ _ _ _ _ _ _
      | exact value_Equal.mono _ _ _ _ _ _ _
      | exact value_Less.mono _ _ _ _ _ _ _
      | exact LeO.none _
      | refine LeO.ite ?_ ?_
      | refine LeO.bind ?_ (fun _ => ?_)
    · intro y0 y1 y2 y3 y4 y5 y6
      unfold bitemporallaw07_ValueOrder.j1
      repeat' first
      | (with_reducible exact ih0 _ _ _ _ _ _ _)
      | (with_reducible exact ih1 _ _ _ _ _ _ _)
      | (with_reducible exact ih2 _ _ _ _ _ _ _)
      | (with_reducible exact ih3 _ _ _ _ _ _ _)
      | (with_reducible exact bitemporallaw07_awake.mono _)
      | (with_reducible exact value_Compare.mono _ _ _ _ _ _ _)
      | (with_reducible exact value_Equal.mono _ _ _ _ _ _ _)
      | (with_reducible exact value_Less.mono _ _ _ _ _ _ _)
      | (with_reducible exact LeO.refl _)
      | (with_reducible exact LeO.none _)
      | (with_reducible refine LeO.ite ?_ ?_)
      | (with_reducible refine LeO.bind ?_ (fun _ => ?_))
      | exact ih0 _ _ _ _ _ _ _
      | exact ih1 _ _ _ _ _ _ _
      | exact ih2 _ _ _ _ _ _ _
      | exact ih3 _ _ _ _ _ _ _
      | exact bitemporallaw07_awake.mono _
      | exact value_Compare.mono _ _ _ _ _ _ _
      | exact value_Equal.mono _ _ _ _ _ _ _
      | exact value_Less.mono _ _ _ _ _ _ _
      | exact LeO.none _
      | refine LeO.ite ?_ ?_
      | refine LeO.bind ?_ (fun _ => ?_)
    · intro y0 y1 y2 y3 y4 y5 y6
      unfold bitemporallaw07_ValueOrder.j2
      repeat' first
      | (with_reducible exact ih0 _ _ _ _ _ _ _)
      | (with_reducible exact ih1 _ _ _ _ _ _ _)
      | (with_reducible exact ih2 _ _ _ _ _ _ _)
      | (with_reducible exact ih3 _ _ _ _ _ _ _)
      | (with_reducible exact bitemporallaw07_awake.mono _)
      | (with_reducible exact value_Compare.mono _ _ _ _ _ _ _)
      | (with_reducible exact value_Equal.mono _ _ _ _ _ _ _)
      | (with_reducible exact value_Less.mono _ _ _ _ _ _ _)
      | (with_reducible exact LeO.refl _)
      | (with_reducible exact LeO.none _)
      | (with_reducible refine LeO.ite ?_ ?_)
      | (with_reducible refine LeO.bind ?_ (fun _ => ?_))
      | exact ih0 _ _ _ _ _ _ _
      | exact ih1 _ _ _ _ _ _ _
      | exact ih2 _ _ _ _ _ _ _
      | exact ih3 _ _ _ _ _ _ _
      | exact bitemporallaw07_awake.mono _
      | exact value_Compare.mono _ _ _ _ _ _ _
      | exact value_Equal.mono _ _ _ _ _ _ _
      | exact value_Less.mono _ _ _ _ _ _ _
      | exact LeO.none _
      | refine LeO.ite ?_ ?_
      | refine LeO.bind ?_ (fun _ => ?_)
    · intro y0 y1 y2 y3 y4 y5 y6
      unfold bitemporallaw07_ValueOrder.j3
      repeat' first
      | (with_reducible exact ih0 _ _ _ _ _ _ _)
      | (with_reducible exact ih1 _ _ _ _ _ _ _)
      | (with_reducible exact ih2 _ _ _ _ _ _ _)
      | (with_reducible exact ih3 _ _ _ _ _ _ _)
      | (with_reducible exact bitemporallaw07_awake.mono _)
      | (with_reducible exact value_Compare.mono _ _ _ _ _ _ _)
      | (with_reducible exact value_Equal.mono _ _ _ _ _ _ _)
      | (with_reducible exact value_Less.mono _ _ _ _ _ _ _)
      | (with_reducible exact LeO.refl _)
      | (with_reducible exact LeO.none _)
      | (with_reducible refine LeO.ite ?_ ?_)
      | (with_reducible refine LeO.bind ?_ (fun _ => ?_))
      | exact ih0 _ _ _ _ _ _ _
      | exact ih1 _ _ _ _ _ _ _
      | exact ih2 _ _ _ _ _ _ _
      | exact ih3 _ _ _ _ _ _ _
      | exact bitemporallaw07_awake.mono _
      | exact value_Compare.mono _ _ _ _ _ _ _
      | exact value_Equal.mono _ _ _ _ _ _ _
      | exact value_Less.mono _ _ _ _ _ _ _
      | exact LeO.none _
      | refine LeO.ite ?_ ?_
      | refine LeO.bind ?_ (fun _ => ?_)
theorem bitemporallaw07_ValueOrder.mono : ∀ a0 a1 a2 a3 a4 a5 a6 a7 a8 k, LeO (bitemporallaw07_ValueOrder.f k a0 a1 a2 a3 a4 a5 a6 a7 a8) (bitemporallaw07_ValueOrder.f (k + 1) a0 a1 a2 a3 a4 a5 a6 a7 a8) := by
  intro a0 a1 a2 a3 a4 a5 a6 a7 a8 k
  obtain ⟨ih0, ih1, ih2, ih3⟩ := bitemporallaw07_ValueOrder.mono_l k
  unfold bitemporallaw07_ValueOrder.f
  repeat' first
      | (with_reducible exact ih0 _ _ _ _ _ _ _)
      | (with_reducible exact ih1 _ _ _ _ _ _ _)
      | (with_reducible exact ih2 _ _ _ _ _ _ _)
      | (with_reducible exact ih3 _ _ _ _ _ _ _)
      | (with_reducible exact bitemporallaw07_awake.mono _)
      | (with_reducible exact value_Compare.mono _ _ _ _ _ _ _)
      | (with_reducible exact value_Equal.mono _ _ _ _ _ _ _)
      | (with_reducible exact value_Less.mono _ _ _ _ _ _ _)
      | (with_reducible exact LeO.refl _)
      | (with_reducible exact LeO.none _)
      | (with_reducible refine LeO.ite ?_ ?_)
      | (with_reducible refine LeO.bind ?_ (fun _ => ?_))
      | exact ih0 _ _ _ _ _ _ _
      | exact ih1 _ _ _ _ _ _ _
      | exact ih2 _ _ _ _ _ _ _
      | exact ih3 _ _ _ _ _ _ _
      | exact bitemporallaw07_awake.mono _
      | exact value_Compare.mono _ _ _ _ _ _ _
      | exact value_Equal.mono _ _ _ _ _ _ _
      | exact value_Less.mono _ _ _ _ _ _ _
      | exact LeO.none _
      | refine LeO.ite ?_ ?_
      | refine LeO.bind ?_ (fun _ => ?_)
def bitemporallaw07_ValueOrder.T1 : Bool × List (List Nat × List Nat) := (true, [([], []), ([], []), ([0, 1], [0, 1]), ([], []), ([], []), ([3, 4, 2], [3, 4]), ([2, 5, 0, 1, 2], [2]), ([5, 6, 0, 1, 2, 3, 4, 5, 6], [5])])
def bitemporallaw07_ValueOrder.B1 : List Nat := [0, 0, 3, 0, 0, 31, 63, 127]
theorem bitemporallaw07_ValueOrder.tab1 : rtab .any (opsOf Tryd.f7 1) = bitemporallaw07_ValueOrder.T1 := by kernel_rfl
theorem bitemporallaw07_ValueOrder.bits1 : waitsOk bitemporallaw07_ValueOrder.T1.2 bitemporallaw07_ValueOrder.B1 = true := by kernel_rfl
set_option maxHeartbeats 8000000 in
set_option maxRecDepth 100000 in
theorem bitemporallaw07_ValueOrder.calls (k : Nat) (a0_0 : Int) (a0_1 : Int) (a0_2 : ByteArray) (a1_0 : Int) (a1_1 : Int) (a1_2 : ByteArray) (a2_0 : Int) (a2_1 : Int) (a2_2 : ByteArray) (r : Bool) (w : World) (h : bitemporallaw07_ValueOrder.f k a0_0 a0_1 a0_2 a1_0 a1_1 a1_2 a2_0 a2_1 a2_2 = some r) (hG : GW w) :
    Calls Tryd.prog 7 #[.agg #[.int .i64 a0_0, .int .i64 a0_1, .string a0_2], .agg #[.int .i64 a1_0, .int .i64 a1_1, .string a1_2], .agg #[.int .i64 a2_0, .int .i64 a2_1, .string a2_2]] w fun e w' => e = .returned (.bool r) ∧ Below w.heap.size w w' := by
  have HG := Aside0.mk hG
  clear hG
  have hu23 := Tryd.underlying23
  have HB := Aside0.mk (Below.refl w.heap.size w)
  have H : ((value_Compare.f k a0_0 a0_1 a0_2 a1_0 a1_1 a1_2).bind fun t382 => ((value_Compare.f k a1_0 a1_1 a1_2 a2_0 a2_1 a2_2).bind fun t383 => (if t382 < (-1) then (bitemporallaw07_ValueOrder.j0 k true a0_0 a0_1 a0_2 a1_0 a1_1 a1_2) else (if t382 > 1 then (bitemporallaw07_ValueOrder.j0 k true a0_0 a0_1 a0_2 a1_0 a1_1 a1_2) else ((value_Compare.f k a1_0 a1_1 a1_2 a0_0 a0_1 a0_2).bind fun t384 => (if t384 = (wrap64 (-t382)) then (if ((t382 == 0) != (a0_0 == a1_0 && (a0_1 == a1_1 && (a0_2.toList == a1_2.toList)))) = true then (bitemporallaw07_ValueOrder.j0 k true a0_0 a0_1 a0_2 a1_0 a1_1 a1_2) else (if t382 ≤ 0 then (if t383 ≤ 0 then ((value_Compare.f k a0_0 a0_1 a0_2 a2_0 a2_1 a2_2).bind fun t385 => (bitemporallaw07_ValueOrder.j0 k (decide (t385 > 0)) a0_0 a0_1 a0_2 a1_0 a1_1 a1_2)) else (bitemporallaw07_ValueOrder.j0 k false a0_0 a0_1 a0_2 a1_0 a1_1 a1_2)) else (bitemporallaw07_ValueOrder.j0 k false a0_0 a0_1 a0_2 a1_0 a1_1 a1_2))) else (bitemporallaw07_ValueOrder.j0 k true a0_0 a0_1 a0_2 a1_0 a1_1 a1_2))))))) = some r := h
  clear h
  replace H := Option.bind_eq_some_iff.mp H
  obtain ⟨t382, A40, H⟩ := H
  replace H : ((value_Compare.f k a1_0 a1_1 a1_2 a2_0 a2_1 a2_2).bind fun t383 => (if t382 < (-1) then (bitemporallaw07_ValueOrder.j0 k true a0_0 a0_1 a0_2 a1_0 a1_1 a1_2) else (if t382 > 1 then (bitemporallaw07_ValueOrder.j0 k true a0_0 a0_1 a0_2 a1_0 a1_1 a1_2) else ((value_Compare.f k a1_0 a1_1 a1_2 a0_0 a0_1 a0_2).bind fun t384 => (if t384 = (wrap64 (-t382)) then (if ((t382 == 0) != (a0_0 == a1_0 && (a0_1 == a1_1 && (a0_2.toList == a1_2.toList)))) = true then (bitemporallaw07_ValueOrder.j0 k true a0_0 a0_1 a0_2 a1_0 a1_1 a1_2) else (if t382 ≤ 0 then (if t383 ≤ 0 then ((value_Compare.f k a0_0 a0_1 a0_2 a2_0 a2_1 a2_2).bind fun t385 => (bitemporallaw07_ValueOrder.j0 k (decide (t385 > 0)) a0_0 a0_1 a0_2 a1_0 a1_1 a1_2)) else (bitemporallaw07_ValueOrder.j0 k false a0_0 a0_1 a0_2 a1_0 a1_1 a1_2)) else (bitemporallaw07_ValueOrder.j0 k false a0_0 a0_1 a0_2 a1_0 a1_1 a1_2))) else (bitemporallaw07_ValueOrder.j0 k true a0_0 a0_1 a0_2 a1_0 a1_1 a1_2)))))) = some r := H
  have A4 := Aside0.mk A40
  clear A40
  replace H := Option.bind_eq_some_iff.mp H
  obtain ⟨t383, A50, H⟩ := H
  replace H : (if t382 < (-1) then (bitemporallaw07_ValueOrder.j0 k true a0_0 a0_1 a0_2 a1_0 a1_1 a1_2) else (if t382 > 1 then (bitemporallaw07_ValueOrder.j0 k true a0_0 a0_1 a0_2 a1_0 a1_1 a1_2) else ((value_Compare.f k a1_0 a1_1 a1_2 a0_0 a0_1 a0_2).bind fun t384 => (if t384 = (wrap64 (-t382)) then (if ((t382 == 0) != (a0_0 == a1_0 && (a0_1 == a1_1 && (a0_2.toList == a1_2.toList)))) = true then (bitemporallaw07_ValueOrder.j0 k true a0_0 a0_1 a0_2 a1_0 a1_1 a1_2) else (if t382 ≤ 0 then (if t383 ≤ 0 then ((value_Compare.f k a0_0 a0_1 a0_2 a2_0 a2_1 a2_2).bind fun t385 => (bitemporallaw07_ValueOrder.j0 k (decide (t385 > 0)) a0_0 a0_1 a0_2 a1_0 a1_1 a1_2)) else (bitemporallaw07_ValueOrder.j0 k false a0_0 a0_1 a0_2 a1_0 a1_1 a1_2)) else (bitemporallaw07_ValueOrder.j0 k false a0_0 a0_1 a0_2 a1_0 a1_1 a1_2))) else (bitemporallaw07_ValueOrder.j0 k true a0_0 a0_1 a0_2 a1_0 a1_1 a1_2))))) = some r := H
  have A5 := Aside0.mk A50
  clear A50
  have HC6 := Aside0.mk H
  clear H
  go_enter Tryd.func7, Tryd.ntmps7
  try go_wp2_with (first | ((with_reducible refine gate_dst (N := 3) rfl ?_); refine box_event ?hg (N := 3) ?hd (cs := #[.int .i64 a0_0, .int .i64 a0_1, .string a0_2]) (t := 23) ?hr ?_; (case hd => rfl); (case hg => rfl); (case hr => first | (go_simp; done) | (go_simp; rfl)); intro gb379 hg w7 hbox hb; have n0_ := Aside0.mk (below_step (by repeat (first | (with_reducible first | exact HB.out | apply below_alloc | apply pw_below_drewN | apply below_drew1) | exact HB.out)) hb); have n1_ := Aside0.mk (hbox); have n2_ := Aside0.mk ((by rw [hg]; exact (below_size (by repeat (first | (with_reducible first | exact HB.out | apply below_alloc | apply pw_below_drewN | apply below_drew1) | exact HB.out))) : w.heap.size ≤ gb379)); have n3_ := Aside0.mk ((by rw [hg]; exact (below_size (by repeat (first | (with_reducible first | exact HB.out | apply below_alloc | apply pw_below_drewN | apply below_drew1) | exact HB.out))) : w.heap.size ≤ gb379)); clear HB; have HB := n0_; have BK379 := n1_; have GW379 := n2_; have GE379 := n3_; clear n0_ n1_ n2_ n3_; clear hb hbox hg) | ((with_reducible refine gate_dst (N := 4) rfl ?_); refine box_event ?hg (N := 4) ?hd (cs := #[.int .i64 a1_0, .int .i64 a1_1, .string a1_2]) (t := 23) ?hr ?_; (case hd => rfl); (case hg => rfl); (case hr => first | (go_simp; done) | (go_simp; rfl)); intro gb380 hg w8 hbox hb; have n0_ := Aside0.mk (blk_below (g := gb379) (o := .cells #[.int .i64 a0_0, .int .i64 a0_1, .string a0_2] 23 (0, 0)) (by (with_reducible repeat (first | refine blk_drewN ?_ _ | refine blk_drew ?_ | refine blk_alloc ?_ _)); exact BK379.out) hb); have n1_ := Aside0.mk (below_step (by repeat (first | (with_reducible first | exact HB.out | apply below_alloc | apply pw_below_drewN | apply below_drew1 | refine below_set ?_ GE379.out) | exact HB.out)) hb); have n2_ := Aside0.mk (hbox); have n3_ := Aside0.mk ((by rw [hg]; exact (below_size (by repeat (first | (with_reducible first | exact HB.out | apply below_alloc | apply pw_below_drewN | apply below_drew1 | refine below_set ?_ GE379.out) | exact HB.out))) : w.heap.size ≤ gb380)); have n4_ := Aside0.mk ((by rw [hg]; exact (below_size (by repeat (first | (with_reducible first | exact HB.out | apply below_alloc | apply pw_below_drewN | apply below_drew1 | refine below_set ?_ GE379.out) | exact HB.out))) : w.heap.size ≤ gb380)); have n5_ := Aside0.mk ((by rw [hg]; exact Nat.ne_of_lt (blk_lt (g := gb379) (o := .cells #[.int .i64 a0_0, .int .i64 a0_1, .string a0_2] 23 (0, 0)) (by (with_reducible repeat (first | refine blk_drewN ?_ _ | refine blk_drew ?_ | refine blk_alloc ?_ _)); exact BK379.out)) : gb379 ≠ gb380)); have n6_ := Aside0.mk ((by rw [hg]; exact Nat.ne_of_gt (blk_lt (g := gb379) (o := .cells #[.int .i64 a0_0, .int .i64 a0_1, .string a0_2] 23 (0, 0)) (by (with_reducible repeat (first | refine blk_drewN ?_ _ | refine blk_drew ?_ | refine blk_alloc ?_ _)); exact BK379.out)) : gb380 ≠ gb379)); clear BK379; clear HB; have BK379 := n0_; have HB := n1_; have BK380 := n2_; have GW380 := n3_; have GE380 := n4_; have NB379_380 := n5_; have NB380_379 := n6_; clear n0_ n1_ n2_ n3_ n4_ n5_ n6_; clear hb hbox hg) | ((with_reducible refine gate_dst (N := 5) rfl ?_); refine box_event ?hg (N := 5) ?hd (cs := #[.int .i64 a2_0, .int .i64 a2_1, .string a2_2]) (t := 23) ?hr ?_; (case hd => rfl); (case hg => rfl); (case hr => first | (go_simp; done) | (go_simp; rfl)); intro gb381 hg w9 hbox hb; have n0_ := Aside0.mk (blk_below (g := gb379) (o := .cells #[.int .i64 a0_0, .int .i64 a0_1, .string a0_2] 23 (0, 0)) (by (with_reducible repeat (first | refine blk_drewN ?_ _ | refine blk_drew ?_ | refine blk_alloc ?_ _)); exact BK379.out) hb); have n1_ := Aside0.mk (blk_below (g := gb380) (o := .cells #[.int .i64 a1_0, .int .i64 a1_1, .string a1_2] 23 (0, 0)) (by (with_reducible repeat (first | refine blk_drewN ?_ _ | refine blk_drew ?_ | refine blk_alloc ?_ _)); exact BK380.out) hb); have n2_ := Aside0.mk (below_step (by repeat (first | (with_reducible first | exact HB.out | apply below_alloc | apply pw_below_drewN | apply below_drew1 | refine below_set ?_ GE379.out | refine below_set ?_ GE380.out) | exact HB.out)) hb); have n3_ := Aside0.mk (hbox); have n4_ := Aside0.mk ((by rw [hg]; exact (below_size (by repeat (first | (with_reducible first | exact HB.out | apply below_alloc | apply pw_below_drewN | apply below_drew1 | refine below_set ?_ GE379.out | refine below_set ?_ GE380.out) | exact HB.out))) : w.heap.size ≤ gb381)); have n5_ := Aside0.mk ((by rw [hg]; exact (below_size (by repeat (first | (with_reducible first | exact HB.out | apply below_alloc | apply pw_below_drewN | apply below_drew1 | refine below_set ?_ GE379.out | refine below_set ?_ GE380.out) | exact HB.out))) : w.heap.size ≤ gb381)); have n6_ := Aside0.mk ((by rw [hg]; exact Nat.ne_of_lt (blk_lt (g := gb379) (o := .cells #[.int .i64 a0_0, .int .i64 a0_1, .string a0_2] 23 (0, 0)) (by (with_reducible repeat (first | refine blk_drewN ?_ _ | refine blk_drew ?_ | refine blk_alloc ?_ _)); exact BK379.out)) : gb379 ≠ gb381)); have n7_ := Aside0.mk ((by rw [hg]; exact Nat.ne_of_gt (blk_lt (g := gb379) (o := .cells #[.int .i64 a0_0, .int .i64 a0_1, .string a0_2] 23 (0, 0)) (by (with_reducible repeat (first | refine blk_drewN ?_ _ | refine blk_drew ?_ | refine blk_alloc ?_ _)); exact BK379.out)) : gb381 ≠ gb379)); have n8_ := Aside0.mk ((by rw [hg]; exact Nat.ne_of_lt (blk_lt (g := gb380) (o := .cells #[.int .i64 a1_0, .int .i64 a1_1, .string a1_2] 23 (0, 0)) (by (with_reducible repeat (first | refine blk_drewN ?_ _ | refine blk_drew ?_ | refine blk_alloc ?_ _)); exact BK380.out)) : gb380 ≠ gb381)); have n9_ := Aside0.mk ((by rw [hg]; exact Nat.ne_of_gt (blk_lt (g := gb380) (o := .cells #[.int .i64 a1_0, .int .i64 a1_1, .string a1_2] 23 (0, 0)) (by (with_reducible repeat (first | refine blk_drewN ?_ _ | refine blk_drew ?_ | refine blk_alloc ?_ _)); exact BK380.out)) : gb381 ≠ gb380)); clear BK379; clear BK380; clear HB; have BK379 := n0_; have BK380 := n1_; have HB := n2_; have BK381 := n3_; have GW381 := n4_; have GE381 := n5_; have NB379_381 := n6_; have NB381_379 := n7_; have NB380_381 := n8_; have NB381_380 := n9_; clear n0_ n1_ n2_ n3_ n4_ n5_ n6_ n7_ n8_ n9_; clear hb hbox hg))
  have n0_ := Aside0.mk (blk_drew BK379.out)
  have n1_ := Aside0.mk (blk_drew BK380.out)
  have n2_ := Aside0.mk (blk_drew BK381.out)
  have n3_ := Aside0.mk (below_drew1 HB.out)
  clear BK379
  clear BK380
  clear BK381
  clear HB
  have BK379 := n0_
  have BK380 := n1_
  have BK381 := n2_
  have HB := n3_
  clear n0_ n1_ n2_ n3_
  refine start_ (n := 8) (S := fun w' => w'.cell? ⟨gb379, 0, none⟩ = some (.int .i64 a0_0) ∧ w'.cell? ⟨gb379, 1, none⟩ = some (.int .i64 a0_1) ∧ w'.cell? ⟨gb379, 2, none⟩ = some (.string a0_2) ∧ w'.cell? ⟨gb380, 0, none⟩ = some (.int .i64 a1_0) ∧ w'.cell? ⟨gb380, 1, none⟩ = some (.int .i64 a1_1) ∧ w'.cell? ⟨gb380, 2, none⟩ = some (.string a1_2) ∧ w'.cell? ⟨gb381, 0, none⟩ = some (.int .i64 a2_0) ∧ w'.cell? ⟨gb381, 1, none⟩ = some (.int .i64 a2_1) ∧ w'.cell? ⟨gb381, 2, none⟩ = some (.string a2_2)) (ds := []) #[false, false, false, false, false, false, false, false] (by kernel_rfl) rfl rfl ⟨(blk_cell BK379.out 0).trans rfl, (blk_cell BK379.out 1).trans rfl, (blk_cell BK379.out 2).trans rfl, (blk_cell BK380.out 0).trans rfl, (blk_cell BK380.out 1).trans rfl, (blk_cell BK380.out 2).trans rfl, (blk_cell BK381.out 0).trans rfl, (blk_cell BK381.out 1).trans rfl, (blk_cell BK381.out 2).trans rfl⟩ (fun hHeld => ?_); refine with_tabW bitemporallaw07_ValueOrder.tab1 bitemporallaw07_ValueOrder.bits1 (fun HT_ HW_ => ?_)
  generalize w9.drew = w10 at BK379 BK380 BK381 HB hHeld ⊢
  refine take_ (i := 0) (N := some 10) (v := ?_) (a' := ?_) #[true, false, false, false, false, false, false, false] rfl rfl (take_ofW HT_.out HW_.out (by kernel_rfl)) (fun _ _ _ h => h) (Or.inl ⟨by rfl, ?_⟩) hHeld ?_ ?_
  rotate_left
  · rintro w' ⟨s0, s1, s2, s3, s4, s5, s6, s7, s8⟩
    go_simp
    with_reducible rfl
  rotate_left
  · simp only [Act.put, List.setIfInBounds_toArray, List.set_cons_zero, List.set_cons_succ, i64_w, i32_w]
    rfl
  refine take_ (i := 1) (N := some 11) (v := ?_) (a' := ?_) #[true, true, false, false, false, false, false, false] rfl rfl (take_ofW HT_.out HW_.out (by kernel_rfl)) (fun _ _ _ h => h) (Or.inl ⟨by rfl, ?_⟩) hHeld ?_ ?_
  rotate_left
  · rintro w' ⟨s0, s1, s2, s3, s4, s5, s6, s7, s8⟩
    go_simp
    with_reducible rfl
  rotate_left
  · simp only [Act.put, List.setIfInBounds_toArray, List.set_cons_zero, List.set_cons_succ, i64_w, i32_w]
    rfl
  refine take_ (i := 3) (N := some 13) (v := ?_) (a' := ?_) #[true, true, false, true, false, false, false, false] rfl rfl (take_ofW HT_.out HW_.out (by kernel_rfl)) (fun _ _ _ h => h) (Or.inl ⟨by rfl, ?_⟩) hHeld ?_ ?_
  rotate_left
  · rintro w' ⟨s0, s1, s2, s3, s4, s5, s6, s7, s8⟩
    go_simp
    with_reducible rfl
  rotate_left
  · simp only [Act.put, List.setIfInBounds_toArray, List.set_cons_zero, List.set_cons_succ, i64_w, i32_w]
    rfl
  refine take_ (i := 4) (N := some 14) (v := ?_) (a' := ?_) #[true, true, false, true, true, false, false, false] rfl rfl (take_ofW HT_.out HW_.out (by kernel_rfl)) (fun _ _ _ h => h) (Or.inl ⟨by rfl, ?_⟩) hHeld ?_ ?_
  rotate_left
  · rintro w' ⟨s0, s1, s2, s3, s4, s5, s6, s7, s8⟩
    go_simp
    with_reducible rfl
  rotate_left
  · simp only [Act.put, List.setIfInBounds_toArray, List.set_cons_zero, List.set_cons_succ, i64_w, i32_w]
    rfl
  refine one_ (i := 2) (N := some 12) #[true, true, true, true, true, false, false, false] rfl rfl (one_of HT_.out (by kernel_rfl)) (by decide) (fun K hK => ?_)
  refine goes_ Tryd.func25 (by kernel_rfl) rfl #[.agg #[.int .i64 a0_0, .int .i64 a0_1, .string a0_2], .agg #[.int .i64 a1_0, .int .i64 a1_1, .string a1_2]] (by rfl) rfl rfl (by (try simp only [List.map_toArray, List.map_cons, List.map_nil]); first | done | rfl | (simp only [List.length_drop, List.length_take]; rfl)) ?_
  with_reducible refine (value_Compare.calls k a0_0 a0_1 a0_2 a1_0 a1_1 a1_2 t382 _ A4.out ?gw_).mono ?_
  (case gw_ => first | exact HG.out | (refine GW.below HG.out ?_; repeat (first | (with_reducible first | exact HB.out | apply below_alloc | apply pw_below_drewN | apply below_drew1 | refine below_set ?_ GE379.out | refine below_set ?_ GE380.out | refine below_set ?_ GE381.out) | exact HB.out)))
  rintro e w11 ⟨rfl, hb⟩
  refine ⟨_, rfl, ?_⟩
  have n0_ := Aside0.mk (blk_below (g := gb379) (o := .cells #[.int .i64 a0_0, .int .i64 a0_1, .string a0_2] 23 (0, 0)) (by (with_reducible repeat (first | refine blk_drewN ?_ _ | refine blk_drew ?_ | refine blk_alloc ?_ _)); exact BK379.out) hb)
  have n1_ := Aside0.mk (blk_below (g := gb380) (o := .cells #[.int .i64 a1_0, .int .i64 a1_1, .string a1_2] 23 (0, 0)) (by (with_reducible repeat (first | refine blk_drewN ?_ _ | refine blk_drew ?_ | refine blk_alloc ?_ _)); exact BK380.out) hb)
  have n2_ := Aside0.mk (blk_below (g := gb381) (o := .cells #[.int .i64 a2_0, .int .i64 a2_1, .string a2_2] 23 (0, 0)) (by (with_reducible repeat (first | refine blk_drewN ?_ _ | refine blk_drew ?_ | refine blk_alloc ?_ _)); exact BK381.out) hb)
  have n3_ := Aside0.mk (below_step (by repeat (first | (with_reducible first | exact HB.out | apply below_alloc | apply pw_below_drewN | apply below_drew1 | refine below_set ?_ GE379.out | refine below_set ?_ GE380.out | refine below_set ?_ GE381.out) | exact HB.out)) hb)
  clear BK379
  clear BK380
  clear BK381
  clear HB
  have BK379 := n0_
  have BK380 := n1_
  have BK381 := n2_
  have HB := n3_
  clear n0_ n1_ n2_ n3_
  (try clear hb)
  (try clear hb2)
  (try clear hk)
  (try clear hi)
  refine hK.out _ _ ⟨(blk_cell BK379.out 0).trans rfl, (blk_cell BK379.out 1).trans rfl, (blk_cell BK379.out 2).trans rfl, (blk_cell BK380.out 0).trans rfl, (blk_cell BK380.out 1).trans rfl, (blk_cell BK380.out 2).trans rfl, (blk_cell BK381.out 0).trans rfl, (blk_cell BK381.out 1).trans rfl, (blk_cell BK381.out 2).trans rfl⟩ (fun hHeld => ?_)
  clear hK K
  refine norm_ (a' := ?_) ?_ ?_
  rotate_left
  · show Act.put _ (some 12) _ = _
    simp only [Act.put, List.setIfInBounds_toArray, List.set_cons_zero, List.set_cons_succ, i64_w, i32_w]
    rfl
  refine one_ (i := 5) (N := some 15) #[true, true, true, true, true, true, false, false] rfl rfl (one_of HT_.out (by kernel_rfl)) (by decide) (fun K hK => ?_)
  refine goes_ Tryd.func25 (by kernel_rfl) rfl #[.agg #[.int .i64 a1_0, .int .i64 a1_1, .string a1_2], .agg #[.int .i64 a2_0, .int .i64 a2_1, .string a2_2]] (by rfl) rfl rfl (by (try simp only [List.map_toArray, List.map_cons, List.map_nil]); first | done | rfl | (simp only [List.length_drop, List.length_take]; rfl)) ?_
  with_reducible refine (value_Compare.calls k a1_0 a1_1 a1_2 a2_0 a2_1 a2_2 t383 _ A5.out ?gw_).mono ?_
  (case gw_ => first | exact HG.out | (refine GW.below HG.out ?_; repeat (first | (with_reducible first | exact HB.out | apply below_alloc | apply pw_below_drewN | apply below_drew1 | refine below_set ?_ GE379.out | refine below_set ?_ GE380.out | refine below_set ?_ GE381.out) | exact HB.out)))
  rintro e w12 ⟨rfl, hb⟩
  refine ⟨_, rfl, ?_⟩
  have n0_ := Aside0.mk (blk_below (g := gb379) (o := .cells #[.int .i64 a0_0, .int .i64 a0_1, .string a0_2] 23 (0, 0)) (by (with_reducible repeat (first | refine blk_drewN ?_ _ | refine blk_drew ?_ | refine blk_alloc ?_ _)); exact BK379.out) hb)
  have n1_ := Aside0.mk (blk_below (g := gb380) (o := .cells #[.int .i64 a1_0, .int .i64 a1_1, .string a1_2] 23 (0, 0)) (by (with_reducible repeat (first | refine blk_drewN ?_ _ | refine blk_drew ?_ | refine blk_alloc ?_ _)); exact BK380.out) hb)
  have n2_ := Aside0.mk (blk_below (g := gb381) (o := .cells #[.int .i64 a2_0, .int .i64 a2_1, .string a2_2] 23 (0, 0)) (by (with_reducible repeat (first | refine blk_drewN ?_ _ | refine blk_drew ?_ | refine blk_alloc ?_ _)); exact BK381.out) hb)
  have n3_ := Aside0.mk (below_step (by repeat (first | (with_reducible first | exact HB.out | apply below_alloc | apply pw_below_drewN | apply below_drew1 | refine below_set ?_ GE379.out | refine below_set ?_ GE380.out | refine below_set ?_ GE381.out) | exact HB.out)) hb)
  clear BK379
  clear BK380
  clear BK381
  clear HB
  have BK379 := n0_
  have BK380 := n1_
  have BK381 := n2_
  have HB := n3_
  clear n0_ n1_ n2_ n3_
  (try clear hb)
  (try clear hb2)
  (try clear hk)
  (try clear hi)
  refine hK.out _ _ ⟨(blk_cell BK379.out 0).trans rfl, (blk_cell BK379.out 1).trans rfl, (blk_cell BK379.out 2).trans rfl, (blk_cell BK380.out 0).trans rfl, (blk_cell BK380.out 1).trans rfl, (blk_cell BK380.out 2).trans rfl, (blk_cell BK381.out 0).trans rfl, (blk_cell BK381.out 1).trans rfl, (blk_cell BK381.out 2).trans rfl⟩ (fun hHeld => ?_)
  clear hK K
  refine norm_ (a' := ?_) ?_ ?_
  rotate_left
  · show Act.put _ (some 15) _ = _
    simp only [Act.put, List.setIfInBounds_toArray, List.set_cons_zero, List.set_cons_succ, i64_w, i32_w]
    rfl
  refine pure_ (i := 6) (N := some 7) (v := ?_) (a' := ?_) #[true, true, true, true, true, true, true, false] rfl rfl (any_of HT_.out (by kernel_rfl)) (fun _ _ _ h => h) (Or.inl ⟨by rfl, ?_⟩) ?_ ?_
  rotate_left
  · intro w'
    go_simp
    with_reducible rfl
  rotate_left
  · simp only [Act.put, List.setIfInBounds_toArray, List.set_cons_zero, List.set_cons_succ, i64_w, i32_w]
    rfl
  refine pure_ (i := 7) (N := some 8) (v := ?_) (a' := ?_) #[true, true, true, true, true, true, true, true] rfl rfl (any_of HT_.out (by kernel_rfl)) (fun _ _ _ h => h) (Or.inl ⟨by rfl, ?_⟩) ?_ ?_
  rotate_left
  · intro w'
    go_simp
    with_reducible rfl
  rotate_left
  · simp only [Act.put, List.setIfInBounds_toArray, List.set_cons_zero, List.set_cons_succ, i64_w, i32_w]
    rfl
  refine done_ (done_of HT_.out (by kernel_rfl)) ?_
  go_upto_region 2 with (fail)
  go_cut [51] (fun v51 wc => ∃ (kq : Nat) (x51_5 : Bool), v51 = .bool x51_5 ∧ Aside0 (bitemporallaw07_ValueOrder.j0 kq x51_5 a0_0 a0_1 a0_2 a1_0 a1_1 a1_2 = some r) ∧ Aside0 (kq ≤ k) ∧ Aside0 (wc.heap[gb379]? = some (.cells #[.int .i64 a0_0, .int .i64 a0_1, .string a0_2] 23 (0, 0))) ∧ Aside0 (wc.heap[gb380]? = some (.cells #[.int .i64 a1_0, .int .i64 a1_1, .string a1_2] 23 (0, 0))) ∧ Aside0 (wc.heap[gb381]? = some (.cells #[.int .i64 a2_0, .int .i64 a2_1, .string a2_2] 23 (0, 0))) ∧ Aside0 (Below w.heap.size w wc))
  case first =>
    have H := HC6.out
    clear HC6
    by_cases c13 : t382 < (-1)
    · rw [if_pos c13] at H
      have c13b0 : decide (t382 < (-1)) = true := decide_eq_true c13
      clear c13
      (first | rw [c13b0] | (simp only [i64_w, i32_w]; rw [c13b0]) | skip)
      have H' := Aside0.mk H
      clear H
      go_wp2
      go_meet
      case rel => exact ⟨_, (true), (by first | rfl | (simp; done) | (simp [*]; done)), H', ⟨by first | omega | exact Nat.le_refl _⟩, ⟨by (with_reducible repeat (first | refine blk_drewN ?_ _ | refine blk_drew ?_ | refine blk_alloc ?_ _)); exact BK379.out⟩, ⟨by (with_reducible repeat (first | refine blk_drewN ?_ _ | refine blk_drew ?_ | refine blk_alloc ?_ _)); exact BK380.out⟩, ⟨by (with_reducible repeat (first | refine blk_drewN ?_ _ | refine blk_drew ?_ | refine blk_alloc ?_ _)); exact BK381.out⟩, ⟨by repeat (first | (with_reducible first | exact HB.out | apply below_alloc | apply pw_below_drewN | apply below_drew1 | refine below_set ?_ GE379.out | refine below_set ?_ GE380.out | refine below_set ?_ GE381.out) | exact HB.out)⟩⟩
    · rw [if_neg c13] at H
      have c13b0 : decide (t382 < (-1)) = false := decide_eq_false c13
      clear c13
      (first | rw [c13b0] | (simp only [i64_w, i32_w]; rw [c13b0]) | skip)
      by_cases c14 : t382 > 1
      · rw [if_pos c14] at H
        have c14b0 : decide (1 < t382) = true := decide_eq_true c14
        clear c14
        have H' := Aside0.mk H
        clear H
        go_wp2
        go_meet
        case rel => exact ⟨_, (true), (by first | rfl | (simp; done) | (simp [*]; done)), H', ⟨by first | omega | exact Nat.le_refl _⟩, ⟨by (with_reducible repeat (first | refine blk_drewN ?_ _ | refine blk_drew ?_ | refine blk_alloc ?_ _)); exact BK379.out⟩, ⟨by (with_reducible repeat (first | refine blk_drewN ?_ _ | refine blk_drew ?_ | refine blk_alloc ?_ _)); exact BK380.out⟩, ⟨by (with_reducible repeat (first | refine blk_drewN ?_ _ | refine blk_drew ?_ | refine blk_alloc ?_ _)); exact BK381.out⟩, ⟨by repeat (first | (with_reducible first | exact HB.out | apply below_alloc | apply pw_below_drewN | apply below_drew1 | refine below_set ?_ GE379.out | refine below_set ?_ GE380.out | refine below_set ?_ GE381.out) | exact HB.out)⟩⟩
      · rw [if_neg c14] at H
        have c14b0 : decide (1 < t382) = false := decide_eq_false c14
        clear c14
        replace H := Option.bind_eq_some_iff.mp H
        obtain ⟨t384, A150, H⟩ := H
        replace H : (if t384 = (wrap64 (-t382)) then (if ((t382 == 0) != (a0_0 == a1_0 && (a0_1 == a1_1 && (a0_2.toList == a1_2.toList)))) = true then (bitemporallaw07_ValueOrder.j0 k true a0_0 a0_1 a0_2 a1_0 a1_1 a1_2) else (if t382 ≤ 0 then (if t383 ≤ 0 then ((value_Compare.f k a0_0 a0_1 a0_2 a2_0 a2_1 a2_2).bind fun t385 => (bitemporallaw07_ValueOrder.j0 k (decide (t385 > 0)) a0_0 a0_1 a0_2 a1_0 a1_1 a1_2)) else (bitemporallaw07_ValueOrder.j0 k false a0_0 a0_1 a0_2 a1_0 a1_1 a1_2)) else (bitemporallaw07_ValueOrder.j0 k false a0_0 a0_1 a0_2 a1_0 a1_1 a1_2))) else (bitemporallaw07_ValueOrder.j0 k true a0_0 a0_1 a0_2 a1_0 a1_1 a1_2)) = some r := H
        have A15 := Aside0.mk A150
        clear A150
        by_cases c16 : t384 = (wrap64 (-t382))
        · rw [if_pos c16] at H
          have c16b0 : (t384 == (wrap64 (-t382))) = true := beq_iff_eq.mpr c16
          have c16b1 : (t384 != (wrap64 (-t382))) = false := bne_eq_false_iff_eq.mpr c16
          clear c16
          by_cases c17 : ((t382 == 0) != (a0_0 == a1_0 && (a0_1 == a1_1 && (a0_2.toList == a1_2.toList)))) = true
          · rw [if_pos c17] at H
            have c17b0 : ((t382 == 0) != (a0_0 == a1_0 && (a0_1 == a1_1 && (a0_2.toList == a1_2.toList)))) = true := c17
            (try (have c17b1 : decide ((t382 == 0) = (a0_0 == a1_0 && (a0_1 == a1_1 && (a0_2.toList == a1_2.toList)))) = false := by simpa using c17))
            (try (have c17b2 : ((t382 == 0) == (a0_0 == a1_0 && (a0_1 == a1_1 && (a0_2.toList == a1_2.toList)))) = false := by simpa using c17))
            (try (have c17b3 : ¬ ((t382 == 0) = (a0_0 == a1_0 && (a0_1 == a1_1 && (a0_2.toList == a1_2.toList)))) := by simpa using c17))
            clear c17
            have H' := Aside0.mk H
            clear H
            have hnb18 := NB380_379.out
            have hnc18 := NB379_380.out
            have hnb19 := NB380_381.out
            have hnc19 := NB381_380.out
            have hcz20_0 : w12.cell? ⟨gb380, 0, none⟩ = some (.int .i64 a1_0) := (blk_cell BK380.out 0).trans rfl
            have hcz20_1 : w12.cell? ⟨gb380, 1, none⟩ = some (.int .i64 a1_1) := (blk_cell BK380.out 1).trans rfl
            have hcz20_2 : w12.cell? ⟨gb380, 2, none⟩ = some (.string a1_2) := (blk_cell BK380.out 2).trans rfl
            have hfz20_0 := blk_frozen BK380.out 0
            have hfz20_1 := blk_frozen BK380.out 1
            have hfz20_2 := blk_frozen BK380.out 2
            have hnb21 := NB379_381.out
            have hnc21 := NB381_379.out
            have hcz22_0 : w12.cell? ⟨gb379, 0, none⟩ = some (.int .i64 a0_0) := (blk_cell BK379.out 0).trans rfl
            have hcz22_1 : w12.cell? ⟨gb379, 1, none⟩ = some (.int .i64 a0_1) := (blk_cell BK379.out 1).trans rfl
            have hcz22_2 : w12.cell? ⟨gb379, 2, none⟩ = some (.string a0_2) := (blk_cell BK379.out 2).trans rfl
            have hfz22_0 := blk_frozen BK379.out 0
            have hfz22_1 := blk_frozen BK379.out 1
            have hfz22_2 := blk_frozen BK379.out 2
            go_wp2_with (first | (go_at_call 25; (with_reducible refine (value_Compare.calls k a1_0 a1_1 a1_2 a0_0 a0_1 a0_2 t384 _ A15.out ?gw_).mono ?_); (case gw_ => first | exact HG.out | (refine GW.below HG.out ?_; repeat (first | (with_reducible first | exact HB.out | apply below_alloc | apply pw_below_drewN | apply below_drew1 | refine below_set ?_ GE379.out | refine below_set ?_ GE380.out | refine below_set ?_ GE381.out) | exact HB.out))); rintro e w23 ⟨rfl, hb⟩; have n0_ := Aside0.mk (blk_below (g := gb379) (o := .cells #[.int .i64 a0_0, .int .i64 a0_1, .string a0_2] 23 (0, 0)) (by (with_reducible repeat (first | refine blk_drewN ?_ _ | refine blk_drew ?_ | refine blk_alloc ?_ _)); exact BK379.out) hb); have n1_ := Aside0.mk (blk_below (g := gb380) (o := .cells #[.int .i64 a1_0, .int .i64 a1_1, .string a1_2] 23 (0, 0)) (by (with_reducible repeat (first | refine blk_drewN ?_ _ | refine blk_drew ?_ | refine blk_alloc ?_ _)); exact BK380.out) hb); have n2_ := Aside0.mk (blk_below (g := gb381) (o := .cells #[.int .i64 a2_0, .int .i64 a2_1, .string a2_2] 23 (0, 0)) (by (with_reducible repeat (first | refine blk_drewN ?_ _ | refine blk_drew ?_ | refine blk_alloc ?_ _)); exact BK381.out) hb); have n3_ := Aside0.mk (below_step (by repeat (first | (with_reducible first | exact HB.out | apply below_alloc | apply pw_below_drewN | apply below_drew1 | refine below_set ?_ GE379.out | refine below_set ?_ GE380.out | refine below_set ?_ GE381.out) | exact HB.out)) hb); clear BK379; clear BK380; clear BK381; clear HB; have BK379 := n0_; have BK380 := n1_; have BK381 := n2_; have HB := n3_; clear n0_ n1_ n2_ n3_; (try clear hb); (try clear hb2); (try clear hk); (try clear hi); have hcz24_0 : w23.cell? ⟨gb379, 0, none⟩ = some (.int .i64 a0_0) := (blk_cell BK379.out 0).trans rfl; have hcz24_1 : w23.cell? ⟨gb379, 1, none⟩ = some (.int .i64 a0_1) := (blk_cell BK379.out 1).trans rfl; have hcz24_2 : w23.cell? ⟨gb379, 2, none⟩ = some (.string a0_2) := (blk_cell BK379.out 2).trans rfl; have hfz24_0 := blk_frozen BK379.out 0; have hfz24_1 := blk_frozen BK379.out 1; have hfz24_2 := blk_frozen BK379.out 2; have hcz25_0 : w23.cell? ⟨gb380, 0, none⟩ = some (.int .i64 a1_0) := (blk_cell BK380.out 0).trans rfl; have hcz25_1 : w23.cell? ⟨gb380, 1, none⟩ = some (.int .i64 a1_1) := (blk_cell BK380.out 1).trans rfl; have hcz25_2 : w23.cell? ⟨gb380, 2, none⟩ = some (.string a1_2) := (blk_cell BK380.out 2).trans rfl; have hfz25_0 := blk_frozen BK380.out 0; have hfz25_1 := blk_frozen BK380.out 1; have hfz25_2 := blk_frozen BK380.out 2))
            go_meet
            case rel => exact ⟨_, (true), (by first | rfl | (simp; done) | (simp [*]; done)), H', ⟨by first | omega | exact Nat.le_refl _⟩, ⟨by (with_reducible repeat (first | refine blk_drewN ?_ _ | refine blk_drew ?_ | refine blk_alloc ?_ _)); exact BK379.out⟩, ⟨by (with_reducible repeat (first | refine blk_drewN ?_ _ | refine blk_drew ?_ | refine blk_alloc ?_ _)); exact BK380.out⟩, ⟨by (with_reducible repeat (first | refine blk_drewN ?_ _ | refine blk_drew ?_ | refine blk_alloc ?_ _)); exact BK381.out⟩, ⟨by repeat (first | (with_reducible first | exact HB.out | apply below_alloc | apply pw_below_drewN | apply below_drew1 | refine below_set ?_ GE379.out | refine below_set ?_ GE380.out | refine below_set ?_ GE381.out) | exact HB.out)⟩⟩
          · rw [if_neg c17] at H
            have c17b0 : ((t382 == 0) != (a0_0 == a1_0 && (a0_1 == a1_1 && (a0_2.toList == a1_2.toList)))) = false := by simpa using c17
            (try (have c17b1 : decide ((t382 == 0) = (a0_0 == a1_0 && (a0_1 == a1_1 && (a0_2.toList == a1_2.toList)))) = true := by simpa using c17))
            (try (have c17b2 : ((t382 == 0) == (a0_0 == a1_0 && (a0_1 == a1_1 && (a0_2.toList == a1_2.toList)))) = true := by simpa using c17))
            clear c17
            by_cases c26 : t382 ≤ 0
            · rw [if_pos c26] at H
              have c26b0 : decide (t382 ≤ 0) = true := decide_eq_true c26
              clear c26
              by_cases c27 : t383 ≤ 0
              · rw [if_pos c27] at H
                have c27b0 : decide (t383 ≤ 0) = true := decide_eq_true c27
                clear c27
                replace H := Option.bind_eq_some_iff.mp H
                obtain ⟨t385, A280, H⟩ := H
                replace H : (bitemporallaw07_ValueOrder.j0 k (decide (t385 > 0)) a0_0 a0_1 a0_2 a1_0 a1_1 a1_2) = some r := H
                have A28 := Aside0.mk A280
                clear A280
                have H' := Aside0.mk H
                clear H
                have hnb29 := NB380_379.out
                have hnc29 := NB379_380.out
                have hnb30 := NB380_381.out
                have hnc30 := NB381_380.out
                have hcz31_0 : w12.cell? ⟨gb380, 0, none⟩ = some (.int .i64 a1_0) := (blk_cell BK380.out 0).trans rfl
                have hcz31_1 : w12.cell? ⟨gb380, 1, none⟩ = some (.int .i64 a1_1) := (blk_cell BK380.out 1).trans rfl
                have hcz31_2 : w12.cell? ⟨gb380, 2, none⟩ = some (.string a1_2) := (blk_cell BK380.out 2).trans rfl
                have hfz31_0 := blk_frozen BK380.out 0
                have hfz31_1 := blk_frozen BK380.out 1
                have hfz31_2 := blk_frozen BK380.out 2
                have hnb32 := NB379_381.out
                have hnc32 := NB381_379.out
                have hcz33_0 : w12.cell? ⟨gb379, 0, none⟩ = some (.int .i64 a0_0) := (blk_cell BK379.out 0).trans rfl
                have hcz33_1 : w12.cell? ⟨gb379, 1, none⟩ = some (.int .i64 a0_1) := (blk_cell BK379.out 1).trans rfl
                have hcz33_2 : w12.cell? ⟨gb379, 2, none⟩ = some (.string a0_2) := (blk_cell BK379.out 2).trans rfl
                have hfz33_0 := blk_frozen BK379.out 0
                have hfz33_1 := blk_frozen BK379.out 1
                have hfz33_2 := blk_frozen BK379.out 2
                go_wp2_with (first | (go_at_call 25; (with_reducible refine (value_Compare.calls k a1_0 a1_1 a1_2 a0_0 a0_1 a0_2 t384 _ A15.out ?gw_).mono ?_); (case gw_ => first | exact HG.out | (refine GW.below HG.out ?_; repeat (first | (with_reducible first | exact HB.out | apply below_alloc | apply pw_below_drewN | apply below_drew1 | refine below_set ?_ GE379.out | refine below_set ?_ GE380.out | refine below_set ?_ GE381.out) | exact HB.out))); rintro e w34 ⟨rfl, hb⟩; have n0_ := Aside0.mk (blk_below (g := gb379) (o := .cells #[.int .i64 a0_0, .int .i64 a0_1, .string a0_2] 23 (0, 0)) (by (with_reducible repeat (first | refine blk_drewN ?_ _ | refine blk_drew ?_ | refine blk_alloc ?_ _)); exact BK379.out) hb); have n1_ := Aside0.mk (blk_below (g := gb380) (o := .cells #[.int .i64 a1_0, .int .i64 a1_1, .string a1_2] 23 (0, 0)) (by (with_reducible repeat (first | refine blk_drewN ?_ _ | refine blk_drew ?_ | refine blk_alloc ?_ _)); exact BK380.out) hb); have n2_ := Aside0.mk (blk_below (g := gb381) (o := .cells #[.int .i64 a2_0, .int .i64 a2_1, .string a2_2] 23 (0, 0)) (by (with_reducible repeat (first | refine blk_drewN ?_ _ | refine blk_drew ?_ | refine blk_alloc ?_ _)); exact BK381.out) hb); have n3_ := Aside0.mk (below_step (by repeat (first | (with_reducible first | exact HB.out | apply below_alloc | apply pw_below_drewN | apply below_drew1 | refine below_set ?_ GE379.out | refine below_set ?_ GE380.out | refine below_set ?_ GE381.out) | exact HB.out)) hb); clear BK379; clear BK380; clear BK381; clear HB; have BK379 := n0_; have BK380 := n1_; have BK381 := n2_; have HB := n3_; clear n0_ n1_ n2_ n3_; (try clear hb); (try clear hb2); (try clear hk); (try clear hi); have hcz35_0 : w34.cell? ⟨gb379, 0, none⟩ = some (.int .i64 a0_0) := (blk_cell BK379.out 0).trans rfl; have hcz35_1 : w34.cell? ⟨gb379, 1, none⟩ = some (.int .i64 a0_1) := (blk_cell BK379.out 1).trans rfl; have hcz35_2 : w34.cell? ⟨gb379, 2, none⟩ = some (.string a0_2) := (blk_cell BK379.out 2).trans rfl; have hfz35_0 := blk_frozen BK379.out 0; have hfz35_1 := blk_frozen BK379.out 1; have hfz35_2 := blk_frozen BK379.out 2; have hcz36_0 : w34.cell? ⟨gb380, 0, none⟩ = some (.int .i64 a1_0) := (blk_cell BK380.out 0).trans rfl; have hcz36_1 : w34.cell? ⟨gb380, 1, none⟩ = some (.int .i64 a1_1) := (blk_cell BK380.out 1).trans rfl; have hcz36_2 : w34.cell? ⟨gb380, 2, none⟩ = some (.string a1_2) := (blk_cell BK380.out 2).trans rfl; have hfz36_0 := blk_frozen BK380.out 0; have hfz36_1 := blk_frozen BK380.out 1; have hfz36_2 := blk_frozen BK380.out 2; have hcz37_0 : w34.cell? ⟨gb381, 0, none⟩ = some (.int .i64 a2_0) := (blk_cell BK381.out 0).trans rfl; have hcz37_1 : w34.cell? ⟨gb381, 1, none⟩ = some (.int .i64 a2_1) := (blk_cell BK381.out 1).trans rfl; have hcz37_2 : w34.cell? ⟨gb381, 2, none⟩ = some (.string a2_2) := (blk_cell BK381.out 2).trans rfl; have hfz37_0 := blk_frozen BK381.out 0; have hfz37_1 := blk_frozen BK381.out 1; have hfz37_2 := blk_frozen BK381.out 2) | (go_at_call 25; (with_reducible refine (value_Compare.calls k a0_0 a0_1 a0_2 a2_0 a2_1 a2_2 t385 _ A28.out ?gw_).mono ?_); (case gw_ => first | exact HG.out | (refine GW.below HG.out ?_; repeat (first | (with_reducible first | exact HB.out | apply below_alloc | apply pw_below_drewN | apply below_drew1 | refine below_set ?_ GE379.out | refine below_set ?_ GE380.out | refine below_set ?_ GE381.out) | exact HB.out))); rintro e w38 ⟨rfl, hb⟩; have n0_ := Aside0.mk (blk_below (g := gb379) (o := .cells #[.int .i64 a0_0, .int .i64 a0_1, .string a0_2] 23 (0, 0)) (by (with_reducible repeat (first | refine blk_drewN ?_ _ | refine blk_drew ?_ | refine blk_alloc ?_ _)); exact BK379.out) hb); have n1_ := Aside0.mk (blk_below (g := gb380) (o := .cells #[.int .i64 a1_0, .int .i64 a1_1, .string a1_2] 23 (0, 0)) (by (with_reducible repeat (first | refine blk_drewN ?_ _ | refine blk_drew ?_ | refine blk_alloc ?_ _)); exact BK380.out) hb); have n2_ := Aside0.mk (blk_below (g := gb381) (o := .cells #[.int .i64 a2_0, .int .i64 a2_1, .string a2_2] 23 (0, 0)) (by (with_reducible repeat (first | refine blk_drewN ?_ _ | refine blk_drew ?_ | refine blk_alloc ?_ _)); exact BK381.out) hb); have n3_ := Aside0.mk (below_step (by repeat (first | (with_reducible first | exact HB.out | apply below_alloc | apply pw_below_drewN | apply below_drew1 | refine below_set ?_ GE379.out | refine below_set ?_ GE380.out | refine below_set ?_ GE381.out) | exact HB.out)) hb); clear BK379; clear BK380; clear BK381; clear HB; have BK379 := n0_; have BK380 := n1_; have BK381 := n2_; have HB := n3_; clear n0_ n1_ n2_ n3_; (try clear hb); (try clear hb2); (try clear hk); (try clear hi)))
                go_meet
                case rel => exact ⟨_, (decide (t385 > 0)), (by first | rfl | (simp; done) | (simp [*]; done)), H', ⟨by first | omega | exact Nat.le_refl _⟩, ⟨by (with_reducible repeat (first | refine blk_drewN ?_ _ | refine blk_drew ?_ | refine blk_alloc ?_ _)); exact BK379.out⟩, ⟨by (with_reducible repeat (first | refine blk_drewN ?_ _ | refine blk_drew ?_ | refine blk_alloc ?_ _)); exact BK380.out⟩, ⟨by (with_reducible repeat (first | refine blk_drewN ?_ _ | refine blk_drew ?_ | refine blk_alloc ?_ _)); exact BK381.out⟩, ⟨by repeat (first | (with_reducible first | exact HB.out | apply below_alloc | apply pw_below_drewN | apply below_drew1 | refine below_set ?_ GE379.out | refine below_set ?_ GE380.out | refine below_set ?_ GE381.out) | exact HB.out)⟩⟩
              · rw [if_neg c27] at H
                have c27b0 : decide (t383 ≤ 0) = false := decide_eq_false c27
                clear c27
                have H' := Aside0.mk H
                clear H
                have hnb39 := NB380_379.out
                have hnc39 := NB379_380.out
                have hnb40 := NB380_381.out
                have hnc40 := NB381_380.out
                have hcz41_0 : w12.cell? ⟨gb380, 0, none⟩ = some (.int .i64 a1_0) := (blk_cell BK380.out 0).trans rfl
                have hcz41_1 : w12.cell? ⟨gb380, 1, none⟩ = some (.int .i64 a1_1) := (blk_cell BK380.out 1).trans rfl
                have hcz41_2 : w12.cell? ⟨gb380, 2, none⟩ = some (.string a1_2) := (blk_cell BK380.out 2).trans rfl
                have hfz41_0 := blk_frozen BK380.out 0
                have hfz41_1 := blk_frozen BK380.out 1
                have hfz41_2 := blk_frozen BK380.out 2
                have hnb42 := NB379_381.out
                have hnc42 := NB381_379.out
                have hcz43_0 : w12.cell? ⟨gb379, 0, none⟩ = some (.int .i64 a0_0) := (blk_cell BK379.out 0).trans rfl
                have hcz43_1 : w12.cell? ⟨gb379, 1, none⟩ = some (.int .i64 a0_1) := (blk_cell BK379.out 1).trans rfl
                have hcz43_2 : w12.cell? ⟨gb379, 2, none⟩ = some (.string a0_2) := (blk_cell BK379.out 2).trans rfl
                have hfz43_0 := blk_frozen BK379.out 0
                have hfz43_1 := blk_frozen BK379.out 1
                have hfz43_2 := blk_frozen BK379.out 2
                go_wp2_with (first | (go_at_call 25; (with_reducible refine (value_Compare.calls k a1_0 a1_1 a1_2 a0_0 a0_1 a0_2 t384 _ A15.out ?gw_).mono ?_); (case gw_ => first | exact HG.out | (refine GW.below HG.out ?_; repeat (first | (with_reducible first | exact HB.out | apply below_alloc | apply pw_below_drewN | apply below_drew1 | refine below_set ?_ GE379.out | refine below_set ?_ GE380.out | refine below_set ?_ GE381.out) | exact HB.out))); rintro e w44 ⟨rfl, hb⟩; have n0_ := Aside0.mk (blk_below (g := gb379) (o := .cells #[.int .i64 a0_0, .int .i64 a0_1, .string a0_2] 23 (0, 0)) (by (with_reducible repeat (first | refine blk_drewN ?_ _ | refine blk_drew ?_ | refine blk_alloc ?_ _)); exact BK379.out) hb); have n1_ := Aside0.mk (blk_below (g := gb380) (o := .cells #[.int .i64 a1_0, .int .i64 a1_1, .string a1_2] 23 (0, 0)) (by (with_reducible repeat (first | refine blk_drewN ?_ _ | refine blk_drew ?_ | refine blk_alloc ?_ _)); exact BK380.out) hb); have n2_ := Aside0.mk (blk_below (g := gb381) (o := .cells #[.int .i64 a2_0, .int .i64 a2_1, .string a2_2] 23 (0, 0)) (by (with_reducible repeat (first | refine blk_drewN ?_ _ | refine blk_drew ?_ | refine blk_alloc ?_ _)); exact BK381.out) hb); have n3_ := Aside0.mk (below_step (by repeat (first | (with_reducible first | exact HB.out | apply below_alloc | apply pw_below_drewN | apply below_drew1 | refine below_set ?_ GE379.out | refine below_set ?_ GE380.out | refine below_set ?_ GE381.out) | exact HB.out)) hb); clear BK379; clear BK380; clear BK381; clear HB; have BK379 := n0_; have BK380 := n1_; have BK381 := n2_; have HB := n3_; clear n0_ n1_ n2_ n3_; (try clear hb); (try clear hb2); (try clear hk); (try clear hi); have hcz45_0 : w44.cell? ⟨gb379, 0, none⟩ = some (.int .i64 a0_0) := (blk_cell BK379.out 0).trans rfl; have hcz45_1 : w44.cell? ⟨gb379, 1, none⟩ = some (.int .i64 a0_1) := (blk_cell BK379.out 1).trans rfl; have hcz45_2 : w44.cell? ⟨gb379, 2, none⟩ = some (.string a0_2) := (blk_cell BK379.out 2).trans rfl; have hfz45_0 := blk_frozen BK379.out 0; have hfz45_1 := blk_frozen BK379.out 1; have hfz45_2 := blk_frozen BK379.out 2; have hcz46_0 : w44.cell? ⟨gb380, 0, none⟩ = some (.int .i64 a1_0) := (blk_cell BK380.out 0).trans rfl; have hcz46_1 : w44.cell? ⟨gb380, 1, none⟩ = some (.int .i64 a1_1) := (blk_cell BK380.out 1).trans rfl; have hcz46_2 : w44.cell? ⟨gb380, 2, none⟩ = some (.string a1_2) := (blk_cell BK380.out 2).trans rfl; have hfz46_0 := blk_frozen BK380.out 0; have hfz46_1 := blk_frozen BK380.out 1; have hfz46_2 := blk_frozen BK380.out 2))
                go_meet
                case rel => exact ⟨_, (false), (by first | rfl | (simp; done) | (simp [*]; done)), H', ⟨by first | omega | exact Nat.le_refl _⟩, ⟨by (with_reducible repeat (first | refine blk_drewN ?_ _ | refine blk_drew ?_ | refine blk_alloc ?_ _)); exact BK379.out⟩, ⟨by (with_reducible repeat (first | refine blk_drewN ?_ _ | refine blk_drew ?_ | refine blk_alloc ?_ _)); exact BK380.out⟩, ⟨by (with_reducible repeat (first | refine blk_drewN ?_ _ | refine blk_drew ?_ | refine blk_alloc ?_ _)); exact BK381.out⟩, ⟨by repeat (first | (with_reducible first | exact HB.out | apply below_alloc | apply pw_below_drewN | apply below_drew1 | refine below_set ?_ GE379.out | refine below_set ?_ GE380.out | refine below_set ?_ GE381.out) | exact HB.out)⟩⟩
            · rw [if_neg c26] at H
              have c26b0 : decide (t382 ≤ 0) = false := decide_eq_false c26
              clear c26
              have H' := Aside0.mk H
              clear H
              have hnb47 := NB380_379.out
              have hnc47 := NB379_380.out
              have hnb48 := NB380_381.out
              have hnc48 := NB381_380.out
              have hcz49_0 : w12.cell? ⟨gb380, 0, none⟩ = some (.int .i64 a1_0) := (blk_cell BK380.out 0).trans rfl
              have hcz49_1 : w12.cell? ⟨gb380, 1, none⟩ = some (.int .i64 a1_1) := (blk_cell BK380.out 1).trans rfl
              have hcz49_2 : w12.cell? ⟨gb380, 2, none⟩ = some (.string a1_2) := (blk_cell BK380.out 2).trans rfl
              have hfz49_0 := blk_frozen BK380.out 0
              have hfz49_1 := blk_frozen BK380.out 1
              have hfz49_2 := blk_frozen BK380.out 2
              have hnb50 := NB379_381.out
              have hnc50 := NB381_379.out
              have hcz51_0 : w12.cell? ⟨gb379, 0, none⟩ = some (.int .i64 a0_0) := (blk_cell BK379.out 0).trans rfl
              have hcz51_1 : w12.cell? ⟨gb379, 1, none⟩ = some (.int .i64 a0_1) := (blk_cell BK379.out 1).trans rfl
              have hcz51_2 : w12.cell? ⟨gb379, 2, none⟩ = some (.string a0_2) := (blk_cell BK379.out 2).trans rfl
              have hfz51_0 := blk_frozen BK379.out 0
              have hfz51_1 := blk_frozen BK379.out 1
              have hfz51_2 := blk_frozen BK379.out 2
              go_wp2_with (first | (go_at_call 25; (with_reducible refine (value_Compare.calls k a1_0 a1_1 a1_2 a0_0 a0_1 a0_2 t384 _ A15.out ?gw_).mono ?_); (case gw_ => first | exact HG.out | (refine GW.below HG.out ?_; repeat (first | (with_reducible first | exact HB.out | apply below_alloc | apply pw_below_drewN | apply below_drew1 | refine below_set ?_ GE379.out | refine below_set ?_ GE380.out | refine below_set ?_ GE381.out) | exact HB.out))); rintro e w52 ⟨rfl, hb⟩; have n0_ := Aside0.mk (blk_below (g := gb379) (o := .cells #[.int .i64 a0_0, .int .i64 a0_1, .string a0_2] 23 (0, 0)) (by (with_reducible repeat (first | refine blk_drewN ?_ _ | refine blk_drew ?_ | refine blk_alloc ?_ _)); exact BK379.out) hb); have n1_ := Aside0.mk (blk_below (g := gb380) (o := .cells #[.int .i64 a1_0, .int .i64 a1_1, .string a1_2] 23 (0, 0)) (by (with_reducible repeat (first | refine blk_drewN ?_ _ | refine blk_drew ?_ | refine blk_alloc ?_ _)); exact BK380.out) hb); have n2_ := Aside0.mk (blk_below (g := gb381) (o := .cells #[.int .i64 a2_0, .int .i64 a2_1, .string a2_2] 23 (0, 0)) (by (with_reducible repeat (first | refine blk_drewN ?_ _ | refine blk_drew ?_ | refine blk_alloc ?_ _)); exact BK381.out) hb); have n3_ := Aside0.mk (below_step (by repeat (first | (with_reducible first | exact HB.out | apply below_alloc | apply pw_below_drewN | apply below_drew1 | refine below_set ?_ GE379.out | refine below_set ?_ GE380.out | refine below_set ?_ GE381.out) | exact HB.out)) hb); clear BK379; clear BK380; clear BK381; clear HB; have BK379 := n0_; have BK380 := n1_; have BK381 := n2_; have HB := n3_; clear n0_ n1_ n2_ n3_; (try clear hb); (try clear hb2); (try clear hk); (try clear hi); have hcz53_0 : w52.cell? ⟨gb379, 0, none⟩ = some (.int .i64 a0_0) := (blk_cell BK379.out 0).trans rfl; have hcz53_1 : w52.cell? ⟨gb379, 1, none⟩ = some (.int .i64 a0_1) := (blk_cell BK379.out 1).trans rfl; have hcz53_2 : w52.cell? ⟨gb379, 2, none⟩ = some (.string a0_2) := (blk_cell BK379.out 2).trans rfl; have hfz53_0 := blk_frozen BK379.out 0; have hfz53_1 := blk_frozen BK379.out 1; have hfz53_2 := blk_frozen BK379.out 2; have hcz54_0 : w52.cell? ⟨gb380, 0, none⟩ = some (.int .i64 a1_0) := (blk_cell BK380.out 0).trans rfl; have hcz54_1 : w52.cell? ⟨gb380, 1, none⟩ = some (.int .i64 a1_1) := (blk_cell BK380.out 1).trans rfl; have hcz54_2 : w52.cell? ⟨gb380, 2, none⟩ = some (.string a1_2) := (blk_cell BK380.out 2).trans rfl; have hfz54_0 := blk_frozen BK380.out 0; have hfz54_1 := blk_frozen BK380.out 1; have hfz54_2 := blk_frozen BK380.out 2))
              go_meet
              case rel => exact ⟨_, (false), (by first | rfl | (simp; done) | (simp [*]; done)), H', ⟨by first | omega | exact Nat.le_refl _⟩, ⟨by (with_reducible repeat (first | refine blk_drewN ?_ _ | refine blk_drew ?_ | refine blk_alloc ?_ _)); exact BK379.out⟩, ⟨by (with_reducible repeat (first | refine blk_drewN ?_ _ | refine blk_drew ?_ | refine blk_alloc ?_ _)); exact BK380.out⟩, ⟨by (with_reducible repeat (first | refine blk_drewN ?_ _ | refine blk_drew ?_ | refine blk_alloc ?_ _)); exact BK381.out⟩, ⟨by repeat (first | (with_reducible first | exact HB.out | apply below_alloc | apply pw_below_drewN | apply below_drew1 | refine below_set ?_ GE379.out | refine below_set ?_ GE380.out | refine below_set ?_ GE381.out) | exact HB.out)⟩⟩
        · rw [if_neg c16] at H
          have c16b0 : (t384 == (wrap64 (-t382))) = false := beq_eq_false_iff_ne.mpr c16
          have c16b1 : (t384 != (wrap64 (-t382))) = true := bne_iff_ne.mpr c16
          have H' := Aside0.mk H
          clear H
          have hnb55 := NB380_379.out
          have hnc55 := NB379_380.out
          have hnb56 := NB380_381.out
          have hnc56 := NB381_380.out
          have hcz57_0 : w12.cell? ⟨gb380, 0, none⟩ = some (.int .i64 a1_0) := (blk_cell BK380.out 0).trans rfl
          have hcz57_1 : w12.cell? ⟨gb380, 1, none⟩ = some (.int .i64 a1_1) := (blk_cell BK380.out 1).trans rfl
          have hcz57_2 : w12.cell? ⟨gb380, 2, none⟩ = some (.string a1_2) := (blk_cell BK380.out 2).trans rfl
          have hfz57_0 := blk_frozen BK380.out 0
          have hfz57_1 := blk_frozen BK380.out 1
          have hfz57_2 := blk_frozen BK380.out 2
          have hnb58 := NB379_381.out
          have hnc58 := NB381_379.out
          have hcz59_0 : w12.cell? ⟨gb379, 0, none⟩ = some (.int .i64 a0_0) := (blk_cell BK379.out 0).trans rfl
          have hcz59_1 : w12.cell? ⟨gb379, 1, none⟩ = some (.int .i64 a0_1) := (blk_cell BK379.out 1).trans rfl
          have hcz59_2 : w12.cell? ⟨gb379, 2, none⟩ = some (.string a0_2) := (blk_cell BK379.out 2).trans rfl
          have hfz59_0 := blk_frozen BK379.out 0
          have hfz59_1 := blk_frozen BK379.out 1
          have hfz59_2 := blk_frozen BK379.out 2
          go_wp2_with (first | (go_at_call 25; (with_reducible refine (value_Compare.calls k a1_0 a1_1 a1_2 a0_0 a0_1 a0_2 t384 _ A15.out ?gw_).mono ?_); (case gw_ => first | exact HG.out | (refine GW.below HG.out ?_; repeat (first | (with_reducible first | exact HB.out | apply below_alloc | apply pw_below_drewN | apply below_drew1 | refine below_set ?_ GE379.out | refine below_set ?_ GE380.out | refine below_set ?_ GE381.out) | exact HB.out))); rintro e w60 ⟨rfl, hb⟩; have n0_ := Aside0.mk (blk_below (g := gb379) (o := .cells #[.int .i64 a0_0, .int .i64 a0_1, .string a0_2] 23 (0, 0)) (by (with_reducible repeat (first | refine blk_drewN ?_ _ | refine blk_drew ?_ | refine blk_alloc ?_ _)); exact BK379.out) hb); have n1_ := Aside0.mk (blk_below (g := gb380) (o := .cells #[.int .i64 a1_0, .int .i64 a1_1, .string a1_2] 23 (0, 0)) (by (with_reducible repeat (first | refine blk_drewN ?_ _ | refine blk_drew ?_ | refine blk_alloc ?_ _)); exact BK380.out) hb); have n2_ := Aside0.mk (blk_below (g := gb381) (o := .cells #[.int .i64 a2_0, .int .i64 a2_1, .string a2_2] 23 (0, 0)) (by (with_reducible repeat (first | refine blk_drewN ?_ _ | refine blk_drew ?_ | refine blk_alloc ?_ _)); exact BK381.out) hb); have n3_ := Aside0.mk (below_step (by repeat (first | (with_reducible first | exact HB.out | apply below_alloc | apply pw_below_drewN | apply below_drew1 | refine below_set ?_ GE379.out | refine below_set ?_ GE380.out | refine below_set ?_ GE381.out) | exact HB.out)) hb); clear BK379; clear BK380; clear BK381; clear HB; have BK379 := n0_; have BK380 := n1_; have BK381 := n2_; have HB := n3_; clear n0_ n1_ n2_ n3_; (try clear hb); (try clear hb2); (try clear hk); (try clear hi)))
          go_meet
          case rel => exact ⟨_, (true), (by first | rfl | (simp; done) | (simp [*]; done)), H', ⟨by first | omega | exact Nat.le_refl _⟩, ⟨by (with_reducible repeat (first | refine blk_drewN ?_ _ | refine blk_drew ?_ | refine blk_alloc ?_ _)); exact BK379.out⟩, ⟨by (with_reducible repeat (first | refine blk_drewN ?_ _ | refine blk_drew ?_ | refine blk_alloc ?_ _)); exact BK380.out⟩, ⟨by (with_reducible repeat (first | refine blk_drewN ?_ _ | refine blk_drew ?_ | refine blk_alloc ?_ _)); exact BK381.out⟩, ⟨by repeat (first | (with_reducible first | exact HB.out | apply below_alloc | apply pw_below_drewN | apply below_drew1 | refine below_set ?_ GE379.out | refine below_set ?_ GE380.out | refine below_set ?_ GE381.out) | exact HB.out)⟩⟩
  case rest =>
    clear HC6
    try clear c1
    try clear c2
    try clear p2
    try clear c3
    try clear c4
    try clear c5
    try clear p6
    try clear c7
    try clear c13
    try clear c13b0
    try clear c14
    try clear c14b0
    try clear c16
    try clear c16b0
    try clear c16b1
    try clear c17
    try clear c17b0
    try clear c17b1
    try clear c17b2
    try clear c18
    try clear c19
    try clear c21
    try clear c25
    try clear c26
    try clear c26b0
    try clear c27
    try clear c27b0
    try clear c29
    try clear c30
    try clear c32
    try clear c39
    try clear c40
    try clear c42
    try clear c47
    try clear c48
    try clear c50
    try clear c55
    try clear c56
    try clear c58
    try clear hcz20_0
    try clear hcz20_1
    try clear hcz20_2
    try clear hcz22_0
    try clear hcz22_1
    try clear hcz22_2
    try clear hcz24_0
    try clear hcz24_1
    try clear hcz24_2
    try clear hcz25_0
    try clear hcz25_1
    try clear hcz25_2
    try clear hcz31_0
    try clear hcz31_1
    try clear hcz31_2
    try clear hcz33_0
    try clear hcz33_1
    try clear hcz33_2
    try clear hcz35_0
    try clear hcz35_1
    try clear hcz35_2
    try clear hcz36_0
    try clear hcz36_1
    try clear hcz36_2
    try clear hcz37_0
    try clear hcz37_1
    try clear hcz37_2
    try clear hcz41_0
    try clear hcz41_1
    try clear hcz41_2
    try clear hcz43_0
    try clear hcz43_1
    try clear hcz43_2
    try clear hcz45_0
    try clear hcz45_1
    try clear hcz45_2
    try clear hcz46_0
    try clear hcz46_1
    try clear hcz46_2
    try clear hcz49_0
    try clear hcz49_1
    try clear hcz49_2
    try clear hcz51_0
    try clear hcz51_1
    try clear hcz51_2
    try clear hcz53_0
    try clear hcz53_1
    try clear hcz53_2
    try clear hcz54_0
    try clear hcz54_1
    try clear hcz54_2
    try clear hcz57_0
    try clear hcz57_1
    try clear hcz57_2
    try clear hcz59_0
    try clear hcz59_1
    try clear hcz59_2
    try clear hfz20_0
    try clear hfz20_1
    try clear hfz20_2
    try clear hfz22_0
    try clear hfz22_1
    try clear hfz22_2
    try clear hfz24_0
    try clear hfz24_1
    try clear hfz24_2
    try clear hfz25_0
    try clear hfz25_1
    try clear hfz25_2
    try clear hfz31_0
    try clear hfz31_1
    try clear hfz31_2
    try clear hfz33_0
    try clear hfz33_1
    try clear hfz33_2
    try clear hfz35_0
    try clear hfz35_1
    try clear hfz35_2
    try clear hfz36_0
    try clear hfz36_1
    try clear hfz36_2
    try clear hfz37_0
    try clear hfz37_1
    try clear hfz37_2
    try clear hfz41_0
    try clear hfz41_1
    try clear hfz41_2
    try clear hfz43_0
    try clear hfz43_1
    try clear hfz43_2
    try clear hfz45_0
    try clear hfz45_1
    try clear hfz45_2
    try clear hfz46_0
    try clear hfz46_1
    try clear hfz46_2
    try clear hfz49_0
    try clear hfz49_1
    try clear hfz49_2
    try clear hfz51_0
    try clear hfz51_1
    try clear hfz51_2
    try clear hfz53_0
    try clear hfz53_1
    try clear hfz53_2
    try clear hfz54_0
    try clear hfz54_1
    try clear hfz54_2
    try clear hfz57_0
    try clear hfz57_1
    try clear hfz57_2
    try clear hfz59_0
    try clear hfz59_1
    try clear hfz59_2
    obtain ⟨kq, x51_5, rfl, HA, HJ5, BK379, BK380, BK381, HB⟩ := hcut
    cases kq with
    | zero => exact absurd HA.out (by simp [bitemporallaw07_ValueOrder.j0])
    | succ kj5 =>
      have H := HA.out
      clear HA
      simp only [bitemporallaw07_ValueOrder.j0] at H
      by_cases c61 : x51_5 = true
      · subst c61
        have H1 : (some false) = some r := by rw [if_pos rfl] at H; exact H
        clear H
        have H := H1
        clear H1
        obtain rfl := Option.some.inj H
        go_wp2
        go_ret
        exact ⟨by first | rfl | (simp [errW_none, errW_some] <;> rfl) | (simp [*, errW_none, errW_some] <;> rfl), by repeat (first | (with_reducible first | exact HB.out | apply below_alloc | apply pw_below_drewN | apply below_drew1 | refine below_set ?_ GE379.out | refine below_set ?_ GE380.out | refine below_set ?_ GE381.out) | exact HB.out)⟩
      · replace c61 := Bool.eq_false_iff.mpr c61
        subst c61
        have H1 : (if a0_0 = a1_0 then (bitemporallaw07_ValueOrder.j1 kj5 (a0_0 == 0) a0_0 a0_1 a0_2 a1_0 a1_1 a1_2) else (bitemporallaw07_ValueOrder.j1 kj5 true a0_0 a0_1 a0_2 a1_0 a1_1 a1_2)) = some r := by rw [if_neg (show ¬ (false = true) by decide)] at H; exact H
        clear H
        have H := H1
        clear H1
        have HC62 := Aside0.mk H
        clear H
        go_upto_region 4 with (fail)
        go_cut [61] (fun v61 wc => ∃ (kq : Nat) (x61_61 : Bool), v61 = .bool x61_61 ∧ Aside0 (bitemporallaw07_ValueOrder.j1 kq x61_61 a0_0 a0_1 a0_2 a1_0 a1_1 a1_2 = some r) ∧ Aside0 (kq ≤ kj5) ∧ Aside0 (wc.heap[gb379]? = some (.cells #[.int .i64 a0_0, .int .i64 a0_1, .string a0_2] 23 (0, 0))) ∧ Aside0 (wc.heap[gb380]? = some (.cells #[.int .i64 a1_0, .int .i64 a1_1, .string a1_2] 23 (0, 0))) ∧ Aside0 (wc.heap[gb381]? = some (.cells #[.int .i64 a2_0, .int .i64 a2_1, .string a2_2] 23 (0, 0))) ∧ Aside0 (Below w.heap.size w wc))
        case first =>
          have H := HC62.out
          clear HC62
          by_cases c63 : a0_0 = a1_0
          · rw [if_pos c63] at H
            have c63b0 : (a0_0 == a1_0) = true := beq_iff_eq.mpr c63
            have c63b1 : (a0_0 != a1_0) = false := bne_eq_false_iff_eq.mpr c63
            clear c63
            (first | rw [c63b0] | (simp only [i64_w, i32_w]; rw [c63b0]) | skip)
            have H' := Aside0.mk H
            clear H
            have hnb64 := NB379_380.out
            have hnc64 := NB380_379.out
            have hnb65 := NB379_381.out
            have hnc65 := NB381_379.out
            have hcz66_0 : wc.cell? ⟨gb379, 0, none⟩ = some (.int .i64 a0_0) := (blk_cell BK379.out 0).trans rfl
            have hcz66_1 : wc.cell? ⟨gb379, 1, none⟩ = some (.int .i64 a0_1) := (blk_cell BK379.out 1).trans rfl
            have hcz66_2 : wc.cell? ⟨gb379, 2, none⟩ = some (.string a0_2) := (blk_cell BK379.out 2).trans rfl
            have hfz66_0 := blk_frozen BK379.out 0
            have hfz66_1 := blk_frozen BK379.out 1
            have hfz66_2 := blk_frozen BK379.out 2
            have hnb67 := NB380_381.out
            have hnc67 := NB381_380.out
            have hcz68_0 : wc.cell? ⟨gb380, 0, none⟩ = some (.int .i64 a1_0) := (blk_cell BK380.out 0).trans rfl
            have hcz68_1 : wc.cell? ⟨gb380, 1, none⟩ = some (.int .i64 a1_1) := (blk_cell BK380.out 1).trans rfl
            have hcz68_2 : wc.cell? ⟨gb380, 2, none⟩ = some (.string a1_2) := (blk_cell BK380.out 2).trans rfl
            have hfz68_0 := blk_frozen BK380.out 0
            have hfz68_1 := blk_frozen BK380.out 1
            have hfz68_2 := blk_frozen BK380.out 2
            go_wp2
            go_meet
            case rel => exact ⟨_, ((a0_0 == 0)), (by first | rfl | (simp; done) | (simp [*]; done)), H', ⟨by have := HJ5.out; first | omega | exact Nat.le_refl _⟩, ⟨by (with_reducible repeat (first | refine blk_drewN ?_ _ | refine blk_drew ?_ | refine blk_alloc ?_ _)); exact BK379.out⟩, ⟨by (with_reducible repeat (first | refine blk_drewN ?_ _ | refine blk_drew ?_ | refine blk_alloc ?_ _)); exact BK380.out⟩, ⟨by (with_reducible repeat (first | refine blk_drewN ?_ _ | refine blk_drew ?_ | refine blk_alloc ?_ _)); exact BK381.out⟩, ⟨by repeat (first | (with_reducible first | exact HB.out | apply below_alloc | apply pw_below_drewN | apply below_drew1 | refine below_set ?_ GE379.out | refine below_set ?_ GE380.out | refine below_set ?_ GE381.out) | exact HB.out)⟩⟩
          · rw [if_neg c63] at H
            have c63b0 : (a0_0 == a1_0) = false := beq_eq_false_iff_ne.mpr c63
            have c63b1 : (a0_0 != a1_0) = true := bne_iff_ne.mpr c63
            (first | rw [c63b0] | (simp only [i64_w, i32_w]; rw [c63b0]) | skip)
            have H' := Aside0.mk H
            clear H
            have hnb69 := NB379_380.out
            have hnc69 := NB380_379.out
            have hnb70 := NB379_381.out
            have hnc70 := NB381_379.out
            have hcz71_0 : wc.cell? ⟨gb379, 0, none⟩ = some (.int .i64 a0_0) := (blk_cell BK379.out 0).trans rfl
            have hcz71_1 : wc.cell? ⟨gb379, 1, none⟩ = some (.int .i64 a0_1) := (blk_cell BK379.out 1).trans rfl
            have hcz71_2 : wc.cell? ⟨gb379, 2, none⟩ = some (.string a0_2) := (blk_cell BK379.out 2).trans rfl
            have hfz71_0 := blk_frozen BK379.out 0
            have hfz71_1 := blk_frozen BK379.out 1
            have hfz71_2 := blk_frozen BK379.out 2
            have hnb72 := NB380_381.out
            have hnc72 := NB381_380.out
            have hcz73_0 : wc.cell? ⟨gb380, 0, none⟩ = some (.int .i64 a1_0) := (blk_cell BK380.out 0).trans rfl
            have hcz73_1 : wc.cell? ⟨gb380, 1, none⟩ = some (.int .i64 a1_1) := (blk_cell BK380.out 1).trans rfl
            have hcz73_2 : wc.cell? ⟨gb380, 2, none⟩ = some (.string a1_2) := (blk_cell BK380.out 2).trans rfl
            have hfz73_0 := blk_frozen BK380.out 0
            have hfz73_1 := blk_frozen BK380.out 1
            have hfz73_2 := blk_frozen BK380.out 2
            go_wp2
            go_meet
            case rel => exact ⟨_, (true), (by first | rfl | (simp; done) | (simp [*]; done)), H', ⟨by have := HJ5.out; first | omega | exact Nat.le_refl _⟩, ⟨by (with_reducible repeat (first | refine blk_drewN ?_ _ | refine blk_drew ?_ | refine blk_alloc ?_ _)); exact BK379.out⟩, ⟨by (with_reducible repeat (first | refine blk_drewN ?_ _ | refine blk_drew ?_ | refine blk_alloc ?_ _)); exact BK380.out⟩, ⟨by (with_reducible repeat (first | refine blk_drewN ?_ _ | refine blk_drew ?_ | refine blk_alloc ?_ _)); exact BK381.out⟩, ⟨by repeat (first | (with_reducible first | exact HB.out | apply below_alloc | apply pw_below_drewN | apply below_drew1 | refine below_set ?_ GE379.out | refine below_set ?_ GE380.out | refine below_set ?_ GE381.out) | exact HB.out)⟩⟩
        case rest =>
          clear HC62
          try clear c1
          try clear c2
          try clear p2
          try clear c3
          try clear c4
          try clear c5
          try clear c6
          try clear p6
          try clear c7
          try clear c13
          try clear c13b0
          try clear c14
          try clear c14b0
          try clear c16
          try clear c16b0
          try clear c16b1
          try clear c17
          try clear c17b0
          try clear c17b1
          try clear c17b2
          try clear c18
          try clear c19
          try clear c21
          try clear c25
          try clear c26
          try clear c26b0
          try clear c27
          try clear c27b0
          try clear c29
          try clear c30
          try clear c32
          try clear c39
          try clear c40
          try clear c42
          try clear c47
          try clear c48
          try clear c50
          try clear c55
          try clear c56
          try clear c58
          try clear c61
          try clear c63
          try clear c63b0
          try clear c63b1
          try clear c64
          try clear p64
          try clear c65
          try clear c67
          try clear c69
          try clear c70
          try clear c72
          try clear hcz20_0
          try clear hcz20_1
          try clear hcz20_2
          try clear hcz22_0
          try clear hcz22_1
          try clear hcz22_2
          try clear hcz24_0
          try clear hcz24_1
          try clear hcz24_2
          try clear hcz25_0
          try clear hcz25_1
          try clear hcz25_2
          try clear hcz31_0
          try clear hcz31_1
          try clear hcz31_2
          try clear hcz33_0
          try clear hcz33_1
          try clear hcz33_2
          try clear hcz35_0
          try clear hcz35_1
          try clear hcz35_2
          try clear hcz36_0
          try clear hcz36_1
          try clear hcz36_2
          try clear hcz37_0
          try clear hcz37_1
          try clear hcz37_2
          try clear hcz41_0
          try clear hcz41_1
          try clear hcz41_2
          try clear hcz43_0
          try clear hcz43_1
          try clear hcz43_2
          try clear hcz45_0
          try clear hcz45_1
          try clear hcz45_2
          try clear hcz46_0
          try clear hcz46_1
          try clear hcz46_2
          try clear hcz49_0
          try clear hcz49_1
          try clear hcz49_2
          try clear hcz51_0
          try clear hcz51_1
          try clear hcz51_2
          try clear hcz53_0
          try clear hcz53_1
          try clear hcz53_2
          try clear hcz54_0
          try clear hcz54_1
          try clear hcz54_2
          try clear hcz57_0
          try clear hcz57_1
          try clear hcz57_2
          try clear hcz59_0
          try clear hcz59_1
          try clear hcz59_2
          try clear hcz66_0
          try clear hcz66_1
          try clear hcz66_2
          try clear hcz68_0
          try clear hcz68_1
          try clear hcz68_2
          try clear hcz71_0
          try clear hcz71_1
          try clear hcz71_2
          try clear hcz73_0
          try clear hcz73_1
          try clear hcz73_2
          try clear hfz20_0
          try clear hfz20_1
          try clear hfz20_2
          try clear hfz22_0
          try clear hfz22_1
          try clear hfz22_2
          try clear hfz24_0
          try clear hfz24_1
          try clear hfz24_2
          try clear hfz25_0
          try clear hfz25_1
          try clear hfz25_2
          try clear hfz31_0
          try clear hfz31_1
          try clear hfz31_2
          try clear hfz33_0
          try clear hfz33_1
          try clear hfz33_2
          try clear hfz35_0
          try clear hfz35_1
          try clear hfz35_2
          try clear hfz36_0
          try clear hfz36_1
          try clear hfz36_2
          try clear hfz37_0
          try clear hfz37_1
          try clear hfz37_2
          try clear hfz41_0
          try clear hfz41_1
          try clear hfz41_2
          try clear hfz43_0
          try clear hfz43_1
          try clear hfz43_2
          try clear hfz45_0
          try clear hfz45_1
          try clear hfz45_2
          try clear hfz46_0
          try clear hfz46_1
          try clear hfz46_2
          try clear hfz49_0
          try clear hfz49_1
          try clear hfz49_2
          try clear hfz51_0
          try clear hfz51_1
          try clear hfz51_2
          try clear hfz53_0
          try clear hfz53_1
          try clear hfz53_2
          try clear hfz54_0
          try clear hfz54_1
          try clear hfz54_2
          try clear hfz57_0
          try clear hfz57_1
          try clear hfz57_2
          try clear hfz59_0
          try clear hfz59_1
          try clear hfz59_2
          try clear hfz66_0
          try clear hfz66_1
          try clear hfz66_2
          try clear hfz68_0
          try clear hfz68_1
          try clear hfz68_2
          try clear hfz71_0
          try clear hfz71_1
          try clear hfz71_2
          try clear hfz73_0
          try clear hfz73_1
          try clear hfz73_2
          try clear p2
          try clear p6
          obtain ⟨kq, x61_61, rfl, HA, HJ61, BK379, BK380, BK381, HB⟩ := hcut
          cases kq with
          | zero => exact absurd HA.out (by simp [bitemporallaw07_ValueOrder.j1])
          | succ kj61 =>
            have H := HA.out
            clear HA
            simp only [bitemporallaw07_ValueOrder.j1] at H
            by_cases c74 : x61_61 = true
            · subst c74
              have H1 : ((value_Less.f kj61 a0_0 a0_1 a0_2 a1_0 a1_1 a1_2).bind fun t386 => (if t386 = 1 then ((value_Equal.f kj61 a0_0 a0_1 a0_2 a1_0 a1_1 a1_2).bind fun t387 => (if t387 = 1 then ((bitemporallaw07_awake.f kj61).bind fun t388 => (some t388)) else (some false))) else (some false))) = some r := by rw [if_pos rfl] at H; exact H
              clear H
              have H := H1
              clear H1
              replace H := Option.bind_eq_some_iff.mp H
              obtain ⟨t386, A750, H⟩ := H
              replace H : (if t386 = 1 then ((value_Equal.f kj61 a0_0 a0_1 a0_2 a1_0 a1_1 a1_2).bind fun t387 => (if t387 = 1 then ((bitemporallaw07_awake.f kj61).bind fun t388 => (some t388)) else (some false))) else (some false)) = some r := H
              have A75 := Aside0.mk A750
              clear A750
              by_cases c76 : t386 = 1
              · rw [if_pos c76] at H
                have c76b0 : (t386 == 1) = true := beq_iff_eq.mpr c76
                have c76b1 : (t386 != 1) = false := bne_eq_false_iff_eq.mpr c76
                clear c76
                replace H := Option.bind_eq_some_iff.mp H
                obtain ⟨t387, A770, H⟩ := H
                replace H : (if t387 = 1 then ((bitemporallaw07_awake.f kj61).bind fun t388 => (some t388)) else (some false)) = some r := H
                have A77 := Aside0.mk A770
                clear A770
                by_cases c78 : t387 = 1
                · rw [if_pos c78] at H
                  have c78b0 : (t387 == 1) = true := beq_iff_eq.mpr c78
                  have c78b1 : (t387 != 1) = false := bne_eq_false_iff_eq.mpr c78
                  clear c78
                  replace H := Option.bind_eq_some_iff.mp H
                  obtain ⟨t388, A790, H⟩ := H
                  replace H : (some t388) = some r := H
                  have A79 := Aside0.mk A790
                  clear A790
                  obtain rfl := Option.some.inj H
                  have hnb80 := NB379_380.out
                  have hnc80 := NB380_379.out
                  have hnb81 := NB379_381.out
                  have hnc81 := NB381_379.out
                  have hcz82_0 : wc.cell? ⟨gb379, 0, none⟩ = some (.int .i64 a0_0) := (blk_cell BK379.out 0).trans rfl
                  have hcz82_1 : wc.cell? ⟨gb379, 1, none⟩ = some (.int .i64 a0_1) := (blk_cell BK379.out 1).trans rfl
                  have hcz82_2 : wc.cell? ⟨gb379, 2, none⟩ = some (.string a0_2) := (blk_cell BK379.out 2).trans rfl
                  have hfz82_0 := blk_frozen BK379.out 0
                  have hfz82_1 := blk_frozen BK379.out 1
                  have hfz82_2 := blk_frozen BK379.out 2
                  have hnb83 := NB380_381.out
                  have hnc83 := NB381_380.out
                  have hcz84_0 : wc.cell? ⟨gb380, 0, none⟩ = some (.int .i64 a1_0) := (blk_cell BK380.out 0).trans rfl
                  have hcz84_1 : wc.cell? ⟨gb380, 1, none⟩ = some (.int .i64 a1_1) := (blk_cell BK380.out 1).trans rfl
                  have hcz84_2 : wc.cell? ⟨gb380, 2, none⟩ = some (.string a1_2) := (blk_cell BK380.out 2).trans rfl
                  have hfz84_0 := blk_frozen BK380.out 0
                  have hfz84_1 := blk_frozen BK380.out 1
                  have hfz84_2 := blk_frozen BK380.out 2
                  go_wp2_with (first | ((with_reducible refine gate_callee (f := 29) rfl ?_); refine goesL_ (some 64) rfl rfl Tryd.func29 (by kernel_rfl) rfl #[.agg #[.int .i64 a0_0, .int .i64 a0_1, .string a0_2], .agg #[.int .i64 a1_0, .int .i64 a1_1, .string a1_2]] rfl (by (try simp only [List.map_toArray, List.map_cons, List.map_nil]); first | done | rfl | (simp only [List.length_drop, List.length_take]; rfl)) ?_; (with_reducible refine (value_Less.calls kj61 a0_0 a0_1 a0_2 a1_0 a1_1 a1_2 t386 _ A75.out ?gw_).mono ?_); (case gw_ => first | exact HG.out | (refine GW.below HG.out ?_; repeat (first | (with_reducible first | exact HB.out | apply below_alloc | apply pw_below_drewN | apply below_drew1 | refine below_set ?_ GE379.out | refine below_set ?_ GE380.out | refine below_set ?_ GE381.out) | exact HB.out))); rintro e w85 ⟨rfl, hb⟩; refine ⟨_, rfl, ?_⟩; have n0_ := Aside0.mk (blk_below (g := gb379) (o := .cells #[.int .i64 a0_0, .int .i64 a0_1, .string a0_2] 23 (0, 0)) (by (with_reducible repeat (first | refine blk_drewN ?_ _ | refine blk_drew ?_ | refine blk_alloc ?_ _)); exact BK379.out) hb); have n1_ := Aside0.mk (blk_below (g := gb380) (o := .cells #[.int .i64 a1_0, .int .i64 a1_1, .string a1_2] 23 (0, 0)) (by (with_reducible repeat (first | refine blk_drewN ?_ _ | refine blk_drew ?_ | refine blk_alloc ?_ _)); exact BK380.out) hb); have n2_ := Aside0.mk (blk_below (g := gb381) (o := .cells #[.int .i64 a2_0, .int .i64 a2_1, .string a2_2] 23 (0, 0)) (by (with_reducible repeat (first | refine blk_drewN ?_ _ | refine blk_drew ?_ | refine blk_alloc ?_ _)); exact BK381.out) hb); have n3_ := Aside0.mk (below_step (by repeat (first | (with_reducible first | exact HB.out | apply below_alloc | apply pw_below_drewN | apply below_drew1 | refine below_set ?_ GE379.out | refine below_set ?_ GE380.out | refine below_set ?_ GE381.out) | exact HB.out)) hb); clear BK379; clear BK380; clear BK381; clear HB; have BK379 := n0_; have BK380 := n1_; have BK381 := n2_; have HB := n3_; clear n0_ n1_ n2_ n3_; (try clear hb); (try clear hb2); (try clear hk); (try clear hi); have hcz86_0 : w85.cell? ⟨gb379, 0, none⟩ = some (.int .i64 a0_0) := (blk_cell BK379.out 0).trans rfl; have hcz86_1 : w85.cell? ⟨gb379, 1, none⟩ = some (.int .i64 a0_1) := (blk_cell BK379.out 1).trans rfl; have hcz86_2 : w85.cell? ⟨gb379, 2, none⟩ = some (.string a0_2) := (blk_cell BK379.out 2).trans rfl; have hfz86_0 := blk_frozen BK379.out 0; have hfz86_1 := blk_frozen BK379.out 1; have hfz86_2 := blk_frozen BK379.out 2; have hcz87_0 : w85.cell? ⟨gb380, 0, none⟩ = some (.int .i64 a1_0) := (blk_cell BK380.out 0).trans rfl; have hcz87_1 : w85.cell? ⟨gb380, 1, none⟩ = some (.int .i64 a1_1) := (blk_cell BK380.out 1).trans rfl; have hcz87_2 : w85.cell? ⟨gb380, 2, none⟩ = some (.string a1_2) := (blk_cell BK380.out 2).trans rfl; have hfz87_0 := blk_frozen BK380.out 0; have hfz87_1 := blk_frozen BK380.out 1; have hfz87_2 := blk_frozen BK380.out 2) | (go_at_call 27; (with_reducible refine (value_Equal.calls kj61 a0_0 a0_1 a0_2 a1_0 a1_1 a1_2 t387 _ A77.out ?gw_).mono ?_); (case gw_ => first | exact HG.out | (refine GW.below HG.out ?_; repeat (first | (with_reducible first | exact HB.out | apply below_alloc | apply pw_below_drewN | apply below_drew1 | refine below_set ?_ GE379.out | refine below_set ?_ GE380.out | refine below_set ?_ GE381.out) | exact HB.out))); rintro e w88 ⟨rfl, hb⟩; have n0_ := Aside0.mk (blk_below (g := gb379) (o := .cells #[.int .i64 a0_0, .int .i64 a0_1, .string a0_2] 23 (0, 0)) (by (with_reducible repeat (first | refine blk_drewN ?_ _ | refine blk_drew ?_ | refine blk_alloc ?_ _)); exact BK379.out) hb); have n1_ := Aside0.mk (blk_below (g := gb380) (o := .cells #[.int .i64 a1_0, .int .i64 a1_1, .string a1_2] 23 (0, 0)) (by (with_reducible repeat (first | refine blk_drewN ?_ _ | refine blk_drew ?_ | refine blk_alloc ?_ _)); exact BK380.out) hb); have n2_ := Aside0.mk (blk_below (g := gb381) (o := .cells #[.int .i64 a2_0, .int .i64 a2_1, .string a2_2] 23 (0, 0)) (by (with_reducible repeat (first | refine blk_drewN ?_ _ | refine blk_drew ?_ | refine blk_alloc ?_ _)); exact BK381.out) hb); have n3_ := Aside0.mk (below_step (by repeat (first | (with_reducible first | exact HB.out | apply below_alloc | apply pw_below_drewN | apply below_drew1 | refine below_set ?_ GE379.out | refine below_set ?_ GE380.out | refine below_set ?_ GE381.out) | exact HB.out)) hb); clear BK379; clear BK380; clear BK381; clear HB; have BK379 := n0_; have BK380 := n1_; have BK381 := n2_; have HB := n3_; clear n0_ n1_ n2_ n3_; (try clear hb); (try clear hb2); (try clear hk); (try clear hi)) | (go_at_call 20; (with_reducible refine (bitemporallaw07_awake.calls kj61  t388 _ A79.out ?gw_).mono ?_); (case gw_ => first | exact HG.out | (refine GW.below HG.out ?_; repeat (first | (with_reducible first | exact HB.out | apply below_alloc | apply pw_below_drewN | apply below_drew1 | refine below_set ?_ GE379.out | refine below_set ?_ GE380.out | refine below_set ?_ GE381.out) | exact HB.out))); rintro e w89 ⟨rfl, hb⟩; have n0_ := Aside0.mk (blk_below (g := gb379) (o := .cells #[.int .i64 a0_0, .int .i64 a0_1, .string a0_2] 23 (0, 0)) (by (with_reducible repeat (first | refine blk_drewN ?_ _ | refine blk_drew ?_ | refine blk_alloc ?_ _)); exact BK379.out) hb); have n1_ := Aside0.mk (blk_below (g := gb380) (o := .cells #[.int .i64 a1_0, .int .i64 a1_1, .string a1_2] 23 (0, 0)) (by (with_reducible repeat (first | refine blk_drewN ?_ _ | refine blk_drew ?_ | refine blk_alloc ?_ _)); exact BK380.out) hb); have n2_ := Aside0.mk (blk_below (g := gb381) (o := .cells #[.int .i64 a2_0, .int .i64 a2_1, .string a2_2] 23 (0, 0)) (by (with_reducible repeat (first | refine blk_drewN ?_ _ | refine blk_drew ?_ | refine blk_alloc ?_ _)); exact BK381.out) hb); have n3_ := Aside0.mk (below_step (by repeat (first | (with_reducible first | exact HB.out | apply below_alloc | apply pw_below_drewN | apply below_drew1 | refine below_set ?_ GE379.out | refine below_set ?_ GE380.out | refine below_set ?_ GE381.out) | exact HB.out)) hb); clear BK379; clear BK380; clear BK381; clear HB; have BK379 := n0_; have BK380 := n1_; have BK381 := n2_; have HB := n3_; clear n0_ n1_ n2_ n3_; (try clear hb); (try clear hb2); (try clear hk); (try clear hi)))
                  go_ret
                  exact ⟨by first | rfl | (simp [errW_none, errW_some] <;> rfl) | (simp [*, errW_none, errW_some] <;> rfl), by repeat (first | (with_reducible first | exact HB.out | apply below_alloc | apply pw_below_drewN | apply below_drew1 | refine below_set ?_ GE379.out | refine below_set ?_ GE380.out | refine below_set ?_ GE381.out) | exact HB.out)⟩
                · rw [if_neg c78] at H
                  have c78b0 : (t387 == 1) = false := beq_eq_false_iff_ne.mpr c78
                  have c78b1 : (t387 != 1) = true := bne_iff_ne.mpr c78
                  obtain rfl := Option.some.inj H
                  have hnb90 := NB379_380.out
                  have hnc90 := NB380_379.out
                  have hnb91 := NB379_381.out
                  have hnc91 := NB381_379.out
                  have hcz92_0 : wc.cell? ⟨gb379, 0, none⟩ = some (.int .i64 a0_0) := (blk_cell BK379.out 0).trans rfl
                  have hcz92_1 : wc.cell? ⟨gb379, 1, none⟩ = some (.int .i64 a0_1) := (blk_cell BK379.out 1).trans rfl
                  have hcz92_2 : wc.cell? ⟨gb379, 2, none⟩ = some (.string a0_2) := (blk_cell BK379.out 2).trans rfl
                  have hfz92_0 := blk_frozen BK379.out 0
                  have hfz92_1 := blk_frozen BK379.out 1
                  have hfz92_2 := blk_frozen BK379.out 2
                  have hnb93 := NB380_381.out
                  have hnc93 := NB381_380.out
                  have hcz94_0 : wc.cell? ⟨gb380, 0, none⟩ = some (.int .i64 a1_0) := (blk_cell BK380.out 0).trans rfl
                  have hcz94_1 : wc.cell? ⟨gb380, 1, none⟩ = some (.int .i64 a1_1) := (blk_cell BK380.out 1).trans rfl
                  have hcz94_2 : wc.cell? ⟨gb380, 2, none⟩ = some (.string a1_2) := (blk_cell BK380.out 2).trans rfl
                  have hfz94_0 := blk_frozen BK380.out 0
                  have hfz94_1 := blk_frozen BK380.out 1
                  have hfz94_2 := blk_frozen BK380.out 2
                  go_wp2_with (first | ((with_reducible refine gate_callee (f := 29) rfl ?_); refine goesL_ (some 64) rfl rfl Tryd.func29 (by kernel_rfl) rfl #[.agg #[.int .i64 a0_0, .int .i64 a0_1, .string a0_2], .agg #[.int .i64 a1_0, .int .i64 a1_1, .string a1_2]] rfl (by (try simp only [List.map_toArray, List.map_cons, List.map_nil]); first | done | rfl | (simp only [List.length_drop, List.length_take]; rfl)) ?_; (with_reducible refine (value_Less.calls kj61 a0_0 a0_1 a0_2 a1_0 a1_1 a1_2 t386 _ A75.out ?gw_).mono ?_); (case gw_ => first | exact HG.out | (refine GW.below HG.out ?_; repeat (first | (with_reducible first | exact HB.out | apply below_alloc | apply pw_below_drewN | apply below_drew1 | refine below_set ?_ GE379.out | refine below_set ?_ GE380.out | refine below_set ?_ GE381.out) | exact HB.out))); rintro e w95 ⟨rfl, hb⟩; refine ⟨_, rfl, ?_⟩; have n0_ := Aside0.mk (blk_below (g := gb379) (o := .cells #[.int .i64 a0_0, .int .i64 a0_1, .string a0_2] 23 (0, 0)) (by (with_reducible repeat (first | refine blk_drewN ?_ _ | refine blk_drew ?_ | refine blk_alloc ?_ _)); exact BK379.out) hb); have n1_ := Aside0.mk (blk_below (g := gb380) (o := .cells #[.int .i64 a1_0, .int .i64 a1_1, .string a1_2] 23 (0, 0)) (by (with_reducible repeat (first | refine blk_drewN ?_ _ | refine blk_drew ?_ | refine blk_alloc ?_ _)); exact BK380.out) hb); have n2_ := Aside0.mk (blk_below (g := gb381) (o := .cells #[.int .i64 a2_0, .int .i64 a2_1, .string a2_2] 23 (0, 0)) (by (with_reducible repeat (first | refine blk_drewN ?_ _ | refine blk_drew ?_ | refine blk_alloc ?_ _)); exact BK381.out) hb); have n3_ := Aside0.mk (below_step (by repeat (first | (with_reducible first | exact HB.out | apply below_alloc | apply pw_below_drewN | apply below_drew1 | refine below_set ?_ GE379.out | refine below_set ?_ GE380.out | refine below_set ?_ GE381.out) | exact HB.out)) hb); clear BK379; clear BK380; clear BK381; clear HB; have BK379 := n0_; have BK380 := n1_; have BK381 := n2_; have HB := n3_; clear n0_ n1_ n2_ n3_; (try clear hb); (try clear hb2); (try clear hk); (try clear hi); have hcz96_0 : w95.cell? ⟨gb379, 0, none⟩ = some (.int .i64 a0_0) := (blk_cell BK379.out 0).trans rfl; have hcz96_1 : w95.cell? ⟨gb379, 1, none⟩ = some (.int .i64 a0_1) := (blk_cell BK379.out 1).trans rfl; have hcz96_2 : w95.cell? ⟨gb379, 2, none⟩ = some (.string a0_2) := (blk_cell BK379.out 2).trans rfl; have hfz96_0 := blk_frozen BK379.out 0; have hfz96_1 := blk_frozen BK379.out 1; have hfz96_2 := blk_frozen BK379.out 2; have hcz97_0 : w95.cell? ⟨gb380, 0, none⟩ = some (.int .i64 a1_0) := (blk_cell BK380.out 0).trans rfl; have hcz97_1 : w95.cell? ⟨gb380, 1, none⟩ = some (.int .i64 a1_1) := (blk_cell BK380.out 1).trans rfl; have hcz97_2 : w95.cell? ⟨gb380, 2, none⟩ = some (.string a1_2) := (blk_cell BK380.out 2).trans rfl; have hfz97_0 := blk_frozen BK380.out 0; have hfz97_1 := blk_frozen BK380.out 1; have hfz97_2 := blk_frozen BK380.out 2) | (go_at_call 27; (with_reducible refine (value_Equal.calls kj61 a0_0 a0_1 a0_2 a1_0 a1_1 a1_2 t387 _ A77.out ?gw_).mono ?_); (case gw_ => first | exact HG.out | (refine GW.below HG.out ?_; repeat (first | (with_reducible first | exact HB.out | apply below_alloc | apply pw_below_drewN | apply below_drew1 | refine below_set ?_ GE379.out | refine below_set ?_ GE380.out | refine below_set ?_ GE381.out) | exact HB.out))); rintro e w98 ⟨rfl, hb⟩; have n0_ := Aside0.mk (blk_below (g := gb379) (o := .cells #[.int .i64 a0_0, .int .i64 a0_1, .string a0_2] 23 (0, 0)) (by (with_reducible repeat (first | refine blk_drewN ?_ _ | refine blk_drew ?_ | refine blk_alloc ?_ _)); exact BK379.out) hb); have n1_ := Aside0.mk (blk_below (g := gb380) (o := .cells #[.int .i64 a1_0, .int .i64 a1_1, .string a1_2] 23 (0, 0)) (by (with_reducible repeat (first | refine blk_drewN ?_ _ | refine blk_drew ?_ | refine blk_alloc ?_ _)); exact BK380.out) hb); have n2_ := Aside0.mk (blk_below (g := gb381) (o := .cells #[.int .i64 a2_0, .int .i64 a2_1, .string a2_2] 23 (0, 0)) (by (with_reducible repeat (first | refine blk_drewN ?_ _ | refine blk_drew ?_ | refine blk_alloc ?_ _)); exact BK381.out) hb); have n3_ := Aside0.mk (below_step (by repeat (first | (with_reducible first | exact HB.out | apply below_alloc | apply pw_below_drewN | apply below_drew1 | refine below_set ?_ GE379.out | refine below_set ?_ GE380.out | refine below_set ?_ GE381.out) | exact HB.out)) hb); clear BK379; clear BK380; clear BK381; clear HB; have BK379 := n0_; have BK380 := n1_; have BK381 := n2_; have HB := n3_; clear n0_ n1_ n2_ n3_; (try clear hb); (try clear hb2); (try clear hk); (try clear hi)))
                  go_ret
                  exact ⟨by first | rfl | (simp [errW_none, errW_some] <;> rfl) | (simp [*, errW_none, errW_some] <;> rfl), by repeat (first | (with_reducible first | exact HB.out | apply below_alloc | apply pw_below_drewN | apply below_drew1 | refine below_set ?_ GE379.out | refine below_set ?_ GE380.out | refine below_set ?_ GE381.out) | exact HB.out)⟩
              · rw [if_neg c76] at H
                have c76b0 : (t386 == 1) = false := beq_eq_false_iff_ne.mpr c76
                have c76b1 : (t386 != 1) = true := bne_iff_ne.mpr c76
                obtain rfl := Option.some.inj H
                have hnb99 := NB379_380.out
                have hnc99 := NB380_379.out
                have hnb100 := NB379_381.out
                have hnc100 := NB381_379.out
                have hcz101_0 : wc.cell? ⟨gb379, 0, none⟩ = some (.int .i64 a0_0) := (blk_cell BK379.out 0).trans rfl
                have hcz101_1 : wc.cell? ⟨gb379, 1, none⟩ = some (.int .i64 a0_1) := (blk_cell BK379.out 1).trans rfl
                have hcz101_2 : wc.cell? ⟨gb379, 2, none⟩ = some (.string a0_2) := (blk_cell BK379.out 2).trans rfl
                have hfz101_0 := blk_frozen BK379.out 0
                have hfz101_1 := blk_frozen BK379.out 1
                have hfz101_2 := blk_frozen BK379.out 2
                have hnb102 := NB380_381.out
                have hnc102 := NB381_380.out
                have hcz103_0 : wc.cell? ⟨gb380, 0, none⟩ = some (.int .i64 a1_0) := (blk_cell BK380.out 0).trans rfl
                have hcz103_1 : wc.cell? ⟨gb380, 1, none⟩ = some (.int .i64 a1_1) := (blk_cell BK380.out 1).trans rfl
                have hcz103_2 : wc.cell? ⟨gb380, 2, none⟩ = some (.string a1_2) := (blk_cell BK380.out 2).trans rfl
                have hfz103_0 := blk_frozen BK380.out 0
                have hfz103_1 := blk_frozen BK380.out 1
                have hfz103_2 := blk_frozen BK380.out 2
                go_wp2_with (first | ((with_reducible refine gate_callee (f := 29) rfl ?_); refine goesL_ (some 64) rfl rfl Tryd.func29 (by kernel_rfl) rfl #[.agg #[.int .i64 a0_0, .int .i64 a0_1, .string a0_2], .agg #[.int .i64 a1_0, .int .i64 a1_1, .string a1_2]] rfl (by (try simp only [List.map_toArray, List.map_cons, List.map_nil]); first | done | rfl | (simp only [List.length_drop, List.length_take]; rfl)) ?_; (with_reducible refine (value_Less.calls kj61 a0_0 a0_1 a0_2 a1_0 a1_1 a1_2 t386 _ A75.out ?gw_).mono ?_); (case gw_ => first | exact HG.out | (refine GW.below HG.out ?_; repeat (first | (with_reducible first | exact HB.out | apply below_alloc | apply pw_below_drewN | apply below_drew1 | refine below_set ?_ GE379.out | refine below_set ?_ GE380.out | refine below_set ?_ GE381.out) | exact HB.out))); rintro e w104 ⟨rfl, hb⟩; refine ⟨_, rfl, ?_⟩; have n0_ := Aside0.mk (blk_below (g := gb379) (o := .cells #[.int .i64 a0_0, .int .i64 a0_1, .string a0_2] 23 (0, 0)) (by (with_reducible repeat (first | refine blk_drewN ?_ _ | refine blk_drew ?_ | refine blk_alloc ?_ _)); exact BK379.out) hb); have n1_ := Aside0.mk (blk_below (g := gb380) (o := .cells #[.int .i64 a1_0, .int .i64 a1_1, .string a1_2] 23 (0, 0)) (by (with_reducible repeat (first | refine blk_drewN ?_ _ | refine blk_drew ?_ | refine blk_alloc ?_ _)); exact BK380.out) hb); have n2_ := Aside0.mk (blk_below (g := gb381) (o := .cells #[.int .i64 a2_0, .int .i64 a2_1, .string a2_2] 23 (0, 0)) (by (with_reducible repeat (first | refine blk_drewN ?_ _ | refine blk_drew ?_ | refine blk_alloc ?_ _)); exact BK381.out) hb); have n3_ := Aside0.mk (below_step (by repeat (first | (with_reducible first | exact HB.out | apply below_alloc | apply pw_below_drewN | apply below_drew1 | refine below_set ?_ GE379.out | refine below_set ?_ GE380.out | refine below_set ?_ GE381.out) | exact HB.out)) hb); clear BK379; clear BK380; clear BK381; clear HB; have BK379 := n0_; have BK380 := n1_; have BK381 := n2_; have HB := n3_; clear n0_ n1_ n2_ n3_; (try clear hb); (try clear hb2); (try clear hk); (try clear hi)))
                go_ret
                exact ⟨by first | rfl | (simp [errW_none, errW_some] <;> rfl) | (simp [*, errW_none, errW_some] <;> rfl), by repeat (first | (with_reducible first | exact HB.out | apply below_alloc | apply pw_below_drewN | apply below_drew1 | refine below_set ?_ GE379.out | refine below_set ?_ GE380.out | refine below_set ?_ GE381.out) | exact HB.out)⟩
            · replace c74 := Bool.eq_false_iff.mpr c74
              subst c74
              have H1 : ((value_Less.f kj61 a0_0 a0_1 a0_2 a1_0 a1_1 a1_2).bind fun t389 => (if t389 = 2 then (bitemporallaw07_ValueOrder.j2 kj61 (0 + 1) a0_0 a0_1 a0_2 a1_0 a1_1 a1_2) else (bitemporallaw07_ValueOrder.j2 kj61 0 a0_0 a0_1 a0_2 a1_0 a1_1 a1_2))) = some r := by rw [if_neg (show ¬ (false = true) by decide)] at H; exact H
              clear H
              have H := H1
              clear H1
              replace H := Option.bind_eq_some_iff.mp H
              obtain ⟨t389, A1050, H⟩ := H
              replace H : (if t389 = 2 then (bitemporallaw07_ValueOrder.j2 kj61 (0 + 1) a0_0 a0_1 a0_2 a1_0 a1_1 a1_2) else (bitemporallaw07_ValueOrder.j2 kj61 0 a0_0 a0_1 a0_2 a1_0 a1_1 a1_2)) = some r := H
              have A105 := Aside0.mk A1050
              clear A1050
              have HC106 := Aside0.mk H
              clear H
              have hnb107 := NB379_380.out
              have hnc107 := NB380_379.out
              have hnb108 := NB379_381.out
              have hnc108 := NB381_379.out
              have hcz109_0 : wc.cell? ⟨gb379, 0, none⟩ = some (.int .i64 a0_0) := (blk_cell BK379.out 0).trans rfl
              have hcz109_1 : wc.cell? ⟨gb379, 1, none⟩ = some (.int .i64 a0_1) := (blk_cell BK379.out 1).trans rfl
              have hcz109_2 : wc.cell? ⟨gb379, 2, none⟩ = some (.string a0_2) := (blk_cell BK379.out 2).trans rfl
              have hfz109_0 := blk_frozen BK379.out 0
              have hfz109_1 := blk_frozen BK379.out 1
              have hfz109_2 := blk_frozen BK379.out 2
              have hnb110 := NB380_381.out
              have hnc110 := NB381_380.out
              have hcz111_0 : wc.cell? ⟨gb380, 0, none⟩ = some (.int .i64 a1_0) := (blk_cell BK380.out 0).trans rfl
              have hcz111_1 : wc.cell? ⟨gb380, 1, none⟩ = some (.int .i64 a1_1) := (blk_cell BK380.out 1).trans rfl
              have hcz111_2 : wc.cell? ⟨gb380, 2, none⟩ = some (.string a1_2) := (blk_cell BK380.out 2).trans rfl
              have hfz111_0 := blk_frozen BK380.out 0
              have hfz111_1 := blk_frozen BK380.out 1
              have hfz111_2 := blk_frozen BK380.out 2
              go_upto_if 78 with (first | ((with_reducible refine gate_callee (f := 29) rfl ?_); refine goesL_ (some 77) rfl rfl Tryd.func29 (by kernel_rfl) rfl #[.agg #[.int .i64 a0_0, .int .i64 a0_1, .string a0_2], .agg #[.int .i64 a1_0, .int .i64 a1_1, .string a1_2]] rfl (by (try simp only [List.map_toArray, List.map_cons, List.map_nil]); first | done | rfl | (simp only [List.length_drop, List.length_take]; rfl)) ?_; (with_reducible refine (value_Less.calls kj61 a0_0 a0_1 a0_2 a1_0 a1_1 a1_2 t389 _ A105.out ?gw_).mono ?_); (case gw_ => first | exact HG.out | (refine GW.below HG.out ?_; repeat (first | (with_reducible first | exact HB.out | apply below_alloc | apply pw_below_drewN | apply below_drew1 | refine below_set ?_ GE379.out | refine below_set ?_ GE380.out | refine below_set ?_ GE381.out) | exact HB.out))); rintro e w112 ⟨rfl, hb⟩; refine ⟨_, rfl, ?_⟩; have n0_ := Aside0.mk (blk_below (g := gb379) (o := .cells #[.int .i64 a0_0, .int .i64 a0_1, .string a0_2] 23 (0, 0)) (by (with_reducible repeat (first | refine blk_drewN ?_ _ | refine blk_drew ?_ | refine blk_alloc ?_ _)); exact BK379.out) hb); have n1_ := Aside0.mk (blk_below (g := gb380) (o := .cells #[.int .i64 a1_0, .int .i64 a1_1, .string a1_2] 23 (0, 0)) (by (with_reducible repeat (first | refine blk_drewN ?_ _ | refine blk_drew ?_ | refine blk_alloc ?_ _)); exact BK380.out) hb); have n2_ := Aside0.mk (blk_below (g := gb381) (o := .cells #[.int .i64 a2_0, .int .i64 a2_1, .string a2_2] 23 (0, 0)) (by (with_reducible repeat (first | refine blk_drewN ?_ _ | refine blk_drew ?_ | refine blk_alloc ?_ _)); exact BK381.out) hb); have n3_ := Aside0.mk (below_step (by repeat (first | (with_reducible first | exact HB.out | apply below_alloc | apply pw_below_drewN | apply below_drew1 | refine below_set ?_ GE379.out | refine below_set ?_ GE380.out | refine below_set ?_ GE381.out) | exact HB.out)) hb); clear BK379; clear BK380; clear BK381; clear HB; have BK379 := n0_; have BK380 := n1_; have BK381 := n2_; have HB := n3_; clear n0_ n1_ n2_ n3_; (try clear hb); (try clear hb2); (try clear hk); (try clear hi)))
              (try simp only [Act.put, List.setIfInBounds_toArray, List.set_cons_zero, List.set_cons_succ])
              go_cut [9] (fun v9 wc => ∃ (kq : Nat) (x9_105 : Int), v9 = .int .i64 x9_105 ∧ Aside0 (bitemporallaw07_ValueOrder.j2 kq x9_105 a0_0 a0_1 a0_2 a1_0 a1_1 a1_2 = some r) ∧ Aside0 (kq ≤ kj61) ∧ Aside0 (wc.heap[gb379]? = some (.cells #[.int .i64 a0_0, .int .i64 a0_1, .string a0_2] 23 (0, 0))) ∧ Aside0 (wc.heap[gb380]? = some (.cells #[.int .i64 a1_0, .int .i64 a1_1, .string a1_2] 23 (0, 0))) ∧ Aside0 (wc.heap[gb381]? = some (.cells #[.int .i64 a2_0, .int .i64 a2_1, .string a2_2] 23 (0, 0))) ∧ Aside0 (Below w.heap.size w wc))
              case first =>
                have H := HC106.out
                clear HC106
                by_cases c113 : t389 = 2
                · rw [if_pos c113] at H
                  have c113b0 : (t389 == 2) = true := beq_iff_eq.mpr c113
                  have c113b1 : (t389 != 2) = false := bne_eq_false_iff_eq.mpr c113
                  clear c113
                  (first | rw [c113b0] | (simp only [i64_w, i32_w]; rw [c113b0]) | skip)
                  have H' := Aside0.mk H
                  clear H
                  go_wp2
                  go_meet
                  case rel => exact ⟨_, (0 + 1), (by first | rfl | (simp; done) | (simp [*]; done)), H', ⟨by have := HJ5.out; have := HJ61.out; first | omega | exact Nat.le_refl _⟩, ⟨by (with_reducible repeat (first | refine blk_drewN ?_ _ | refine blk_drew ?_ | refine blk_alloc ?_ _)); exact BK379.out⟩, ⟨by (with_reducible repeat (first | refine blk_drewN ?_ _ | refine blk_drew ?_ | refine blk_alloc ?_ _)); exact BK380.out⟩, ⟨by (with_reducible repeat (first | refine blk_drewN ?_ _ | refine blk_drew ?_ | refine blk_alloc ?_ _)); exact BK381.out⟩, ⟨by repeat (first | (with_reducible first | exact HB.out | apply below_alloc | apply pw_below_drewN | apply below_drew1 | refine below_set ?_ GE379.out | refine below_set ?_ GE380.out | refine below_set ?_ GE381.out) | exact HB.out)⟩⟩
                · rw [if_neg c113] at H
                  have c113b0 : (t389 == 2) = false := beq_eq_false_iff_ne.mpr c113
                  have c113b1 : (t389 != 2) = true := bne_iff_ne.mpr c113
                  (first | rw [c113b0] | (simp only [i64_w, i32_w]; rw [c113b0]) | skip)
                  have H' := Aside0.mk H
                  clear H
                  go_wp2
                  go_meet
                  case rel => exact ⟨_, (0), (by first | rfl | (simp; done) | (simp [*]; done)), H', ⟨by have := HJ5.out; have := HJ61.out; first | omega | exact Nat.le_refl _⟩, ⟨by (with_reducible repeat (first | refine blk_drewN ?_ _ | refine blk_drew ?_ | refine blk_alloc ?_ _)); exact BK379.out⟩, ⟨by (with_reducible repeat (first | refine blk_drewN ?_ _ | refine blk_drew ?_ | refine blk_alloc ?_ _)); exact BK380.out⟩, ⟨by (with_reducible repeat (first | refine blk_drewN ?_ _ | refine blk_drew ?_ | refine blk_alloc ?_ _)); exact BK381.out⟩, ⟨by repeat (first | (with_reducible first | exact HB.out | apply below_alloc | apply pw_below_drewN | apply below_drew1 | refine below_set ?_ GE379.out | refine below_set ?_ GE380.out | refine below_set ?_ GE381.out) | exact HB.out)⟩⟩
              case rest =>
                clear HC106
                try clear c1
                try clear c2
                try clear p2
                try clear c3
                try clear c4
                try clear c5
                try clear c6
                try clear p6
                try clear c7
                try clear c8
                try clear c9
                try clear c10
                try clear c11
                try clear c13
                try clear c13b0
                try clear c14
                try clear c14b0
                try clear c16
                try clear c16b0
                try clear c16b1
                try clear c17
                try clear c17b0
                try clear c17b1
                try clear c17b2
                try clear c18
                try clear c19
                try clear c21
                try clear c25
                try clear c26
                try clear c26b0
                try clear c27
                try clear c27b0
                try clear c29
                try clear c30
                try clear c32
                try clear c39
                try clear c40
                try clear c42
                try clear c47
                try clear c48
                try clear c50
                try clear c55
                try clear c56
                try clear c58
                try clear c61
                try clear c63
                try clear c63b0
                try clear c63b1
                try clear c64
                try clear p64
                try clear c65
                try clear c67
                try clear c69
                try clear c70
                try clear c72
                try clear c74
                try clear c76
                try clear c76b0
                try clear c76b1
                try clear c78
                try clear c78b0
                try clear c78b1
                try clear c80
                try clear c81
                try clear c83
                try clear c90
                try clear c91
                try clear c93
                try clear c99
                try clear c100
                try clear c102
                try clear c107
                try clear c108
                try clear c110
                try clear c113
                try clear c113b0
                try clear c113b1
                try clear hcz101_0
                try clear hcz101_1
                try clear hcz101_2
                try clear hcz103_0
                try clear hcz103_1
                try clear hcz103_2
                try clear hcz109_0
                try clear hcz109_1
                try clear hcz109_2
                try clear hcz111_0
                try clear hcz111_1
                try clear hcz111_2
                try clear hcz20_0
                try clear hcz20_1
                try clear hcz20_2
                try clear hcz22_0
                try clear hcz22_1
                try clear hcz22_2
                try clear hcz24_0
                try clear hcz24_1
                try clear hcz24_2
                try clear hcz25_0
                try clear hcz25_1
                try clear hcz25_2
                try clear hcz31_0
                try clear hcz31_1
                try clear hcz31_2
                try clear hcz33_0
                try clear hcz33_1
                try clear hcz33_2
                try clear hcz35_0
                try clear hcz35_1
                try clear hcz35_2
                try clear hcz36_0
                try clear hcz36_1
                try clear hcz36_2
                try clear hcz37_0
                try clear hcz37_1
                try clear hcz37_2
                try clear hcz41_0
                try clear hcz41_1
                try clear hcz41_2
                try clear hcz43_0
                try clear hcz43_1
                try clear hcz43_2
                try clear hcz45_0
                try clear hcz45_1
                try clear hcz45_2
                try clear hcz46_0
                try clear hcz46_1
                try clear hcz46_2
                try clear hcz49_0
                try clear hcz49_1
                try clear hcz49_2
                try clear hcz51_0
                try clear hcz51_1
                try clear hcz51_2
                try clear hcz53_0
                try clear hcz53_1
                try clear hcz53_2
                try clear hcz54_0
                try clear hcz54_1
                try clear hcz54_2
                try clear hcz57_0
                try clear hcz57_1
                try clear hcz57_2
                try clear hcz59_0
                try clear hcz59_1
                try clear hcz59_2
                try clear hcz66_0
                try clear hcz66_1
                try clear hcz66_2
                try clear hcz68_0
                try clear hcz68_1
                try clear hcz68_2
                try clear hcz71_0
                try clear hcz71_1
                try clear hcz71_2
                try clear hcz73_0
                try clear hcz73_1
                try clear hcz73_2
                try clear hcz82_0
                try clear hcz82_1
                try clear hcz82_2
                try clear hcz84_0
                try clear hcz84_1
                try clear hcz84_2
                try clear hcz86_0
                try clear hcz86_1
                try clear hcz86_2
                try clear hcz87_0
                try clear hcz87_1
                try clear hcz87_2
                try clear hcz92_0
                try clear hcz92_1
                try clear hcz92_2
                try clear hcz94_0
                try clear hcz94_1
                try clear hcz94_2
                try clear hcz96_0
                try clear hcz96_1
                try clear hcz96_2
                try clear hcz97_0
                try clear hcz97_1
                try clear hcz97_2
                try clear hfz101_0
                try clear hfz101_1
                try clear hfz101_2
                try clear hfz103_0
                try clear hfz103_1
                try clear hfz103_2
                try clear hfz109_0
                try clear hfz109_1
                try clear hfz109_2
                try clear hfz111_0
                try clear hfz111_1
                try clear hfz111_2
                try clear hfz20_0
                try clear hfz20_1
                try clear hfz20_2
                try clear hfz22_0
                try clear hfz22_1
                try clear hfz22_2
                try clear hfz24_0
                try clear hfz24_1
                try clear hfz24_2
                try clear hfz25_0
                try clear hfz25_1
                try clear hfz25_2
                try clear hfz31_0
                try clear hfz31_1
                try clear hfz31_2
                try clear hfz33_0
                try clear hfz33_1
                try clear hfz33_2
                try clear hfz35_0
                try clear hfz35_1
                try clear hfz35_2
                try clear hfz36_0
                try clear hfz36_1
                try clear hfz36_2
                try clear hfz37_0
                try clear hfz37_1
                try clear hfz37_2
                try clear hfz41_0
                try clear hfz41_1
                try clear hfz41_2
                try clear hfz43_0
                try clear hfz43_1
                try clear hfz43_2
                try clear hfz45_0
                try clear hfz45_1
                try clear hfz45_2
                try clear hfz46_0
                try clear hfz46_1
                try clear hfz46_2
                try clear hfz49_0
                try clear hfz49_1
                try clear hfz49_2
                try clear hfz51_0
                try clear hfz51_1
                try clear hfz51_2
                try clear hfz53_0
                try clear hfz53_1
                try clear hfz53_2
                try clear hfz54_0
                try clear hfz54_1
                try clear hfz54_2
                try clear hfz57_0
                try clear hfz57_1
                try clear hfz57_2
                try clear hfz59_0
                try clear hfz59_1
                try clear hfz59_2
                try clear hfz66_0
                try clear hfz66_1
                try clear hfz66_2
                try clear hfz68_0
                try clear hfz68_1
                try clear hfz68_2
                try clear hfz71_0
                try clear hfz71_1
                try clear hfz71_2
                try clear hfz73_0
                try clear hfz73_1
                try clear hfz73_2
                try clear hfz82_0
                try clear hfz82_1
                try clear hfz82_2
                try clear hfz84_0
                try clear hfz84_1
                try clear hfz84_2
                try clear hfz86_0
                try clear hfz86_1
                try clear hfz86_2
                try clear hfz87_0
                try clear hfz87_1
                try clear hfz87_2
                try clear hfz92_0
                try clear hfz92_1
                try clear hfz92_2
                try clear hfz94_0
                try clear hfz94_1
                try clear hfz94_2
                try clear hfz96_0
                try clear hfz96_1
                try clear hfz96_2
                try clear hfz97_0
                try clear hfz97_1
                try clear hfz97_2
                try clear p2
                try clear p6
                try clear p64
                obtain ⟨kq, x9_105, rfl, HA, HJ105, BK379, BK380, BK381, HB⟩ := hcut
                cases kq with
                | zero => exact absurd HA.out (by simp [bitemporallaw07_ValueOrder.j2])
                | succ kj105 =>
                  have H := HA.out
                  clear HA
                  simp only [bitemporallaw07_ValueOrder.j2] at H
                  replace H := Option.bind_eq_some_iff.mp H
                  obtain ⟨t390, A1140, H⟩ := H
                  replace H : (if t390 = 2 then (bitemporallaw07_ValueOrder.j3 kj105 (wrap64 (x9_105 + 1)) a0_0 a0_1 a0_2 a1_0 a1_1 a1_2) else (bitemporallaw07_ValueOrder.j3 kj105 x9_105 a0_0 a0_1 a0_2 a1_0 a1_1 a1_2)) = some r := H
                  have A114 := Aside0.mk A1140
                  clear A1140
                  have HC115 := Aside0.mk H
                  clear H
                  have hnb116 := NB379_380.out
                  have hnc116 := NB380_379.out
                  have hnb117 := NB379_381.out
                  have hnc117 := NB381_379.out
                  have hcz118_0 : wc.cell? ⟨gb379, 0, none⟩ = some (.int .i64 a0_0) := (blk_cell BK379.out 0).trans rfl
                  have hcz118_1 : wc.cell? ⟨gb379, 1, none⟩ = some (.int .i64 a0_1) := (blk_cell BK379.out 1).trans rfl
                  have hcz118_2 : wc.cell? ⟨gb379, 2, none⟩ = some (.string a0_2) := (blk_cell BK379.out 2).trans rfl
                  have hfz118_0 := blk_frozen BK379.out 0
                  have hfz118_1 := blk_frozen BK379.out 1
                  have hfz118_2 := blk_frozen BK379.out 2
                  have hnb119 := NB380_381.out
                  have hnc119 := NB381_380.out
                  have hcz120_0 : wc.cell? ⟨gb380, 0, none⟩ = some (.int .i64 a1_0) := (blk_cell BK380.out 0).trans rfl
                  have hcz120_1 : wc.cell? ⟨gb380, 1, none⟩ = some (.int .i64 a1_1) := (blk_cell BK380.out 1).trans rfl
                  have hcz120_2 : wc.cell? ⟨gb380, 2, none⟩ = some (.string a1_2) := (blk_cell BK380.out 2).trans rfl
                  have hfz120_0 := blk_frozen BK380.out 0
                  have hfz120_1 := blk_frozen BK380.out 1
                  have hfz120_2 := blk_frozen BK380.out 2
                  go_upto_if 84 with (first | ((with_reducible refine gate_callee (f := 27) rfl ?_); refine goesL_ (some 83) rfl rfl Tryd.func27 (by kernel_rfl) rfl #[.agg #[.int .i64 a0_0, .int .i64 a0_1, .string a0_2], .agg #[.int .i64 a1_0, .int .i64 a1_1, .string a1_2]] rfl (by (try simp only [List.map_toArray, List.map_cons, List.map_nil]); first | done | rfl | (simp only [List.length_drop, List.length_take]; rfl)) ?_; (with_reducible refine (value_Equal.calls kj105 a0_0 a0_1 a0_2 a1_0 a1_1 a1_2 t390 _ A114.out ?gw_).mono ?_); (case gw_ => first | exact HG.out | (refine GW.below HG.out ?_; repeat (first | (with_reducible first | exact HB.out | apply below_alloc | apply pw_below_drewN | apply below_drew1 | refine below_set ?_ GE379.out | refine below_set ?_ GE380.out | refine below_set ?_ GE381.out) | exact HB.out))); rintro e w121 ⟨rfl, hb⟩; refine ⟨_, rfl, ?_⟩; have n0_ := Aside0.mk (blk_below (g := gb379) (o := .cells #[.int .i64 a0_0, .int .i64 a0_1, .string a0_2] 23 (0, 0)) (by (with_reducible repeat (first | refine blk_drewN ?_ _ | refine blk_drew ?_ | refine blk_alloc ?_ _)); exact BK379.out) hb); have n1_ := Aside0.mk (blk_below (g := gb380) (o := .cells #[.int .i64 a1_0, .int .i64 a1_1, .string a1_2] 23 (0, 0)) (by (with_reducible repeat (first | refine blk_drewN ?_ _ | refine blk_drew ?_ | refine blk_alloc ?_ _)); exact BK380.out) hb); have n2_ := Aside0.mk (blk_below (g := gb381) (o := .cells #[.int .i64 a2_0, .int .i64 a2_1, .string a2_2] 23 (0, 0)) (by (with_reducible repeat (first | refine blk_drewN ?_ _ | refine blk_drew ?_ | refine blk_alloc ?_ _)); exact BK381.out) hb); have n3_ := Aside0.mk (below_step (by repeat (first | (with_reducible first | exact HB.out | apply below_alloc | apply pw_below_drewN | apply below_drew1 | refine below_set ?_ GE379.out | refine below_set ?_ GE380.out | refine below_set ?_ GE381.out) | exact HB.out)) hb); clear BK379; clear BK380; clear BK381; clear HB; have BK379 := n0_; have BK380 := n1_; have BK381 := n2_; have HB := n3_; clear n0_ n1_ n2_ n3_; (try clear hb); (try clear hb2); (try clear hk); (try clear hi)))
                  (try simp only [Act.put, List.setIfInBounds_toArray, List.set_cons_zero, List.set_cons_succ])
                  go_cut [9] (fun v9 wc => ∃ (kq : Nat) (x9_114 : Int), v9 = .int .i64 x9_114 ∧ Aside0 (bitemporallaw07_ValueOrder.j3 kq x9_114 a0_0 a0_1 a0_2 a1_0 a1_1 a1_2 = some r) ∧ Aside0 (kq ≤ kj105) ∧ Aside0 (wc.heap[gb379]? = some (.cells #[.int .i64 a0_0, .int .i64 a0_1, .string a0_2] 23 (0, 0))) ∧ Aside0 (wc.heap[gb380]? = some (.cells #[.int .i64 a1_0, .int .i64 a1_1, .string a1_2] 23 (0, 0))) ∧ Aside0 (wc.heap[gb381]? = some (.cells #[.int .i64 a2_0, .int .i64 a2_1, .string a2_2] 23 (0, 0))) ∧ Aside0 (Below w.heap.size w wc))
                  case first =>
                    have H := HC115.out
                    clear HC115
                    by_cases c122 : t390 = 2
                    · rw [if_pos c122] at H
                      have c122b0 : (t390 == 2) = true := beq_iff_eq.mpr c122
                      have c122b1 : (t390 != 2) = false := bne_eq_false_iff_eq.mpr c122
                      clear c122
                      (first | rw [c122b0] | (simp only [i64_w, i32_w]; rw [c122b0]) | skip)
                      have H' := Aside0.mk H
                      clear H
                      go_wp2
                      go_meet
                      case rel => exact ⟨_, (wrap64 (x9_105 + 1)), (by first | rfl | (simp; done) | (simp [*]; done)), H', ⟨by have := HJ5.out; have := HJ61.out; have := HJ105.out; first | omega | exact Nat.le_refl _⟩, ⟨by (with_reducible repeat (first | refine blk_drewN ?_ _ | refine blk_drew ?_ | refine blk_alloc ?_ _)); exact BK379.out⟩, ⟨by (with_reducible repeat (first | refine blk_drewN ?_ _ | refine blk_drew ?_ | refine blk_alloc ?_ _)); exact BK380.out⟩, ⟨by (with_reducible repeat (first | refine blk_drewN ?_ _ | refine blk_drew ?_ | refine blk_alloc ?_ _)); exact BK381.out⟩, ⟨by repeat (first | (with_reducible first | exact HB.out | apply below_alloc | apply pw_below_drewN | apply below_drew1 | refine below_set ?_ GE379.out | refine below_set ?_ GE380.out | refine below_set ?_ GE381.out) | exact HB.out)⟩⟩
                    · rw [if_neg c122] at H
                      have c122b0 : (t390 == 2) = false := beq_eq_false_iff_ne.mpr c122
                      have c122b1 : (t390 != 2) = true := bne_iff_ne.mpr c122
                      (first | rw [c122b0] | (simp only [i64_w, i32_w]; rw [c122b0]) | skip)
                      have H' := Aside0.mk H
                      clear H
                      go_wp2
                      go_meet
                      case rel => exact ⟨_, (x9_105), (by first | rfl | (simp; done) | (simp [*]; done)), H', ⟨by have := HJ5.out; have := HJ61.out; have := HJ105.out; first | omega | exact Nat.le_refl _⟩, ⟨by (with_reducible repeat (first | refine blk_drewN ?_ _ | refine blk_drew ?_ | refine blk_alloc ?_ _)); exact BK379.out⟩, ⟨by (with_reducible repeat (first | refine blk_drewN ?_ _ | refine blk_drew ?_ | refine blk_alloc ?_ _)); exact BK380.out⟩, ⟨by (with_reducible repeat (first | refine blk_drewN ?_ _ | refine blk_drew ?_ | refine blk_alloc ?_ _)); exact BK381.out⟩, ⟨by repeat (first | (with_reducible first | exact HB.out | apply below_alloc | apply pw_below_drewN | apply below_drew1 | refine below_set ?_ GE379.out | refine below_set ?_ GE380.out | refine below_set ?_ GE381.out) | exact HB.out)⟩⟩
                  case rest =>
                    clear HC115
                    try clear c1
                    try clear c2
                    try clear p2
                    try clear c3
                    try clear c4
                    try clear c5
                    try clear c6
                    try clear p6
                    try clear c7
                    try clear c8
                    try clear c9
                    try clear c10
                    try clear c11
                    try clear c12
                    try clear c13
                    try clear c13b0
                    try clear c14
                    try clear c14b0
                    try clear c16
                    try clear c16b0
                    try clear c16b1
                    try clear c17
                    try clear c17b0
                    try clear c17b1
                    try clear c17b2
                    try clear c18
                    try clear c19
                    try clear c21
                    try clear c25
                    try clear c26
                    try clear c26b0
                    try clear c27
                    try clear c27b0
                    try clear c29
                    try clear c30
                    try clear c32
                    try clear c39
                    try clear c40
                    try clear c42
                    try clear c47
                    try clear c48
                    try clear c50
                    try clear c55
                    try clear c56
                    try clear c58
                    try clear c61
                    try clear c63
                    try clear c63b0
                    try clear c63b1
                    try clear c64
                    try clear p64
                    try clear c65
                    try clear c67
                    try clear c69
                    try clear c70
                    try clear c72
                    try clear c74
                    try clear c76
                    try clear c76b0
                    try clear c76b1
                    try clear c78
                    try clear c78b0
                    try clear c78b1
                    try clear c80
                    try clear c81
                    try clear c83
                    try clear c90
                    try clear c91
                    try clear c93
                    try clear c99
                    try clear c100
                    try clear c102
                    try clear c107
                    try clear c108
                    try clear c110
                    try clear c113
                    try clear c113b0
                    try clear c113b1
                    try clear c116
                    try clear c117
                    try clear c119
                    try clear c122
                    try clear c122b0
                    try clear c122b1
                    try clear hcz101_0
                    try clear hcz101_1
                    try clear hcz101_2
                    try clear hcz103_0
                    try clear hcz103_1
                    try clear hcz103_2
                    try clear hcz109_0
                    try clear hcz109_1
                    try clear hcz109_2
                    try clear hcz111_0
                    try clear hcz111_1
                    try clear hcz111_2
                    try clear hcz118_0
                    try clear hcz118_1
                    try clear hcz118_2
                    try clear hcz120_0
                    try clear hcz120_1
                    try clear hcz120_2
                    try clear hcz20_0
                    try clear hcz20_1
                    try clear hcz20_2
                    try clear hcz22_0
                    try clear hcz22_1
                    try clear hcz22_2
                    try clear hcz24_0
                    try clear hcz24_1
                    try clear hcz24_2
                    try clear hcz25_0
                    try clear hcz25_1
                    try clear hcz25_2
                    try clear hcz31_0
                    try clear hcz31_1
                    try clear hcz31_2
                    try clear hcz33_0
                    try clear hcz33_1
                    try clear hcz33_2
                    try clear hcz35_0
                    try clear hcz35_1
                    try clear hcz35_2
                    try clear hcz36_0
                    try clear hcz36_1
                    try clear hcz36_2
                    try clear hcz37_0
                    try clear hcz37_1
                    try clear hcz37_2
                    try clear hcz41_0
                    try clear hcz41_1
                    try clear hcz41_2
                    try clear hcz43_0
                    try clear hcz43_1
                    try clear hcz43_2
                    try clear hcz45_0
                    try clear hcz45_1
                    try clear hcz45_2
                    try clear hcz46_0
                    try clear hcz46_1
                    try clear hcz46_2
                    try clear hcz49_0
                    try clear hcz49_1
                    try clear hcz49_2
                    try clear hcz51_0
                    try clear hcz51_1
                    try clear hcz51_2
                    try clear hcz53_0
                    try clear hcz53_1
                    try clear hcz53_2
                    try clear hcz54_0
                    try clear hcz54_1
                    try clear hcz54_2
                    try clear hcz57_0
                    try clear hcz57_1
                    try clear hcz57_2
                    try clear hcz59_0
                    try clear hcz59_1
                    try clear hcz59_2
                    try clear hcz66_0
                    try clear hcz66_1
                    try clear hcz66_2
                    try clear hcz68_0
                    try clear hcz68_1
                    try clear hcz68_2
                    try clear hcz71_0
                    try clear hcz71_1
                    try clear hcz71_2
                    try clear hcz73_0
                    try clear hcz73_1
                    try clear hcz73_2
                    try clear hcz82_0
                    try clear hcz82_1
                    try clear hcz82_2
                    try clear hcz84_0
                    try clear hcz84_1
                    try clear hcz84_2
                    try clear hcz86_0
                    try clear hcz86_1
                    try clear hcz86_2
                    try clear hcz87_0
                    try clear hcz87_1
                    try clear hcz87_2
                    try clear hcz92_0
                    try clear hcz92_1
                    try clear hcz92_2
                    try clear hcz94_0
                    try clear hcz94_1
                    try clear hcz94_2
                    try clear hcz96_0
                    try clear hcz96_1
                    try clear hcz96_2
                    try clear hcz97_0
                    try clear hcz97_1
                    try clear hcz97_2
                    try clear hfz101_0
                    try clear hfz101_1
                    try clear hfz101_2
                    try clear hfz103_0
                    try clear hfz103_1
                    try clear hfz103_2
                    try clear hfz109_0
                    try clear hfz109_1
                    try clear hfz109_2
                    try clear hfz111_0
                    try clear hfz111_1
                    try clear hfz111_2
                    try clear hfz118_0
                    try clear hfz118_1
                    try clear hfz118_2
                    try clear hfz120_0
                    try clear hfz120_1
                    try clear hfz120_2
                    try clear hfz20_0
                    try clear hfz20_1
                    try clear hfz20_2
                    try clear hfz22_0
                    try clear hfz22_1
                    try clear hfz22_2
                    try clear hfz24_0
                    try clear hfz24_1
                    try clear hfz24_2
                    try clear hfz25_0
                    try clear hfz25_1
                    try clear hfz25_2
                    try clear hfz31_0
                    try clear hfz31_1
                    try clear hfz31_2
                    try clear hfz33_0
                    try clear hfz33_1
                    try clear hfz33_2
                    try clear hfz35_0
                    try clear hfz35_1
                    try clear hfz35_2
                    try clear hfz36_0
                    try clear hfz36_1
                    try clear hfz36_2
                    try clear hfz37_0
                    try clear hfz37_1
                    try clear hfz37_2
                    try clear hfz41_0
                    try clear hfz41_1
                    try clear hfz41_2
                    try clear hfz43_0
                    try clear hfz43_1
                    try clear hfz43_2
                    try clear hfz45_0
                    try clear hfz45_1
                    try clear hfz45_2
                    try clear hfz46_0
                    try clear hfz46_1
                    try clear hfz46_2
                    try clear hfz49_0
                    try clear hfz49_1
                    try clear hfz49_2
                    try clear hfz51_0
                    try clear hfz51_1
                    try clear hfz51_2
                    try clear hfz53_0
                    try clear hfz53_1
                    try clear hfz53_2
                    try clear hfz54_0
                    try clear hfz54_1
                    try clear hfz54_2
                    try clear hfz57_0
                    try clear hfz57_1
                    try clear hfz57_2
                    try clear hfz59_0
                    try clear hfz59_1
                    try clear hfz59_2
                    try clear hfz66_0
                    try clear hfz66_1
                    try clear hfz66_2
                    try clear hfz68_0
                    try clear hfz68_1
                    try clear hfz68_2
                    try clear hfz71_0
                    try clear hfz71_1
                    try clear hfz71_2
                    try clear hfz73_0
                    try clear hfz73_1
                    try clear hfz73_2
                    try clear hfz82_0
                    try clear hfz82_1
                    try clear hfz82_2
                    try clear hfz84_0
                    try clear hfz84_1
                    try clear hfz84_2
                    try clear hfz86_0
                    try clear hfz86_1
                    try clear hfz86_2
                    try clear hfz87_0
                    try clear hfz87_1
                    try clear hfz87_2
                    try clear hfz92_0
                    try clear hfz92_1
                    try clear hfz92_2
                    try clear hfz94_0
                    try clear hfz94_1
                    try clear hfz94_2
                    try clear hfz96_0
                    try clear hfz96_1
                    try clear hfz96_2
                    try clear hfz97_0
                    try clear hfz97_1
                    try clear hfz97_2
                    try clear p2
                    try clear p6
                    try clear p64
                    obtain ⟨kq, x9_114, rfl, HA, HJ114, BK379, BK380, BK381, HB⟩ := hcut
                    cases kq with
                    | zero => exact absurd HA.out (by simp [bitemporallaw07_ValueOrder.j3])
                    | succ kj114 =>
                      have H := HA.out
                      clear HA
                      simp only [bitemporallaw07_ValueOrder.j3] at H
                      replace H := Option.bind_eq_some_iff.mp H
                      obtain ⟨t391, A1230, H⟩ := H
                      replace H : (if t391 = 2 then (if (wrap64 (x9_114 + 1)) = 1 then ((bitemporallaw07_awake.f kj114).bind fun t392 => (some t392)) else (some false)) else (if x9_114 = 1 then ((bitemporallaw07_awake.f kj114).bind fun t393 => (some t393)) else (some false))) = some r := H
                      have A123 := Aside0.mk A1230
                      clear A1230
                      by_cases c124 : t391 = 2
                      · rw [if_pos c124] at H
                        have c124b0 : (t391 == 2) = true := beq_iff_eq.mpr c124
                        have c124b1 : (t391 != 2) = false := bne_eq_false_iff_eq.mpr c124
                        clear c124
                        by_cases c125 : (wrap64 (x9_114 + 1)) = 1
                        · rw [if_pos c125] at H
                          have c125b0 : ((wrap64 (x9_114 + 1)) == 1) = true := beq_iff_eq.mpr c125
                          have c125b1 : ((wrap64 (x9_114 + 1)) != 1) = false := bne_eq_false_iff_eq.mpr c125
                          clear c125
                          replace H := Option.bind_eq_some_iff.mp H
                          obtain ⟨t392, A1260, H⟩ := H
                          replace H : (some t392) = some r := H
                          have A126 := Aside0.mk A1260
                          clear A1260
                          obtain rfl := Option.some.inj H
                          have hnb127 := NB380_379.out
                          have hnc127 := NB379_380.out
                          have hnb128 := NB380_381.out
                          have hnc128 := NB381_380.out
                          have hcz129_0 : wc.cell? ⟨gb380, 0, none⟩ = some (.int .i64 a1_0) := (blk_cell BK380.out 0).trans rfl
                          have hcz129_1 : wc.cell? ⟨gb380, 1, none⟩ = some (.int .i64 a1_1) := (blk_cell BK380.out 1).trans rfl
                          have hcz129_2 : wc.cell? ⟨gb380, 2, none⟩ = some (.string a1_2) := (blk_cell BK380.out 2).trans rfl
                          have hfz129_0 := blk_frozen BK380.out 0
                          have hfz129_1 := blk_frozen BK380.out 1
                          have hfz129_2 := blk_frozen BK380.out 2
                          have hnb130 := NB379_381.out
                          have hnc130 := NB381_379.out
                          have hcz131_0 : wc.cell? ⟨gb379, 0, none⟩ = some (.int .i64 a0_0) := (blk_cell BK379.out 0).trans rfl
                          have hcz131_1 : wc.cell? ⟨gb379, 1, none⟩ = some (.int .i64 a0_1) := (blk_cell BK379.out 1).trans rfl
                          have hcz131_2 : wc.cell? ⟨gb379, 2, none⟩ = some (.string a0_2) := (blk_cell BK379.out 2).trans rfl
                          have hfz131_0 := blk_frozen BK379.out 0
                          have hfz131_1 := blk_frozen BK379.out 1
                          have hfz131_2 := blk_frozen BK379.out 2
                          go_wp2_with (first | ((with_reducible refine gate_callee (f := 29) rfl ?_); refine goesL_ (some 89) rfl rfl Tryd.func29 (by kernel_rfl) rfl #[.agg #[.int .i64 a1_0, .int .i64 a1_1, .string a1_2], .agg #[.int .i64 a0_0, .int .i64 a0_1, .string a0_2]] rfl (by (try simp only [List.map_toArray, List.map_cons, List.map_nil]); first | done | rfl | (simp only [List.length_drop, List.length_take]; rfl)) ?_; (with_reducible refine (value_Less.calls kj114 a1_0 a1_1 a1_2 a0_0 a0_1 a0_2 t391 _ A123.out ?gw_).mono ?_); (case gw_ => first | exact HG.out | (refine GW.below HG.out ?_; repeat (first | (with_reducible first | exact HB.out | apply below_alloc | apply pw_below_drewN | apply below_drew1 | refine below_set ?_ GE379.out | refine below_set ?_ GE380.out | refine below_set ?_ GE381.out) | exact HB.out))); rintro e w132 ⟨rfl, hb⟩; refine ⟨_, rfl, ?_⟩; have n0_ := Aside0.mk (blk_below (g := gb379) (o := .cells #[.int .i64 a0_0, .int .i64 a0_1, .string a0_2] 23 (0, 0)) (by (with_reducible repeat (first | refine blk_drewN ?_ _ | refine blk_drew ?_ | refine blk_alloc ?_ _)); exact BK379.out) hb); have n1_ := Aside0.mk (blk_below (g := gb380) (o := .cells #[.int .i64 a1_0, .int .i64 a1_1, .string a1_2] 23 (0, 0)) (by (with_reducible repeat (first | refine blk_drewN ?_ _ | refine blk_drew ?_ | refine blk_alloc ?_ _)); exact BK380.out) hb); have n2_ := Aside0.mk (blk_below (g := gb381) (o := .cells #[.int .i64 a2_0, .int .i64 a2_1, .string a2_2] 23 (0, 0)) (by (with_reducible repeat (first | refine blk_drewN ?_ _ | refine blk_drew ?_ | refine blk_alloc ?_ _)); exact BK381.out) hb); have n3_ := Aside0.mk (below_step (by repeat (first | (with_reducible first | exact HB.out | apply below_alloc | apply pw_below_drewN | apply below_drew1 | refine below_set ?_ GE379.out | refine below_set ?_ GE380.out | refine below_set ?_ GE381.out) | exact HB.out)) hb); clear BK379; clear BK380; clear BK381; clear HB; have BK379 := n0_; have BK380 := n1_; have BK381 := n2_; have HB := n3_; clear n0_ n1_ n2_ n3_; (try clear hb); (try clear hb2); (try clear hk); (try clear hi)) | (go_at_call 20; (with_reducible refine (bitemporallaw07_awake.calls kj114  t392 _ A126.out ?gw_).mono ?_); (case gw_ => first | exact HG.out | (refine GW.below HG.out ?_; repeat (first | (with_reducible first | exact HB.out | apply below_alloc | apply pw_below_drewN | apply below_drew1 | refine below_set ?_ GE379.out | refine below_set ?_ GE380.out | refine below_set ?_ GE381.out) | exact HB.out))); rintro e w133 ⟨rfl, hb⟩; have n0_ := Aside0.mk (blk_below (g := gb379) (o := .cells #[.int .i64 a0_0, .int .i64 a0_1, .string a0_2] 23 (0, 0)) (by (with_reducible repeat (first | refine blk_drewN ?_ _ | refine blk_drew ?_ | refine blk_alloc ?_ _)); exact BK379.out) hb); have n1_ := Aside0.mk (blk_below (g := gb380) (o := .cells #[.int .i64 a1_0, .int .i64 a1_1, .string a1_2] 23 (0, 0)) (by (with_reducible repeat (first | refine blk_drewN ?_ _ | refine blk_drew ?_ | refine blk_alloc ?_ _)); exact BK380.out) hb); have n2_ := Aside0.mk (blk_below (g := gb381) (o := .cells #[.int .i64 a2_0, .int .i64 a2_1, .string a2_2] 23 (0, 0)) (by (with_reducible repeat (first | refine blk_drewN ?_ _ | refine blk_drew ?_ | refine blk_alloc ?_ _)); exact BK381.out) hb); have n3_ := Aside0.mk (below_step (by repeat (first | (with_reducible first | exact HB.out | apply below_alloc | apply pw_below_drewN | apply below_drew1 | refine below_set ?_ GE379.out | refine below_set ?_ GE380.out | refine below_set ?_ GE381.out) | exact HB.out)) hb); clear BK379; clear BK380; clear BK381; clear HB; have BK379 := n0_; have BK380 := n1_; have BK381 := n2_; have HB := n3_; clear n0_ n1_ n2_ n3_; (try clear hb); (try clear hb2); (try clear hk); (try clear hi)))
                          go_ret
                          exact ⟨by first | rfl | (simp [errW_none, errW_some] <;> rfl) | (simp [*, errW_none, errW_some] <;> rfl), by repeat (first | (with_reducible first | exact HB.out | apply below_alloc | apply pw_below_drewN | apply below_drew1 | refine below_set ?_ GE379.out | refine below_set ?_ GE380.out | refine below_set ?_ GE381.out) | exact HB.out)⟩
                        · rw [if_neg c125] at H
                          have c125b0 : ((wrap64 (x9_114 + 1)) == 1) = false := beq_eq_false_iff_ne.mpr c125
                          have c125b1 : ((wrap64 (x9_114 + 1)) != 1) = true := bne_iff_ne.mpr c125
                          obtain rfl := Option.some.inj H
                          have hnb134 := NB380_379.out
                          have hnc134 := NB379_380.out
                          have hnb135 := NB380_381.out
                          have hnc135 := NB381_380.out
                          have hcz136_0 : wc.cell? ⟨gb380, 0, none⟩ = some (.int .i64 a1_0) := (blk_cell BK380.out 0).trans rfl
                          have hcz136_1 : wc.cell? ⟨gb380, 1, none⟩ = some (.int .i64 a1_1) := (blk_cell BK380.out 1).trans rfl
                          have hcz136_2 : wc.cell? ⟨gb380, 2, none⟩ = some (.string a1_2) := (blk_cell BK380.out 2).trans rfl
                          have hfz136_0 := blk_frozen BK380.out 0
                          have hfz136_1 := blk_frozen BK380.out 1
                          have hfz136_2 := blk_frozen BK380.out 2
                          have hnb137 := NB379_381.out
                          have hnc137 := NB381_379.out
                          have hcz138_0 : wc.cell? ⟨gb379, 0, none⟩ = some (.int .i64 a0_0) := (blk_cell BK379.out 0).trans rfl
                          have hcz138_1 : wc.cell? ⟨gb379, 1, none⟩ = some (.int .i64 a0_1) := (blk_cell BK379.out 1).trans rfl
                          have hcz138_2 : wc.cell? ⟨gb379, 2, none⟩ = some (.string a0_2) := (blk_cell BK379.out 2).trans rfl
                          have hfz138_0 := blk_frozen BK379.out 0
                          have hfz138_1 := blk_frozen BK379.out 1
                          have hfz138_2 := blk_frozen BK379.out 2
                          go_wp2_with (first | ((with_reducible refine gate_callee (f := 29) rfl ?_); refine goesL_ (some 89) rfl rfl Tryd.func29 (by kernel_rfl) rfl #[.agg #[.int .i64 a1_0, .int .i64 a1_1, .string a1_2], .agg #[.int .i64 a0_0, .int .i64 a0_1, .string a0_2]] rfl (by (try simp only [List.map_toArray, List.map_cons, List.map_nil]); first | done | rfl | (simp only [List.length_drop, List.length_take]; rfl)) ?_; (with_reducible refine (value_Less.calls kj114 a1_0 a1_1 a1_2 a0_0 a0_1 a0_2 t391 _ A123.out ?gw_).mono ?_); (case gw_ => first | exact HG.out | (refine GW.below HG.out ?_; repeat (first | (with_reducible first | exact HB.out | apply below_alloc | apply pw_below_drewN | apply below_drew1 | refine below_set ?_ GE379.out | refine below_set ?_ GE380.out | refine below_set ?_ GE381.out) | exact HB.out))); rintro e w139 ⟨rfl, hb⟩; refine ⟨_, rfl, ?_⟩; have n0_ := Aside0.mk (blk_below (g := gb379) (o := .cells #[.int .i64 a0_0, .int .i64 a0_1, .string a0_2] 23 (0, 0)) (by (with_reducible repeat (first | refine blk_drewN ?_ _ | refine blk_drew ?_ | refine blk_alloc ?_ _)); exact BK379.out) hb); have n1_ := Aside0.mk (blk_below (g := gb380) (o := .cells #[.int .i64 a1_0, .int .i64 a1_1, .string a1_2] 23 (0, 0)) (by (with_reducible repeat (first | refine blk_drewN ?_ _ | refine blk_drew ?_ | refine blk_alloc ?_ _)); exact BK380.out) hb); have n2_ := Aside0.mk (blk_below (g := gb381) (o := .cells #[.int .i64 a2_0, .int .i64 a2_1, .string a2_2] 23 (0, 0)) (by (with_reducible repeat (first | refine blk_drewN ?_ _ | refine blk_drew ?_ | refine blk_alloc ?_ _)); exact BK381.out) hb); have n3_ := Aside0.mk (below_step (by repeat (first | (with_reducible first | exact HB.out | apply below_alloc | apply pw_below_drewN | apply below_drew1 | refine below_set ?_ GE379.out | refine below_set ?_ GE380.out | refine below_set ?_ GE381.out) | exact HB.out)) hb); clear BK379; clear BK380; clear BK381; clear HB; have BK379 := n0_; have BK380 := n1_; have BK381 := n2_; have HB := n3_; clear n0_ n1_ n2_ n3_; (try clear hb); (try clear hb2); (try clear hk); (try clear hi)))
                          go_ret
                          exact ⟨by first | rfl | (simp [errW_none, errW_some] <;> rfl) | (simp [*, errW_none, errW_some] <;> rfl), by repeat (first | (with_reducible first | exact HB.out | apply below_alloc | apply pw_below_drewN | apply below_drew1 | refine below_set ?_ GE379.out | refine below_set ?_ GE380.out | refine below_set ?_ GE381.out) | exact HB.out)⟩
                      · rw [if_neg c124] at H
                        have c124b0 : (t391 == 2) = false := beq_eq_false_iff_ne.mpr c124
                        have c124b1 : (t391 != 2) = true := bne_iff_ne.mpr c124
                        by_cases c140 : x9_114 = 1
                        · rw [if_pos c140] at H
                          have c140b0 : (x9_114 == 1) = true := beq_iff_eq.mpr c140
                          have c140b1 : (x9_114 != 1) = false := bne_eq_false_iff_eq.mpr c140
                          clear c140
                          replace H := Option.bind_eq_some_iff.mp H
                          obtain ⟨t393, A1410, H⟩ := H
                          replace H : (some t393) = some r := H
                          have A141 := Aside0.mk A1410
                          clear A1410
                          obtain rfl := Option.some.inj H
                          have hnb142 := NB380_379.out
                          have hnc142 := NB379_380.out
                          have hnb143 := NB380_381.out
                          have hnc143 := NB381_380.out
                          have hcz144_0 : wc.cell? ⟨gb380, 0, none⟩ = some (.int .i64 a1_0) := (blk_cell BK380.out 0).trans rfl
                          have hcz144_1 : wc.cell? ⟨gb380, 1, none⟩ = some (.int .i64 a1_1) := (blk_cell BK380.out 1).trans rfl
                          have hcz144_2 : wc.cell? ⟨gb380, 2, none⟩ = some (.string a1_2) := (blk_cell BK380.out 2).trans rfl
                          have hfz144_0 := blk_frozen BK380.out 0
                          have hfz144_1 := blk_frozen BK380.out 1
                          have hfz144_2 := blk_frozen BK380.out 2
                          have hnb145 := NB379_381.out
                          have hnc145 := NB381_379.out
                          have hcz146_0 : wc.cell? ⟨gb379, 0, none⟩ = some (.int .i64 a0_0) := (blk_cell BK379.out 0).trans rfl
                          have hcz146_1 : wc.cell? ⟨gb379, 1, none⟩ = some (.int .i64 a0_1) := (blk_cell BK379.out 1).trans rfl
                          have hcz146_2 : wc.cell? ⟨gb379, 2, none⟩ = some (.string a0_2) := (blk_cell BK379.out 2).trans rfl
                          have hfz146_0 := blk_frozen BK379.out 0
                          have hfz146_1 := blk_frozen BK379.out 1
                          have hfz146_2 := blk_frozen BK379.out 2
                          go_wp2_with (first | ((with_reducible refine gate_callee (f := 29) rfl ?_); refine goesL_ (some 89) rfl rfl Tryd.func29 (by kernel_rfl) rfl #[.agg #[.int .i64 a1_0, .int .i64 a1_1, .string a1_2], .agg #[.int .i64 a0_0, .int .i64 a0_1, .string a0_2]] rfl (by (try simp only [List.map_toArray, List.map_cons, List.map_nil]); first | done | rfl | (simp only [List.length_drop, List.length_take]; rfl)) ?_; (with_reducible refine (value_Less.calls kj114 a1_0 a1_1 a1_2 a0_0 a0_1 a0_2 t391 _ A123.out ?gw_).mono ?_); (case gw_ => first | exact HG.out | (refine GW.below HG.out ?_; repeat (first | (with_reducible first | exact HB.out | apply below_alloc | apply pw_below_drewN | apply below_drew1 | refine below_set ?_ GE379.out | refine below_set ?_ GE380.out | refine below_set ?_ GE381.out) | exact HB.out))); rintro e w147 ⟨rfl, hb⟩; refine ⟨_, rfl, ?_⟩; have n0_ := Aside0.mk (blk_below (g := gb379) (o := .cells #[.int .i64 a0_0, .int .i64 a0_1, .string a0_2] 23 (0, 0)) (by (with_reducible repeat (first | refine blk_drewN ?_ _ | refine blk_drew ?_ | refine blk_alloc ?_ _)); exact BK379.out) hb); have n1_ := Aside0.mk (blk_below (g := gb380) (o := .cells #[.int .i64 a1_0, .int .i64 a1_1, .string a1_2] 23 (0, 0)) (by (with_reducible repeat (first | refine blk_drewN ?_ _ | refine blk_drew ?_ | refine blk_alloc ?_ _)); exact BK380.out) hb); have n2_ := Aside0.mk (blk_below (g := gb381) (o := .cells #[.int .i64 a2_0, .int .i64 a2_1, .string a2_2] 23 (0, 0)) (by (with_reducible repeat (first | refine blk_drewN ?_ _ | refine blk_drew ?_ | refine blk_alloc ?_ _)); exact BK381.out) hb); have n3_ := Aside0.mk (below_step (by repeat (first | (with_reducible first | exact HB.out | apply below_alloc | apply pw_below_drewN | apply below_drew1 | refine below_set ?_ GE379.out | refine below_set ?_ GE380.out | refine below_set ?_ GE381.out) | exact HB.out)) hb); clear BK379; clear BK380; clear BK381; clear HB; have BK379 := n0_; have BK380 := n1_; have BK381 := n2_; have HB := n3_; clear n0_ n1_ n2_ n3_; (try clear hb); (try clear hb2); (try clear hk); (try clear hi)) | (go_at_call 20; (with_reducible refine (bitemporallaw07_awake.calls kj114  t393 _ A141.out ?gw_).mono ?_); (case gw_ => first | exact HG.out | (refine GW.below HG.out ?_; repeat (first | (with_reducible first | exact HB.out | apply below_alloc | apply pw_below_drewN | apply below_drew1 | refine below_set ?_ GE379.out | refine below_set ?_ GE380.out | refine below_set ?_ GE381.out) | exact HB.out))); rintro e w148 ⟨rfl, hb⟩; have n0_ := Aside0.mk (blk_below (g := gb379) (o := .cells #[.int .i64 a0_0, .int .i64 a0_1, .string a0_2] 23 (0, 0)) (by (with_reducible repeat (first | refine blk_drewN ?_ _ | refine blk_drew ?_ | refine blk_alloc ?_ _)); exact BK379.out) hb); have n1_ := Aside0.mk (blk_below (g := gb380) (o := .cells #[.int .i64 a1_0, .int .i64 a1_1, .string a1_2] 23 (0, 0)) (by (with_reducible repeat (first | refine blk_drewN ?_ _ | refine blk_drew ?_ | refine blk_alloc ?_ _)); exact BK380.out) hb); have n2_ := Aside0.mk (blk_below (g := gb381) (o := .cells #[.int .i64 a2_0, .int .i64 a2_1, .string a2_2] 23 (0, 0)) (by (with_reducible repeat (first | refine blk_drewN ?_ _ | refine blk_drew ?_ | refine blk_alloc ?_ _)); exact BK381.out) hb); have n3_ := Aside0.mk (below_step (by repeat (first | (with_reducible first | exact HB.out | apply below_alloc | apply pw_below_drewN | apply below_drew1 | refine below_set ?_ GE379.out | refine below_set ?_ GE380.out | refine below_set ?_ GE381.out) | exact HB.out)) hb); clear BK379; clear BK380; clear BK381; clear HB; have BK379 := n0_; have BK380 := n1_; have BK381 := n2_; have HB := n3_; clear n0_ n1_ n2_ n3_; (try clear hb); (try clear hb2); (try clear hk); (try clear hi)))
                          go_ret
                          exact ⟨by first | rfl | (simp [errW_none, errW_some] <;> rfl) | (simp [*, errW_none, errW_some] <;> rfl), by repeat (first | (with_reducible first | exact HB.out | apply below_alloc | apply pw_below_drewN | apply below_drew1 | refine below_set ?_ GE379.out | refine below_set ?_ GE380.out | refine below_set ?_ GE381.out) | exact HB.out)⟩
                        · rw [if_neg c140] at H
                          have c140b0 : (x9_114 == 1) = false := beq_eq_false_iff_ne.mpr c140
                          have c140b1 : (x9_114 != 1) = true := bne_iff_ne.mpr c140
                          obtain rfl := Option.some.inj H
                          have hnb149 := NB380_379.out
                          have hnc149 := NB379_380.out
                          have hnb150 := NB380_381.out
                          have hnc150 := NB381_380.out
                          have hcz151_0 : wc.cell? ⟨gb380, 0, none⟩ = some (.int .i64 a1_0) := (blk_cell BK380.out 0).trans rfl
                          have hcz151_1 : wc.cell? ⟨gb380, 1, none⟩ = some (.int .i64 a1_1) := (blk_cell BK380.out 1).trans rfl
                          have hcz151_2 : wc.cell? ⟨gb380, 2, none⟩ = some (.string a1_2) := (blk_cell BK380.out 2).trans rfl
                          have hfz151_0 := blk_frozen BK380.out 0
                          have hfz151_1 := blk_frozen BK380.out 1
                          have hfz151_2 := blk_frozen BK380.out 2
                          have hnb152 := NB379_381.out
                          have hnc152 := NB381_379.out
                          have hcz153_0 : wc.cell? ⟨gb379, 0, none⟩ = some (.int .i64 a0_0) := (blk_cell BK379.out 0).trans rfl
                          have hcz153_1 : wc.cell? ⟨gb379, 1, none⟩ = some (.int .i64 a0_1) := (blk_cell BK379.out 1).trans rfl
                          have hcz153_2 : wc.cell? ⟨gb379, 2, none⟩ = some (.string a0_2) := (blk_cell BK379.out 2).trans rfl
                          have hfz153_0 := blk_frozen BK379.out 0
                          have hfz153_1 := blk_frozen BK379.out 1
                          have hfz153_2 := blk_frozen BK379.out 2
                          go_wp2_with (first | ((with_reducible refine gate_callee (f := 29) rfl ?_); refine goesL_ (some 89) rfl rfl Tryd.func29 (by kernel_rfl) rfl #[.agg #[.int .i64 a1_0, .int .i64 a1_1, .string a1_2], .agg #[.int .i64 a0_0, .int .i64 a0_1, .string a0_2]] rfl (by (try simp only [List.map_toArray, List.map_cons, List.map_nil]); first | done | rfl | (simp only [List.length_drop, List.length_take]; rfl)) ?_; (with_reducible refine (value_Less.calls kj114 a1_0 a1_1 a1_2 a0_0 a0_1 a0_2 t391 _ A123.out ?gw_).mono ?_); (case gw_ => first | exact HG.out | (refine GW.below HG.out ?_; repeat (first | (with_reducible first | exact HB.out | apply below_alloc | apply pw_below_drewN | apply below_drew1 | refine below_set ?_ GE379.out | refine below_set ?_ GE380.out | refine below_set ?_ GE381.out) | exact HB.out))); rintro e w154 ⟨rfl, hb⟩; refine ⟨_, rfl, ?_⟩; have n0_ := Aside0.mk (blk_below (g := gb379) (o := .cells #[.int .i64 a0_0, .int .i64 a0_1, .string a0_2] 23 (0, 0)) (by (with_reducible repeat (first | refine blk_drewN ?_ _ | refine blk_drew ?_ | refine blk_alloc ?_ _)); exact BK379.out) hb); have n1_ := Aside0.mk (blk_below (g := gb380) (o := .cells #[.int .i64 a1_0, .int .i64 a1_1, .string a1_2] 23 (0, 0)) (by (with_reducible repeat (first | refine blk_drewN ?_ _ | refine blk_drew ?_ | refine blk_alloc ?_ _)); exact BK380.out) hb); have n2_ := Aside0.mk (blk_below (g := gb381) (o := .cells #[.int .i64 a2_0, .int .i64 a2_1, .string a2_2] 23 (0, 0)) (by (with_reducible repeat (first | refine blk_drewN ?_ _ | refine blk_drew ?_ | refine blk_alloc ?_ _)); exact BK381.out) hb); have n3_ := Aside0.mk (below_step (by repeat (first | (with_reducible first | exact HB.out | apply below_alloc | apply pw_below_drewN | apply below_drew1 | refine below_set ?_ GE379.out | refine below_set ?_ GE380.out | refine below_set ?_ GE381.out) | exact HB.out)) hb); clear BK379; clear BK380; clear BK381; clear HB; have BK379 := n0_; have BK380 := n1_; have BK381 := n2_; have HB := n3_; clear n0_ n1_ n2_ n3_; (try clear hb); (try clear hb2); (try clear hk); (try clear hi)))
                          go_ret
                          exact ⟨by first | rfl | (simp [errW_none, errW_some] <;> rfl) | (simp [*, errW_none, errW_some] <;> rfl), by repeat (first | (with_reducible first | exact HB.out | apply below_alloc | apply pw_below_drewN | apply below_drew1 | refine below_set ?_ GE379.out | refine below_set ?_ GE380.out | refine below_set ?_ GE381.out) | exact HB.out)⟩

end Go.Proofs.YtoopomkeigjekaaDoor.X
