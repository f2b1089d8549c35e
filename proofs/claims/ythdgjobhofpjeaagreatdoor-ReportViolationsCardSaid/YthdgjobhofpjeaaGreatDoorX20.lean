/- Walks of Go functions of this seat, printed by a program of mine (wip/tools/xprint.py) over the kit's printer: each function as a plain Lean function, and the proof that the call comes to what it says. No conditions but those in each theorem. -/
import Derived.Test.YthdgjobhofpjeaaGreatDoorX0
import Derived.Test.YthdgjobhofpjeaaGreatDoorX14
namespace Go.Proofs.YthdgjobhofpjeaaGreatDoor.X
open Go.RowKit Go.Proofs.YthdgjobhofpjeaaGreatDoorW.PrintWords Go.Proofs.YthdgjobhofpjeaaGreatDoorW.PrintLast Go.Proofs.YthdgjobhofpjeaaGreatDoorW.PrintMore
attribute [local go_sem] max2_int min2_int max_two min_two max_three min_three max_four min_four   -- for this text's walks alone
set_option linter.unusedVariables false
set_option linter.unusedSimpArgs false

/-! ### bitemporalref55_violated: function 45 -/
def bitemporalref55_violated.f (k : Nat) (a0_0 : Int) (a0_1 : ByteArray) (a0_2 : Int) (l0_3 : List (S54)) (a0_4 : Int) (a0_5 : Int) : Option (ByteArray) := (bitemporalref07_Number.f k (wrap64 (a0_2 + 1))).bind fun t431 => (if a0_0 = 1 then (if 19 + t431.size ≤ 9223372036854775807 then (some ((⟨#[110, 111, 116, 32, 110, 117, 108, 108, 32, 111, 102, 32, 99, 111, 108, 117, 109, 110, 32]⟩ : ByteArray) ++ t431)) else (none)) else (if a0_0 = 2 then (some (⟨#[107, 101, 121]⟩ : ByteArray)) else (if a0_0 = 3 then (if 12 + t431.size ≤ 9223372036854775807 then (some ((⟨#[102, 111, 114, 101, 105, 103, 110, 32, 107, 101, 121, 32]⟩ : ByteArray) ++ t431)) else (none)) else (if a0_0 = 4 then (if 6 + t431.size ≤ 9223372036854775807 then (some ((⟨#[99, 104, 101, 99, 107, 32]⟩ : ByteArray) ++ t431)) else (none)) else (some (⟨#[117, 110, 107, 110, 111, 119, 110]⟩ : ByteArray))))))
theorem bitemporalref55_violated.mono : ∀ a0 a1 a2 a3 a4 a5 k, LeO (bitemporalref55_violated.f k a0 a1 a2 a3 a4 a5) (bitemporalref55_violated.f (k + 1) a0 a1 a2 a3 a4 a5) := by
  intro a0 a1 a2 a3 a4 a5 k
  unfold bitemporalref55_violated.f
  repeat' first
      | (with_reducible exact bitemporalref07_Number.mono _ _)
      | (with_reducible exact LeO.refl _)
      | (with_reducible exact LeO.none _)
      | (with_reducible refine LeO.ite ?_ ?_)
      | (with_reducible refine LeO.bind ?_ (fun _ => ?_))
      | exact bitemporalref07_Number.mono _ _
      | exact LeO.none _
      | refine LeO.ite ?_ ?_
      | refine LeO.bind ?_ (fun _ => ?_)
set_option maxHeartbeats 8000000 in
set_option maxRecDepth 100000 in
theorem bitemporalref55_violated.calls (k : Nat) (a0_0 : Int) (a0_1 : ByteArray) (a0_2 : Int) (A0_3 : Option Addr) (c0_3 : Nat) (l0_3 : List (S54)) (a0_4 : Int) (a0_5 : Int) (r : ByteArray) (w : World) (hr0_3 : Kd.C k54 w A0_3 l0_3.length l0_3) (hc0_3 : l0_3.length ≤ c0_3) (h : bitemporalref55_violated.f k a0_0 a0_1 a0_2 l0_3 a0_4 a0_5 = some r) (hG : GW w) :
  Calls Tryz.prog 45 #[.agg #[.int .i64 a0_0, .string a0_1, .int .i64 a0_2, .slice A0_3 l0_3.length c0_3, .int .i64 a0_4, .int .i64 a0_5]] w fun e w' => e = .returned (.string r) ∧ Below w.heap.size w w' := by
 have HG := zM hG
 clear hG
 have hu38 := Tryz.underlying38
 have HR0_3 := zM hr0_3
 have HC0_3 := zM hc0_3
 clear hr0_3 hc0_3
 have HB := zM (Below.refl w.heap.size w)
 have H : ((bitemporalref07_Number.f k (wrap64 (a0_2 + 1))).bind fun t431 => (if a0_0 = 1 then (if 19 + t431.size ≤ 9223372036854775807 then (some ((⟨#[110, 111, 116, 32, 110, 117, 108, 108, 32, 111, 102, 32, 99, 111, 108, 117, 109, 110, 32]⟩ : ByteArray) ++ t431)) else (none)) else (if a0_0 = 2 then (some (⟨#[107, 101, 121]⟩ : ByteArray)) else (if a0_0 = 3 then (if 12 + t431.size ≤ 9223372036854775807 then (some ((⟨#[102, 111, 114, 101, 105, 103, 110, 32, 107, 101, 121, 32]⟩ : ByteArray) ++ t431)) else (none)) else (if a0_0 = 4 then (if 6 + t431.size ≤ 9223372036854775807 then (some ((⟨#[99, 104, 101, 99, 107, 32]⟩ : ByteArray) ++ t431)) else (none)) else (some (⟨#[117, 110, 107, 110, 111, 119, 110]⟩ : ByteArray))))))) = some r := h
 clear h
 replace H := Option.bind_eq_some_iff.mp H
 obtain ⟨t431, A20, H⟩ := H
 replace H : (if a0_0 = 1 then (if 19 + t431.size ≤ 9223372036854775807 then (some ((⟨#[110, 111, 116, 32, 110, 117, 108, 108, 32, 111, 102, 32, 99, 111, 108, 117, 109, 110, 32]⟩ : ByteArray) ++ t431)) else (none)) else (if a0_0 = 2 then (some (⟨#[107, 101, 121]⟩ : ByteArray)) else (if a0_0 = 3 then (if 12 + t431.size ≤ 9223372036854775807 then (some ((⟨#[102, 111, 114, 101, 105, 103, 110, 32, 107, 101, 121, 32]⟩ : ByteArray) ++ t431)) else (none)) else (if a0_0 = 4 then (if 6 + t431.size ≤ 9223372036854775807 then (some ((⟨#[99, 104, 101, 99, 107, 32]⟩ : ByteArray) ++ t431)) else (none)) else (some (⟨#[117, 110, 107, 110, 111, 119, 110]⟩ : ByteArray)))))) = some r := H
 have A2 := zM A20
 clear A20
 by_cases c3 : a0_0 = 1
 ·rw [if_pos c3] at H
  have c3b0 : (a0_0 == 1) = true := beq_iff_eq.mpr c3
  have c3b1 : (a0_0 != 1) = false := bne_eq_false_iff_eq.mpr c3
  clear c3
  by_cases c4 : 19 + t431.size ≤ 9223372036854775807
  case neg =>
   rw [if_neg c4] at H
   exact absurd H (by simp)
  rw [if_pos c4] at H
  have c4b0 := eq_true c4
  have c4b1 : decide (19 + t431.size ≤ 9223372036854775807) = true := decide_eq_true c4
  try have c4b2 : (9223372036854775807 < 19 + t431.size) = False := eq_false (Nat.not_lt.2 c4)
  try (have c4b3 := c4b2; simp only [ByteArray.size_append, size_lit, List.size_toArray, List.length_cons, List.length_nil, Nat.zero_add] at c4b3)
  obtain rfl := Option.some.inj H
  go_enter Tryz.func45, Tryz.ntmps45
  go_wp2_with (first | ((with_reducible refine gate_dst (N := 1) rfl ?_); refine box_event ?hg (N := 1) ?hd (cs := #[.int .i64 a0_0, .string a0_1, .int .i64 a0_2, .slice A0_3 l0_3.length c0_3, .int .i64 a0_4, .int .i64 a0_5]) (t := 38) ?hr ?_; (case hd => rfl); (case hg => rfl); (case hr => first | (go_simp; done) | (go_simp; rfl)); intro gb430 hg w5 hbox hb; have n0_ := zM (zT (by repeat (first | (with_reducible first | exact HB.1 | apply zA | apply zN | apply z1) | exact HB.1)) hb); have n1_ := zM (hbox); have n2_ := zM ((by rw [hg]; exact (zZ (by repeat (first | (with_reducible first | exact HB.1 | apply zA | apply zN | apply z1) | exact HB.1))) : w.heap.size ≤ gb430)); have n3_ := n2_; clear HB; have HB := n0_; have BK430 := n1_; have GW430 := n2_; have GE430 := n3_; clear n0_ n1_ n2_ n3_; clear hb hbox hg; have hcz6_0 : w5.cell? ⟨gb430, 0, none⟩ = some (.int .i64 a0_0) := (kC BK430.1 0).trans rfl; have hcz6_1 : w5.cell? ⟨gb430, 1, none⟩ = some (.string a0_1) := (kC BK430.1 1).trans rfl; have hcz6_2 : w5.cell? ⟨gb430, 2, none⟩ = some (.int .i64 a0_2) := (kC BK430.1 2).trans rfl; have hcz6_3 : w5.cell? ⟨gb430, 3, none⟩ = some (.slice A0_3 l0_3.length c0_3) := (kC BK430.1 3).trans rfl; have hcz6_4 : w5.cell? ⟨gb430, 4, none⟩ = some (.int .i64 a0_4) := (kC BK430.1 4).trans rfl; have hcz6_5 : w5.cell? ⟨gb430, 5, none⟩ = some (.int .i64 a0_5) := (kC BK430.1 5).trans rfl; have hfz6_0 := kF BK430.1 0; have hfz6_1 := kF BK430.1 1; have hfz6_2 := kF BK430.1 2; have hfz6_3 := kF BK430.1 3; have hfz6_4 := kF BK430.1 4; have hfz6_5 := kF BK430.1 5) | ((with_reducible refine gate_callee (f := 36) rfl ?_); refine goesL_ (some 7) rfl rfl Tryz.func36 (by kernel_rfl) rfl #[.int .i64 (wrap64 (a0_2 + 1))] rfl (by (try simp only [List.map_toArray, List.map_cons, List.map_nil]); first | done | rfl | (simp only [List.length_drop, List.length_take]; rfl)) ?_; (with_reducible refine (bitemporalref07_Number.calls k (wrap64 (a0_2 + 1)) t431 _ A2.out ?gw_).mono ?_); (case gw_ => first | exact HG.1 | (refine GW.below HG.1 ?_; repeat (first | (with_reducible first | exact HB.1 | apply zA | apply zN | apply z1 | refine zS ?_ GE430.1) | exact HB.1))); rintro e w' ⟨rfl, ⟨nd, rfl⟩⟩; refine ⟨_, rfl, ?_⟩))
  go_ret
  exact ⟨by first | rfl | (simp [errW_none, errW_some] <;> rfl) | (simp [*, errW_none, errW_some] <;> rfl), by repeat (first | (with_reducible first | exact HB.1 | apply zA | apply zN | apply z1 | refine zS ?_ GE430.1) | exact HB.1)⟩
 ·rw [if_neg c3] at H
  have c3b0 : (a0_0 == 1) = false := beq_eq_false_iff_ne.mpr c3
  have c3b1 : (a0_0 != 1) = true := bne_iff_ne.mpr c3
  by_cases c7 : a0_0 = 2
  ·rw [if_pos c7] at H
   have c7b0 : (a0_0 == 2) = true := beq_iff_eq.mpr c7
   have c7b1 : (a0_0 != 2) = false := bne_eq_false_iff_eq.mpr c7
   clear c7
   obtain rfl := Option.some.inj H
   go_enter Tryz.func45, Tryz.ntmps45
   go_wp2_with (first | ((with_reducible refine gate_dst (N := 1) rfl ?_); refine box_event ?hg (N := 1) ?hd (cs := #[.int .i64 a0_0, .string a0_1, .int .i64 a0_2, .slice A0_3 l0_3.length c0_3, .int .i64 a0_4, .int .i64 a0_5]) (t := 38) ?hr ?_; (case hd => rfl); (case hg => rfl); (case hr => first | (go_simp; done) | (go_simp; rfl)); intro gb430 hg w8 hbox hb; have n0_ := zM (zT (by repeat (first | (with_reducible first | exact HB.1 | apply zA | apply zN | apply z1) | exact HB.1)) hb); have n1_ := zM (hbox); have n2_ := zM ((by rw [hg]; exact (zZ (by repeat (first | (with_reducible first | exact HB.1 | apply zA | apply zN | apply z1) | exact HB.1))) : w.heap.size ≤ gb430)); have n3_ := n2_; clear HB; have HB := n0_; have BK430 := n1_; have GW430 := n2_; have GE430 := n3_; clear n0_ n1_ n2_ n3_; clear hb hbox hg; have hcz9_0 : w8.cell? ⟨gb430, 0, none⟩ = some (.int .i64 a0_0) := (kC BK430.1 0).trans rfl; have hcz9_1 : w8.cell? ⟨gb430, 1, none⟩ = some (.string a0_1) := (kC BK430.1 1).trans rfl; have hcz9_2 : w8.cell? ⟨gb430, 2, none⟩ = some (.int .i64 a0_2) := (kC BK430.1 2).trans rfl; have hcz9_3 : w8.cell? ⟨gb430, 3, none⟩ = some (.slice A0_3 l0_3.length c0_3) := (kC BK430.1 3).trans rfl; have hcz9_4 : w8.cell? ⟨gb430, 4, none⟩ = some (.int .i64 a0_4) := (kC BK430.1 4).trans rfl; have hcz9_5 : w8.cell? ⟨gb430, 5, none⟩ = some (.int .i64 a0_5) := (kC BK430.1 5).trans rfl; have hfz9_0 := kF BK430.1 0; have hfz9_1 := kF BK430.1 1; have hfz9_2 := kF BK430.1 2; have hfz9_3 := kF BK430.1 3; have hfz9_4 := kF BK430.1 4; have hfz9_5 := kF BK430.1 5) | ((with_reducible refine gate_callee (f := 36) rfl ?_); refine goesL_ (some 7) rfl rfl Tryz.func36 (by kernel_rfl) rfl #[.int .i64 (wrap64 (a0_2 + 1))] rfl (by (try simp only [List.map_toArray, List.map_cons, List.map_nil]); first | done | rfl | (simp only [List.length_drop, List.length_take]; rfl)) ?_; (with_reducible refine (bitemporalref07_Number.calls k (wrap64 (a0_2 + 1)) t431 _ A2.out ?gw_).mono ?_); (case gw_ => first | exact HG.1 | (refine GW.below HG.1 ?_; repeat (first | (with_reducible first | exact HB.1 | apply zA | apply zN | apply z1 | refine zS ?_ GE430.1) | exact HB.1))); rintro e w' ⟨rfl, ⟨nd, rfl⟩⟩; refine ⟨_, rfl, ?_⟩))
   go_ret
   exact ⟨by first | rfl | (simp [errW_none, errW_some] <;> rfl) | (simp [*, errW_none, errW_some] <;> rfl), by repeat (first | (with_reducible first | exact HB.1 | apply zA | apply zN | apply z1 | refine zS ?_ GE430.1) | exact HB.1)⟩
  ·rw [if_neg c7] at H
   have c7b0 : (a0_0 == 2) = false := beq_eq_false_iff_ne.mpr c7
   have c7b1 : (a0_0 != 2) = true := bne_iff_ne.mpr c7
   by_cases c10 : a0_0 = 3
   ·rw [if_pos c10] at H
    have c10b0 : (a0_0 == 3) = true := beq_iff_eq.mpr c10
    have c10b1 : (a0_0 != 3) = false := bne_eq_false_iff_eq.mpr c10
    clear c10
    by_cases c11 : 12 + t431.size ≤ 9223372036854775807
    case neg =>
     rw [if_neg c11] at H
     exact absurd H (by simp)
    rw [if_pos c11] at H
    have c11b0 := eq_true c11
    have c11b1 : decide (12 + t431.size ≤ 9223372036854775807) = true := decide_eq_true c11
    try have c11b2 : (9223372036854775807 < 12 + t431.size) = False := eq_false (Nat.not_lt.2 c11)
    try (have c11b3 := c11b2; simp only [ByteArray.size_append, size_lit, List.size_toArray, List.length_cons, List.length_nil, Nat.zero_add] at c11b3)
    obtain rfl := Option.some.inj H
    go_enter Tryz.func45, Tryz.ntmps45
    go_wp2_with (first | ((with_reducible refine gate_dst (N := 1) rfl ?_); refine box_event ?hg (N := 1) ?hd (cs := #[.int .i64 a0_0, .string a0_1, .int .i64 a0_2, .slice A0_3 l0_3.length c0_3, .int .i64 a0_4, .int .i64 a0_5]) (t := 38) ?hr ?_; (case hd => rfl); (case hg => rfl); (case hr => first | (go_simp; done) | (go_simp; rfl)); intro gb430 hg w12 hbox hb; have n0_ := zM (zT (by repeat (first | (with_reducible first | exact HB.1 | apply zA | apply zN | apply z1) | exact HB.1)) hb); have n1_ := zM (hbox); have n2_ := zM ((by rw [hg]; exact (zZ (by repeat (first | (with_reducible first | exact HB.1 | apply zA | apply zN | apply z1) | exact HB.1))) : w.heap.size ≤ gb430)); have n3_ := n2_; clear HB; have HB := n0_; have BK430 := n1_; have GW430 := n2_; have GE430 := n3_; clear n0_ n1_ n2_ n3_; clear hb hbox hg; have hcz13_0 : w12.cell? ⟨gb430, 0, none⟩ = some (.int .i64 a0_0) := (kC BK430.1 0).trans rfl; have hcz13_1 : w12.cell? ⟨gb430, 1, none⟩ = some (.string a0_1) := (kC BK430.1 1).trans rfl; have hcz13_2 : w12.cell? ⟨gb430, 2, none⟩ = some (.int .i64 a0_2) := (kC BK430.1 2).trans rfl; have hcz13_3 : w12.cell? ⟨gb430, 3, none⟩ = some (.slice A0_3 l0_3.length c0_3) := (kC BK430.1 3).trans rfl; have hcz13_4 : w12.cell? ⟨gb430, 4, none⟩ = some (.int .i64 a0_4) := (kC BK430.1 4).trans rfl; have hcz13_5 : w12.cell? ⟨gb430, 5, none⟩ = some (.int .i64 a0_5) := (kC BK430.1 5).trans rfl; have hfz13_0 := kF BK430.1 0; have hfz13_1 := kF BK430.1 1; have hfz13_2 := kF BK430.1 2; have hfz13_3 := kF BK430.1 3; have hfz13_4 := kF BK430.1 4; have hfz13_5 := kF BK430.1 5) | ((with_reducible refine gate_callee (f := 36) rfl ?_); refine goesL_ (some 7) rfl rfl Tryz.func36 (by kernel_rfl) rfl #[.int .i64 (wrap64 (a0_2 + 1))] rfl (by (try simp only [List.map_toArray, List.map_cons, List.map_nil]); first | done | rfl | (simp only [List.length_drop, List.length_take]; rfl)) ?_; (with_reducible refine (bitemporalref07_Number.calls k (wrap64 (a0_2 + 1)) t431 _ A2.out ?gw_).mono ?_); (case gw_ => first | exact HG.1 | (refine GW.below HG.1 ?_; repeat (first | (with_reducible first | exact HB.1 | apply zA | apply zN | apply z1 | refine zS ?_ GE430.1) | exact HB.1))); rintro e w' ⟨rfl, ⟨nd, rfl⟩⟩; refine ⟨_, rfl, ?_⟩))
    go_ret
    exact ⟨by first | rfl | (simp [errW_none, errW_some] <;> rfl) | (simp [*, errW_none, errW_some] <;> rfl), by repeat (first | (with_reducible first | exact HB.1 | apply zA | apply zN | apply z1 | refine zS ?_ GE430.1) | exact HB.1)⟩
   ·rw [if_neg c10] at H
    have c10b0 : (a0_0 == 3) = false := beq_eq_false_iff_ne.mpr c10
    have c10b1 : (a0_0 != 3) = true := bne_iff_ne.mpr c10
    by_cases c14 : a0_0 = 4
    ·rw [if_pos c14] at H
     have c14b0 : (a0_0 == 4) = true := beq_iff_eq.mpr c14
     have c14b1 : (a0_0 != 4) = false := bne_eq_false_iff_eq.mpr c14
     clear c14
     by_cases c15 : 6 + t431.size ≤ 9223372036854775807
     case neg =>
      rw [if_neg c15] at H
      exact absurd H (by simp)
     rw [if_pos c15] at H
     have c15b0 := eq_true c15
     have c15b1 : decide (6 + t431.size ≤ 9223372036854775807) = true := decide_eq_true c15
     try have c15b2 : (9223372036854775807 < 6 + t431.size) = False := eq_false (Nat.not_lt.2 c15)
     try (have c15b3 := c15b2; simp only [ByteArray.size_append, size_lit, List.size_toArray, List.length_cons, List.length_nil, Nat.zero_add] at c15b3)
     obtain rfl := Option.some.inj H
     go_enter Tryz.func45, Tryz.ntmps45
     go_wp2_with (first | ((with_reducible refine gate_dst (N := 1) rfl ?_); refine box_event ?hg (N := 1) ?hd (cs := #[.int .i64 a0_0, .string a0_1, .int .i64 a0_2, .slice A0_3 l0_3.length c0_3, .int .i64 a0_4, .int .i64 a0_5]) (t := 38) ?hr ?_; (case hd => rfl); (case hg => rfl); (case hr => first | (go_simp; done) | (go_simp; rfl)); intro gb430 hg w16 hbox hb; have n0_ := zM (zT (by repeat (first | (with_reducible first | exact HB.1 | apply zA | apply zN | apply z1) | exact HB.1)) hb); have n1_ := zM (hbox); have n2_ := zM ((by rw [hg]; exact (zZ (by repeat (first | (with_reducible first | exact HB.1 | apply zA | apply zN | apply z1) | exact HB.1))) : w.heap.size ≤ gb430)); have n3_ := n2_; clear HB; have HB := n0_; have BK430 := n1_; have GW430 := n2_; have GE430 := n3_; clear n0_ n1_ n2_ n3_; clear hb hbox hg; have hcz17_0 : w16.cell? ⟨gb430, 0, none⟩ = some (.int .i64 a0_0) := (kC BK430.1 0).trans rfl; have hcz17_1 : w16.cell? ⟨gb430, 1, none⟩ = some (.string a0_1) := (kC BK430.1 1).trans rfl; have hcz17_2 : w16.cell? ⟨gb430, 2, none⟩ = some (.int .i64 a0_2) := (kC BK430.1 2).trans rfl; have hcz17_3 : w16.cell? ⟨gb430, 3, none⟩ = some (.slice A0_3 l0_3.length c0_3) := (kC BK430.1 3).trans rfl; have hcz17_4 : w16.cell? ⟨gb430, 4, none⟩ = some (.int .i64 a0_4) := (kC BK430.1 4).trans rfl; have hcz17_5 : w16.cell? ⟨gb430, 5, none⟩ = some (.int .i64 a0_5) := (kC BK430.1 5).trans rfl; have hfz17_0 := kF BK430.1 0; have hfz17_1 := kF BK430.1 1; have hfz17_2 := kF BK430.1 2; have hfz17_3 := kF BK430.1 3; have hfz17_4 := kF BK430.1 4; have hfz17_5 := kF BK430.1 5) | ((with_reducible refine gate_callee (f := 36) rfl ?_); refine goesL_ (some 7) rfl rfl Tryz.func36 (by kernel_rfl) rfl #[.int .i64 (wrap64 (a0_2 + 1))] rfl (by (try simp only [List.map_toArray, List.map_cons, List.map_nil]); first | done | rfl | (simp only [List.length_drop, List.length_take]; rfl)) ?_; (with_reducible refine (bitemporalref07_Number.calls k (wrap64 (a0_2 + 1)) t431 _ A2.out ?gw_).mono ?_); (case gw_ => first | exact HG.1 | (refine GW.below HG.1 ?_; repeat (first | (with_reducible first | exact HB.1 | apply zA | apply zN | apply z1 | refine zS ?_ GE430.1) | exact HB.1))); rintro e w' ⟨rfl, ⟨nd, rfl⟩⟩; refine ⟨_, rfl, ?_⟩))
     go_ret
     exact ⟨by first | rfl | (simp [errW_none, errW_some] <;> rfl) | (simp [*, errW_none, errW_some] <;> rfl), by repeat (first | (with_reducible first | exact HB.1 | apply zA | apply zN | apply z1 | refine zS ?_ GE430.1) | exact HB.1)⟩
    ·rw [if_neg c14] at H
     have c14b0 : (a0_0 == 4) = false := beq_eq_false_iff_ne.mpr c14
     have c14b1 : (a0_0 != 4) = true := bne_iff_ne.mpr c14
     obtain rfl := Option.some.inj H
     go_enter Tryz.func45, Tryz.ntmps45
     go_wp2_with (first | ((with_reducible refine gate_dst (N := 1) rfl ?_); refine box_event ?hg (N := 1) ?hd (cs := #[.int .i64 a0_0, .string a0_1, .int .i64 a0_2, .slice A0_3 l0_3.length c0_3, .int .i64 a0_4, .int .i64 a0_5]) (t := 38) ?hr ?_; (case hd => rfl); (case hg => rfl); (case hr => first | (go_simp; done) | (go_simp; rfl)); intro gb430 hg w18 hbox hb; have n0_ := zM (zT (by repeat (first | (with_reducible first | exact HB.1 | apply zA | apply zN | apply z1) | exact HB.1)) hb); have n1_ := zM (hbox); have n2_ := zM ((by rw [hg]; exact (zZ (by repeat (first | (with_reducible first | exact HB.1 | apply zA | apply zN | apply z1) | exact HB.1))) : w.heap.size ≤ gb430)); have n3_ := n2_; clear HB; have HB := n0_; have BK430 := n1_; have GW430 := n2_; have GE430 := n3_; clear n0_ n1_ n2_ n3_; clear hb hbox hg; have hcz19_0 : w18.cell? ⟨gb430, 0, none⟩ = some (.int .i64 a0_0) := (kC BK430.1 0).trans rfl; have hcz19_1 : w18.cell? ⟨gb430, 1, none⟩ = some (.string a0_1) := (kC BK430.1 1).trans rfl; have hcz19_2 : w18.cell? ⟨gb430, 2, none⟩ = some (.int .i64 a0_2) := (kC BK430.1 2).trans rfl; have hcz19_3 : w18.cell? ⟨gb430, 3, none⟩ = some (.slice A0_3 l0_3.length c0_3) := (kC BK430.1 3).trans rfl; have hcz19_4 : w18.cell? ⟨gb430, 4, none⟩ = some (.int .i64 a0_4) := (kC BK430.1 4).trans rfl; have hcz19_5 : w18.cell? ⟨gb430, 5, none⟩ = some (.int .i64 a0_5) := (kC BK430.1 5).trans rfl; have hfz19_0 := kF BK430.1 0; have hfz19_1 := kF BK430.1 1; have hfz19_2 := kF BK430.1 2; have hfz19_3 := kF BK430.1 3; have hfz19_4 := kF BK430.1 4; have hfz19_5 := kF BK430.1 5) | ((with_reducible refine gate_callee (f := 36) rfl ?_); refine goesL_ (some 7) rfl rfl Tryz.func36 (by kernel_rfl) rfl #[.int .i64 (wrap64 (a0_2 + 1))] rfl (by (try simp only [List.map_toArray, List.map_cons, List.map_nil]); first | done | rfl | (simp only [List.length_drop, List.length_take]; rfl)) ?_; (with_reducible refine (bitemporalref07_Number.calls k (wrap64 (a0_2 + 1)) t431 _ A2.out ?gw_).mono ?_); (case gw_ => first | exact HG.1 | (refine GW.below HG.1 ?_; repeat (first | (with_reducible first | exact HB.1 | apply zA | apply zN | apply z1 | refine zS ?_ GE430.1) | exact HB.1))); rintro e w' ⟨rfl, ⟨nd, rfl⟩⟩; refine ⟨_, rfl, ?_⟩))
     go_ret
     exact ⟨by first | rfl | (simp [errW_none, errW_some] <;> rfl) | (simp [*, errW_none, errW_some] <;> rfl), by repeat (first | (with_reducible first | exact HB.1 | apply zA | apply zN | apply z1 | refine zS ?_ GE430.1) | exact HB.1)⟩

/-! ### bitemporalref08_Text: function 46 -/
def bitemporalref08_Text.l0 : Nat → List (S54) → ByteArray → Int → Option (ByteArray)
  | 0, _, _, _ => none
  | k + 1, x0, x3, x4 => if x4 < (x0.length : Int) then (if x4 > 0 then (if x3.size + 2 ≤ 9223372036854775807 then (if 0 ≤ x4 then ((bitemporalref07_Literal.f k ((rd_T54 x0 x4).f0) ((rd_T54 x0 x4).f1) ((rd_T54 x0 x4).f2)).bind fun t433 => (if (x3 ++ (⟨#[44, 32]⟩ : ByteArray)).size + t433.size ≤ 9223372036854775807 then (bitemporalref08_Text.l0 k x0 ((x3 ++ (⟨#[44, 32]⟩ : ByteArray)) ++ t433) (wrap64 (x4 + 1))) else (none))) else (none)) else (none)) else (if 0 ≤ x4 then ((bitemporalref07_Literal.f k ((rd_T54 x0 x4).f0) ((rd_T54 x0 x4).f1) ((rd_T54 x0 x4).f2)).bind fun t435 => (if x3.size + t435.size ≤ 9223372036854775807 then (bitemporalref08_Text.l0 k x0 (x3 ++ t435) (wrap64 (x4 + 1))) else (none))) else (none))) else (if x3.size + 1 ≤ 9223372036854775807 then (some (x3 ++ (⟨#[41]⟩ : ByteArray))) else (none))
def bitemporalref08_Text.f (k : Nat) (l0 : List (S54)) : Option (ByteArray) := bitemporalref08_Text.l0 k l0 (⟨#[40]⟩ : ByteArray) 0
theorem bitemporalref08_Text.mono_l : ∀ k, (∀ y0 y1 y2, LeO (bitemporalref08_Text.l0 k y0 y1 y2) (bitemporalref08_Text.l0 (k + 1) y0 y1 y2))
  | 0 => fun _ _ _ r h => by simp [bitemporalref08_Text.l0] at h
  | k + 1 => by
    have ih0 := bitemporalref08_Text.mono_l k
    · intro y0 y1 y2
      unfold bitemporalref08_Text.l0
      repeat' first
      | (with_reducible exact ih0 _ _ _)
      | (with_reducible exact bitemporalref07_Literal.mono _ _ _ _)
      | (with_reducible exact LeO.refl _)
      | (with_reducible exact LeO.none _)
      | (with_reducible refine LeO.ite ?_ ?_)
      | (with_reducible refine LeO.bind ?_ (fun _ => ?_))
      | exact ih0 _ _ _
      | exact bitemporalref07_Literal.mono _ _ _ _
      | exact LeO.none _
      | refine LeO.ite ?_ ?_
      | refine LeO.bind ?_ (fun _ => ?_)
theorem bitemporalref08_Text.mono : ∀ a0 k, LeO (bitemporalref08_Text.f k a0) (bitemporalref08_Text.f (k + 1) a0) := by
  intro a0 k
  have ih0 := bitemporalref08_Text.mono_l k
  unfold bitemporalref08_Text.f
  repeat' first
      | (with_reducible exact ih0 _ _ _)
      | (with_reducible exact bitemporalref07_Literal.mono _ _ _ _)
      | (with_reducible exact LeO.refl _)
      | (with_reducible exact LeO.none _)
      | (with_reducible refine LeO.ite ?_ ?_)
      | (with_reducible refine LeO.bind ?_ (fun _ => ?_))
      | exact ih0 _ _ _
      | exact bitemporalref07_Literal.mono _ _ _ _
      | exact LeO.none _
      | refine LeO.ite ?_ ?_
      | refine LeO.bind ?_ (fun _ => ?_)
set_option maxHeartbeats 8000000 in
set_option maxRecDepth 100000 in
theorem bitemporalref08_Text.calls (k : Nat) (A0 : Option Addr) (c0 : Nat) (l0 : List (S54)) (r : ByteArray) (w : World) (hr0 : Kd.C k54 w A0 l0.length l0) (hc0 : l0.length ≤ c0) (h : bitemporalref08_Text.f k l0 = some r) (hG : GW w) :
  Calls Tryz.prog 46 #[.slice A0 l0.length c0] w fun e w' => e = .returned (.string r) ∧ Below w.heap.size w w' := by
 have HG := zM hG
 clear hG
 have hu54 := Tryz.underlying54
 have HR0 := zM hr0
 have HC0 := zM hc0
 clear hr0 hc0
 have HB := zM (Below.refl w.heap.size w)
 have H : (bitemporalref08_Text.l0 k l0 (⟨#[40]⟩ : ByteArray) 0) = some r := h
 clear h
 have H' := zM H
 clear H
 go_enter Tryz.func46, Tryz.ntmps46
 go_wp2
 go_loopg [3, 4] k (fun kq v3 v4 w' => ∃ (x3_1 : ByteArray) (x4_1 : Int), v3 = .string x3_1 ∧ v4 = .int .i64 x4_1 ∧ Aside0 (bitemporalref08_Text.l0 kq l0 x3_1 x4_1 = some r) ∧ Aside0 (kq ≤ k) ∧ Aside0 (Below w.heap.size w w'))
 case atStart => exact ⟨((⟨#[40]⟩ : ByteArray)), (0), (by first | rfl | (simp; done) | (simp [*]; done)), (by first | rfl | (simp; done) | (simp [*]; done)), H', ⟨Nat.le_refl _⟩, ⟨by repeat (first | (with_reducible first | exact HB.1 | apply zA | apply zN | apply z1) | exact HB.1)⟩⟩
 case round =>
  clear H'
  obtain ⟨x3_1, x4_1, rfl, rfl, HA, HK1, HB⟩ := hrel
  cases gk with
  | zero => exact absurd HA.out (by simp [bitemporalref08_Text.l0])
  | succ k1 =>
   have H := HA.out
   clear HA
   simp only [bitemporalref08_Text.l0] at H
   by_cases c2 : x4_1 < (l0.length : Int)
   ·rw [if_pos c2] at H
    have c2b0 : decide (x4_1 < (l0.length : Int)) = true := decide_eq_true c2
    clear c2
    by_cases c3 : x4_1 > 0
    ·rw [if_pos c3] at H
     have c3b0 : decide (0 < x4_1) = true := decide_eq_true c3
     clear c3
     by_cases c4 : x3_1.size + 2 ≤ 9223372036854775807
     case neg =>
      rw [if_neg c4] at H
      exact absurd H (by simp)
     rw [if_pos c4] at H
     have c4b0 := eq_true c4
     have c4b1 : decide (x3_1.size + 2 ≤ 9223372036854775807) = true := decide_eq_true c4
     try have c4b2 : (9223372036854775807 < x3_1.size + 2) = False := eq_false (Nat.not_lt.2 c4)
     try (have c4b3 := c4b2; simp only [ByteArray.size_append, size_lit, List.size_toArray, List.length_cons, List.length_nil, Nat.zero_add] at c4b3)
     by_cases c5 : 0 ≤ x4_1
     case neg =>
      rw [if_neg c5] at H
      exact absurd H (by simp)
     rw [if_pos c5] at H
     have c5b0 : decide (0 ≤ x4_1) = true := decide_eq_true c5
     clear c5
     replace H := Option.bind_eq_some_iff.mp H
     obtain ⟨t433, A60, H⟩ := H
     replace H : (if (x3_1 ++ (⟨#[44, 32]⟩ : ByteArray)).size + t433.size ≤ 9223372036854775807 then (bitemporalref08_Text.l0 k1 l0 ((x3_1 ++ (⟨#[44, 32]⟩ : ByteArray)) ++ t433) (wrap64 (x4_1 + 1))) else (none)) = some r := H
     have A6 := zM A60
     clear A60
     by_cases c7 : (x3_1 ++ (⟨#[44, 32]⟩ : ByteArray)).size + t433.size ≤ 9223372036854775807
     case neg =>
      rw [if_neg c7] at H
      exact absurd H (by simp)
     rw [if_pos c7] at H
     have c7b0 := eq_true c7
     have c7b1 : decide ((x3_1 ++ (⟨#[44, 32]⟩ : ByteArray)).size + t433.size ≤ 9223372036854775807) = true := decide_eq_true c7
     try have c7b2 : (9223372036854775807 < (x3_1 ++ (⟨#[44, 32]⟩ : ByteArray)).size + t433.size) = False := eq_false (Nat.not_lt.2 c7)
     try (have c7b3 := c7b2; simp only [ByteArray.size_append, size_lit, List.size_toArray, List.length_cons, List.length_nil, Nat.zero_add] at c7b3)
     have H' := zM H
     clear H
     have p432 : 0 ≤ (x4_1 : Int) := of_decide_eq_true (by first | (with_reducible assumption) | assumption)
     have q432 : x4_1 < (l0.length : Int) := of_decide_eq_true (by first | (with_reducible assumption) | assumption)
     obtain ⟨ad432, e432, hx432_0, hx432_1, hx432_2⟩ := at_T54 HR0.out x4_1 p432 q432
     cases e432
     replace hx432_0 := (HB.1.cell (World.block_lt_of_cell? w _ hx432_0)).trans hx432_0
     replace hx432_1 := (HB.1.cell (World.block_lt_of_cell? w _ hx432_1)).trans hx432_1
     replace hx432_2 := (HB.1.cell (World.block_lt_of_cell? w _ hx432_2)).trans hx432_2
     replace p432 := eq_true p432
     replace q432 := eq_true q432
     go_wp2_with (first | ((with_reducible refine gate_callee (f := 57) rfl ?_); refine goesL_ (some 20) rfl rfl Tryz.func57 (by kernel_rfl) rfl #[.agg #[.int .i64 ((rd_T54 l0 x4_1).f0), .int .i64 ((rd_T54 l0 x4_1).f1), .string ((rd_T54 l0 x4_1).f2)]] rfl (by (try simp only [List.map_toArray, List.map_cons, List.map_nil]); first | done | rfl | (simp only [List.length_drop, List.length_take]; rfl)) ?_; (with_reducible refine (bitemporalref07_Literal.calls k1 ((rd_T54 l0 x4_1).f0) ((rd_T54 l0 x4_1).f1) ((rd_T54 l0 x4_1).f2) t433 _ A6.out ?gw_).mono ?_); (case gw_ => first | exact HG.1 | (refine GW.below HG.1 ?_; repeat (first | (with_reducible first | exact HB.1 | apply zA | apply zN | apply z1) | exact HB.1))); rintro e w8 ⟨rfl, hb⟩; refine ⟨_, rfl, ?_⟩; have n0_ := zM (zT (by repeat (first | (with_reducible first | exact HB.1 | apply zA | apply zN | apply z1) | exact HB.1)) hb); clear HB; have HB := n0_; clear n0_; (try clear hb); (try clear hb2); (try clear hk); (try clear hi)))
     go_roundg k1
     case measure => have := HK1.out; omega
     case rel => exact ⟨((x3_1 ++ (⟨#[44, 32]⟩ : ByteArray)) ++ t433), (wrap64 (x4_1 + 1)), (by first | rfl | (simp; done) | (simp [*]; done)), (by first | rfl | (simp; done) | (simp [*]; done)), H', ⟨by have := HK1.out; omega⟩, ⟨by repeat (first | (with_reducible first | exact HB.1 | apply zA | apply zN | apply z1) | exact HB.1)⟩⟩
    ·rw [if_neg c3] at H
     have c3b0 : decide (0 < x4_1) = false := decide_eq_false c3
     clear c3
     by_cases c9 : 0 ≤ x4_1
     case neg =>
      rw [if_neg c9] at H
      exact absurd H (by simp)
     rw [if_pos c9] at H
     have c9b0 : decide (0 ≤ x4_1) = true := decide_eq_true c9
     clear c9
     replace H := Option.bind_eq_some_iff.mp H
     obtain ⟨t435, A100, H⟩ := H
     replace H : (if x3_1.size + t435.size ≤ 9223372036854775807 then (bitemporalref08_Text.l0 k1 l0 (x3_1 ++ t435) (wrap64 (x4_1 + 1))) else (none)) = some r := H
     have A10 := zM A100
     clear A100
     by_cases c11 : x3_1.size + t435.size ≤ 9223372036854775807
     case neg =>
      rw [if_neg c11] at H
      exact absurd H (by simp)
     rw [if_pos c11] at H
     have c11b0 := eq_true c11
     have c11b1 : decide (x3_1.size + t435.size ≤ 9223372036854775807) = true := decide_eq_true c11
     try have c11b2 : (9223372036854775807 < x3_1.size + t435.size) = False := eq_false (Nat.not_lt.2 c11)
     try (have c11b3 := c11b2; simp only [ByteArray.size_append, size_lit, List.size_toArray, List.length_cons, List.length_nil, Nat.zero_add] at c11b3)
     have H' := zM H
     clear H
     have p434 : 0 ≤ (x4_1 : Int) := of_decide_eq_true (by first | (with_reducible assumption) | assumption)
     have q434 : x4_1 < (l0.length : Int) := of_decide_eq_true (by first | (with_reducible assumption) | assumption)
     obtain ⟨ad434, e434, hx434_0, hx434_1, hx434_2⟩ := at_T54 HR0.out x4_1 p434 q434
     cases e434
     replace hx434_0 := (HB.1.cell (World.block_lt_of_cell? w _ hx434_0)).trans hx434_0
     replace hx434_1 := (HB.1.cell (World.block_lt_of_cell? w _ hx434_1)).trans hx434_1
     replace hx434_2 := (HB.1.cell (World.block_lt_of_cell? w _ hx434_2)).trans hx434_2
     replace p434 := eq_true p434
     replace q434 := eq_true q434
     go_wp2_with (first | ((with_reducible refine gate_callee (f := 57) rfl ?_); refine goesL_ (some 20) rfl rfl Tryz.func57 (by kernel_rfl) rfl #[.agg #[.int .i64 ((rd_T54 l0 x4_1).f0), .int .i64 ((rd_T54 l0 x4_1).f1), .string ((rd_T54 l0 x4_1).f2)]] rfl (by (try simp only [List.map_toArray, List.map_cons, List.map_nil]); first | done | rfl | (simp only [List.length_drop, List.length_take]; rfl)) ?_; (with_reducible refine (bitemporalref07_Literal.calls k1 ((rd_T54 l0 x4_1).f0) ((rd_T54 l0 x4_1).f1) ((rd_T54 l0 x4_1).f2) t435 _ A10.out ?gw_).mono ?_); (case gw_ => first | exact HG.1 | (refine GW.below HG.1 ?_; repeat (first | (with_reducible first | exact HB.1 | apply zA | apply zN | apply z1) | exact HB.1))); rintro e w12 ⟨rfl, hb⟩; refine ⟨_, rfl, ?_⟩; have n0_ := zM (zT (by repeat (first | (with_reducible first | exact HB.1 | apply zA | apply zN | apply z1) | exact HB.1)) hb); clear HB; have HB := n0_; clear n0_; (try clear hb); (try clear hb2); (try clear hk); (try clear hi)))
     go_roundg k1
     case measure => have := HK1.out; omega
     case rel => exact ⟨(x3_1 ++ t435), (wrap64 (x4_1 + 1)), (by first | rfl | (simp; done) | (simp [*]; done)), (by first | rfl | (simp; done) | (simp [*]; done)), H', ⟨by have := HK1.out; omega⟩, ⟨by repeat (first | (with_reducible first | exact HB.1 | apply zA | apply zN | apply z1) | exact HB.1)⟩⟩
   ·rw [if_neg c2] at H
    have c2b0 : decide (x4_1 < (l0.length : Int)) = false := decide_eq_false c2
    clear c2
    by_cases c13 : x3_1.size + 1 ≤ 9223372036854775807
    case neg =>
     rw [if_neg c13] at H
     exact absurd H (by simp)
    rw [if_pos c13] at H
    have c13b0 := eq_true c13
    have c13b1 : decide (x3_1.size + 1 ≤ 9223372036854775807) = true := decide_eq_true c13
    try have c13b2 : (9223372036854775807 < x3_1.size + 1) = False := eq_false (Nat.not_lt.2 c13)
    try (have c13b3 := c13b2; simp only [ByteArray.size_append, size_lit, List.size_toArray, List.length_cons, List.length_nil, Nat.zero_add] at c13b3)
    obtain rfl := Option.some.inj H
    go_wp2
    go_ret
    exact ⟨by first | rfl | (simp [errW_none, errW_some] <;> rfl) | (simp [*, errW_none, errW_some] <;> rfl), by repeat (first | (with_reducible first | exact HB.1 | apply zA | apply zN | apply z1) | exact HB.1)⟩

/-! ### bitemporalref55_Violation: function 16 -/
def bitemporalref55_Violation.f (k : Nat) (a0_0 : Int) (a0_1 : ByteArray) (a0_2 : Int) (l0_3 : List (S54)) (a0_4 : Int) (a0_5 : Int) : Option (ByteArray) := if a0_1.size + 2 ≤ 9223372036854775807 then ((bitemporalref55_violated.f k a0_0 a0_1 a0_2 l0_3 a0_4 a0_5).bind fun t437 => (if (a0_1 ++ (⟨#[58, 32]⟩ : ByteArray)).size + t437.size ≤ 9223372036854775807 then (if ((a0_1 ++ (⟨#[58, 32]⟩ : ByteArray)) ++ t437).size + 13 ≤ 9223372036854775807 then ((bitemporalref08_Text.f k l0_3).bind fun t438 => (if (((a0_1 ++ (⟨#[58, 32]⟩ : ByteArray)) ++ t437) ++ (⟨#[32, 118, 105, 111, 108, 97, 116, 101, 100, 32, 98, 121, 32]⟩ : ByteArray)).size + t438.size ≤ 9223372036854775807 then (if ((((a0_1 ++ (⟨#[58, 32]⟩ : ByteArray)) ++ t437) ++ (⟨#[32, 118, 105, 111, 108, 97, 116, 101, 100, 32, 98, 121, 32]⟩ : ByteArray)) ++ t438).size + 8 ≤ 9223372036854775807 then ((bitemporalref01_Text.f k a0_4 a0_5).bind fun t439 => (if (((((a0_1 ++ (⟨#[58, 32]⟩ : ByteArray)) ++ t437) ++ (⟨#[32, 118, 105, 111, 108, 97, 116, 101, 100, 32, 98, 121, 32]⟩ : ByteArray)) ++ t438) ++ (⟨#[32, 100, 117, 114, 105, 110, 103, 32]⟩ : ByteArray)).size + t439.size ≤ 9223372036854775807 then (if ((((((a0_1 ++ (⟨#[58, 32]⟩ : ByteArray)) ++ t437) ++ (⟨#[32, 118, 105, 111, 108, 97, 116, 101, 100, 32, 98, 121, 32]⟩ : ByteArray)) ++ t438) ++ (⟨#[32, 100, 117, 114, 105, 110, 103, 32]⟩ : ByteArray)) ++ t439).size + 1 ≤ 9223372036854775807 then (some (((((((a0_1 ++ (⟨#[58, 32]⟩ : ByteArray)) ++ t437) ++ (⟨#[32, 118, 105, 111, 108, 97, 116, 101, 100, 32, 98, 121, 32]⟩ : ByteArray)) ++ t438) ++ (⟨#[32, 100, 117, 114, 105, 110, 103, 32]⟩ : ByteArray)) ++ t439) ++ (⟨#[10]⟩ : ByteArray))) else (none)) else (none))) else (none)) else (none))) else (none)) else (none))) else (none)
theorem bitemporalref55_Violation.mono : ∀ a0 a1 a2 a3 a4 a5 k, LeO (bitemporalref55_Violation.f k a0 a1 a2 a3 a4 a5) (bitemporalref55_Violation.f (k + 1) a0 a1 a2 a3 a4 a5) := by
  intro a0 a1 a2 a3 a4 a5 k
  unfold bitemporalref55_Violation.f
  repeat' first
      | (with_reducible exact bitemporalref01_Text.mono _ _ _)
      | (with_reducible exact bitemporalref08_Text.mono _ _)
      | (with_reducible exact bitemporalref55_violated.mono _ _ _ _ _ _ _)
      | (with_reducible exact LeO.refl _)
      | (with_reducible exact LeO.none _)
      | (with_reducible refine LeO.ite ?_ ?_)
      | (with_reducible refine LeO.bind ?_ (fun _ => ?_))
      | exact bitemporalref01_Text.mono _ _ _
      | exact bitemporalref08_Text.mono _ _
      | exact bitemporalref55_violated.mono _ _ _ _ _ _ _
      | exact LeO.none _
      | refine LeO.ite ?_ ?_
      | refine LeO.bind ?_ (fun _ => ?_)
def bitemporalref55_Violation.T1 : Bool × List (List Nat × List Nat) := (true, [([], []), ([0], [0]), ([1], [1]), ([], []), ([3], [3]), ([2, 4], [2, 4]), ([5], [5]), ([], []), ([7], [7]), ([8, 4], [8]), ([6, 9], [6, 9]), ([10], [10]), ([], []), ([12], [12]), ([13, 9], [13]), ([11, 14], [11, 14]), ([15], [15]), ([16, 14, 0, 1, 2, 3, 4, 5, 6, 7, 8, 9, 10, 11, 12, 13, 14, 15, 16], [16])])
def bitemporalref55_Violation.B1 : List Nat := [0, 1, 3, 0, 8, 31, 63, 0, 128, 408, 1023, 2047, 0, 4096, 13208, 32767, 65535, 131071]
theorem bitemporalref55_Violation.tab1 : rtab .any (opsOf Tryz.f16 1) = bitemporalref55_Violation.T1 := by kernel_rfl
theorem bitemporalref55_Violation.bits1 : waitsOk bitemporalref55_Violation.T1.2 bitemporalref55_Violation.B1 = true := by kernel_rfl
set_option maxHeartbeats 8000000 in
set_option maxRecDepth 100000 in
theorem bitemporalref55_Violation.calls (k : Nat) (a0_0 : Int) (a0_1 : ByteArray) (a0_2 : Int) (A0_3 : Option Addr) (c0_3 : Nat) (l0_3 : List (S54)) (a0_4 : Int) (a0_5 : Int) (r : ByteArray) (w : World) (hr0_3 : Kd.C k54 w A0_3 l0_3.length l0_3) (hc0_3 : l0_3.length ≤ c0_3) (h : bitemporalref55_Violation.f k a0_0 a0_1 a0_2 l0_3 a0_4 a0_5 = some r) (hG : GW w) :
  Calls Tryz.prog 16 #[.agg #[.int .i64 a0_0, .string a0_1, .int .i64 a0_2, .slice A0_3 l0_3.length c0_3, .int .i64 a0_4, .int .i64 a0_5]] w fun e w' => e = .returned (.string r) ∧ Below w.heap.size w w' := by
 have HG := zM hG
 clear hG
 have hu38 := Tryz.underlying38
 have hu33 := Tryz.underlying33
 have HR0_3 := zM hr0_3
 have HC0_3 := zM hc0_3
 clear hr0_3 hc0_3
 have HB := zM (Below.refl w.heap.size w)
 have H : (if a0_1.size + 2 ≤ 9223372036854775807 then ((bitemporalref55_violated.f k a0_0 a0_1 a0_2 l0_3 a0_4 a0_5).bind fun t437 => (if (a0_1 ++ (⟨#[58, 32]⟩ : ByteArray)).size + t437.size ≤ 9223372036854775807 then (if ((a0_1 ++ (⟨#[58, 32]⟩ : ByteArray)) ++ t437).size + 13 ≤ 9223372036854775807 then ((bitemporalref08_Text.f k l0_3).bind fun t438 => (if (((a0_1 ++ (⟨#[58, 32]⟩ : ByteArray)) ++ t437) ++ (⟨#[32, 118, 105, 111, 108, 97, 116, 101, 100, 32, 98, 121, 32]⟩ : ByteArray)).size + t438.size ≤ 9223372036854775807 then (if ((((a0_1 ++ (⟨#[58, 32]⟩ : ByteArray)) ++ t437) ++ (⟨#[32, 118, 105, 111, 108, 97, 116, 101, 100, 32, 98, 121, 32]⟩ : ByteArray)) ++ t438).size + 8 ≤ 9223372036854775807 then ((bitemporalref01_Text.f k a0_4 a0_5).bind fun t439 => (if (((((a0_1 ++ (⟨#[58, 32]⟩ : ByteArray)) ++ t437) ++ (⟨#[32, 118, 105, 111, 108, 97, 116, 101, 100, 32, 98, 121, 32]⟩ : ByteArray)) ++ t438) ++ (⟨#[32, 100, 117, 114, 105, 110, 103, 32]⟩ : ByteArray)).size + t439.size ≤ 9223372036854775807 then (if ((((((a0_1 ++ (⟨#[58, 32]⟩ : ByteArray)) ++ t437) ++ (⟨#[32, 118, 105, 111, 108, 97, 116, 101, 100, 32, 98, 121, 32]⟩ : ByteArray)) ++ t438) ++ (⟨#[32, 100, 117, 114, 105, 110, 103, 32]⟩ : ByteArray)) ++ t439).size + 1 ≤ 9223372036854775807 then (some (((((((a0_1 ++ (⟨#[58, 32]⟩ : ByteArray)) ++ t437) ++ (⟨#[32, 118, 105, 111, 108, 97, 116, 101, 100, 32, 98, 121, 32]⟩ : ByteArray)) ++ t438) ++ (⟨#[32, 100, 117, 114, 105, 110, 103, 32]⟩ : ByteArray)) ++ t439) ++ (⟨#[10]⟩ : ByteArray))) else (none)) else (none))) else (none)) else (none))) else (none)) else (none))) else (none)) = some r := h
 clear h
 by_cases c2 : a0_1.size + 2 ≤ 9223372036854775807
 case neg =>
  rw [if_neg c2] at H
  exact absurd H (by simp)
 rw [if_pos c2] at H
 have c2b0 := eq_true c2
 have c2b1 : decide (a0_1.size + 2 ≤ 9223372036854775807) = true := decide_eq_true c2
 try have c2b2 : (9223372036854775807 < a0_1.size + 2) = False := eq_false (Nat.not_lt.2 c2)
 try (have c2b3 := c2b2; simp only [ByteArray.size_append, size_lit, List.size_toArray, List.length_cons, List.length_nil, Nat.zero_add] at c2b3)
 replace H := Option.bind_eq_some_iff.mp H
 obtain ⟨t437, A30, H⟩ := H
 replace H : (if (a0_1 ++ (⟨#[58, 32]⟩ : ByteArray)).size + t437.size ≤ 9223372036854775807 then (if ((a0_1 ++ (⟨#[58, 32]⟩ : ByteArray)) ++ t437).size + 13 ≤ 9223372036854775807 then ((bitemporalref08_Text.f k l0_3).bind fun t438 => (if (((a0_1 ++ (⟨#[58, 32]⟩ : ByteArray)) ++ t437) ++ (⟨#[32, 118, 105, 111, 108, 97, 116, 101, 100, 32, 98, 121, 32]⟩ : ByteArray)).size + t438.size ≤ 9223372036854775807 then (if ((((a0_1 ++ (⟨#[58, 32]⟩ : ByteArray)) ++ t437) ++ (⟨#[32, 118, 105, 111, 108, 97, 116, 101, 100, 32, 98, 121, 32]⟩ : ByteArray)) ++ t438).size + 8 ≤ 9223372036854775807 then ((bitemporalref01_Text.f k a0_4 a0_5).bind fun t439 => (if (((((a0_1 ++ (⟨#[58, 32]⟩ : ByteArray)) ++ t437) ++ (⟨#[32, 118, 105, 111, 108, 97, 116, 101, 100, 32, 98, 121, 32]⟩ : ByteArray)) ++ t438) ++ (⟨#[32, 100, 117, 114, 105, 110, 103, 32]⟩ : ByteArray)).size + t439.size ≤ 9223372036854775807 then (if ((((((a0_1 ++ (⟨#[58, 32]⟩ : ByteArray)) ++ t437) ++ (⟨#[32, 118, 105, 111, 108, 97, 116, 101, 100, 32, 98, 121, 32]⟩ : ByteArray)) ++ t438) ++ (⟨#[32, 100, 117, 114, 105, 110, 103, 32]⟩ : ByteArray)) ++ t439).size + 1 ≤ 9223372036854775807 then (some (((((((a0_1 ++ (⟨#[58, 32]⟩ : ByteArray)) ++ t437) ++ (⟨#[32, 118, 105, 111, 108, 97, 116, 101, 100, 32, 98, 121, 32]⟩ : ByteArray)) ++ t438) ++ (⟨#[32, 100, 117, 114, 105, 110, 103, 32]⟩ : ByteArray)) ++ t439) ++ (⟨#[10]⟩ : ByteArray))) else (none)) else (none))) else (none)) else (none))) else (none)) else (none)) = some r := H
 have A3 := zM A30
 clear A30
 by_cases c4 : (a0_1 ++ (⟨#[58, 32]⟩ : ByteArray)).size + t437.size ≤ 9223372036854775807
 case neg =>
  rw [if_neg c4] at H
  exact absurd H (by simp)
 rw [if_pos c4] at H
 have c4b0 := eq_true c4
 have c4b1 : decide ((a0_1 ++ (⟨#[58, 32]⟩ : ByteArray)).size + t437.size ≤ 9223372036854775807) = true := decide_eq_true c4
 try have c4b2 : (9223372036854775807 < (a0_1 ++ (⟨#[58, 32]⟩ : ByteArray)).size + t437.size) = False := eq_false (Nat.not_lt.2 c4)
 try (have c4b3 := c4b2; simp only [ByteArray.size_append, size_lit, List.size_toArray, List.length_cons, List.length_nil, Nat.zero_add] at c4b3)
 by_cases c5 : ((a0_1 ++ (⟨#[58, 32]⟩ : ByteArray)) ++ t437).size + 13 ≤ 9223372036854775807
 case neg =>
  rw [if_neg c5] at H
  exact absurd H (by simp)
 rw [if_pos c5] at H
 have c5b0 := eq_true c5
 have c5b1 : decide (((a0_1 ++ (⟨#[58, 32]⟩ : ByteArray)) ++ t437).size + 13 ≤ 9223372036854775807) = true := decide_eq_true c5
 try have c5b2 : (9223372036854775807 < ((a0_1 ++ (⟨#[58, 32]⟩ : ByteArray)) ++ t437).size + 13) = False := eq_false (Nat.not_lt.2 c5)
 try (have c5b3 := c5b2; simp only [ByteArray.size_append, size_lit, List.size_toArray, List.length_cons, List.length_nil, Nat.zero_add] at c5b3)
 replace H := Option.bind_eq_some_iff.mp H
 obtain ⟨t438, A60, H⟩ := H
 replace H : (if (((a0_1 ++ (⟨#[58, 32]⟩ : ByteArray)) ++ t437) ++ (⟨#[32, 118, 105, 111, 108, 97, 116, 101, 100, 32, 98, 121, 32]⟩ : ByteArray)).size + t438.size ≤ 9223372036854775807 then (if ((((a0_1 ++ (⟨#[58, 32]⟩ : ByteArray)) ++ t437) ++ (⟨#[32, 118, 105, 111, 108, 97, 116, 101, 100, 32, 98, 121, 32]⟩ : ByteArray)) ++ t438).size + 8 ≤ 9223372036854775807 then ((bitemporalref01_Text.f k a0_4 a0_5).bind fun t439 => (if (((((a0_1 ++ (⟨#[58, 32]⟩ : ByteArray)) ++ t437) ++ (⟨#[32, 118, 105, 111, 108, 97, 116, 101, 100, 32, 98, 121, 32]⟩ : ByteArray)) ++ t438) ++ (⟨#[32, 100, 117, 114, 105, 110, 103, 32]⟩ : ByteArray)).size + t439.size ≤ 9223372036854775807 then (if ((((((a0_1 ++ (⟨#[58, 32]⟩ : ByteArray)) ++ t437) ++ (⟨#[32, 118, 105, 111, 108, 97, 116, 101, 100, 32, 98, 121, 32]⟩ : ByteArray)) ++ t438) ++ (⟨#[32, 100, 117, 114, 105, 110, 103, 32]⟩ : ByteArray)) ++ t439).size + 1 ≤ 9223372036854775807 then (some (((((((a0_1 ++ (⟨#[58, 32]⟩ : ByteArray)) ++ t437) ++ (⟨#[32, 118, 105, 111, 108, 97, 116, 101, 100, 32, 98, 121, 32]⟩ : ByteArray)) ++ t438) ++ (⟨#[32, 100, 117, 114, 105, 110, 103, 32]⟩ : ByteArray)) ++ t439) ++ (⟨#[10]⟩ : ByteArray))) else (none)) else (none))) else (none)) else (none)) = some r := H
 have A6 := zM A60
 clear A60
 by_cases c7 : (((a0_1 ++ (⟨#[58, 32]⟩ : ByteArray)) ++ t437) ++ (⟨#[32, 118, 105, 111, 108, 97, 116, 101, 100, 32, 98, 121, 32]⟩ : ByteArray)).size + t438.size ≤ 9223372036854775807
 case neg =>
  rw [if_neg c7] at H
  exact absurd H (by simp)
 rw [if_pos c7] at H
 have c7b0 := eq_true c7
 have c7b1 : decide ((((a0_1 ++ (⟨#[58, 32]⟩ : ByteArray)) ++ t437) ++ (⟨#[32, 118, 105, 111, 108, 97, 116, 101, 100, 32, 98, 121, 32]⟩ : ByteArray)).size + t438.size ≤ 9223372036854775807) = true := decide_eq_true c7
 try have c7b2 : (9223372036854775807 < (((a0_1 ++ (⟨#[58, 32]⟩ : ByteArray)) ++ t437) ++ (⟨#[32, 118, 105, 111, 108, 97, 116, 101, 100, 32, 98, 121, 32]⟩ : ByteArray)).size + t438.size) = False := eq_false (Nat.not_lt.2 c7)
 try (have c7b3 := c7b2; simp only [ByteArray.size_append, size_lit, List.size_toArray, List.length_cons, List.length_nil, Nat.zero_add] at c7b3)
 by_cases c8 : ((((a0_1 ++ (⟨#[58, 32]⟩ : ByteArray)) ++ t437) ++ (⟨#[32, 118, 105, 111, 108, 97, 116, 101, 100, 32, 98, 121, 32]⟩ : ByteArray)) ++ t438).size + 8 ≤ 9223372036854775807
 case neg =>
  rw [if_neg c8] at H
  exact absurd H (by simp)
 rw [if_pos c8] at H
 have c8b0 := eq_true c8
 have c8b1 : decide (((((a0_1 ++ (⟨#[58, 32]⟩ : ByteArray)) ++ t437) ++ (⟨#[32, 118, 105, 111, 108, 97, 116, 101, 100, 32, 98, 121, 32]⟩ : ByteArray)) ++ t438).size + 8 ≤ 9223372036854775807) = true := decide_eq_true c8
 try have c8b2 : (9223372036854775807 < ((((a0_1 ++ (⟨#[58, 32]⟩ : ByteArray)) ++ t437) ++ (⟨#[32, 118, 105, 111, 108, 97, 116, 101, 100, 32, 98, 121, 32]⟩ : ByteArray)) ++ t438).size + 8) = False := eq_false (Nat.not_lt.2 c8)
 try (have c8b3 := c8b2; simp only [ByteArray.size_append, size_lit, List.size_toArray, List.length_cons, List.length_nil, Nat.zero_add] at c8b3)
 replace H := Option.bind_eq_some_iff.mp H
 obtain ⟨t439, A90, H⟩ := H
 replace H : (if (((((a0_1 ++ (⟨#[58, 32]⟩ : ByteArray)) ++ t437) ++ (⟨#[32, 118, 105, 111, 108, 97, 116, 101, 100, 32, 98, 121, 32]⟩ : ByteArray)) ++ t438) ++ (⟨#[32, 100, 117, 114, 105, 110, 103, 32]⟩ : ByteArray)).size + t439.size ≤ 9223372036854775807 then (if ((((((a0_1 ++ (⟨#[58, 32]⟩ : ByteArray)) ++ t437) ++ (⟨#[32, 118, 105, 111, 108, 97, 116, 101, 100, 32, 98, 121, 32]⟩ : ByteArray)) ++ t438) ++ (⟨#[32, 100, 117, 114, 105, 110, 103, 32]⟩ : ByteArray)) ++ t439).size + 1 ≤ 9223372036854775807 then (some (((((((a0_1 ++ (⟨#[58, 32]⟩ : ByteArray)) ++ t437) ++ (⟨#[32, 118, 105, 111, 108, 97, 116, 101, 100, 32, 98, 121, 32]⟩ : ByteArray)) ++ t438) ++ (⟨#[32, 100, 117, 114, 105, 110, 103, 32]⟩ : ByteArray)) ++ t439) ++ (⟨#[10]⟩ : ByteArray))) else (none)) else (none)) = some r := H
 have A9 := zM A90
 clear A90
 by_cases c10 : (((((a0_1 ++ (⟨#[58, 32]⟩ : ByteArray)) ++ t437) ++ (⟨#[32, 118, 105, 111, 108, 97, 116, 101, 100, 32, 98, 121, 32]⟩ : ByteArray)) ++ t438) ++ (⟨#[32, 100, 117, 114, 105, 110, 103, 32]⟩ : ByteArray)).size + t439.size ≤ 9223372036854775807
 case neg =>
  rw [if_neg c10] at H
  exact absurd H (by simp)
 rw [if_pos c10] at H
 have c10b0 := eq_true c10
 have c10b1 : decide ((((((a0_1 ++ (⟨#[58, 32]⟩ : ByteArray)) ++ t437) ++ (⟨#[32, 118, 105, 111, 108, 97, 116, 101, 100, 32, 98, 121, 32]⟩ : ByteArray)) ++ t438) ++ (⟨#[32, 100, 117, 114, 105, 110, 103, 32]⟩ : ByteArray)).size + t439.size ≤ 9223372036854775807) = true := decide_eq_true c10
 try have c10b2 : (9223372036854775807 < (((((a0_1 ++ (⟨#[58, 32]⟩ : ByteArray)) ++ t437) ++ (⟨#[32, 118, 105, 111, 108, 97, 116, 101, 100, 32, 98, 121, 32]⟩ : ByteArray)) ++ t438) ++ (⟨#[32, 100, 117, 114, 105, 110, 103, 32]⟩ : ByteArray)).size + t439.size) = False := eq_false (Nat.not_lt.2 c10)
 try (have c10b3 := c10b2; simp only [ByteArray.size_append, size_lit, List.size_toArray, List.length_cons, List.length_nil, Nat.zero_add] at c10b3)
 by_cases c11 : ((((((a0_1 ++ (⟨#[58, 32]⟩ : ByteArray)) ++ t437) ++ (⟨#[32, 118, 105, 111, 108, 97, 116, 101, 100, 32, 98, 121, 32]⟩ : ByteArray)) ++ t438) ++ (⟨#[32, 100, 117, 114, 105, 110, 103, 32]⟩ : ByteArray)) ++ t439).size + 1 ≤ 9223372036854775807
 case neg =>
  rw [if_neg c11] at H
  exact absurd H (by simp)
 rw [if_pos c11] at H
 have c11b0 := eq_true c11
 have c11b1 : decide (((((((a0_1 ++ (⟨#[58, 32]⟩ : ByteArray)) ++ t437) ++ (⟨#[32, 118, 105, 111, 108, 97, 116, 101, 100, 32, 98, 121, 32]⟩ : ByteArray)) ++ t438) ++ (⟨#[32, 100, 117, 114, 105, 110, 103, 32]⟩ : ByteArray)) ++ t439).size + 1 ≤ 9223372036854775807) = true := decide_eq_true c11
 try have c11b2 : (9223372036854775807 < ((((((a0_1 ++ (⟨#[58, 32]⟩ : ByteArray)) ++ t437) ++ (⟨#[32, 118, 105, 111, 108, 97, 116, 101, 100, 32, 98, 121, 32]⟩ : ByteArray)) ++ t438) ++ (⟨#[32, 100, 117, 114, 105, 110, 103, 32]⟩ : ByteArray)) ++ t439).size + 1) = False := eq_false (Nat.not_lt.2 c11)
 try (have c11b3 := c11b2; simp only [ByteArray.size_append, size_lit, List.size_toArray, List.length_cons, List.length_nil, Nat.zero_add] at c11b3)
 obtain rfl := Option.some.inj H
 go_enter Tryz.func16, Tryz.ntmps16
 try go_wp2_with (first | ((with_reducible refine gate_dst (N := 1) rfl ?_); refine box_event ?hg (N := 1) ?hd (cs := #[.int .i64 a0_0, .string a0_1, .int .i64 a0_2, .slice A0_3 l0_3.length c0_3, .int .i64 a0_4, .int .i64 a0_5]) (t := 38) ?hr ?_; (case hd => rfl); (case hg => rfl); (case hr => first | (go_simp; done) | (go_simp; rfl)); intro gb436 hg w12 hbox hb; have n0_ := zM (zT (by repeat (first | (with_reducible first | exact HB.1 | apply zA | apply zN | apply z1) | exact HB.1)) hb); have n1_ := zM (hbox); have n2_ := zM ((by rw [hg]; exact (zZ (by repeat (first | (with_reducible first | exact HB.1 | apply zA | apply zN | apply z1) | exact HB.1))) : w.heap.size ≤ gb436)); have n3_ := n2_; clear HB; have HB := n0_; have BK436 := n1_; have GW436 := n2_; have GE436 := n3_; clear n0_ n1_ n2_ n3_; clear hb hbox hg))
 have n0_ := zM (kD BK436.1)
 have n1_ := zM (z1 HB.1)
 clear BK436
 clear HB
 have BK436 := n0_
 have HB := n1_
 clear n0_ n1_
 refine start_ (n := 18) (S := fun w' => w'.cell? ⟨gb436, 0, none⟩ = some (.int .i64 a0_0) ∧ w'.cell? ⟨gb436, 1, none⟩ = some (.string a0_1) ∧ w'.cell? ⟨gb436, 2, none⟩ = some (.int .i64 a0_2) ∧ w'.cell? ⟨gb436, 3, none⟩ = some (.slice A0_3 l0_3.length c0_3) ∧ w'.cell? ⟨gb436, 4, none⟩ = some (.int .i64 a0_4) ∧ w'.cell? ⟨gb436, 5, none⟩ = some (.int .i64 a0_5)) (ds := []) #[false, false, false, false, false, false, false, false, false, false, false, false, false, false, false, false, false, false] (by kernel_rfl) rfl rfl ⟨(kC BK436.1 0).trans rfl, (kC BK436.1 1).trans rfl, (kC BK436.1 2).trans rfl, (kC BK436.1 3).trans rfl, (kC BK436.1 4).trans rfl, (kC BK436.1 5).trans rfl⟩ (fun hHeld => ?_); refine with_tabW bitemporalref55_Violation.tab1 bitemporalref55_Violation.bits1 (fun HT_ HW_ => ?_)
 generalize w12.drew = w13 at BK436 HB hHeld ⊢
 refine pure_ (i := 0) (N := some 3) (v := ?_) (a' := ?_) #[true, false, false, false, false, false, false, false, false, false, false, false, false, false, false, false, false, false] rfl rfl (any_of HT_.out (by kernel_rfl)) (fun _ _ _ h => h) (Or.inl ⟨by rfl, ?_⟩) ?_ ?_
 rotate_left
 ·intro w'
  go_simp
  with_reducible rfl
 rotate_left
 ·simp only [Act.put, List.setIfInBounds_toArray, List.set_cons_zero, List.set_cons_succ, i64_w, i32_w]
  rfl
 refine pure_ (i := 7) (N := some 10) (v := ?_) (a' := ?_) #[true, false, false, false, false, false, false, true, false, false, false, false, false, false, false, false, false, false] rfl rfl (any_of HT_.out (by kernel_rfl)) (fun _ _ _ h => h) (Or.inl ⟨by rfl, ?_⟩) ?_ ?_
 rotate_left
 ·intro w'
  go_simp
  with_reducible rfl
 rotate_left
 ·simp only [Act.put, List.setIfInBounds_toArray, List.set_cons_zero, List.set_cons_succ, i64_w, i32_w]
  rfl
 refine pure_ (i := 12) (N := some 15) (v := ?_) (a' := ?_) #[true, false, false, false, false, false, false, true, false, false, false, false, true, false, false, false, false, false] rfl rfl (any_of HT_.out (by kernel_rfl)) (fun _ _ _ h => h) (Or.inl ⟨by rfl, ?_⟩) ?_ ?_
 rotate_left
 ·intro w'
  go_simp
  with_reducible rfl
 rotate_left
 ·simp only [Act.put, List.setIfInBounds_toArray, List.set_cons_zero, List.set_cons_succ, i64_w, i32_w]
  rfl
 refine take_ (i := 1) (N := some 4) (v := ?_) (a' := ?_) #[true, true, false, false, false, false, false, true, false, false, false, false, true, false, false, false, false, false] rfl rfl (take_ofW HT_.out HW_.out (by kernel_rfl)) (fun _ _ _ h => h) (Or.inl ⟨by rfl, ?_⟩) hHeld ?_ ?_
 rotate_left
 ·rintro w' ⟨s0, s1, s2, s3, s4, s5⟩
  go_simp
  with_reducible rfl
 rotate_left
 ·simp only [Act.put, List.setIfInBounds_toArray, List.set_cons_zero, List.set_cons_succ, i64_w, i32_w]
  rfl
 refine pure_ (i := 2) (N := some 5) (v := ?_) (a' := ?_) #[true, true, true, false, false, false, false, true, false, false, false, false, true, false, false, false, false, false] rfl rfl (any_of HT_.out (by kernel_rfl)) (fun _ _ _ h => h) (Or.inl ⟨by rfl, ?_⟩) ?_ ?_
 rotate_left
 ·intro w'
  go_simp
  with_reducible rfl
 rotate_left
 ·simp only [Act.put, List.setIfInBounds_toArray, List.set_cons_zero, List.set_cons_succ, i64_w, i32_w]
  rfl
 refine take_ (i := 3) (N := some 6) (v := ?_) (a' := ?_) #[true, true, true, true, false, false, false, true, false, false, false, false, true, false, false, false, false, false] rfl rfl (take_ofW HT_.out HW_.out (by kernel_rfl)) (fun _ _ _ h => h) (Or.inl ⟨by rfl, ?_⟩) hHeld ?_ ?_
 rotate_left
 ·rintro w' ⟨s0, s1, s2, s3, s4, s5⟩
  go_simp
  with_reducible rfl
 rotate_left
 ·simp only [Act.put, List.setIfInBounds_toArray, List.set_cons_zero, List.set_cons_succ, i64_w, i32_w]
  rfl
 refine take_ (i := 8) (N := some 11) (v := ?_) (a' := ?_) #[true, true, true, true, false, false, false, true, true, false, false, false, true, false, false, false, false, false] rfl rfl (take_ofW HT_.out HW_.out (by kernel_rfl)) (fun _ _ _ h => h) (Or.inl ⟨by rfl, ?_⟩) hHeld ?_ ?_
 rotate_left
 ·rintro w' ⟨s0, s1, s2, s3, s4, s5⟩
  go_simp
  with_reducible rfl
 rotate_left
 ·simp only [Act.put, List.setIfInBounds_toArray, List.set_cons_zero, List.set_cons_succ, i64_w, i32_w]
  rfl
 refine take_ (i := 13) (N := some 16) (v := ?_) (a' := ?_) #[true, true, true, true, false, false, false, true, true, false, false, false, true, true, false, false, false, false] rfl rfl (take_ofW HT_.out HW_.out (by kernel_rfl)) (fun _ _ _ h => h) (Or.inl ⟨by rfl, ?_⟩) hHeld ?_ ?_
 rotate_left
 ·rintro w' ⟨s0, s1, s2, s3, s4, s5⟩
  go_simp
  with_reducible rfl
 rotate_left
 ·simp only [Act.put, List.setIfInBounds_toArray, List.set_cons_zero, List.set_cons_succ, i64_w, i32_w]
  rfl
 refine one_ (i := 4) (N := some 7) #[true, true, true, true, true, false, false, true, true, false, false, false, true, true, false, false, false, false] rfl rfl (one_of HT_.out (by kernel_rfl)) (by decide) (fun K hK => ?_)
 refine goes_ Tryz.func45 (by kernel_rfl) rfl #[.agg #[.int .i64 a0_0, .string a0_1, .int .i64 a0_2, .slice A0_3 l0_3.length c0_3, .int .i64 a0_4, .int .i64 a0_5]] (by rfl) rfl rfl (by (try simp only [List.map_toArray, List.map_cons, List.map_nil]); first | done | rfl | (simp only [List.length_drop, List.length_take]; rfl)) ?_
 with_reducible refine (bitemporalref55_violated.calls k a0_0 a0_1 a0_2 _ _ l0_3 a0_4 a0_5 t437 _ ?side1 ?side2 A3.out ?gw_).mono ?_
 (case gw_ => first | exact HG.1 | (refine GW.below HG.1 ?_; repeat (first | (with_reducible first | exact HB.1 | apply zA | apply zN | apply z1 | refine zS ?_ GE436.1) | exact HB.1)))
 (case side1 => repeat (first | exact (Kd.C_below HR0_3.out HB.1) | (with_reducible refine Kd.C_alloc ?_ _) | (with_reducible refine Kd.C_drewN ?_ _) | (with_reducible refine Kd.C_drew ?_)))
 (case side2 => exact HC0_3.out)
 rintro e w14 ⟨rfl, hb⟩
 refine ⟨_, rfl, ?_⟩
 have n0_ := zM (kB (g := gb436) (o := .cells #[.int .i64 a0_0, .string a0_1, .int .i64 a0_2, .slice A0_3 l0_3.length c0_3, .int .i64 a0_4, .int .i64 a0_5] 38 (0, 0)) (by (with_reducible repeat (first | refine kN ?_ _ | refine kD ?_ | refine kA ?_ _)); exact BK436.1) hb)
 have n1_ := zM (zT (by repeat (first | (with_reducible first | exact HB.1 | apply zA | apply zN | apply z1 | refine zS ?_ GE436.1) | exact HB.1)) hb)
 clear BK436
 clear HB
 have BK436 := n0_
 have HB := n1_
 clear n0_ n1_
 (try clear hb)
 (try clear hb2)
 (try clear hk)
 (try clear hi)
 refine hK.out _ _ ⟨(kC BK436.1 0).trans rfl, (kC BK436.1 1).trans rfl, (kC BK436.1 2).trans rfl, (kC BK436.1 3).trans rfl, (kC BK436.1 4).trans rfl, (kC BK436.1 5).trans rfl⟩ (fun hHeld => ?_)
 clear hK K
 refine norm_ (a' := ?_) ?_ ?_
 rotate_left
 ·show Act.put _ (some 7) _ = _
  simp only [Act.put, List.setIfInBounds_toArray, List.set_cons_zero, List.set_cons_succ, i64_w, i32_w]
  rfl
 refine pure_ (i := 5) (N := some 8) (v := ?_) (a' := ?_) #[true, true, true, true, true, true, false, true, true, false, false, false, true, true, false, false, false, false] rfl rfl (any_of HT_.out (by kernel_rfl)) (fun _ _ _ h => h) (Or.inl ⟨by rfl, ?_⟩) ?_ ?_
 rotate_left
 ·intro w'
  go_simp
  with_reducible rfl
 rotate_left
 ·simp only [Act.put, List.setIfInBounds_toArray, List.set_cons_zero, List.set_cons_succ, i64_w, i32_w]
  rfl
 refine pure_ (i := 6) (N := some 9) (v := ?_) (a' := ?_) #[true, true, true, true, true, true, true, true, true, false, false, false, true, true, false, false, false, false] rfl rfl (any_of HT_.out (by kernel_rfl)) (fun _ _ _ h => h) (Or.inl ⟨by rfl, ?_⟩) ?_ ?_
 rotate_left
 ·intro w'
  go_simp
  with_reducible rfl
 rotate_left
 ·simp only [Act.put, List.setIfInBounds_toArray, List.set_cons_zero, List.set_cons_succ, i64_w, i32_w]
  rfl
 refine one_ (i := 9) (N := some 12) #[true, true, true, true, true, true, true, true, true, true, false, false, true, true, false, false, false, false] rfl rfl (one_of HT_.out (by kernel_rfl)) (by decide) (fun K hK => ?_)
 refine goes_ Tryz.func46 (by kernel_rfl) rfl #[.slice A0_3 l0_3.length c0_3] (by rfl) rfl rfl (by (try simp only [List.map_toArray, List.map_cons, List.map_nil]); first | done | rfl | (simp only [List.length_drop, List.length_take]; rfl)) ?_
 with_reducible refine (bitemporalref08_Text.calls k _ _ l0_3 t438 _ ?side1 ?side2 A6.out ?gw_).mono ?_
 (case gw_ => first | exact HG.1 | (refine GW.below HG.1 ?_; repeat (first | (with_reducible first | exact HB.1 | apply zA | apply zN | apply z1 | refine zS ?_ GE436.1) | exact HB.1)))
 (case side1 => repeat (first | exact (Kd.C_below HR0_3.out HB.1) | (with_reducible refine Kd.C_alloc ?_ _) | (with_reducible refine Kd.C_drewN ?_ _) | (with_reducible refine Kd.C_drew ?_)))
 (case side2 => exact HC0_3.out)
 rintro e w15 ⟨rfl, hb⟩
 refine ⟨_, rfl, ?_⟩
 have n0_ := zM (kB (g := gb436) (o := .cells #[.int .i64 a0_0, .string a0_1, .int .i64 a0_2, .slice A0_3 l0_3.length c0_3, .int .i64 a0_4, .int .i64 a0_5] 38 (0, 0)) (by (with_reducible repeat (first | refine kN ?_ _ | refine kD ?_ | refine kA ?_ _)); exact BK436.1) hb)
 have n1_ := zM (zT (by repeat (first | (with_reducible first | exact HB.1 | apply zA | apply zN | apply z1 | refine zS ?_ GE436.1) | exact HB.1)) hb)
 clear BK436
 clear HB
 have BK436 := n0_
 have HB := n1_
 clear n0_ n1_
 (try clear hb)
 (try clear hb2)
 (try clear hk)
 (try clear hi)
 refine hK.out _ _ ⟨(kC BK436.1 0).trans rfl, (kC BK436.1 1).trans rfl, (kC BK436.1 2).trans rfl, (kC BK436.1 3).trans rfl, (kC BK436.1 4).trans rfl, (kC BK436.1 5).trans rfl⟩ (fun hHeld => ?_)
 clear hK K
 refine norm_ (a' := ?_) ?_ ?_
 rotate_left
 ·show Act.put _ (some 12) _ = _
  simp only [Act.put, List.setIfInBounds_toArray, List.set_cons_zero, List.set_cons_succ, i64_w, i32_w]
  rfl
 refine pure_ (i := 10) (N := some 13) (v := ?_) (a' := ?_) #[true, true, true, true, true, true, true, true, true, true, true, false, true, true, false, false, false, false] rfl rfl (any_of HT_.out (by kernel_rfl)) (fun _ _ _ h => h) (Or.inl ⟨by rfl, ?_⟩) ?_ ?_
 rotate_left
 ·intro w'
  go_simp
  with_reducible rfl
 rotate_left
 ·simp only [Act.put, List.setIfInBounds_toArray, List.set_cons_zero, List.set_cons_succ, i64_w, i32_w]
  rfl
 refine pure_ (i := 11) (N := some 14) (v := ?_) (a' := ?_) #[true, true, true, true, true, true, true, true, true, true, true, true, true, true, false, false, false, false] rfl rfl (any_of HT_.out (by kernel_rfl)) (fun _ _ _ h => h) (Or.inl ⟨by rfl, ?_⟩) ?_ ?_
 rotate_left
 ·intro w'
  go_simp
  with_reducible rfl
 rotate_left
 ·simp only [Act.put, List.setIfInBounds_toArray, List.set_cons_zero, List.set_cons_succ, i64_w, i32_w]
  rfl
 refine one_ (i := 14) (N := some 17) #[true, true, true, true, true, true, true, true, true, true, true, true, true, true, true, false, false, false] rfl rfl (one_of HT_.out (by kernel_rfl)) (by decide) (fun K hK => ?_)
 refine goes_ Tryz.func34 (by kernel_rfl) rfl #[.agg #[.int .i64 a0_4, .int .i64 a0_5]] (by rfl) rfl rfl (by (try simp only [List.map_toArray, List.map_cons, List.map_nil]); first | done | rfl | (simp only [List.length_drop, List.length_take]; rfl)) ?_
 with_reducible refine (bitemporalref01_Text.calls k a0_4 a0_5 t439 _ A9.out ?gw_).mono ?_
 (case gw_ => first | exact HG.1 | (refine GW.below HG.1 ?_; repeat (first | (with_reducible first | exact HB.1 | apply zA | apply zN | apply z1 | refine zS ?_ GE436.1) | exact HB.1)))
 rintro e w16 ⟨rfl, hb⟩
 refine ⟨_, rfl, ?_⟩
 have n0_ := zM (kB (g := gb436) (o := .cells #[.int .i64 a0_0, .string a0_1, .int .i64 a0_2, .slice A0_3 l0_3.length c0_3, .int .i64 a0_4, .int .i64 a0_5] 38 (0, 0)) (by (with_reducible repeat (first | refine kN ?_ _ | refine kD ?_ | refine kA ?_ _)); exact BK436.1) hb)
 have n1_ := zM (zT (by repeat (first | (with_reducible first | exact HB.1 | apply zA | apply zN | apply z1 | refine zS ?_ GE436.1) | exact HB.1)) hb)
 clear BK436
 clear HB
 have BK436 := n0_
 have HB := n1_
 clear n0_ n1_
 (try clear hb)
 (try clear hb2)
 (try clear hk)
 (try clear hi)
 refine hK.out _ _ ⟨(kC BK436.1 0).trans rfl, (kC BK436.1 1).trans rfl, (kC BK436.1 2).trans rfl, (kC BK436.1 3).trans rfl, (kC BK436.1 4).trans rfl, (kC BK436.1 5).trans rfl⟩ (fun hHeld => ?_)
 clear hK K
 refine norm_ (a' := ?_) ?_ ?_
 rotate_left
 ·show Act.put _ (some 17) _ = _
  simp only [Act.put, List.setIfInBounds_toArray, List.set_cons_zero, List.set_cons_succ, i64_w, i32_w]
  rfl
 refine pure_ (i := 15) (N := some 18) (v := ?_) (a' := ?_) #[true, true, true, true, true, true, true, true, true, true, true, true, true, true, true, true, false, false] rfl rfl (any_of HT_.out (by kernel_rfl)) (fun _ _ _ h => h) (Or.inl ⟨by rfl, ?_⟩) ?_ ?_
 rotate_left
 ·intro w'
  go_simp
  with_reducible rfl
 rotate_left
 ·simp only [Act.put, List.setIfInBounds_toArray, List.set_cons_zero, List.set_cons_succ, i64_w, i32_w]
  rfl
 refine pure_ (i := 16) (N := some 19) (v := ?_) (a' := ?_) #[true, true, true, true, true, true, true, true, true, true, true, true, true, true, true, true, true, false] rfl rfl (any_of HT_.out (by kernel_rfl)) (fun _ _ _ h => h) (Or.inl ⟨by rfl, ?_⟩) ?_ ?_
 rotate_left
 ·intro w'
  go_simp
  with_reducible rfl
 rotate_left
 ·simp only [Act.put, List.setIfInBounds_toArray, List.set_cons_zero, List.set_cons_succ, i64_w, i32_w]
  rfl
 refine pure_ (i := 17) (N := some 2) (v := ?_) (a' := ?_) #[true, true, true, true, true, true, true, true, true, true, true, true, true, true, true, true, true, true] rfl rfl (any_of HT_.out (by kernel_rfl)) (fun _ _ _ h => h) (Or.inl ⟨by rfl, ?_⟩) ?_ ?_
 rotate_left
 ·intro w'
  go_simp
  with_reducible rfl
 rotate_left
 ·simp only [Act.put, List.setIfInBounds_toArray, List.set_cons_zero, List.set_cons_succ, i64_w, i32_w]
  rfl
 refine done_ (done_of HT_.out (by kernel_rfl)) ?_
 try go_wp2
 go_ret
 exact ⟨by first | rfl | (simp [errW_none, errW_some] <;> rfl) | (simp [*, errW_none, errW_some] <;> rfl), by repeat (first | (with_reducible first | exact HB.1 | apply zA | apply zN | apply z1 | refine zS ?_ GE436.1) | exact HB.1)⟩

end Go.Proofs.YthdgjobhofpjeaaGreatDoor.X
