/- Walks of Go functions of this seat, printed by a program of mine (wip/tools/xprint.py) over the kit's printer: each function as a plain Lean function, and the proof that the call comes to what it says. No conditions but those in each theorem. -/
import Derived.Test.YthdgjobhofpjeaaGreatDoorX0
import Derived.Test.YthdgjobhofpjeaaGreatDoorX1
import Derived.Test.YthdgjobhofpjeaaGreatDoorX14
import Derived.Test.YthdgjobhofpjeaaGreatDoorX15
namespace Go.Proofs.YthdgjobhofpjeaaGreatDoor.X
open Go.RowKit Go.Proofs.YthdgjobhofpjeaaGreatDoorW.PrintWords Go.Proofs.YthdgjobhofpjeaaGreatDoorW.PrintLast Go.Proofs.YthdgjobhofpjeaaGreatDoorW.PrintMore
attribute [local go_sem] max2_int min2_int max_two min_two max_three min_three max_four min_four   -- for this text's walks alone
set_option linter.unusedVariables false
set_option linter.unusedSimpArgs false

attribute [local go_sem high] eqA33
/-! ### bitemporalref55_done: function 31 -/
def bitemporalref55_done.f (k : Nat) (l0_0 : List (S49)) (l0_1 : List (S45)) (a0_2 : Int) (a0_3 : Int) : Option (ByteArray) := if a0_2 = 0 then (if a0_3 = 0 then (if 2 + 1 ≤ 9223372036854775807 then (some ((⟨#[111, 107]⟩ : ByteArray) ++ (⟨#[10]⟩ : ByteArray))) else (none)) else (if 2 + 7 ≤ 9223372036854775807 then ((bitemporalref07_Number.f k a0_3).bind fun t233 => (if ((⟨#[111, 107]⟩ : ByteArray) ++ (⟨#[44, 32, 116, 105, 109, 101, 32]⟩ : ByteArray)).size + t233.size ≤ 9223372036854775807 then (if (((⟨#[111, 107]⟩ : ByteArray) ++ (⟨#[44, 32, 116, 105, 109, 101, 32]⟩ : ByteArray)) ++ t233).size + 1 ≤ 9223372036854775807 then (some ((((⟨#[111, 107]⟩ : ByteArray) ++ (⟨#[44, 32, 116, 105, 109, 101, 32]⟩ : ByteArray)) ++ t233) ++ (⟨#[10]⟩ : ByteArray))) else (none)) else (none))) else (none))) else (if 2 + 8 ≤ 9223372036854775807 then ((bitemporalref07_Number.f k a0_2).bind fun t234 => (if ((⟨#[111, 107]⟩ : ByteArray) ++ (⟨#[44, 32, 99, 111, 117, 110, 116, 32]⟩ : ByteArray)).size + t234.size ≤ 9223372036854775807 then (if a0_3 = 0 then (if (((⟨#[111, 107]⟩ : ByteArray) ++ (⟨#[44, 32, 99, 111, 117, 110, 116, 32]⟩ : ByteArray)) ++ t234).size + 1 ≤ 9223372036854775807 then (some ((((⟨#[111, 107]⟩ : ByteArray) ++ (⟨#[44, 32, 99, 111, 117, 110, 116, 32]⟩ : ByteArray)) ++ t234) ++ (⟨#[10]⟩ : ByteArray))) else (none)) else (if (((⟨#[111, 107]⟩ : ByteArray) ++ (⟨#[44, 32, 99, 111, 117, 110, 116, 32]⟩ : ByteArray)) ++ t234).size + 7 ≤ 9223372036854775807 then ((bitemporalref07_Number.f k a0_3).bind fun t235 => (if ((((⟨#[111, 107]⟩ : ByteArray) ++ (⟨#[44, 32, 99, 111, 117, 110, 116, 32]⟩ : ByteArray)) ++ t234) ++ (⟨#[44, 32, 116, 105, 109, 101, 32]⟩ : ByteArray)).size + t235.size ≤ 9223372036854775807 then (if (((((⟨#[111, 107]⟩ : ByteArray) ++ (⟨#[44, 32, 99, 111, 117, 110, 116, 32]⟩ : ByteArray)) ++ t234) ++ (⟨#[44, 32, 116, 105, 109, 101, 32]⟩ : ByteArray)) ++ t235).size + 1 ≤ 9223372036854775807 then (some ((((((⟨#[111, 107]⟩ : ByteArray) ++ (⟨#[44, 32, 99, 111, 117, 110, 116, 32]⟩ : ByteArray)) ++ t234) ++ (⟨#[44, 32, 116, 105, 109, 101, 32]⟩ : ByteArray)) ++ t235) ++ (⟨#[10]⟩ : ByteArray))) else (none)) else (none))) else (none))) else (none))) else (none))
theorem bitemporalref55_done.mono : ∀ a0 a1 a2 a3 k, LeO (bitemporalref55_done.f k a0 a1 a2 a3) (bitemporalref55_done.f (k + 1) a0 a1 a2 a3) := by
  intro a0 a1 a2 a3 k
  unfold bitemporalref55_done.f
  repeat' first
      | (with_reducible exact bitemporalref07_Number.mono _ _)
      | (with_reducible exact LeO.refl _)
      | (with_reducible exact LeO.none _)
      | (with_reducible refine LeO.ite ?_ ?_)
      | (with_reducible refine LeO.bind ?_ (fun _ => ?_))
      | exact bitemporalref07_Number.mono _ _
      | exact LeO.none _
      | refine LeO.ite ?_ ?_
      | refine LeO.bind ?_ (fun _ => ?_)
set_option maxHeartbeats 8000000 in
set_option maxRecDepth 100000 in
theorem bitemporalref55_done.calls (k : Nat) (A0_0 : Option Addr) (c0_0 : Nat) (l0_0 : List (S49)) (A0_1 : Option Addr) (c0_1 : Nat) (l0_1 : List (S45)) (a0_2 : Int) (a0_3 : Int) (r : ByteArray) (w : World) (hr0_0 : Kd.C k49 w A0_0 l0_0.length l0_0) (hc0_0 : l0_0.length ≤ c0_0) (hr0_1 : Kd.C k45 w A0_1 l0_1.length l0_1) (hc0_1 : l0_1.length ≤ c0_1) (h : bitemporalref55_done.f k l0_0 l0_1 a0_2 a0_3 = some r) (hG : GW w) :
  Calls Tryz.prog 31 #[.agg #[.slice A0_0 l0_0.length c0_0, .slice A0_1 l0_1.length c0_1, .int .i64 a0_2, .int .i64 a0_3]] w fun e w' => e = .returned (.string r) ∧ Below w.heap.size w w' := by
 have HG := zM hG
 clear hG
 have hu25 := Tryz.underlying25
 have HR0_0 := zM hr0_0
 have HC0_0 := zM hc0_0
 clear hr0_0 hc0_0
 have HR0_1 := zM hr0_1
 have HC0_1 := zM hc0_1
 clear hr0_1 hc0_1
 have HB := zM (Below.refl w.heap.size w)
 have H : (if a0_2 = 0 then (if a0_3 = 0 then (if 2 + 1 ≤ 9223372036854775807 then (some ((⟨#[111, 107]⟩ : ByteArray) ++ (⟨#[10]⟩ : ByteArray))) else (none)) else (if 2 + 7 ≤ 9223372036854775807 then ((bitemporalref07_Number.f k a0_3).bind fun t233 => (if ((⟨#[111, 107]⟩ : ByteArray) ++ (⟨#[44, 32, 116, 105, 109, 101, 32]⟩ : ByteArray)).size + t233.size ≤ 9223372036854775807 then (if (((⟨#[111, 107]⟩ : ByteArray) ++ (⟨#[44, 32, 116, 105, 109, 101, 32]⟩ : ByteArray)) ++ t233).size + 1 ≤ 9223372036854775807 then (some ((((⟨#[111, 107]⟩ : ByteArray) ++ (⟨#[44, 32, 116, 105, 109, 101, 32]⟩ : ByteArray)) ++ t233) ++ (⟨#[10]⟩ : ByteArray))) else (none)) else (none))) else (none))) else (if 2 + 8 ≤ 9223372036854775807 then ((bitemporalref07_Number.f k a0_2).bind fun t234 => (if ((⟨#[111, 107]⟩ : ByteArray) ++ (⟨#[44, 32, 99, 111, 117, 110, 116, 32]⟩ : ByteArray)).size + t234.size ≤ 9223372036854775807 then (if a0_3 = 0 then (if (((⟨#[111, 107]⟩ : ByteArray) ++ (⟨#[44, 32, 99, 111, 117, 110, 116, 32]⟩ : ByteArray)) ++ t234).size + 1 ≤ 9223372036854775807 then (some ((((⟨#[111, 107]⟩ : ByteArray) ++ (⟨#[44, 32, 99, 111, 117, 110, 116, 32]⟩ : ByteArray)) ++ t234) ++ (⟨#[10]⟩ : ByteArray))) else (none)) else (if (((⟨#[111, 107]⟩ : ByteArray) ++ (⟨#[44, 32, 99, 111, 117, 110, 116, 32]⟩ : ByteArray)) ++ t234).size + 7 ≤ 9223372036854775807 then ((bitemporalref07_Number.f k a0_3).bind fun t235 => (if ((((⟨#[111, 107]⟩ : ByteArray) ++ (⟨#[44, 32, 99, 111, 117, 110, 116, 32]⟩ : ByteArray)) ++ t234) ++ (⟨#[44, 32, 116, 105, 109, 101, 32]⟩ : ByteArray)).size + t235.size ≤ 9223372036854775807 then (if (((((⟨#[111, 107]⟩ : ByteArray) ++ (⟨#[44, 32, 99, 111, 117, 110, 116, 32]⟩ : ByteArray)) ++ t234) ++ (⟨#[44, 32, 116, 105, 109, 101, 32]⟩ : ByteArray)) ++ t235).size + 1 ≤ 9223372036854775807 then (some ((((((⟨#[111, 107]⟩ : ByteArray) ++ (⟨#[44, 32, 99, 111, 117, 110, 116, 32]⟩ : ByteArray)) ++ t234) ++ (⟨#[44, 32, 116, 105, 109, 101, 32]⟩ : ByteArray)) ++ t235) ++ (⟨#[10]⟩ : ByteArray))) else (none)) else (none))) else (none))) else (none))) else (none))) = some r := h
 clear h
 by_cases c2 : a0_2 = 0
 ·rw [if_pos c2] at H
  have c2b0 : (a0_2 == 0) = true := beq_iff_eq.mpr c2
  have c2b1 : (a0_2 != 0) = false := bne_eq_false_iff_eq.mpr c2
  clear c2
  by_cases c3 : a0_3 = 0
  ·rw [if_pos c3] at H
   have c3b0 : (a0_3 == 0) = true := beq_iff_eq.mpr c3
   have c3b1 : (a0_3 != 0) = false := bne_eq_false_iff_eq.mpr c3
   clear c3
   by_cases c4 : 2 + 1 ≤ 9223372036854775807
   case neg =>
    rw [if_neg c4] at H
    exact absurd H (by simp)
   rw [if_pos c4] at H
   have c4b0 := eq_true c4
   have c4b1 := decide_eq_true c4
   try have c4b2 := eq_false (Nat.not_lt.2 c4)
   obtain rfl := Option.some.inj H
   go_enter Tryz.func31, Tryz.ntmps31
   go_wp2_with (first | ((with_reducible refine gate_dst (N := 1) rfl ?_); refine box_event ?hg (N := 1) ?hd (cs := #[.slice A0_0 l0_0.length c0_0, .slice A0_1 l0_1.length c0_1, .int .i64 a0_2, .int .i64 a0_3]) (t := 25) ?hr ?_; (case hd => rfl); (case hg => rfl); (case hr => first | (go_simp; done) | (go_simp; rfl)); intro gb232 hg w5 hbox hb; have n0_ := zM (zT (by repeat (first | (with_reducible first | exact HB.1 | apply zA | apply zN | apply z1) | exact HB.1)) hb); have n1_ := zM (hbox); have n2_ := zM ((by rw [hg]; exact (zZ (by repeat (first | (with_reducible first | exact HB.1 | apply zA | apply zN | apply z1) | exact HB.1))) : w.heap.size ≤ gb232)); have n3_ := n2_; clear HB; have HB := n0_; have BK232 := n1_; have GW232 := n2_; have GE232 := n3_; clear n0_ n1_ n2_ n3_; clear hb hbox hg; have hcz6_0 : w5.cell? ⟨gb232, 0, none⟩ = some (.slice A0_0 l0_0.length c0_0) := (kC BK232.1 0).trans rfl; have hcz6_1 : w5.cell? ⟨gb232, 1, none⟩ = some (.slice A0_1 l0_1.length c0_1) := (kC BK232.1 1).trans rfl; have hcz6_2 : w5.cell? ⟨gb232, 2, none⟩ = some (.int .i64 a0_2) := (kC BK232.1 2).trans rfl; have hcz6_3 : w5.cell? ⟨gb232, 3, none⟩ = some (.int .i64 a0_3) := (kC BK232.1 3).trans rfl; have hfz6_0 := kF BK232.1 0; have hfz6_1 := kF BK232.1 1; have hfz6_2 := kF BK232.1 2; have hfz6_3 := kF BK232.1 3))
   go_ret
   exact ⟨by first | rfl | (simp [errW_none, errW_some] <;> rfl) | (simp [*, errW_none, errW_some] <;> rfl), by repeat (first | (with_reducible first | exact HB.1 | apply zA | apply zN | apply z1 | refine zS ?_ GE232.1) | exact HB.1)⟩
  ·rw [if_neg c3] at H
   have c3b0 : (a0_3 == 0) = false := beq_eq_false_iff_ne.mpr c3
   have c3b1 : (a0_3 != 0) = true := bne_iff_ne.mpr c3
   by_cases c7 : 2 + 7 ≤ 9223372036854775807
   case neg =>
    rw [if_neg c7] at H
    exact absurd H (by simp)
   rw [if_pos c7] at H
   have c7b0 := eq_true c7
   have c7b1 := decide_eq_true c7
   try have c7b2 := eq_false (Nat.not_lt.2 c7)
   replace H := Option.bind_eq_some_iff.mp H
   obtain ⟨t233, A80, H⟩ := H
   have A8 := zM A80
   clear A80
   by_cases c9 : ((⟨#[111, 107]⟩ : ByteArray) ++ (⟨#[44, 32, 116, 105, 109, 101, 32]⟩ : ByteArray)).size + t233.size ≤ 9223372036854775807
   case neg =>
    rw [if_neg c9] at H
    exact absurd H (by simp)
   rw [if_pos c9] at H
   have c9b0 := eq_true c9
   have c9b1 := decide_eq_true c9
   try have c9b2 := eq_false (Nat.not_lt.2 c9)
   try (have c9b3 := c9b2; simp only [ByteArray.size_append, size_lit, List.size_toArray, List.length_cons, List.length_nil, Nat.zero_add] at c9b3)
   by_cases c10 : (((⟨#[111, 107]⟩ : ByteArray) ++ (⟨#[44, 32, 116, 105, 109, 101, 32]⟩ : ByteArray)) ++ t233).size + 1 ≤ 9223372036854775807
   case neg =>
    rw [if_neg c10] at H
    exact absurd H (by simp)
   rw [if_pos c10] at H
   have c10b0 := eq_true c10
   have c10b1 := decide_eq_true c10
   try have c10b2 := eq_false (Nat.not_lt.2 c10)
   try (have c10b3 := c10b2; simp only [ByteArray.size_append, size_lit, List.size_toArray, List.length_cons, List.length_nil, Nat.zero_add] at c10b3)
   obtain rfl := Option.some.inj H
   go_enter Tryz.func31, Tryz.ntmps31
   go_wp2_with (first | ((with_reducible refine gate_dst (N := 1) rfl ?_); refine box_event ?hg (N := 1) ?hd (cs := #[.slice A0_0 l0_0.length c0_0, .slice A0_1 l0_1.length c0_1, .int .i64 a0_2, .int .i64 a0_3]) (t := 25) ?hr ?_; (case hd => rfl); (case hg => rfl); (case hr => first | (go_simp; done) | (go_simp; rfl)); intro gb232 hg w11 hbox hb; have n0_ := zM (zT (by repeat (first | (with_reducible first | exact HB.1 | apply zA | apply zN | apply z1) | exact HB.1)) hb); have n1_ := zM (hbox); have n2_ := zM ((by rw [hg]; exact (zZ (by repeat (first | (with_reducible first | exact HB.1 | apply zA | apply zN | apply z1) | exact HB.1))) : w.heap.size ≤ gb232)); have n3_ := n2_; clear HB; have HB := n0_; have BK232 := n1_; have GW232 := n2_; have GE232 := n3_; clear n0_ n1_ n2_ n3_; clear hb hbox hg; have hcz12_0 : w11.cell? ⟨gb232, 0, none⟩ = some (.slice A0_0 l0_0.length c0_0) := (kC BK232.1 0).trans rfl; have hcz12_1 : w11.cell? ⟨gb232, 1, none⟩ = some (.slice A0_1 l0_1.length c0_1) := (kC BK232.1 1).trans rfl; have hcz12_2 : w11.cell? ⟨gb232, 2, none⟩ = some (.int .i64 a0_2) := (kC BK232.1 2).trans rfl; have hcz12_3 : w11.cell? ⟨gb232, 3, none⟩ = some (.int .i64 a0_3) := (kC BK232.1 3).trans rfl; have hfz12_0 := kF BK232.1 0; have hfz12_1 := kF BK232.1 1; have hfz12_2 := kF BK232.1 2; have hfz12_3 := kF BK232.1 3) | ((with_reducible refine gate_callee (f := 36) rfl ?_); refine goesL_ (some 20) rfl rfl Tryz.func36 (by kernel_rfl) rfl #[.int .i64 a0_3] rfl (by (try simp only [List.map_toArray, List.map_cons, List.map_nil]); first | done | rfl | (simp only [List.length_drop, List.length_take]; rfl)) ?_; (with_reducible refine (bitemporalref07_Number.calls k a0_3 t233 _ A8.out ?gw_).mono ?_); (case gw_ => first | exact HG.1 | (refine GW.below HG.1 ?_; repeat (first | (with_reducible first | exact HB.1 | apply zA | apply zN | apply z1 | refine zS ?_ GE232.1) | exact HB.1))); rintro e w' ⟨rfl, ⟨nd, rfl⟩⟩; refine ⟨_, rfl, ?_⟩))
   go_ret
   exact ⟨by first | rfl | (simp [errW_none, errW_some] <;> rfl) | (simp [*, errW_none, errW_some] <;> rfl), by repeat (first | (with_reducible first | exact HB.1 | apply zA | apply zN | apply z1 | refine zS ?_ GE232.1) | exact HB.1)⟩
 ·rw [if_neg c2] at H
  have c2b0 : (a0_2 == 0) = false := beq_eq_false_iff_ne.mpr c2
  have c2b1 : (a0_2 != 0) = true := bne_iff_ne.mpr c2
  by_cases c13 : 2 + 8 ≤ 9223372036854775807
  case neg =>
   rw [if_neg c13] at H
   exact absurd H (by simp)
  rw [if_pos c13] at H
  have c13b0 := eq_true c13
  have c13b1 := decide_eq_true c13
  try have c13b2 := eq_false (Nat.not_lt.2 c13)
  replace H := Option.bind_eq_some_iff.mp H
  obtain ⟨t234, A140, H⟩ := H
  have A14 := zM A140
  clear A140
  by_cases c15 : ((⟨#[111, 107]⟩ : ByteArray) ++ (⟨#[44, 32, 99, 111, 117, 110, 116, 32]⟩ : ByteArray)).size + t234.size ≤ 9223372036854775807
  case neg =>
   rw [if_neg c15] at H
   exact absurd H (by simp)
  rw [if_pos c15] at H
  have c15b0 := eq_true c15
  have c15b1 := decide_eq_true c15
  try have c15b2 := eq_false (Nat.not_lt.2 c15)
  try (have c15b3 := c15b2; simp only [ByteArray.size_append, size_lit, List.size_toArray, List.length_cons, List.length_nil, Nat.zero_add] at c15b3)
  by_cases c16 : a0_3 = 0
  ·rw [if_pos c16] at H
   have c16b0 : (a0_3 == 0) = true := beq_iff_eq.mpr c16
   have c16b1 : (a0_3 != 0) = false := bne_eq_false_iff_eq.mpr c16
   clear c16
   by_cases c17 : (((⟨#[111, 107]⟩ : ByteArray) ++ (⟨#[44, 32, 99, 111, 117, 110, 116, 32]⟩ : ByteArray)) ++ t234).size + 1 ≤ 9223372036854775807
   case neg =>
    rw [if_neg c17] at H
    exact absurd H (by simp)
   rw [if_pos c17] at H
   have c17b0 := eq_true c17
   have c17b1 := decide_eq_true c17
   try have c17b2 := eq_false (Nat.not_lt.2 c17)
   try (have c17b3 := c17b2; simp only [ByteArray.size_append, size_lit, List.size_toArray, List.length_cons, List.length_nil, Nat.zero_add] at c17b3)
   obtain rfl := Option.some.inj H
   go_enter Tryz.func31, Tryz.ntmps31
   go_wp2_with (first | ((with_reducible refine gate_dst (N := 1) rfl ?_); refine box_event ?hg (N := 1) ?hd (cs := #[.slice A0_0 l0_0.length c0_0, .slice A0_1 l0_1.length c0_1, .int .i64 a0_2, .int .i64 a0_3]) (t := 25) ?hr ?_; (case hd => rfl); (case hg => rfl); (case hr => first | (go_simp; done) | (go_simp; rfl)); intro gb232 hg w18 hbox hb; have n0_ := zM (zT (by repeat (first | (with_reducible first | exact HB.1 | apply zA | apply zN | apply z1) | exact HB.1)) hb); have n1_ := zM (hbox); have n2_ := zM ((by rw [hg]; exact (zZ (by repeat (first | (with_reducible first | exact HB.1 | apply zA | apply zN | apply z1) | exact HB.1))) : w.heap.size ≤ gb232)); have n3_ := n2_; clear HB; have HB := n0_; have BK232 := n1_; have GW232 := n2_; have GE232 := n3_; clear n0_ n1_ n2_ n3_; clear hb hbox hg; have hcz19_0 : w18.cell? ⟨gb232, 0, none⟩ = some (.slice A0_0 l0_0.length c0_0) := (kC BK232.1 0).trans rfl; have hcz19_1 : w18.cell? ⟨gb232, 1, none⟩ = some (.slice A0_1 l0_1.length c0_1) := (kC BK232.1 1).trans rfl; have hcz19_2 : w18.cell? ⟨gb232, 2, none⟩ = some (.int .i64 a0_2) := (kC BK232.1 2).trans rfl; have hcz19_3 : w18.cell? ⟨gb232, 3, none⟩ = some (.int .i64 a0_3) := (kC BK232.1 3).trans rfl; have hfz19_0 := kF BK232.1 0; have hfz19_1 := kF BK232.1 1; have hfz19_2 := kF BK232.1 2; have hfz19_3 := kF BK232.1 3) | ((with_reducible refine gate_callee (f := 36) rfl ?_); refine goesL_ (some 11) rfl rfl Tryz.func36 (by kernel_rfl) rfl #[.int .i64 a0_2] rfl (by (try simp only [List.map_toArray, List.map_cons, List.map_nil]); first | done | rfl | (simp only [List.length_drop, List.length_take]; rfl)) ?_; (with_reducible refine (bitemporalref07_Number.calls k a0_2 t234 _ A14.out ?gw_).mono ?_); (case gw_ => first | exact HG.1 | (refine GW.below HG.1 ?_; repeat (first | (with_reducible first | exact HB.1 | apply zA | apply zN | apply z1 | refine zS ?_ GE232.1) | exact HB.1))); rintro e w' ⟨rfl, ⟨nd, rfl⟩⟩; refine ⟨_, rfl, ?_⟩))
   go_ret
   exact ⟨by first | rfl | (simp [errW_none, errW_some] <;> rfl) | (simp [*, errW_none, errW_some] <;> rfl), by repeat (first | (with_reducible first | exact HB.1 | apply zA | apply zN | apply z1 | refine zS ?_ GE232.1) | exact HB.1)⟩
  ·rw [if_neg c16] at H
   have c16b0 : (a0_3 == 0) = false := beq_eq_false_iff_ne.mpr c16
   have c16b1 : (a0_3 != 0) = true := bne_iff_ne.mpr c16
   by_cases c20 : (((⟨#[111, 107]⟩ : ByteArray) ++ (⟨#[44, 32, 99, 111, 117, 110, 116, 32]⟩ : ByteArray)) ++ t234).size + 7 ≤ 9223372036854775807
   case neg =>
    rw [if_neg c20] at H
    exact absurd H (by simp)
   rw [if_pos c20] at H
   have c20b0 := eq_true c20
   have c20b1 := decide_eq_true c20
   try have c20b2 := eq_false (Nat.not_lt.2 c20)
   try (have c20b3 := c20b2; simp only [ByteArray.size_append, size_lit, List.size_toArray, List.length_cons, List.length_nil, Nat.zero_add] at c20b3)
   replace H := Option.bind_eq_some_iff.mp H
   obtain ⟨t235, A210, H⟩ := H
   have A21 := zM A210
   clear A210
   by_cases c22 : ((((⟨#[111, 107]⟩ : ByteArray) ++ (⟨#[44, 32, 99, 111, 117, 110, 116, 32]⟩ : ByteArray)) ++ t234) ++ (⟨#[44, 32, 116, 105, 109, 101, 32]⟩ : ByteArray)).size + t235.size ≤ 9223372036854775807
   case neg =>
    rw [if_neg c22] at H
    exact absurd H (by simp)
   rw [if_pos c22] at H
   have c22b0 := eq_true c22
   have c22b1 := decide_eq_true c22
   try have c22b2 := eq_false (Nat.not_lt.2 c22)
   try (have c22b3 := c22b2; simp only [ByteArray.size_append, size_lit, List.size_toArray, List.length_cons, List.length_nil, Nat.zero_add] at c22b3)
   by_cases c23 : (((((⟨#[111, 107]⟩ : ByteArray) ++ (⟨#[44, 32, 99, 111, 117, 110, 116, 32]⟩ : ByteArray)) ++ t234) ++ (⟨#[44, 32, 116, 105, 109, 101, 32]⟩ : ByteArray)) ++ t235).size + 1 ≤ 9223372036854775807
   case neg =>
    rw [if_neg c23] at H
    exact absurd H (by simp)
   rw [if_pos c23] at H
   have c23b0 := eq_true c23
   have c23b1 := decide_eq_true c23
   try have c23b2 := eq_false (Nat.not_lt.2 c23)
   try (have c23b3 := c23b2; simp only [ByteArray.size_append, size_lit, List.size_toArray, List.length_cons, List.length_nil, Nat.zero_add] at c23b3)
   obtain rfl := Option.some.inj H
   go_enter Tryz.func31, Tryz.ntmps31
   go_wp2_with (first | ((with_reducible refine gate_dst (N := 1) rfl ?_); refine box_event ?hg (N := 1) ?hd (cs := #[.slice A0_0 l0_0.length c0_0, .slice A0_1 l0_1.length c0_1, .int .i64 a0_2, .int .i64 a0_3]) (t := 25) ?hr ?_; (case hd => rfl); (case hg => rfl); (case hr => first | (go_simp; done) | (go_simp; rfl)); intro gb232 hg w24 hbox hb; have n0_ := zM (zT (by repeat (first | (with_reducible first | exact HB.1 | apply zA | apply zN | apply z1) | exact HB.1)) hb); have n1_ := zM (hbox); have n2_ := zM ((by rw [hg]; exact (zZ (by repeat (first | (with_reducible first | exact HB.1 | apply zA | apply zN | apply z1) | exact HB.1))) : w.heap.size ≤ gb232)); have n3_ := n2_; clear HB; have HB := n0_; have BK232 := n1_; have GW232 := n2_; have GE232 := n3_; clear n0_ n1_ n2_ n3_; clear hb hbox hg; have hcz25_0 : w24.cell? ⟨gb232, 0, none⟩ = some (.slice A0_0 l0_0.length c0_0) := (kC BK232.1 0).trans rfl; have hcz25_1 : w24.cell? ⟨gb232, 1, none⟩ = some (.slice A0_1 l0_1.length c0_1) := (kC BK232.1 1).trans rfl; have hcz25_2 : w24.cell? ⟨gb232, 2, none⟩ = some (.int .i64 a0_2) := (kC BK232.1 2).trans rfl; have hcz25_3 : w24.cell? ⟨gb232, 3, none⟩ = some (.int .i64 a0_3) := (kC BK232.1 3).trans rfl; have hfz25_0 := kF BK232.1 0; have hfz25_1 := kF BK232.1 1; have hfz25_2 := kF BK232.1 2; have hfz25_3 := kF BK232.1 3) | ((with_reducible refine gate_callee (f := 36) rfl ?_); refine goesL_ (some 11) rfl rfl Tryz.func36 (by kernel_rfl) rfl #[.int .i64 a0_2] rfl (by (try simp only [List.map_toArray, List.map_cons, List.map_nil]); first | done | rfl | (simp only [List.length_drop, List.length_take]; rfl)) ?_; (with_reducible refine (bitemporalref07_Number.calls k a0_2 t234 _ A14.out ?gw_).mono ?_); (case gw_ => first | exact HG.1 | (refine GW.below HG.1 ?_; repeat (first | (with_reducible first | exact HB.1 | apply zA | apply zN | apply z1 | refine zS ?_ GE232.1) | exact HB.1))); rintro e w' ⟨rfl, ⟨nd, rfl⟩⟩; refine ⟨_, rfl, ?_⟩) | ((with_reducible refine gate_callee (f := 36) rfl ?_); refine goesL_ (some 20) rfl rfl Tryz.func36 (by kernel_rfl) rfl #[.int .i64 a0_3] rfl (by (try simp only [List.map_toArray, List.map_cons, List.map_nil]); first | done | rfl | (simp only [List.length_drop, List.length_take]; rfl)) ?_; (with_reducible refine (bitemporalref07_Number.calls k a0_3 t235 _ A21.out ?gw_).mono ?_); (case gw_ => first | exact HG.1 | (refine GW.below HG.1 ?_; repeat (first | (with_reducible first | exact HB.1 | apply zA | apply zN | apply z1 | refine zS ?_ GE232.1) | exact HB.1))); rintro e w' ⟨rfl, ⟨nd, rfl⟩⟩; refine ⟨_, rfl, ?_⟩))
   go_ret
   exact ⟨by first | rfl | (simp [errW_none, errW_some] <;> rfl) | (simp [*, errW_none, errW_some] <;> rfl), by repeat (first | (with_reducible first | exact HB.1 | apply zA | apply zN | apply z1 | refine zS ?_ GE232.1) | exact HB.1)⟩

/-! ### bitemporalref55_Result: function 12 -/
mutual
def bitemporalref55_Result.l0 : Nat → Bool → Int → List (S49) → List (S45) → Int → Int → Option (ByteArray)
  | 0, _, _, _, _, _, _ => none
  | k + 1, x3, x4, x298000, x298001, x298002, x298003 => if x4 < (x298001.length : Int) then (if x3 = true then (bitemporalref55_Result.l0 k true (wrap64 (x4 + 1)) x298000 x298001 x298002 x298003) else (if 0 ≤ x4 then (bitemporalref55_Result.l0 k (!(((rd_T45 x298001 x4).f1.f0) == 0) || (!(((rd_T45 x298001 x4).f1.f1) == 0))) (wrap64 (x4 + 1)) x298000 x298001 x298002 x298003) else (none))) else ((bitemporalref55_names.f k x298000).bind fun t300 => (if x3 = true then (if t300.length < 8796093022208 then (bitemporalref55_Result.j1 k x3 (t300 ++ [(⟨#[118, 97, 108, 105, 100]⟩ : ByteArray)]) x298000 x298001 x298002 x298003) else (none)) else (bitemporalref55_Result.j1 k x3 t300 x298000 x298001 x298002 x298003)))
def bitemporalref55_Result.j1 : Nat → Bool → List ByteArray → List (S49) → List (S45) → Int → Int → Option (ByteArray)
  | 0, _, _, _, _, _, _ => none
  | k + 1, x3, x5, x298000, x298001, x298002, x298003 => bitemporalref55_Result.l1 k x3 x5 (([] : List (List ByteArray))) 0 x298000 x298001 x298002 x298003
def bitemporalref55_Result.l1 : Nat → Bool → List ByteArray → List (List ByteArray) → Int → List (S49) → List (S45) → Int → Int → Option (ByteArray)
  | 0, _, _, _, _, _, _, _, _ => none
  | k + 1, x3, x5, x6, x7, x298000, x298001, x298002, x298003 => if x7 < (x298001.length : Int) then (if 0 ≤ x7 then ((bitemporalref55_cells.f k ((rd_T45 x298001 x7).f0) (x298000.length : Int)).bind fun t310 => (if x3 = true then ((bitemporalref01_Text.f k ((rd_T45 x298001 x7).f1.f0) ((rd_T45 x298001 x7).f1.f1)).bind fun t314 => (if t310.length < 8796093022208 then (if x6.length < 5864062014805 then (bitemporalref55_Result.l1 k x3 x5 (x6 ++ [(t310 ++ [t314])]) (wrap64 (x7 + 1)) x298000 x298001 x298002 x298003) else (none)) else (none))) else (if x6.length < 5864062014805 then (bitemporalref55_Result.l1 k x3 x5 (x6 ++ [t310]) (wrap64 (x7 + 1)) x298000 x298001 x298002 x298003) else (none)))) else (none)) else (if (x6.length : Int) = 1 then ((bitemporalref55_table.f k x5 x6).bind fun t324 => ((bitemporalref07_Number.f k (x6.length : Int)).bind fun t325 => (if t324.size + t325.size ≤ 9223372036854775807 then (if (t324 ++ t325).size + 5 ≤ 9223372036854775807 then (some ((t324 ++ t325) ++ (⟨#[32, 114, 111, 119, 10]⟩ : ByteArray))) else (none)) else (none)))) else ((bitemporalref55_table.f k x5 x6).bind fun t326 => ((bitemporalref07_Number.f k (x6.length : Int)).bind fun t327 => (if t326.size + t327.size ≤ 9223372036854775807 then (if (t326 ++ t327).size + 6 ≤ 9223372036854775807 then (some ((t326 ++ t327) ++ (⟨#[32, 114, 111, 119, 115, 10]⟩ : ByteArray))) else (none)) else (none)))))
end
def bitemporalref55_Result.f (k : Nat) (l0_0 : List (S49)) (l0_1 : List (S45)) (a0_2 : Int) (a0_3 : Int) : Option (ByteArray) := if (l0_0.length : Int) = 0 then ((bitemporalref55_done.f k l0_0 l0_1 a0_2 a0_3).bind fun t298 => (some t298)) else (bitemporalref55_Result.l0 k false 0 l0_0 l0_1 a0_2 a0_3)
theorem bitemporalref55_Result.mono_l : ∀ k, (∀ y0 y1 y2 y3 y4 y5, LeO (bitemporalref55_Result.l0 k y0 y1 y2 y3 y4 y5) (bitemporalref55_Result.l0 (k + 1) y0 y1 y2 y3 y4 y5)) ∧ (∀ y0 y1 y2 y3 y4 y5, LeO (bitemporalref55_Result.j1 k y0 y1 y2 y3 y4 y5) (bitemporalref55_Result.j1 (k + 1) y0 y1 y2 y3 y4 y5)) ∧ (∀ y0 y1 y2 y3 y4 y5 y6 y7, LeO (bitemporalref55_Result.l1 k y0 y1 y2 y3 y4 y5 y6 y7) (bitemporalref55_Result.l1 (k + 1) y0 y1 y2 y3 y4 y5 y6 y7))
  | 0 => ⟨fun _ _ _ _ _ _ r h => by simp [bitemporalref55_Result.l0] at h, fun _ _ _ _ _ _ r h => by simp [bitemporalref55_Result.j1] at h, fun _ _ _ _ _ _ _ _ r h => by simp [bitemporalref55_Result.l1] at h⟩
  | k + 1 => by
    obtain ⟨ih0, ih1, ih2⟩ := bitemporalref55_Result.mono_l k
    refine ⟨?_, ?_, ?_⟩
    · intro y0 y1 y2 y3 y4 y5
      unfold bitemporalref55_Result.l0
      repeat' first
      | (with_reducible exact ih0 _ _ _ _ _ _)
      | (with_reducible exact ih1 _ _ _ _ _ _)
      | (with_reducible exact ih2 _ _ _ _ _ _ _ _)
      | (with_reducible exact bitemporalref01_Text.mono _ _ _)
      | (with_reducible exact bitemporalref07_Number.mono _ _)
      | (with_reducible exact bitemporalref55_cells.mono _ _ _)
      | (with_reducible exact bitemporalref55_done.mono _ _ _ _ _)
      | (with_reducible exact bitemporalref55_names.mono _ _)
      | (with_reducible exact bitemporalref55_table.mono _ _ _)
      | (with_reducible exact LeO.refl _)
      | (with_reducible exact LeO.none _)
      | (with_reducible refine LeO.ite ?_ ?_)
      | (with_reducible refine LeO.bind ?_ (fun _ => ?_))
      | exact ih0 _ _ _ _ _ _
      | exact ih1 _ _ _ _ _ _
      | exact ih2 _ _ _ _ _ _ _ _
      | exact bitemporalref01_Text.mono _ _ _
      | exact bitemporalref07_Number.mono _ _
      | exact bitemporalref55_cells.mono _ _ _
      | exact bitemporalref55_done.mono _ _ _ _ _
      | exact bitemporalref55_names.mono _ _
      | exact bitemporalref55_table.mono _ _ _
      | exact LeO.none _
      | refine LeO.ite ?_ ?_
      | refine LeO.bind ?_ (fun _ => ?_)
    · intro y0 y1 y2 y3 y4 y5
      unfold bitemporalref55_Result.j1
      repeat' first
      | (with_reducible exact ih0 _ _ _ _ _ _)
      | (with_reducible exact ih1 _ _ _ _ _ _)
      | (with_reducible exact ih2 _ _ _ _ _ _ _ _)
      | (with_reducible exact bitemporalref01_Text.mono _ _ _)
      | (with_reducible exact bitemporalref07_Number.mono _ _)
      | (with_reducible exact bitemporalref55_cells.mono _ _ _)
      | (with_reducible exact bitemporalref55_done.mono _ _ _ _ _)
      | (with_reducible exact bitemporalref55_names.mono _ _)
      | (with_reducible exact bitemporalref55_table.mono _ _ _)
      | (with_reducible exact LeO.refl _)
      | (with_reducible exact LeO.none _)
      | (with_reducible refine LeO.ite ?_ ?_)
      | (with_reducible refine LeO.bind ?_ (fun _ => ?_))
      | exact ih0 _ _ _ _ _ _
      | exact ih1 _ _ _ _ _ _
      | exact ih2 _ _ _ _ _ _ _ _
      | exact bitemporalref01_Text.mono _ _ _
      | exact bitemporalref07_Number.mono _ _
      | exact bitemporalref55_cells.mono _ _ _
      | exact bitemporalref55_done.mono _ _ _ _ _
      | exact bitemporalref55_names.mono _ _
      | exact bitemporalref55_table.mono _ _ _
      | exact LeO.none _
      | refine LeO.ite ?_ ?_
      | refine LeO.bind ?_ (fun _ => ?_)
    · intro y0 y1 y2 y3 y4 y5 y6 y7
      unfold bitemporalref55_Result.l1
      repeat' first
      | (with_reducible exact ih0 _ _ _ _ _ _)
      | (with_reducible exact ih1 _ _ _ _ _ _)
      | (with_reducible exact ih2 _ _ _ _ _ _ _ _)
      | (with_reducible exact bitemporalref01_Text.mono _ _ _)
      | (with_reducible exact bitemporalref07_Number.mono _ _)
      | (with_reducible exact bitemporalref55_cells.mono _ _ _)
      | (with_reducible exact bitemporalref55_done.mono _ _ _ _ _)
      | (with_reducible exact bitemporalref55_names.mono _ _)
      | (with_reducible exact bitemporalref55_table.mono _ _ _)
      | (with_reducible exact LeO.refl _)
      | (with_reducible exact LeO.none _)
      | (with_reducible refine LeO.ite ?_ ?_)
      | (with_reducible refine LeO.bind ?_ (fun _ => ?_))
      | exact ih0 _ _ _ _ _ _
      | exact ih1 _ _ _ _ _ _
      | exact ih2 _ _ _ _ _ _ _ _
      | exact bitemporalref01_Text.mono _ _ _
      | exact bitemporalref07_Number.mono _ _
      | exact bitemporalref55_cells.mono _ _ _
      | exact bitemporalref55_done.mono _ _ _ _ _
      | exact bitemporalref55_names.mono _ _
      | exact bitemporalref55_table.mono _ _ _
      | exact LeO.none _
      | refine LeO.ite ?_ ?_
      | refine LeO.bind ?_ (fun _ => ?_)
theorem bitemporalref55_Result.mono : ∀ a0 a1 a2 a3 k, LeO (bitemporalref55_Result.f k a0 a1 a2 a3) (bitemporalref55_Result.f (k + 1) a0 a1 a2 a3) := by
  intro a0 a1 a2 a3 k
  obtain ⟨ih0, ih1, ih2⟩ := bitemporalref55_Result.mono_l k
  unfold bitemporalref55_Result.f
  repeat' first
      | (with_reducible exact ih0 _ _ _ _ _ _)
      | (with_reducible exact ih1 _ _ _ _ _ _)
      | (with_reducible exact ih2 _ _ _ _ _ _ _ _)
      | (with_reducible exact bitemporalref01_Text.mono _ _ _)
      | (with_reducible exact bitemporalref07_Number.mono _ _)
      | (with_reducible exact bitemporalref55_cells.mono _ _ _)
      | (with_reducible exact bitemporalref55_done.mono _ _ _ _ _)
      | (with_reducible exact bitemporalref55_names.mono _ _)
      | (with_reducible exact bitemporalref55_table.mono _ _ _)
      | (with_reducible exact LeO.refl _)
      | (with_reducible exact LeO.none _)
      | (with_reducible refine LeO.ite ?_ ?_)
      | (with_reducible refine LeO.bind ?_ (fun _ => ?_))
      | exact ih0 _ _ _ _ _ _
      | exact ih1 _ _ _ _ _ _
      | exact ih2 _ _ _ _ _ _ _ _
      | exact bitemporalref01_Text.mono _ _ _
      | exact bitemporalref07_Number.mono _ _
      | exact bitemporalref55_cells.mono _ _ _
      | exact bitemporalref55_done.mono _ _ _ _ _
      | exact bitemporalref55_names.mono _ _
      | exact bitemporalref55_table.mono _ _ _
      | exact LeO.none _
      | refine LeO.ite ?_ ?_
      | refine LeO.bind ?_ (fun _ => ?_)
def bitemporalref55_Result.T15 : Bool × List (List Nat × List Nat) := (true, [([], []), ([0], [0]), ([], []), ([1, 2], [1, 2]), ([3], [3]), ([4], [4]), ([], []), ([6], [6]), ([7], [7]), ([5, 8], [5, 8]), ([9, 9, 0, 1, 2, 3, 4, 5, 6, 7, 8, 9], [9])])
def bitemporalref55_Result.B15 : List Nat := [0, 1, 0, 7, 15, 31, 0, 64, 192, 511, 1023]
theorem bitemporalref55_Result.tab15 : rtab .any (opsOf Tryz.f12 15) = bitemporalref55_Result.T15 := by kernel_rfl
theorem bitemporalref55_Result.bits15 : waitsOk bitemporalref55_Result.T15.2 bitemporalref55_Result.B15 = true := by kernel_rfl
set_option maxHeartbeats 8000000 in
set_option maxRecDepth 100000 in
theorem bitemporalref55_Result.calls (k : Nat) (A0_0 : Option Addr) (c0_0 : Nat) (l0_0 : List (S49)) (A0_1 : Option Addr) (c0_1 : Nat) (l0_1 : List (S45)) (a0_2 : Int) (a0_3 : Int) (r : ByteArray) (w : World) (hr0_0 : Kd.C k49 w A0_0 l0_0.length l0_0) (hc0_0 : l0_0.length ≤ c0_0) (hr0_1 : Kd.C k45 w A0_1 l0_1.length l0_1) (hc0_1 : l0_1.length ≤ c0_1) (h : bitemporalref55_Result.f k l0_0 l0_1 a0_2 a0_3 = some r) (hG : GW w) :
  Calls Tryz.prog 12 #[.agg #[.slice A0_0 l0_0.length c0_0, .slice A0_1 l0_1.length c0_1, .int .i64 a0_2, .int .i64 a0_3]] w fun e w' => e = .returned (.string r) ∧ Below w.heap.size w w' := by
 have HG := zM hG
 clear hG
 have hu25 := Tryz.underlying25
 have hu33 := Tryz.underlying33
 have HR0_0 := zM hr0_0
 have HC0_0 := zM hc0_0
 clear hr0_0 hc0_0
 have HR0_1 := zM hr0_1
 have HC0_1 := zM hc0_1
 clear hr0_1 hc0_1
 have HB := zM (Below.refl w.heap.size w)
 have H : (if (l0_0.length : Int) = 0 then ((bitemporalref55_done.f k l0_0 l0_1 a0_2 a0_3).bind fun t298 => (some t298)) else (bitemporalref55_Result.l0 k false 0 l0_0 l0_1 a0_2 a0_3)) = some r := h
 clear h
 by_cases c2 : (l0_0.length : Int) = 0
 ·rw [if_pos c2] at H
  have c2b0 : ((l0_0.length : Int) == 0) = true := beq_iff_eq.mpr c2
  have c2b1 : ((l0_0.length : Int) != 0) = false := bne_eq_false_iff_eq.mpr c2
  clear c2
  replace H := Option.bind_eq_some_iff.mp H
  obtain ⟨t298, A30, H⟩ := H
  have A3 := zM A30
  clear A30
  obtain rfl := Option.some.inj H
  go_enter Tryz.func12, Tryz.ntmps12
  go_wp2_with (first | ((with_reducible refine gate_dst (N := 1) rfl ?_); refine box_event ?hg (N := 1) ?hd (cs := #[.slice A0_0 l0_0.length c0_0, .slice A0_1 l0_1.length c0_1, .int .i64 a0_2, .int .i64 a0_3]) (t := 25) ?hr ?_; (case hd => rfl); (case hg => rfl); (case hr => first | (go_simp; done) | (go_simp; rfl)); intro gb297 hg w4 hbox hb; have n0_ := zM (zT (by repeat (first | (with_reducible first | exact HB.1 | apply zA | apply zN | apply z1) | exact HB.1)) hb); have n1_ := zM (hbox); have n2_ := zM ((by rw [hg]; exact (zZ (by repeat (first | (with_reducible first | exact HB.1 | apply zA | apply zN | apply z1) | exact HB.1))) : w.heap.size ≤ gb297)); have n3_ := n2_; clear HB; have HB := n0_; have BK297 := n1_; have GW297 := n2_; have GE297 := n3_; clear n0_ n1_ n2_ n3_; clear hb hbox hg; have hcz5_0 : w4.cell? ⟨gb297, 0, none⟩ = some (.slice A0_0 l0_0.length c0_0) := (kC BK297.1 0).trans rfl; have hcz5_1 : w4.cell? ⟨gb297, 1, none⟩ = some (.slice A0_1 l0_1.length c0_1) := (kC BK297.1 1).trans rfl; have hcz5_2 : w4.cell? ⟨gb297, 2, none⟩ = some (.int .i64 a0_2) := (kC BK297.1 2).trans rfl; have hcz5_3 : w4.cell? ⟨gb297, 3, none⟩ = some (.int .i64 a0_3) := (kC BK297.1 3).trans rfl; have hfz5_0 := kF BK297.1 0; have hfz5_1 := kF BK297.1 1; have hfz5_2 := kF BK297.1 2; have hfz5_3 := kF BK297.1 3) | ((with_reducible refine gate_callee (f := 31) rfl ?_); refine goesL_ (some 15) rfl rfl Tryz.func31 (by kernel_rfl) rfl #[.agg #[.slice A0_0 l0_0.length c0_0, .slice A0_1 l0_1.length c0_1, .int .i64 a0_2, .int .i64 a0_3]] rfl (by (try simp only [List.map_toArray, List.map_cons, List.map_nil]); first | done | rfl | (simp only [List.length_drop, List.length_take]; rfl)) ?_; (with_reducible refine (bitemporalref55_done.calls k _ _ l0_0 _ _ l0_1 a0_2 a0_3 t298 _ ?side1 ?side2 ?side3 ?side4 A3.out ?gw_).mono ?_); (case gw_ => first | exact HG.1 | (refine GW.below HG.1 ?_; repeat (first | (with_reducible first | exact HB.1 | apply zA | apply zN | apply z1 | refine zS ?_ GE297.1) | exact HB.1))); (case side1 => repeat (first | exact (Kd.C_below HR0_0.out HB.1) | (with_reducible refine Kd.C_alloc ?_ _) | (with_reducible refine Kd.C_drewN ?_ _) | (with_reducible refine Kd.C_drew ?_))); (case side2 => exact HC0_0.out); (case side3 => repeat (first | exact (Kd.C_below HR0_1.out HB.1) | (with_reducible refine Kd.C_alloc ?_ _) | (with_reducible refine Kd.C_drewN ?_ _) | (with_reducible refine Kd.C_drew ?_))); (case side4 => exact HC0_1.out); rintro e w6 ⟨rfl, hb⟩; refine ⟨_, rfl, ?_⟩; have n0_ := zM (kB (g := gb297) (o := .cells #[.slice A0_0 l0_0.length c0_0, .slice A0_1 l0_1.length c0_1, .int .i64 a0_2, .int .i64 a0_3] 25 (0, 0)) (by (with_reducible repeat (first | refine kN ?_ _ | refine kD ?_ | refine kA ?_ _)); exact BK297.1) hb); have n1_ := zM (zT (by repeat (first | (with_reducible first | exact HB.1 | apply zA | apply zN | apply z1 | refine zS ?_ GE297.1) | exact HB.1)) hb); clear BK297; clear HB; have BK297 := n0_; have HB := n1_; clear n0_ n1_; (try clear hb); (try clear hb2); (try clear hk); (try clear hi)))
  go_ret
  exact ⟨by first | rfl | (simp [errW_none, errW_some] <;> rfl) | (simp [*, errW_none, errW_some] <;> rfl), by repeat (first | (with_reducible first | exact HB.1 | apply zA | apply zN | apply z1 | refine zS ?_ GE297.1) | exact HB.1)⟩
 ·rw [if_neg c2] at H
  have c2b0 : ((l0_0.length : Int) == 0) = false := beq_eq_false_iff_ne.mpr c2
  have c2b1 : ((l0_0.length : Int) != 0) = true := bne_iff_ne.mpr c2
  have c2b2 : ¬ (l0_0 = []) := fun h_ => c2 (by rw [h_]; rfl)
  have H' := zM H
  clear H
  go_enter Tryz.func12, Tryz.ntmps12
  go_wp2_with (first | ((with_reducible refine gate_dst (N := 1) rfl ?_); refine box_event ?hg (N := 1) ?hd (cs := #[.slice A0_0 l0_0.length c0_0, .slice A0_1 l0_1.length c0_1, .int .i64 a0_2, .int .i64 a0_3]) (t := 25) ?hr ?_; (case hd => rfl); (case hg => rfl); (case hr => first | (go_simp; done) | (go_simp; rfl)); intro gb297 hg w7 hbox hb; have n0_ := zM (zT (by repeat (first | (with_reducible first | exact HB.1 | apply zA | apply zN | apply z1) | exact HB.1)) hb); have n1_ := zM (hbox); have n2_ := zM ((by rw [hg]; exact (zZ (by repeat (first | (with_reducible first | exact HB.1 | apply zA | apply zN | apply z1) | exact HB.1))) : w.heap.size ≤ gb297)); have n3_ := n2_; clear HB; have HB := n0_; have BK297 := n1_; have GW297 := n2_; have GE297 := n3_; clear n0_ n1_ n2_ n3_; clear hb hbox hg; have hcz8_0 : w7.cell? ⟨gb297, 0, none⟩ = some (.slice A0_0 l0_0.length c0_0) := (kC BK297.1 0).trans rfl; have hcz8_1 : w7.cell? ⟨gb297, 1, none⟩ = some (.slice A0_1 l0_1.length c0_1) := (kC BK297.1 1).trans rfl; have hcz8_2 : w7.cell? ⟨gb297, 2, none⟩ = some (.int .i64 a0_2) := (kC BK297.1 2).trans rfl; have hcz8_3 : w7.cell? ⟨gb297, 3, none⟩ = some (.int .i64 a0_3) := (kC BK297.1 3).trans rfl; have hfz8_0 := kF BK297.1 0; have hfz8_1 := kF BK297.1 1; have hfz8_2 := kF BK297.1 2; have hfz8_3 := kF BK297.1 3))
  go_loopg [3, 4] k (fun kq v3 v4 w' => ∃ (x3_1 : Bool) (x4_1 : Int), v3 = .bool x3_1 ∧ v4 = .int .i64 x4_1 ∧ Aside0 (bitemporalref55_Result.l0 kq x3_1 x4_1 l0_0 l0_1 a0_2 a0_3 = some r) ∧ Aside0 (kq ≤ k) ∧ Aside0 (w'.heap[gb297]? = some (.cells #[(.slice A0_0 l0_0.length c0_0), (.slice A0_1 l0_1.length c0_1), .int .i64 a0_2, .int .i64 a0_3] 25 (0, 0))) ∧ Aside0 (Below w.heap.size w w'))
  case atStart => exact ⟨(false), (0), (by first | rfl | (simp; done) | (simp [*]; done)), (by first | rfl | (simp; done) | (simp [*]; done)), H', ⟨Nat.le_refl _⟩, ⟨by (with_reducible repeat (first | refine kN ?_ _ | refine kD ?_ | refine kA ?_ _)); exact BK297.1⟩, ⟨by repeat (first | (with_reducible first | exact HB.1 | apply zA | apply zN | apply z1 | refine zS ?_ GE297.1) | exact HB.1)⟩⟩
  case round =>
   clear H'
   try clear c1
   try clear c2
   try clear c2b0
   try clear c2b1
   try clear c2b2
   try clear p2
   try clear c3
   try clear hcz5_0
   try clear hcz5_1
   try clear hcz5_2
   try clear hcz5_3
   try clear hcz8_0
   try clear hcz8_1
   try clear hcz8_2
   try clear hcz8_3
   try clear hfz5_0
   try clear hfz5_1
   try clear hfz5_2
   try clear hfz5_3
   try clear hfz8_0
   try clear hfz8_1
   try clear hfz8_2
   try clear hfz8_3
   obtain ⟨x3_1, x4_1, rfl, rfl, HA, HK1, BK297, HB⟩ := hrel
   cases gk with
   | zero => exact absurd HA.out (by simp [bitemporalref55_Result.l0])
   | succ k1 =>
    have H := HA.out
    clear HA
    simp only [bitemporalref55_Result.l0] at H
    by_cases c9 : x4_1 < (l0_1.length : Int)
    ·rw [if_pos c9] at H
     have c9b0 : decide (x4_1 < (l0_1.length : Int)) = true := decide_eq_true c9
     clear c9
     by_cases c10 : x3_1 = true
     ·subst c10
      have H1 : (bitemporalref55_Result.l0 k1 true (wrap64 (x4_1 + 1)) l0_0 l0_1 a0_2 a0_3) = some r := by rw [if_pos rfl] at H; exact H
      clear H
      have H := H1
      clear H1
      have H' := zM H
      clear H
      have hcz11_0 : wr.cell? ⟨gb297, 0, none⟩ = some (.slice A0_0 l0_0.length c0_0) := (kC BK297.1 0).trans rfl
      have hcz11_1 : wr.cell? ⟨gb297, 1, none⟩ = some (.slice A0_1 l0_1.length c0_1) := (kC BK297.1 1).trans rfl
      have hcz11_2 : wr.cell? ⟨gb297, 2, none⟩ = some (.int .i64 a0_2) := (kC BK297.1 2).trans rfl
      have hcz11_3 : wr.cell? ⟨gb297, 3, none⟩ = some (.int .i64 a0_3) := (kC BK297.1 3).trans rfl
      have hfz11_0 := kF BK297.1 0
      have hfz11_1 := kF BK297.1 1
      have hfz11_2 := kF BK297.1 2
      have hfz11_3 := kF BK297.1 3
      go_wp2
      go_roundg k1
      case measure => have := HK1.out; omega
      case rel => exact ⟨(true), (wrap64 (x4_1 + 1)), (by first | rfl | (simp; done) | (simp [*]; done)), (by first | rfl | (simp; done) | (simp [*]; done)), H', ⟨by have := HK1.out; omega⟩, ⟨by (with_reducible repeat (first | refine kN ?_ _ | refine kD ?_ | refine kA ?_ _)); exact BK297.1⟩, ⟨by repeat (first | (with_reducible first | exact HB.1 | apply zA | apply zN | apply z1 | refine zS ?_ GE297.1) | exact HB.1)⟩⟩
     ·replace c10 := Bool.eq_false_iff.mpr c10
      subst c10
      have H1 : (if 0 ≤ x4_1 then (bitemporalref55_Result.l0 k1 (!(((rd_T45 l0_1 x4_1).f1.f0) == 0) || (!(((rd_T45 l0_1 x4_1).f1.f1) == 0))) (wrap64 (x4_1 + 1)) l0_0 l0_1 a0_2 a0_3) else (none)) = some r := by rw [if_neg (show ¬ (false = true) by decide)] at H; exact H
      clear H
      have H := H1
      clear H1
      by_cases c12 : 0 ≤ x4_1
      case neg =>
       rw [if_neg c12] at H
       exact absurd H (by simp)
      rw [if_pos c12] at H
      have c12b0 : decide (0 ≤ x4_1) = true := decide_eq_true c12
      clear c12
      have H' := zM H
      clear H
      have hcz13_0 : wr.cell? ⟨gb297, 0, none⟩ = some (.slice A0_0 l0_0.length c0_0) := (kC BK297.1 0).trans rfl
      have hcz13_1 : wr.cell? ⟨gb297, 1, none⟩ = some (.slice A0_1 l0_1.length c0_1) := (kC BK297.1 1).trans rfl
      have hcz13_2 : wr.cell? ⟨gb297, 2, none⟩ = some (.int .i64 a0_2) := (kC BK297.1 2).trans rfl
      have hcz13_3 : wr.cell? ⟨gb297, 3, none⟩ = some (.int .i64 a0_3) := (kC BK297.1 3).trans rfl
      have hfz13_0 := kF BK297.1 0
      have hfz13_1 := kF BK297.1 1
      have hfz13_2 := kF BK297.1 2
      have hfz13_3 := kF BK297.1 3
      have p299 : 0 ≤ (x4_1 : Int) := of_decide_eq_true (by first | (with_reducible assumption) | assumption)
      have q299 : x4_1 < (l0_1.length : Int) := of_decide_eq_true (by first | (with_reducible assumption) | assumption)
      obtain ⟨ad299, A299_0, c299_0, e299, hx299_0, hx299_1, hx299_2, hl299_0, hi299_0⟩ := at_T45 HR0_1.out x4_1 p299 q299
      cases e299
      replace hx299_0 := (HB.1.cell (World.block_lt_of_cell? w _ hx299_0)).trans hx299_0
      replace hx299_1 := (HB.1.cell (World.block_lt_of_cell? w _ hx299_1)).trans hx299_1
      replace hx299_2 := (HB.1.cell (World.block_lt_of_cell? w _ hx299_2)).trans hx299_2
      have HR299_0 := zM hi299_0
      have HC299_0 := zM hl299_0
      clear hi299_0 hl299_0
      replace p299 := eq_true p299
      replace q299 := eq_true q299
      go_wp2
      go_roundg k1
      case measure => have := HK1.out; omega
      case rel => exact ⟨((!(((rd_T45 l0_1 x4_1).f1.f0) == 0) || (!(((rd_T45 l0_1 x4_1).f1.f1) == 0)))), (wrap64 (x4_1 + 1)), (by first | rfl | (simp; done) | (simp [*]; done)), (by first | rfl | (simp; done) | (simp [*]; done)), H', ⟨by have := HK1.out; omega⟩, ⟨by (with_reducible repeat (first | refine kN ?_ _ | refine kD ?_ | refine kA ?_ _)); exact BK297.1⟩, ⟨by repeat (first | (with_reducible first | exact HB.1 | apply zA | apply zN | apply z1 | refine zS ?_ GE297.1) | exact HB.1)⟩⟩
    ·rw [if_neg c9] at H
     have c9b0 : decide (x4_1 < (l0_1.length : Int)) = false := decide_eq_false c9
     clear c9
     replace H := Option.bind_eq_some_iff.mp H
     obtain ⟨t300, A140, H⟩ := H
     have A14 := zM A140
     clear A140
     have HC15 := zM H
     clear H
     have hcz16_0 : wr.cell? ⟨gb297, 0, none⟩ = some (.slice A0_0 l0_0.length c0_0) := (kC BK297.1 0).trans rfl
     have hcz16_1 : wr.cell? ⟨gb297, 1, none⟩ = some (.slice A0_1 l0_1.length c0_1) := (kC BK297.1 1).trans rfl
     have hcz16_2 : wr.cell? ⟨gb297, 2, none⟩ = some (.int .i64 a0_2) := (kC BK297.1 2).trans rfl
     have hcz16_3 : wr.cell? ⟨gb297, 3, none⟩ = some (.int .i64 a0_3) := (kC BK297.1 3).trans rfl
     have hfz16_0 := kF BK297.1 0
     have hfz16_1 := kF BK297.1 1
     have hfz16_2 := kF BK297.1 2
     have hfz16_3 := kF BK297.1 3
     go_upto_if 37 with (first | ((with_reducible refine gate_callee (f := 32) rfl ?_); refine goesL_ (some 36) rfl rfl Tryz.func32 (by kernel_rfl) rfl #[.slice A0_0 l0_0.length c0_0] rfl (by (try simp only [List.map_toArray, List.map_cons, List.map_nil]); first | done | rfl | (simp only [List.length_drop, List.length_take]; rfl)) ?_; (with_reducible refine (bitemporalref55_names.calls k1 _ _ l0_0 t300 _ ?side1 ?side2 A14.out ?gw_).mono ?_); (case gw_ => first | exact HG.1 | (refine GW.below HG.1 ?_; repeat (first | (with_reducible first | exact HB.1 | apply zA | apply zN | apply z1 | refine zS ?_ GE297.1) | exact HB.1))); (case side1 => repeat (first | exact (Kd.C_below HR0_0.out HB.1) | (with_reducible refine Kd.C_alloc ?_ _) | (with_reducible refine Kd.C_drewN ?_ _) | (with_reducible refine Kd.C_drew ?_))); (case side2 => exact HC0_0.out); rintro e w17 ⟨v301, rfl, ho0, hb⟩; refine ⟨_, rfl, ?_⟩; have n0_ := zM (Kd.R_lower ho0 (zZ (by repeat (first | (with_reducible first | exact HB.1 | apply zA | apply zN | apply z1 | refine zS ?_ GE297.1) | exact HB.1)))); have n1_ := zM (kB (g := gb297) (o := .cells #[.slice A0_0 l0_0.length c0_0, .slice A0_1 l0_1.length c0_1, .int .i64 a0_2, .int .i64 a0_3] 25 (0, 0)) (by (with_reducible repeat (first | refine kN ?_ _ | refine kD ?_ | refine kA ?_ _)); exact BK297.1) hb); have n2_ := zM (zT (by repeat (first | (with_reducible first | exact HB.1 | apply zA | apply zN | apply z1 | refine zS ?_ GE297.1) | exact HB.1)) hb); clear BK297; clear HB; have HO302 := n0_; have BK297 := n1_; have HB := n2_; clear n0_ n1_ n2_; (try clear hb); (try clear hb2); (try clear hk); (try clear hi); (try clear ho0)))
     (try simp only [Act.put, List.setIfInBounds_toArray, List.set_cons_zero, List.set_cons_succ])
     go_cut [5] (fun v5 wc => ∃ (kq : Nat) (x5_14 : List ByteArray), Aside0 (bitemporalref55_Result.j1 kq x3_1 x5_14 l0_0 l0_1 a0_2 a0_3 = some r) ∧ Aside0 (kq ≤ k1) ∧ Aside0 (Kd.R Kd.string 9 wc w.heap.size (fun _ => True) v5 x5_14) ∧ Aside0 (wc.heap[gb297]? = some (.cells #[(.slice A0_0 l0_0.length c0_0), (.slice A0_1 l0_1.length c0_1), .int .i64 a0_2, .int .i64 a0_3] 25 (0, 0))) ∧ Aside0 (Below w.heap.size w wc))
     case first =>
      have H := HC15.out
      clear HC15
      by_cases c18 : x3_1 = true
      ·subst c18
       have H1 : (if t300.length < 8796093022208 then (bitemporalref55_Result.j1 k1 true (t300 ++ [(⟨#[118, 97, 108, 105, 100]⟩ : ByteArray)]) l0_0 l0_1 a0_2 a0_3) else (none)) = some r := by rw [if_pos rfl] at H; exact H
       clear H
       have H := H1
       clear H1
       by_cases c19 : t300.length < 8796093022208
       case neg =>
        rw [if_neg c19] at H
        exact absurd H (by simp)
       rw [if_pos c19] at H
       have LMc19 := zM c19
       clear c19
       obtain ⟨y303, hy303⟩ : ∃ y_ : List ByteArray, y_ = (t300 ++ [(⟨#[118, 97, 108, 105, 100]⟩ : ByteArray)]) := ⟨_, rfl⟩
       replace H : (bitemporalref55_Result.j1 k1 true y303 l0_0 l0_1 a0_2 a0_3) = some r := by first | (rw [hy303]; with_reducible exact H) | (have H2_ := (Option.bind_some _ _).symm.trans H; rw [hy303]; with_reducible exact H2_) | (have H2_ := (Option.bind_some _ _).symm.trans H; with_reducible exact H2_) | with_reducible exact H | (rw [hy303]; exact H) | exact H
       have Ny303 := zM hy303
       clear hy303
       have H' := zM H
       clear H
       go_wp2_with (first | ((with_reducible refine gate_builtin (b := .append) (xs := #[.tmp 38, .tmp 39]) rfl ?_); at_builtin; refine Kd.R_append Kd.string (w0 := w) w.heap.size rfl (.tmp 38) (.tmp 39) 59 9 (.string ⟨#[]⟩) 16 rfl Tryz.underlying59 info9 rfl (by decide) (by omega) v301 t300 (⟨#[118, 97, 108, 105, 100]⟩ : ByteArray) [.string (⟨#[118, 97, 108, 105, 100]⟩ : ByteArray)] (fun _ => True) (fun _ => False) rfl rfl ?aP (fun _ hk => hk.elim) ?aF ?aO ?aB ?aS ?aL ?_; (case aP => exact rfl); (case aB => exact (by repeat (first | (with_reducible first | exact HB.1 | apply zA | apply zN | apply z1 | refine zS ?_ GE297.1) | exact HB.1))); (case aF => exact (fun _ _ => trivial)); (case aO => exact (by (with_reducible repeat (first | apply Kd.R_alloc | apply Kd.R_drewN | apply Kd.R_drew)); exact HO302.out)); (case aS => exact (zZ (by repeat (first | (with_reducible first | exact HB.1 | apply zA | apply zN | apply z1 | refine zS ?_ GE297.1) | exact HB.1)))); (case aL => have := LMc19.out; omega); intro v304 w20 ho hb hg hat; rw [← Ny303.out] at ho; have n0_ := zM (blk_grown (g := gb297) (o := .cells #[.slice A0_0 l0_0.length c0_0, .slice A0_1 l0_1.length c0_1, .int .i64 a0_2, .int .i64 a0_3] 25 (0, 0)) (by (with_reducible repeat (first | refine kN ?_ _ | refine kD ?_ | refine kA ?_ _)); exact BK297.1) hg (Kd.R_ne HO302.out BK297.1 (by decide))); have n1_ := zM (hb); have n2_ := zM (ho); clear BK297; clear HB; clear HO302; have BK297 := n0_; have HB := n1_; have HO305 := n2_; clear n0_ n1_ n2_; clear ho hb hg hat))
       go_meet
       case rel => exact ⟨_, (y303), H', ⟨by have := HK1.out; first | omega | exact Nat.le_refl _⟩, ⟨by (with_reducible repeat (first | apply Kd.R_alloc | apply Kd.R_drewN | apply Kd.R_drew)); exact HO305.out⟩, ⟨by (with_reducible repeat (first | refine kN ?_ _ | refine kD ?_ | refine kA ?_ _)); exact BK297.1⟩, ⟨by repeat (first | (with_reducible first | exact HB.1 | apply zA | apply zN | apply z1 | refine zS ?_ GE297.1) | exact HB.1)⟩⟩
      ·replace c18 := Bool.eq_false_iff.mpr c18
       subst c18
       have H1 : (bitemporalref55_Result.j1 k1 false t300 l0_0 l0_1 a0_2 a0_3) = some r := by rw [if_neg (show ¬ (false = true) by decide)] at H; exact H
       clear H
       have H := H1
       clear H1
       have H' := zM H
       clear H
       go_wp2
       go_meet
       case rel => exact ⟨_, (t300), H', ⟨by have := HK1.out; first | omega | exact Nat.le_refl _⟩, ⟨by (with_reducible repeat (first | apply Kd.R_alloc | apply Kd.R_drewN | apply Kd.R_drew)); exact HO302.out⟩, ⟨by (with_reducible repeat (first | refine kN ?_ _ | refine kD ?_ | refine kA ?_ _)); exact BK297.1⟩, ⟨by repeat (first | (with_reducible first | exact HB.1 | apply zA | apply zN | apply z1 | refine zS ?_ GE297.1) | exact HB.1)⟩⟩
     case rest =>
      clear HC15
      try clear c1
      try clear c2
      try clear c2b0
      try clear c2b1
      try clear c2b2
      try clear p2
      try clear q2
      try clear hx2
      try clear c3
      try clear p6
      try clear c9
      try clear c9b0
      try clear c10
      try clear c12
      try clear c12b0
      try clear c18
      try clear c19
      try clear hcz11_0
      try clear hcz11_1
      try clear hcz11_2
      try clear hcz11_3
      try clear hcz13_0
      try clear hcz13_1
      try clear hcz13_2
      try clear hcz13_3
      try clear hcz16_0
      try clear hcz16_1
      try clear hcz16_2
      try clear hcz16_3
      try clear hcz5_0
      try clear hcz5_1
      try clear hcz5_2
      try clear hcz5_3
      try clear hcz8_0
      try clear hcz8_1
      try clear hcz8_2
      try clear hcz8_3
      try clear hfz11_0
      try clear hfz11_1
      try clear hfz11_2
      try clear hfz11_3
      try clear hfz13_0
      try clear hfz13_1
      try clear hfz13_2
      try clear hfz13_3
      try clear hfz16_0
      try clear hfz16_1
      try clear hfz16_2
      try clear hfz16_3
      try clear hfz5_0
      try clear hfz5_1
      try clear hfz5_2
      try clear hfz5_3
      try clear hfz8_0
      try clear hfz8_1
      try clear hfz8_2
      try clear hfz8_3
      try clear hx299_0
      try clear hx299_1
      try clear hx299_2
      try clear p2
      try clear p299
      try clear q299
      obtain ⟨kq, x5_14, HA, HJ14, HO_5, BK297, HB⟩ := hcut
      cases kq with
      | zero => exact absurd HA.out (by simp [bitemporalref55_Result.j1])
      | succ kj14 =>
       have H := HA.out
       clear HA
       simp only [bitemporalref55_Result.j1] at H
       obtain ⟨y306, hy306⟩ : ∃ y_ : List (List ByteArray), y_ = (([] : List (List ByteArray))) := ⟨_, rfl⟩
       replace H : (bitemporalref55_Result.l1 kj14 x3_1 x5_14 y306 0 l0_0 l0_1 a0_2 a0_3) = some r := by first | (rw [hy306]; with_reducible exact H) | (have H2_ := (Option.bind_some _ _).symm.trans H; rw [hy306]; with_reducible exact H2_) | (have H2_ := (Option.bind_some _ _).symm.trans H; with_reducible exact H2_) | with_reducible exact H | (rw [hy306]; exact H) | exact H
       have Ny306 := zM hy306
       clear hy306
       have H' := zM H
       clear H
       go_wp2_with (first | ((with_reducible refine gate_dst (N := 41) rfl ?_); refine Kd.R_lit (Kd.slice 9 Kd.string) _ 59 ?hg (N := 41) ?hd (xs := ([] : List (List ByteArray))) (inner := []) (ok := fun _ => True) (okp := fun _ => True) ?hr ?hp (fun _ hk => hk) trivial (Below.refl _ _) (Nat.le_refl _) (by simp) ?_; (case hd => rfl); (case hg => rfl); (case hr => first | (go_simp; done) | (go_simp; rfl)); (case hp => exact (Reps.none _ _)); intro v307 w21 ho22 hb hg_ hnew_; clear hg_ hnew_; (first | rw [← Ny306.out] at ho22 | (simp only [Int.reduceToNat] at ho22; rw [← Ny306.out] at ho22)); have n0_ := zM (Kd.R_below (by (with_reducible repeat (first | apply Kd.R_alloc | apply Kd.R_drewN | apply Kd.R_drew)); exact HO_5.out) hb); have n1_ := zM (Kd.R_lower (Kd.R_new' ho22 (Kd.R_lt (by (with_reducible repeat (first | apply Kd.R_alloc | apply Kd.R_drewN | apply Kd.R_drew)); exact HO_5.out))) (zZ (by repeat (first | (with_reducible first | exact HB.1 | apply zA | apply zN | apply z1 | refine zS ?_ GE297.1) | exact HB.1)))); have n2_ := zM (kB (g := gb297) (o := .cells #[.slice A0_0 l0_0.length c0_0, .slice A0_1 l0_1.length c0_1, .int .i64 a0_2, .int .i64 a0_3] 25 (0, 0)) (by (with_reducible repeat (first | refine kN ?_ _ | refine kD ?_ | refine kA ?_ _)); exact BK297.1) hb); have n3_ := zM (zT (by repeat (first | (with_reducible first | exact HB.1 | apply zA | apply zN | apply z1 | refine zS ?_ GE297.1) | exact HB.1)) hb); clear HO_5; clear BK297; clear HB; have HO_5 := n0_; have HO308 := n1_; have BK297 := n2_; have HB := n3_; clear n0_ n1_ n2_ n3_; clear hb ho22))
       go_loopg [6, 7] kj14 (fun kq v6 v7 w' => ∃ (x6_3 : List (List ByteArray)) (x7_3 : Int), v7 = .int .i64 x7_3 ∧ Aside0 (bitemporalref55_Result.l1 kq x3_1 x5_14 x6_3 x7_3 l0_0 l0_1 a0_2 a0_3 = some r) ∧ Aside0 (kq ≤ kj14) ∧ Aside0 (Kd.R Kd.string 9 w' w.heap.size (fun _ => True) u5 x5_14) ∧ Aside0 (Kd.R (Kd.slice 9 Kd.string) 59 w' w.heap.size (fun k_ => some k_ ≠ (u5 : Value).ownBlock) v6 x6_3) ∧ Aside0 (w'.heap[gb297]? = some (.cells #[(.slice A0_0 l0_0.length c0_0), (.slice A0_1 l0_1.length c0_1), .int .i64 a0_2, .int .i64 a0_3] 25 (0, 0))) ∧ Aside0 (Below w.heap.size w w'))
       case atStart => exact ⟨(y306), (0), (by first | rfl | (simp; done) | (simp [*]; done)), H', ⟨Nat.le_refl _⟩, ⟨by (with_reducible repeat (first | apply Kd.R_alloc | apply Kd.R_drewN | apply Kd.R_drew)); exact HO_5.out⟩, ⟨by (with_reducible repeat (first | apply Kd.R_alloc | apply Kd.R_drewN | apply Kd.R_drew)); exact Kd.R_mono HO308.out (fun _ hk => hk.2)⟩, ⟨by (with_reducible repeat (first | refine kN ?_ _ | refine kD ?_ | refine kA ?_ _)); exact BK297.1⟩, ⟨by repeat (first | (with_reducible first | exact HB.1 | apply zA | apply zN | apply z1 | refine zS ?_ GE297.1) | exact HB.1)⟩⟩
       case round =>
        clear H'
        try clear c1
        try clear c2
        try clear c2b0
        try clear c2b1
        try clear c2b2
        try clear p2
        try clear q2
        try clear hx2
        try clear c3
        try clear p6
        try clear c9
        try clear c9b0
        try clear c10
        try clear c12
        try clear c12b0
        try clear c18
        try clear c19
        try clear hcz11_0
        try clear hcz11_1
        try clear hcz11_2
        try clear hcz11_3
        try clear hcz13_0
        try clear hcz13_1
        try clear hcz13_2
        try clear hcz13_3
        try clear hcz16_0
        try clear hcz16_1
        try clear hcz16_2
        try clear hcz16_3
        try clear hcz5_0
        try clear hcz5_1
        try clear hcz5_2
        try clear hcz5_3
        try clear hcz8_0
        try clear hcz8_1
        try clear hcz8_2
        try clear hcz8_3
        try clear hfz11_0
        try clear hfz11_1
        try clear hfz11_2
        try clear hfz11_3
        try clear hfz13_0
        try clear hfz13_1
        try clear hfz13_2
        try clear hfz13_3
        try clear hfz16_0
        try clear hfz16_1
        try clear hfz16_2
        try clear hfz16_3
        try clear hfz5_0
        try clear hfz5_1
        try clear hfz5_2
        try clear hfz5_3
        try clear hfz8_0
        try clear hfz8_1
        try clear hfz8_2
        try clear hfz8_3
        try clear hx299_0
        try clear hx299_1
        try clear hx299_2
        try clear p2
        try clear p299
        try clear p6
        try clear q2
        try clear q299
        obtain ⟨x6_3, x7_3, rfl, HA, HK3, HO_5, HO_6, BK297, HB⟩ := hrel
        cases gk with
        | zero => exact absurd HA.out (by simp [bitemporalref55_Result.l1])
        | succ k3 =>
         have H := HA.out
         clear HA
         simp only [bitemporalref55_Result.l1] at H
         by_cases c23 : x7_3 < (l0_1.length : Int)
         ·rw [if_pos c23] at H
          have c23b0 : decide (x7_3 < (l0_1.length : Int)) = true := decide_eq_true c23
          clear c23
          by_cases c24 : 0 ≤ x7_3
          case neg =>
           rw [if_neg c24] at H
           exact absurd H (by simp)
          rw [if_pos c24] at H
          have c24b0 : decide (0 ≤ x7_3) = true := decide_eq_true c24
          clear c24
          replace H := Option.bind_eq_some_iff.mp H
          obtain ⟨t310, A250, H⟩ := H
          have A25 := zM A250
          clear A250
          by_cases c26 : x3_1 = true
          ·subst c26
           have H1 : ((bitemporalref01_Text.f k3 ((rd_T45 l0_1 x7_3).f1.f0) ((rd_T45 l0_1 x7_3).f1.f1)).bind fun t314 => (if t310.length < 8796093022208 then (if x6_3.length < 5864062014805 then (bitemporalref55_Result.l1 k3 true x5_14 (x6_3 ++ [(t310 ++ [t314])]) (wrap64 (x7_3 + 1)) l0_0 l0_1 a0_2 a0_3) else (none)) else (none))) = some r := by rw [if_pos rfl] at H; exact H
           clear H
           have H := H1
           clear H1
           replace H := Option.bind_eq_some_iff.mp H
           obtain ⟨t314, A270, H⟩ := H
           have A27 := zM A270
           clear A270
           by_cases c28 : t310.length < 8796093022208
           case neg =>
            rw [if_neg c28] at H
            exact absurd H (by simp)
           rw [if_pos c28] at H
           have LMc28 := zM c28
           clear c28
           obtain ⟨y315, hy315⟩ : ∃ y_ : List ByteArray, y_ = (t310 ++ [t314]) := ⟨_, rfl⟩
           replace H : (if x6_3.length < 5864062014805 then (bitemporalref55_Result.l1 k3 true x5_14 (x6_3 ++ [y315]) (wrap64 (x7_3 + 1)) l0_0 l0_1 a0_2 a0_3) else (none)) = some r := by first | (rw [hy315]; with_reducible exact H) | (have H2_ := (Option.bind_some _ _).symm.trans H; rw [hy315]; with_reducible exact H2_) | (have H2_ := (Option.bind_some _ _).symm.trans H; with_reducible exact H2_) | with_reducible exact H | (rw [hy315]; exact H) | exact H
           have Ny315 := zM hy315
           clear hy315
           by_cases c29 : x6_3.length < 5864062014805
           case neg =>
            rw [if_neg c29] at H
            exact absurd H (by simp)
           rw [if_pos c29] at H
           have LMc29 := zM c29
           clear c29
           obtain ⟨y318, hy318⟩ : ∃ y_ : List (List ByteArray), y_ = (x6_3 ++ [y315]) := ⟨_, rfl⟩
           replace H : (bitemporalref55_Result.l1 k3 true x5_14 y318 (wrap64 (x7_3 + 1)) l0_0 l0_1 a0_2 a0_3) = some r := by first | (rw [hy318]; with_reducible exact H) | (have H2_ := (Option.bind_some _ _).symm.trans H; rw [hy318]; with_reducible exact H2_) | (have H2_ := (Option.bind_some _ _).symm.trans H; with_reducible exact H2_) | with_reducible exact H | (rw [hy318]; exact H) | exact H
           have Ny318 := zM hy318
           clear hy318
           have H' := zM H
           clear H
           have hcz30_0 : wr.cell? ⟨gb297, 0, none⟩ = some (.slice A0_0 l0_0.length c0_0) := (kC BK297.1 0).trans rfl
           have hcz30_1 : wr.cell? ⟨gb297, 1, none⟩ = some (.slice A0_1 l0_1.length c0_1) := (kC BK297.1 1).trans rfl
           have hcz30_2 : wr.cell? ⟨gb297, 2, none⟩ = some (.int .i64 a0_2) := (kC BK297.1 2).trans rfl
           have hcz30_3 : wr.cell? ⟨gb297, 3, none⟩ = some (.int .i64 a0_3) := (kC BK297.1 3).trans rfl
           have hfz30_0 := kF BK297.1 0
           have hfz30_1 := kF BK297.1 1
           have hfz30_2 := kF BK297.1 2
           have hfz30_3 := kF BK297.1 3
           try go_wp2
           have n0_ := zM (Kd.R_drew HO_5.out)
           have n1_ := zM (Kd.R_drew HO_6.out)
           have n2_ := zM (kD BK297.1)
           have n3_ := zM (z1 HB.1)
           clear HO_5
           clear HO_6
           clear BK297
           clear HB
           have HO_5 := n0_
           have HO_6 := n1_
           have BK297 := n2_
           have HB := n3_
           clear n0_ n1_ n2_ n3_
           have p309 : 0 ≤ (x7_3 : Int) := of_decide_eq_true (by first | (with_reducible assumption) | assumption)
           have q309 : x7_3 < (l0_1.length : Int) := of_decide_eq_true (by first | (with_reducible assumption) | assumption)
           obtain ⟨ad309, A309_0, c309_0, e309, hx309_0, hx309_1, hx309_2, hl309_0, hi309_0⟩ := at_T45 HR0_1.out x7_3 p309 q309
           have hw309_2 := hx309_2
           have hw309_1 := hx309_1
           have hw309_0 := hx309_0
           cases e309
           replace hx309_0 := (HB.1.cell (World.block_lt_of_cell? w _ hx309_0)).trans hx309_0
           replace hx309_1 := (HB.1.cell (World.block_lt_of_cell? w _ hx309_1)).trans hx309_1
           replace hx309_2 := (HB.1.cell (World.block_lt_of_cell? w _ hx309_2)).trans hx309_2
           have HR309_0 := zM hi309_0
           have HC309_0 := zM hl309_0
           clear hi309_0 hl309_0
           replace p309 := eq_true p309
           replace q309 := eq_true q309
           refine start_ (n := 11) (S := fun w' => w'.cell? ⟨gb297, 0, none⟩ = some (.slice A0_0 l0_0.length c0_0) ∧ w'.cell? ⟨gb297, 1, none⟩ = some (.slice (some ad309) l0_1.length c0_1) ∧ w'.cell? ⟨gb297, 2, none⟩ = some (.int .i64 a0_2) ∧ w'.cell? ⟨gb297, 3, none⟩ = some (.int .i64 a0_3) ∧ w'.cell? (ad309.add ((x7_3).toNat * 3)) = some (.slice A309_0 ((rd_T45 l0_1 x7_3).f0).length c309_0) ∧ w'.cell? ⟨(ad309.add ((x7_3).toNat * 3)).block, (ad309.add ((x7_3).toNat * 3)).off + 1, none⟩ = some (.int .i64 ((rd_T45 l0_1 x7_3).f1.f0)) ∧ w'.cell? ⟨(ad309.add ((x7_3).toNat * 3)).block, (ad309.add ((x7_3).toNat * 3)).off + 2, none⟩ = some (.int .i64 ((rd_T45 l0_1 x7_3).f1.f1))) (ds := []) #[false, false, false, false, false, false, false, false, false, false, false] (by kernel_rfl) rfl rfl ⟨(kC BK297.1 0).trans rfl, (kC BK297.1 1).trans rfl, (kC BK297.1 2).trans rfl, (kC BK297.1 3).trans rfl, ((HB.1.cell (World.block_lt_of_cell? w _ hw309_0)).trans hw309_0), ((HB.1.cell (World.block_lt_of_cell? w _ hw309_1)).trans hw309_1), ((HB.1.cell (World.block_lt_of_cell? w _ hw309_2)).trans hw309_2)⟩ (fun hHeld => ?_); refine with_tabW bitemporalref55_Result.tab15 bitemporalref55_Result.bits15 (fun HT_ HW_ => ?_)
           generalize wr.drew = w31 at HO_5 HO_6 BK297 HB HR309_0 hx309_0 hx309_1 hx309_2 hHeld ⊢
           refine pure_ (i := 0) (N := some 49) (v := ?_) (a' := ?_) #[true, false, false, false, false, false, false, false, false, false, false] rfl rfl (any_of HT_.out (by kernel_rfl)) (fun _ _ _ h => h) (Or.inl ⟨by rfl, ?_⟩) ?_ ?_
           rotate_left
           ·intro w'
            go_simp
            with_reducible rfl
           rotate_left
           ·simp only [Act.put, List.setIfInBounds_toArray, List.set_cons_zero, List.set_cons_succ, i64_w, i32_w]
            rfl
           refine pure_ (i := 2) (N := some 51) (v := ?_) (a' := ?_) #[true, false, true, false, false, false, false, false, false, false, false] rfl rfl (any_of HT_.out (by kernel_rfl)) (fun _ _ _ h => h) (Or.inl ⟨by rfl, ?_⟩) ?_ ?_
           rotate_left
           ·intro w'
            go_simp
            with_reducible rfl
           rotate_left
           ·simp only [Act.put, List.setIfInBounds_toArray, List.set_cons_zero, List.set_cons_succ, i64_w, i32_w]
            rfl
           refine pure_ (i := 6) (N := some 55) (v := ?_) (a' := ?_) #[true, false, true, false, false, false, true, false, false, false, false] rfl rfl (any_of HT_.out (by kernel_rfl)) (fun _ _ _ h => h) (Or.inl ⟨by rfl, ?_⟩) ?_ ?_
           rotate_left
           ·intro w'
            go_simp
            with_reducible rfl
           rotate_left
           ·simp only [Act.put, List.setIfInBounds_toArray, List.set_cons_zero, List.set_cons_succ, i64_w, i32_w]
            rfl
           refine take_ (i := 1) (N := some 50) (v := ?_) (a' := ?_) #[true, true, true, false, false, false, true, false, false, false, false] rfl rfl (take_ofW HT_.out HW_.out (by kernel_rfl)) (fun _ _ _ h => h) (Or.inl ⟨by rfl, ?_⟩) hHeld ?_ ?_
           rotate_left
           ·rintro w' ⟨s0, s1, s2, s3, s4, s5, s6⟩
            go_simp
            with_reducible rfl
           rotate_left
           ·simp only [Act.put, List.setIfInBounds_toArray, List.set_cons_zero, List.set_cons_succ, i64_w, i32_w]
            rfl
           refine pure_ (i := 3) (N := some 52) (v := ?_) (a' := ?_) #[true, true, true, true, false, false, true, false, false, false, false] rfl rfl (any_of HT_.out (by kernel_rfl)) (fun _ _ _ h => h) (Or.inl ⟨by rfl, ?_⟩) ?_ ?_
           rotate_left
           ·intro w'
            go_simp
            with_reducible rfl
           rotate_left
           ·simp only [Act.put, List.setIfInBounds_toArray, List.set_cons_zero, List.set_cons_succ, i64_w, i32_w]
            rfl
           refine pure_ (i := 4) (N := some 53) (v := ?_) (a' := ?_) #[true, true, true, true, true, false, true, false, false, false, false] rfl rfl (any_of HT_.out (by kernel_rfl)) (fun _ _ _ h => h) (Or.inl ⟨by rfl, ?_⟩) ?_ ?_
           rotate_left
           ·intro w'
            go_simp
            with_reducible rfl
           rotate_left
           ·simp only [Act.put, List.setIfInBounds_toArray, List.set_cons_zero, List.set_cons_succ, i64_w, i32_w]
            rfl
           refine take_ (i := 5) (N := some 54) (v := ?_) (a' := ?_) #[true, true, true, true, true, true, true, false, false, false, false] rfl rfl (take_ofW HT_.out HW_.out (by kernel_rfl)) (fun _ _ _ h => h) (Or.inl ⟨by rfl, ?_⟩) hHeld ?_ ?_
           rotate_left
           ·rintro w' ⟨s0, s1, s2, s3, s4, s5, s6⟩
            go_simp
            with_reducible rfl
           rotate_left
           ·simp only [Act.put, List.setIfInBounds_toArray, List.set_cons_zero, List.set_cons_succ, i64_w, i32_w]
            rfl
           refine take_ (i := 7) (N := some 56) (v := ?_) (a' := ?_) #[true, true, true, true, true, true, true, true, false, false, false] rfl rfl (take_ofW HT_.out HW_.out (by kernel_rfl)) (fun _ _ _ h => h) (Or.inl ⟨by rfl, ?_⟩) hHeld ?_ ?_
           rotate_left
           ·rintro w' ⟨s0, s1, s2, s3, s4, s5, s6⟩
            go_simp
            with_reducible rfl
           rotate_left
           ·simp only [Act.put, List.setIfInBounds_toArray, List.set_cons_zero, List.set_cons_succ, i64_w, i32_w]
            rfl
           refine pure_ (i := 8) (N := some 57) (v := ?_) (a' := ?_) #[true, true, true, true, true, true, true, true, true, false, false] rfl rfl (any_of HT_.out (by kernel_rfl)) (fun _ _ _ h => h) (Or.inl ⟨by rfl, ?_⟩) ?_ ?_
           rotate_left
           ·intro w'
            go_simp
            with_reducible rfl
           rotate_left
           ·simp only [Act.put, List.setIfInBounds_toArray, List.set_cons_zero, List.set_cons_succ, i64_w, i32_w]
            rfl
           refine one_ (i := 9) (N := some 58) #[true, true, true, true, true, true, true, true, true, true, false] rfl rfl (one_of HT_.out (by kernel_rfl)) (by decide) (fun K hK => ?_)
           refine goes_ Tryz.func33 (by kernel_rfl) rfl #[.slice A309_0 ((rd_T45 l0_1 x7_3).f0).length c309_0, .int .i64 (l0_0.length : Int)] (by rfl) rfl rfl (by (try simp only [List.map_toArray, List.map_cons, List.map_nil]); first | done | rfl | (simp only [List.length_drop, List.length_take]; rfl)) ?_
           with_reducible refine (bitemporalref55_cells.calls k3 _ _ ((rd_T45 l0_1 x7_3).f0) (l0_0.length : Int) t310 _ ?side1 ?side2 A25.out ?gw_).mono ?_
           (case gw_ => first | exact HG.1 | (refine GW.below HG.1 ?_; repeat (first | (with_reducible first | exact HB.1 | apply zA | apply zN | apply z1 | refine zS ?_ GE297.1) | exact HB.1)))
           (case side1 => repeat (first | exact (Kd.C_below HR309_0.out HB.1) | (with_reducible refine Kd.C_alloc ?_ _) | (with_reducible refine Kd.C_drewN ?_ _) | (with_reducible refine Kd.C_drew ?_)))
           (case side2 => exact HC309_0.out)
           rintro e w32 ⟨v311, rfl, ho0, hb⟩
           refine ⟨_, rfl, ?_⟩
           have n0_ := zM (Kd.R_elder' (by (with_reducible repeat (first | apply Kd.R_alloc | apply Kd.R_drewN | apply Kd.R_drew)); exact HO_5.out) (Kd.R_base ho0) hb)
           have n1_ := zM (Kd.R_elder' (by (with_reducible repeat (first | apply Kd.R_alloc | apply Kd.R_drewN | apply Kd.R_drew)); exact HO_6.out) (Kd.R_base ho0) hb)
           have n2_ := zM (Kd.R_lower (Kd.R_new' ho0 (Kd.R_lt (by (with_reducible repeat (first | apply Kd.R_alloc | apply Kd.R_drewN | apply Kd.R_drew)); exact HO_5.out))) (zZ (by repeat (first | (with_reducible first | exact HB.1 | apply zA | apply zN | apply z1 | refine zS ?_ GE297.1) | exact HB.1))))
           have n3_ := zM (kB (g := gb297) (o := .cells #[.slice A0_0 l0_0.length c0_0, .slice (some ad309) l0_1.length c0_1, .int .i64 a0_2, .int .i64 a0_3] 25 (0, 0)) (by (with_reducible repeat (first | refine kN ?_ _ | refine kD ?_ | refine kA ?_ _)); exact BK297.1) hb)
           have n4_ := zM (zT (by repeat (first | (with_reducible first | exact HB.1 | apply zA | apply zN | apply z1 | refine zS ?_ GE297.1) | exact HB.1)) hb)
           clear HO_5
           clear HO_6
           clear BK297
           clear HB
           have HO_5 := n0_
           have HO_6 := n1_
           have HO312 := n2_
           have BK297 := n3_
           have HB := n4_
           clear n0_ n1_ n2_ n3_ n4_
           (try clear hb)
           (try clear hb2)
           (try clear hk)
           (try clear hi)
           (try clear ho0)
           refine hK.out _ _ ⟨(kC BK297.1 0).trans rfl, (kC BK297.1 1).trans rfl, (kC BK297.1 2).trans rfl, (kC BK297.1 3).trans rfl, ((HB.1.cell (World.block_lt_of_cell? w _ hw309_0)).trans hw309_0), ((HB.1.cell (World.block_lt_of_cell? w _ hw309_1)).trans hw309_1), ((HB.1.cell (World.block_lt_of_cell? w _ hw309_2)).trans hw309_2)⟩ (fun hHeld => ?_)
           clear hK K
           refine norm_ (a' := ?_) ?_ ?_
           rotate_left
           ·show Act.put _ (some 58) _ = _
            simp only [Act.put, List.setIfInBounds_toArray, List.set_cons_zero, List.set_cons_succ, i64_w, i32_w]
            rfl
           refine pure_ (i := 10) (N := some 8) (v := ?_) (a' := ?_) #[true, true, true, true, true, true, true, true, true, true, true] rfl rfl (any_of HT_.out (by kernel_rfl)) (fun _ _ _ h => h) (Or.inl ⟨by rfl, ?_⟩) ?_ ?_
           rotate_left
           ·intro w'
            go_simp
            with_reducible rfl
           rotate_left
           ·simp only [Act.put, List.setIfInBounds_toArray, List.set_cons_zero, List.set_cons_succ, i64_w, i32_w]
            rfl
           refine done_ (done_of HT_.out (by kernel_rfl)) ?_
           have hcz33_0 : w32.cell? ⟨gb297, 0, none⟩ = some (.slice A0_0 l0_0.length c0_0) := (kC BK297.1 0).trans rfl
           have hcz33_1 : w32.cell? ⟨gb297, 1, none⟩ = some (.slice (some ad309) l0_1.length c0_1) := (kC BK297.1 1).trans rfl
           have hcz33_2 : w32.cell? ⟨gb297, 2, none⟩ = some (.int .i64 a0_2) := (kC BK297.1 2).trans rfl
           have hcz33_3 : w32.cell? ⟨gb297, 3, none⟩ = some (.int .i64 a0_3) := (kC BK297.1 3).trans rfl
           have hfz33_0 := kF BK297.1 0
           have hfz33_1 := kF BK297.1 1
           have hfz33_2 := kF BK297.1 2
           have hfz33_3 := kF BK297.1 3
           have p313 : 0 ≤ (x7_3 : Int) := of_decide_eq_true (by first | (with_reducible assumption) | assumption)
           have q313 : x7_3 < (l0_1.length : Int) := of_decide_eq_true (by first | (with_reducible assumption) | assumption)
           obtain ⟨ad313, A313_0, c313_0, e313, hx313_0, hx313_1, hx313_2, hl313_0, hi313_0⟩ := at_T45 HR0_1.out x7_3 p313 q313
           obtain rfl : ad309 = ad313 := (by injection e313)
           obtain ⟨rfl, rfl⟩ : A309_0 = A313_0 ∧ c309_0 = c313_0 := (by have e_ := hx313_0; first | (simp only [hHeld, Option.some.injEq, Value.slice.injEq, true_and, and_true] at e_; exact e_) | (simp only [hx309_0, Option.some.injEq, Value.slice.injEq, true_and, and_true] at e_; exact e_) | (simp only [hw309_0, Option.some.injEq, Value.slice.injEq, true_and, and_true] at e_; exact e_))
           replace hx313_0 := (HB.1.cell (World.block_lt_of_cell? w _ hx313_0)).trans hx313_0
           replace hx313_1 := (HB.1.cell (World.block_lt_of_cell? w _ hx313_1)).trans hx313_1
           replace hx313_2 := (HB.1.cell (World.block_lt_of_cell? w _ hx313_2)).trans hx313_2
           have HR313_0 := zM hi313_0
           have HC313_0 := zM hl313_0
           clear hi313_0 hl313_0
           replace p313 := eq_true p313
           replace q313 := eq_true q313
           try go_wp2_with (first | ((with_reducible refine gate_callee (f := 34) rfl ?_); refine goesL_ (some 67) rfl rfl Tryz.func34 (by kernel_rfl) rfl #[.agg #[.int .i64 ((rd_T45 l0_1 x7_3).f1.f0), .int .i64 ((rd_T45 l0_1 x7_3).f1.f1)]] rfl (by (try simp only [List.map_toArray, List.map_cons, List.map_nil]); first | done | rfl | (simp only [List.length_drop, List.length_take]; rfl)) ?_; (with_reducible refine (bitemporalref01_Text.calls k3 ((rd_T45 l0_1 x7_3).f1.f0) ((rd_T45 l0_1 x7_3).f1.f1) t314 _ A27.out ?gw_).mono ?_); (case gw_ => first | exact HG.1 | (refine GW.below HG.1 ?_; repeat (first | (with_reducible first | exact HB.1 | apply zA | apply zN | apply z1 | refine zS ?_ GE297.1) | exact HB.1))); rintro e w34 ⟨rfl, hb⟩; refine ⟨_, rfl, ?_⟩; have n0_ := zM (Kd.R_below (by (with_reducible repeat (first | apply Kd.R_alloc | apply Kd.R_drewN | apply Kd.R_drew)); exact HO_5.out) hb); have n1_ := zM (Kd.R_below (by (with_reducible repeat (first | apply Kd.R_alloc | apply Kd.R_drewN | apply Kd.R_drew)); exact HO_6.out) hb); have n2_ := zM (Kd.R_below (by (with_reducible repeat (first | apply Kd.R_alloc | apply Kd.R_drewN | apply Kd.R_drew)); exact HO312.out) hb); have n3_ := zM (kB (g := gb297) (o := .cells #[.slice A0_0 l0_0.length c0_0, .slice (some ad309) l0_1.length c0_1, .int .i64 a0_2, .int .i64 a0_3] 25 (0, 0)) (by (with_reducible repeat (first | refine kN ?_ _ | refine kD ?_ | refine kA ?_ _)); exact BK297.1) hb); have n4_ := zM (zT (by repeat (first | (with_reducible first | exact HB.1 | apply zA | apply zN | apply z1 | refine zS ?_ GE297.1) | exact HB.1)) hb); clear HO_5; clear HO_6; clear HO312; clear BK297; clear HB; have HO_5 := n0_; have HO_6 := n1_; have HO312 := n2_; have BK297 := n3_; have HB := n4_; clear n0_ n1_ n2_ n3_ n4_; (try clear hb); (try clear hb2); (try clear hk); (try clear hi)) | ((with_reducible refine gate_builtin (b := .append) (xs := #[.tmp 60, .tmp 68]) rfl ?_); at_builtin; refine Kd.R_append Kd.string (w0 := w) w.heap.size rfl (.tmp 60) (.tmp 68) 59 9 (.string ⟨#[]⟩) 16 rfl Tryz.underlying59 info9 rfl (by decide) (by omega) v311 t310 t314 [.string t314] (fun k_ => some k_ ≠ (u5 : Value).ownBlock) (fun _ => False) rfl rfl ?aP (fun _ hk => hk.elim) ?aF ?aO ?aB ?aS ?aL ?_; (case aP => exact rfl); (case aB => exact (by repeat (first | (with_reducible first | exact HB.1 | apply zA | apply zN | apply z1 | refine zS ?_ GE297.1) | exact HB.1))); (case aF => exact (fun k_ hk => Kd.fresh' (Kd.R_lt (by (with_reducible repeat (first | apply Kd.R_alloc | apply Kd.R_drewN | apply Kd.R_drew)); exact HO_5.out)) k_ hk)); (case aO => exact (by (with_reducible repeat (first | apply Kd.R_alloc | apply Kd.R_drewN | apply Kd.R_drew)); exact Kd.R_mono HO312.out (fun _ hk => hk.2))); (case aS => exact (zZ (by repeat (first | (with_reducible first | exact HB.1 | apply zA | apply zN | apply z1 | refine zS ?_ GE297.1) | exact HB.1)))); (case aL => have := LMc28.out; omega); intro v316 w35 ho hb hg hat; rw [← Ny315.out] at ho; have n0_ := zM (Kd.R_after (ok := (fun _ => True)) (by (with_reducible repeat (first | apply Kd.R_alloc | apply Kd.R_drewN | apply Kd.R_drew)); exact HO_5.out) hg hat); have n1_ := zM (Kd.R_after (ok := (fun k_ => some k_ ≠ (u5 : Value).ownBlock)) (by (with_reducible repeat (first | apply Kd.R_alloc | apply Kd.R_drewN | apply Kd.R_drew)); exact HO_6.out) hg hat); have n2_ := zM (blk_grown (g := gb297) (o := .cells #[.slice A0_0 l0_0.length c0_0, .slice (some ad309) l0_1.length c0_1, .int .i64 a0_2, .int .i64 a0_3] 25 (0, 0)) (by (with_reducible repeat (first | refine kN ?_ _ | refine kD ?_ | refine kA ?_ _)); exact BK297.1) hg (Kd.R_ne HO312.out BK297.1 (by decide))); have n3_ := zM (hb); have n4_ := zM (ho); clear HO_5; clear HO_6; clear BK297; clear HB; clear HO312; have HO_5 := n0_; have HO_6 := n1_; have BK297 := n2_; have HB := n3_; have HO317 := n4_; clear n0_ n1_ n2_ n3_ n4_; clear ho hb hg hat; obtain ⟨Ao37, co37, eo37⟩ := Kd.R_slice HO317.out; subst eo37) | ((with_reducible refine gate_builtin (b := .append) (xs := #[.tmp 70, .tmp 72]) rfl ?_); at_builtin; refine Kd.R_append (Kd.slice 9 Kd.string) (w0 := w) w.heap.size rfl (.tmp 70) (.tmp 72) 65 59 (.slice none 0 0) 24 rfl Tryz.underlying65 info59 rfl (by decide) (by omega) u6 x6_3 y315 [.slice Ao37 y315.length co37] (fun k_ => some k_ ≠ (u5 : Value).ownBlock) (fun k_ => ((fun k_ => some k_ ≠ (u5 : Value).ownBlock)) k_ ∧ some k_ ≠ (u6 : Value).ownBlock) rfl rfl ?aP (fun _ hk => hk) ?aF ?aO ?aB ?aS ?aL ?_; (case aP => exact Kd.M_row (Kd.R_mono (Kd.R_apart' (HO317.out) (Kd.R_typed HO_6.out) (by decide)) (fun k_ hk => ⟨hk.1, hk.2⟩))); (case aB => exact (by repeat (first | (with_reducible first | exact HB.1 | apply zA | apply zN | apply z1 | refine zS ?_ GE297.1) | exact HB.1))); (case aF => exact (fun k_ hk => Kd.fresh' (Kd.R_lt (by (with_reducible repeat (first | apply Kd.R_alloc | apply Kd.R_drewN | apply Kd.R_drew)); exact HO_5.out)) k_ hk)); (case aO => exact (by (with_reducible repeat (first | apply Kd.R_alloc | apply Kd.R_drewN | apply Kd.R_drew)); exact Kd.R_mono HO_6.out (fun _ hk => hk.1))); (case aS => exact (zZ (by repeat (first | (with_reducible first | exact HB.1 | apply zA | apply zN | apply z1 | refine zS ?_ GE297.1) | exact HB.1)))); (case aL => have := LMc29.out; omega); intro v319 w36 ho hb hg hat; rw [← Ny318.out] at ho; have n0_ := zM (Kd.R_over' (by (with_reducible repeat (first | apply Kd.R_alloc | apply Kd.R_drewN | apply Kd.R_drew)); exact HO_5.out) (Kd.R_typed (by (with_reducible repeat (first | apply Kd.R_alloc | apply Kd.R_drewN | apply Kd.R_drew)); exact HO_6.out)) (by decide) hg); have n1_ := zM (blk_grown (g := gb297) (o := .cells #[.slice A0_0 l0_0.length c0_0, .slice (some ad309) l0_1.length c0_1, .int .i64 a0_2, .int .i64 a0_3] 25 (0, 0)) (by (with_reducible repeat (first | refine kN ?_ _ | refine kD ?_ | refine kA ?_ _)); exact BK297.1) hg (Kd.R_ne HO_6.out BK297.1 (by decide))); have n2_ := zM (hb); have n3_ := zM (ho); clear HO_5; clear BK297; clear HB; clear HO_6; clear HO317; have HO_5 := n0_; have BK297 := n1_; have HB := n2_; have HO320 := n3_; clear n0_ n1_ n2_ n3_; clear ho hb hg hat))
           go_roundg k3
           case measure => have := HK1.out; have := HJ14.out; have := HK3.out; omega
           case rel => exact ⟨(y318), (wrap64 (x7_3 + 1)), (by first | rfl | (simp; done) | (simp [*]; done)), H', ⟨by have := HK1.out; have := HJ14.out; have := HK3.out; omega⟩, ⟨by (with_reducible repeat (first | apply Kd.R_alloc | apply Kd.R_drewN | apply Kd.R_drew)); exact Kd.R_mono HO_5.out (fun _ hk => trivial)⟩, ⟨by (with_reducible repeat (first | apply Kd.R_alloc | apply Kd.R_drewN | apply Kd.R_drew)); exact HO320.out⟩, ⟨by (with_reducible repeat (first | refine kN ?_ _ | refine kD ?_ | refine kA ?_ _)); exact BK297.1⟩, ⟨by repeat (first | (with_reducible first | exact HB.1 | apply zA | apply zN | apply z1 | refine zS ?_ GE297.1) | exact HB.1)⟩⟩
          ·replace c26 := Bool.eq_false_iff.mpr c26
           subst c26
           have H1 : (if x6_3.length < 5864062014805 then (bitemporalref55_Result.l1 k3 false x5_14 (x6_3 ++ [t310]) (wrap64 (x7_3 + 1)) l0_0 l0_1 a0_2 a0_3) else (none)) = some r := by rw [if_neg (show ¬ (false = true) by decide)] at H; exact H
           clear H
           have H := H1
           clear H1
           by_cases c38 : x6_3.length < 5864062014805
           case neg =>
            rw [if_neg c38] at H
            exact absurd H (by simp)
           rw [if_pos c38] at H
           have LMc38 := zM c38
           clear c38
           obtain ⟨y321, hy321⟩ : ∃ y_ : List (List ByteArray), y_ = (x6_3 ++ [t310]) := ⟨_, rfl⟩
           replace H : (bitemporalref55_Result.l1 k3 false x5_14 y321 (wrap64 (x7_3 + 1)) l0_0 l0_1 a0_2 a0_3) = some r := by first | (rw [hy321]; with_reducible exact H) | (have H2_ := (Option.bind_some _ _).symm.trans H; rw [hy321]; with_reducible exact H2_) | (have H2_ := (Option.bind_some _ _).symm.trans H; with_reducible exact H2_) | with_reducible exact H | (rw [hy321]; exact H) | exact H
           have Ny321 := zM hy321
           clear hy321
           have H' := zM H
           clear H
           have hcz39_0 : wr.cell? ⟨gb297, 0, none⟩ = some (.slice A0_0 l0_0.length c0_0) := (kC BK297.1 0).trans rfl
           have hcz39_1 : wr.cell? ⟨gb297, 1, none⟩ = some (.slice A0_1 l0_1.length c0_1) := (kC BK297.1 1).trans rfl
           have hcz39_2 : wr.cell? ⟨gb297, 2, none⟩ = some (.int .i64 a0_2) := (kC BK297.1 2).trans rfl
           have hcz39_3 : wr.cell? ⟨gb297, 3, none⟩ = some (.int .i64 a0_3) := (kC BK297.1 3).trans rfl
           have hfz39_0 := kF BK297.1 0
           have hfz39_1 := kF BK297.1 1
           have hfz39_2 := kF BK297.1 2
           have hfz39_3 := kF BK297.1 3
           try go_wp2
           have n0_ := zM (Kd.R_drew HO_5.out)
           have n1_ := zM (Kd.R_drew HO_6.out)
           have n2_ := zM (kD BK297.1)
           have n3_ := zM (z1 HB.1)
           clear HO_5
           clear HO_6
           clear BK297
           clear HB
           have HO_5 := n0_
           have HO_6 := n1_
           have BK297 := n2_
           have HB := n3_
           clear n0_ n1_ n2_ n3_
           have p309 : 0 ≤ (x7_3 : Int) := of_decide_eq_true (by first | (with_reducible assumption) | assumption)
           have q309 : x7_3 < (l0_1.length : Int) := of_decide_eq_true (by first | (with_reducible assumption) | assumption)
           obtain ⟨ad309, A309_0, c309_0, e309, hx309_0, hx309_1, hx309_2, hl309_0, hi309_0⟩ := at_T45 HR0_1.out x7_3 p309 q309
           have hw309_2 := hx309_2
           have hw309_1 := hx309_1
           have hw309_0 := hx309_0
           cases e309
           replace hx309_0 := (HB.1.cell (World.block_lt_of_cell? w _ hx309_0)).trans hx309_0
           replace hx309_1 := (HB.1.cell (World.block_lt_of_cell? w _ hx309_1)).trans hx309_1
           replace hx309_2 := (HB.1.cell (World.block_lt_of_cell? w _ hx309_2)).trans hx309_2
           have HR309_0 := zM hi309_0
           have HC309_0 := zM hl309_0
           clear hi309_0 hl309_0
           replace p309 := eq_true p309
           replace q309 := eq_true q309
           refine start_ (n := 11) (S := fun w' => w'.cell? ⟨gb297, 0, none⟩ = some (.slice A0_0 l0_0.length c0_0) ∧ w'.cell? ⟨gb297, 1, none⟩ = some (.slice (some ad309) l0_1.length c0_1) ∧ w'.cell? ⟨gb297, 2, none⟩ = some (.int .i64 a0_2) ∧ w'.cell? ⟨gb297, 3, none⟩ = some (.int .i64 a0_3) ∧ w'.cell? (ad309.add ((x7_3).toNat * 3)) = some (.slice A309_0 ((rd_T45 l0_1 x7_3).f0).length c309_0) ∧ w'.cell? ⟨(ad309.add ((x7_3).toNat * 3)).block, (ad309.add ((x7_3).toNat * 3)).off + 1, none⟩ = some (.int .i64 ((rd_T45 l0_1 x7_3).f1.f0)) ∧ w'.cell? ⟨(ad309.add ((x7_3).toNat * 3)).block, (ad309.add ((x7_3).toNat * 3)).off + 2, none⟩ = some (.int .i64 ((rd_T45 l0_1 x7_3).f1.f1))) (ds := []) #[false, false, false, false, false, false, false, false, false, false, false] (by kernel_rfl) rfl rfl ⟨(kC BK297.1 0).trans rfl, (kC BK297.1 1).trans rfl, (kC BK297.1 2).trans rfl, (kC BK297.1 3).trans rfl, ((HB.1.cell (World.block_lt_of_cell? w _ hw309_0)).trans hw309_0), ((HB.1.cell (World.block_lt_of_cell? w _ hw309_1)).trans hw309_1), ((HB.1.cell (World.block_lt_of_cell? w _ hw309_2)).trans hw309_2)⟩ (fun hHeld => ?_); refine with_tabW bitemporalref55_Result.tab15 bitemporalref55_Result.bits15 (fun HT_ HW_ => ?_)
           generalize wr.drew = w40 at HO_5 HO_6 BK297 HB HR309_0 hx309_0 hx309_1 hx309_2 hHeld ⊢
           refine pure_ (i := 0) (N := some 49) (v := ?_) (a' := ?_) #[true, false, false, false, false, false, false, false, false, false, false] rfl rfl (any_of HT_.out (by kernel_rfl)) (fun _ _ _ h => h) (Or.inl ⟨by rfl, ?_⟩) ?_ ?_
           rotate_left
           ·intro w'
            go_simp
            with_reducible rfl
           rotate_left
           ·simp only [Act.put, List.setIfInBounds_toArray, List.set_cons_zero, List.set_cons_succ, i64_w, i32_w]
            rfl
           refine pure_ (i := 2) (N := some 51) (v := ?_) (a' := ?_) #[true, false, true, false, false, false, false, false, false, false, false] rfl rfl (any_of HT_.out (by kernel_rfl)) (fun _ _ _ h => h) (Or.inl ⟨by rfl, ?_⟩) ?_ ?_
           rotate_left
           ·intro w'
            go_simp
            with_reducible rfl
           rotate_left
           ·simp only [Act.put, List.setIfInBounds_toArray, List.set_cons_zero, List.set_cons_succ, i64_w, i32_w]
            rfl
           refine pure_ (i := 6) (N := some 55) (v := ?_) (a' := ?_) #[true, false, true, false, false, false, true, false, false, false, false] rfl rfl (any_of HT_.out (by kernel_rfl)) (fun _ _ _ h => h) (Or.inl ⟨by rfl, ?_⟩) ?_ ?_
           rotate_left
           ·intro w'
            go_simp
            with_reducible rfl
           rotate_left
           ·simp only [Act.put, List.setIfInBounds_toArray, List.set_cons_zero, List.set_cons_succ, i64_w, i32_w]
            rfl
           refine take_ (i := 1) (N := some 50) (v := ?_) (a' := ?_) #[true, true, true, false, false, false, true, false, false, false, false] rfl rfl (take_ofW HT_.out HW_.out (by kernel_rfl)) (fun _ _ _ h => h) (Or.inl ⟨by rfl, ?_⟩) hHeld ?_ ?_
           rotate_left
           ·rintro w' ⟨s0, s1, s2, s3, s4, s5, s6⟩
            go_simp
            with_reducible rfl
           rotate_left
           ·simp only [Act.put, List.setIfInBounds_toArray, List.set_cons_zero, List.set_cons_succ, i64_w, i32_w]
            rfl
           refine pure_ (i := 3) (N := some 52) (v := ?_) (a' := ?_) #[true, true, true, true, false, false, true, false, false, false, false] rfl rfl (any_of HT_.out (by kernel_rfl)) (fun _ _ _ h => h) (Or.inl ⟨by rfl, ?_⟩) ?_ ?_
           rotate_left
           ·intro w'
            go_simp
            with_reducible rfl
           rotate_left
           ·simp only [Act.put, List.setIfInBounds_toArray, List.set_cons_zero, List.set_cons_succ, i64_w, i32_w]
            rfl
           refine pure_ (i := 4) (N := some 53) (v := ?_) (a' := ?_) #[true, true, true, true, true, false, true, false, false, false, false] rfl rfl (any_of HT_.out (by kernel_rfl)) (fun _ _ _ h => h) (Or.inl ⟨by rfl, ?_⟩) ?_ ?_
           rotate_left
           ·intro w'
            go_simp
            with_reducible rfl
           rotate_left
           ·simp only [Act.put, List.setIfInBounds_toArray, List.set_cons_zero, List.set_cons_succ, i64_w, i32_w]
            rfl
           refine take_ (i := 5) (N := some 54) (v := ?_) (a' := ?_) #[true, true, true, true, true, true, true, false, false, false, false] rfl rfl (take_ofW HT_.out HW_.out (by kernel_rfl)) (fun _ _ _ h => h) (Or.inl ⟨by rfl, ?_⟩) hHeld ?_ ?_
           rotate_left
           ·rintro w' ⟨s0, s1, s2, s3, s4, s5, s6⟩
            go_simp
            with_reducible rfl
           rotate_left
           ·simp only [Act.put, List.setIfInBounds_toArray, List.set_cons_zero, List.set_cons_succ, i64_w, i32_w]
            rfl
           refine take_ (i := 7) (N := some 56) (v := ?_) (a' := ?_) #[true, true, true, true, true, true, true, true, false, false, false] rfl rfl (take_ofW HT_.out HW_.out (by kernel_rfl)) (fun _ _ _ h => h) (Or.inl ⟨by rfl, ?_⟩) hHeld ?_ ?_
           rotate_left
           ·rintro w' ⟨s0, s1, s2, s3, s4, s5, s6⟩
            go_simp
            with_reducible rfl
           rotate_left
           ·simp only [Act.put, List.setIfInBounds_toArray, List.set_cons_zero, List.set_cons_succ, i64_w, i32_w]
            rfl
           refine pure_ (i := 8) (N := some 57) (v := ?_) (a' := ?_) #[true, true, true, true, true, true, true, true, true, false, false] rfl rfl (any_of HT_.out (by kernel_rfl)) (fun _ _ _ h => h) (Or.inl ⟨by rfl, ?_⟩) ?_ ?_
           rotate_left
           ·intro w'
            go_simp
            with_reducible rfl
           rotate_left
           ·simp only [Act.put, List.setIfInBounds_toArray, List.set_cons_zero, List.set_cons_succ, i64_w, i32_w]
            rfl
           refine one_ (i := 9) (N := some 58) #[true, true, true, true, true, true, true, true, true, true, false] rfl rfl (one_of HT_.out (by kernel_rfl)) (by decide) (fun K hK => ?_)
           refine goes_ Tryz.func33 (by kernel_rfl) rfl #[.slice A309_0 ((rd_T45 l0_1 x7_3).f0).length c309_0, .int .i64 (l0_0.length : Int)] (by rfl) rfl rfl (by (try simp only [List.map_toArray, List.map_cons, List.map_nil]); first | done | rfl | (simp only [List.length_drop, List.length_take]; rfl)) ?_
           with_reducible refine (bitemporalref55_cells.calls k3 _ _ ((rd_T45 l0_1 x7_3).f0) (l0_0.length : Int) t310 _ ?side1 ?side2 A25.out ?gw_).mono ?_
           (case gw_ => first | exact HG.1 | (refine GW.below HG.1 ?_; repeat (first | (with_reducible first | exact HB.1 | apply zA | apply zN | apply z1 | refine zS ?_ GE297.1) | exact HB.1)))
           (case side1 => repeat (first | exact (Kd.C_below HR309_0.out HB.1) | (with_reducible refine Kd.C_alloc ?_ _) | (with_reducible refine Kd.C_drewN ?_ _) | (with_reducible refine Kd.C_drew ?_)))
           (case side2 => exact HC309_0.out)
           rintro e w41 ⟨v311, rfl, ho0, hb⟩
           refine ⟨_, rfl, ?_⟩
           have n0_ := zM (Kd.R_elder' (by (with_reducible repeat (first | apply Kd.R_alloc | apply Kd.R_drewN | apply Kd.R_drew)); exact HO_5.out) (Kd.R_base ho0) hb)
           have n1_ := zM (Kd.R_elder' (by (with_reducible repeat (first | apply Kd.R_alloc | apply Kd.R_drewN | apply Kd.R_drew)); exact HO_6.out) (Kd.R_base ho0) hb)
           have n2_ := zM (Kd.R_lower (Kd.R_new' ho0 (Kd.R_lt (by (with_reducible repeat (first | apply Kd.R_alloc | apply Kd.R_drewN | apply Kd.R_drew)); exact HO_5.out))) (zZ (by repeat (first | (with_reducible first | exact HB.1 | apply zA | apply zN | apply z1 | refine zS ?_ GE297.1) | exact HB.1))))
           have n3_ := zM (kB (g := gb297) (o := .cells #[.slice A0_0 l0_0.length c0_0, .slice (some ad309) l0_1.length c0_1, .int .i64 a0_2, .int .i64 a0_3] 25 (0, 0)) (by (with_reducible repeat (first | refine kN ?_ _ | refine kD ?_ | refine kA ?_ _)); exact BK297.1) hb)
           have n4_ := zM (zT (by repeat (first | (with_reducible first | exact HB.1 | apply zA | apply zN | apply z1 | refine zS ?_ GE297.1) | exact HB.1)) hb)
           clear HO_5
           clear HO_6
           clear BK297
           clear HB
           have HO_5 := n0_
           have HO_6 := n1_
           have HO312 := n2_
           have BK297 := n3_
           have HB := n4_
           clear n0_ n1_ n2_ n3_ n4_
           (try clear hb)
           (try clear hb2)
           (try clear hk)
           (try clear hi)
           (try clear ho0)
           refine hK.out _ _ ⟨(kC BK297.1 0).trans rfl, (kC BK297.1 1).trans rfl, (kC BK297.1 2).trans rfl, (kC BK297.1 3).trans rfl, ((HB.1.cell (World.block_lt_of_cell? w _ hw309_0)).trans hw309_0), ((HB.1.cell (World.block_lt_of_cell? w _ hw309_1)).trans hw309_1), ((HB.1.cell (World.block_lt_of_cell? w _ hw309_2)).trans hw309_2)⟩ (fun hHeld => ?_)
           clear hK K
           refine norm_ (a' := ?_) ?_ ?_
           rotate_left
           ·show Act.put _ (some 58) _ = _
            simp only [Act.put, List.setIfInBounds_toArray, List.set_cons_zero, List.set_cons_succ, i64_w, i32_w]
            rfl
           refine pure_ (i := 10) (N := some 8) (v := ?_) (a' := ?_) #[true, true, true, true, true, true, true, true, true, true, true] rfl rfl (any_of HT_.out (by kernel_rfl)) (fun _ _ _ h => h) (Or.inl ⟨by rfl, ?_⟩) ?_ ?_
           rotate_left
           ·intro w'
            go_simp
            with_reducible rfl
           rotate_left
           ·simp only [Act.put, List.setIfInBounds_toArray, List.set_cons_zero, List.set_cons_succ, i64_w, i32_w]
            rfl
           refine done_ (done_of HT_.out (by kernel_rfl)) ?_
           obtain ⟨Ao43, co43, eo43⟩ := Kd.R_slice HO312.out
           subst eo43
           try go_wp2_with (first | ((with_reducible refine gate_builtin (b := .append) (xs := #[.tmp 70, .tmp 72]) rfl ?_); at_builtin; refine Kd.R_append (Kd.slice 9 Kd.string) (w0 := w) w.heap.size rfl (.tmp 70) (.tmp 72) 65 59 (.slice none 0 0) 24 rfl Tryz.underlying65 info59 rfl (by decide) (by omega) u6 x6_3 t310 [.slice Ao43 t310.length co43] (fun k_ => some k_ ≠ (u5 : Value).ownBlock) (fun k_ => ((fun k_ => some k_ ≠ (u5 : Value).ownBlock)) k_ ∧ some k_ ≠ (u6 : Value).ownBlock) rfl rfl ?aP (fun _ hk => hk) ?aF ?aO ?aB ?aS ?aL ?_; (case aP => exact Kd.M_row (Kd.R_mono (Kd.R_apart' (HO312.out) (Kd.R_typed HO_6.out) (by decide)) (fun k_ hk => ⟨hk.1.2, hk.2⟩))); (case aB => exact (by repeat (first | (with_reducible first | exact HB.1 | apply zA | apply zN | apply z1 | refine zS ?_ GE297.1) | exact HB.1))); (case aF => exact (fun k_ hk => Kd.fresh' (Kd.R_lt (by (with_reducible repeat (first | apply Kd.R_alloc | apply Kd.R_drewN | apply Kd.R_drew)); exact HO_5.out)) k_ hk)); (case aO => exact (by (with_reducible repeat (first | apply Kd.R_alloc | apply Kd.R_drewN | apply Kd.R_drew)); exact Kd.R_mono HO_6.out (fun _ hk => hk.1))); (case aS => exact (zZ (by repeat (first | (with_reducible first | exact HB.1 | apply zA | apply zN | apply z1 | refine zS ?_ GE297.1) | exact HB.1)))); (case aL => have := LMc38.out; omega); intro v322 w42 ho hb hg hat; rw [← Ny321.out] at ho; have n0_ := zM (Kd.R_over' (by (with_reducible repeat (first | apply Kd.R_alloc | apply Kd.R_drewN | apply Kd.R_drew)); exact HO_5.out) (Kd.R_typed (by (with_reducible repeat (first | apply Kd.R_alloc | apply Kd.R_drewN | apply Kd.R_drew)); exact HO_6.out)) (by decide) hg); have n1_ := zM (blk_grown (g := gb297) (o := .cells #[.slice A0_0 l0_0.length c0_0, .slice (some ad309) l0_1.length c0_1, .int .i64 a0_2, .int .i64 a0_3] 25 (0, 0)) (by (with_reducible repeat (first | refine kN ?_ _ | refine kD ?_ | refine kA ?_ _)); exact BK297.1) hg (Kd.R_ne HO_6.out BK297.1 (by decide))); have n2_ := zM (hb); have n3_ := zM (ho); clear HO_5; clear BK297; clear HB; clear HO_6; clear HO312; have HO_5 := n0_; have BK297 := n1_; have HB := n2_; have HO323 := n3_; clear n0_ n1_ n2_ n3_; clear ho hb hg hat))
           go_roundg k3
           case measure => have := HK1.out; have := HJ14.out; have := HK3.out; omega
           case rel => exact ⟨(y321), (wrap64 (x7_3 + 1)), (by first | rfl | (simp; done) | (simp [*]; done)), H', ⟨by have := HK1.out; have := HJ14.out; have := HK3.out; omega⟩, ⟨by (with_reducible repeat (first | apply Kd.R_alloc | apply Kd.R_drewN | apply Kd.R_drew)); exact Kd.R_mono HO_5.out (fun _ hk => trivial)⟩, ⟨by (with_reducible repeat (first | apply Kd.R_alloc | apply Kd.R_drewN | apply Kd.R_drew)); exact HO323.out⟩, ⟨by (with_reducible repeat (first | refine kN ?_ _ | refine kD ?_ | refine kA ?_ _)); exact BK297.1⟩, ⟨by repeat (first | (with_reducible first | exact HB.1 | apply zA | apply zN | apply z1 | refine zS ?_ GE297.1) | exact HB.1)⟩⟩
         ·rw [if_neg c23] at H
          have c23b0 : decide (x7_3 < (l0_1.length : Int)) = false := decide_eq_false c23
          clear c23
          by_cases c44 : (x6_3.length : Int) = 1
          ·rw [if_pos c44] at H
           have c44b0 : ((x6_3.length : Int) == 1) = true := beq_iff_eq.mpr c44
           have c44b1 : ((x6_3.length : Int) != 1) = false := bne_eq_false_iff_eq.mpr c44
           clear c44
           replace H := Option.bind_eq_some_iff.mp H
           obtain ⟨t324, A450, H⟩ := H
           have A45 := zM A450
           clear A450
           replace H := Option.bind_eq_some_iff.mp H
           obtain ⟨t325, A460, H⟩ := H
           have A46 := zM A460
           clear A460
           by_cases c47 : t324.size + t325.size ≤ 9223372036854775807
           case neg =>
            rw [if_neg c47] at H
            exact absurd H (by simp)
           rw [if_pos c47] at H
           have c47b0 := eq_true c47
           have c47b1 := decide_eq_true c47
           try have c47b2 := eq_false (Nat.not_lt.2 c47)
           by_cases c48 : (t324 ++ t325).size + 5 ≤ 9223372036854775807
           case neg =>
            rw [if_neg c48] at H
            exact absurd H (by simp)
           rw [if_pos c48] at H
           have c48b0 := eq_true c48
           have c48b1 := decide_eq_true c48
           try have c48b2 := eq_false (Nat.not_lt.2 c48)
           try (have c48b3 := c48b2; simp only [ByteArray.size_append, size_lit, List.size_toArray, List.length_cons, List.length_nil, Nat.zero_add] at c48b3)
           obtain rfl := Option.some.inj H
           have hcz49_0 : wr.cell? ⟨gb297, 0, none⟩ = some (.slice A0_0 l0_0.length c0_0) := (kC BK297.1 0).trans rfl
           have hcz49_1 : wr.cell? ⟨gb297, 1, none⟩ = some (.slice A0_1 l0_1.length c0_1) := (kC BK297.1 1).trans rfl
           have hcz49_2 : wr.cell? ⟨gb297, 2, none⟩ = some (.int .i64 a0_2) := (kC BK297.1 2).trans rfl
           have hcz49_3 : wr.cell? ⟨gb297, 3, none⟩ = some (.int .i64 a0_3) := (kC BK297.1 3).trans rfl
           have hfz49_0 := kF BK297.1 0
           have hfz49_1 := kF BK297.1 1
           have hfz49_2 := kF BK297.1 2
           have hfz49_3 := kF BK297.1 3
           obtain ⟨Ao50, co50, eo50⟩ := Kd.R_slice HO_6.out
           subst eo50
           obtain ⟨Ao51, co51, eo51⟩ := Kd.R_slice HO_5.out
           subst eo51
           go_wp2_with (first | ((with_reducible refine gate_callee (f := 35) rfl ?_); refine goesL_ (some 79) rfl rfl Tryz.func35 (by kernel_rfl) rfl #[.slice Ao51 x5_14.length co51, .slice Ao50 x6_3.length co50] rfl (by (try simp only [List.map_toArray, List.map_cons, List.map_nil]); first | done | rfl | (simp only [List.length_drop, List.length_take]; rfl)) ?_; (with_reducible refine (bitemporalref55_table.calls k3 _ _ x5_14 _ _ x6_3 t324 _ ?side1 ?side2 ?side3 ?side4 A45.out ?gw_).mono ?_); (case gw_ => first | exact HG.1 | (refine GW.below HG.1 ?_; repeat (first | (with_reducible first | exact HB.1 | apply zA | apply zN | apply z1 | refine zS ?_ GE297.1) | exact HB.1))); (case side1 => repeat (first | exact (Kd.R_reads' HO_5.out).2.2 | (with_reducible refine Kd.C_alloc ?_ _) | (with_reducible refine Kd.C_drewN ?_ _) | (with_reducible refine Kd.C_drew ?_))); (case side2 => exact (Kd.R_reads' HO_5.out).2.1); (case side3 => repeat (first | exact (Kd.R_reads' HO_6.out).2.2 | (with_reducible refine Kd.C_alloc ?_ _) | (with_reducible refine Kd.C_drewN ?_ _) | (with_reducible refine Kd.C_drew ?_))); (case side4 => exact (Kd.R_reads' HO_6.out).2.1); rintro e w52 ⟨rfl, hb⟩; refine ⟨_, rfl, ?_⟩; have n0_ := zM (Kd.R_below (by (with_reducible repeat (first | apply Kd.R_alloc | apply Kd.R_drewN | apply Kd.R_drew)); exact HO_5.out) hb); have n1_ := zM (Kd.R_below (by (with_reducible repeat (first | apply Kd.R_alloc | apply Kd.R_drewN | apply Kd.R_drew)); exact HO_6.out) hb); have n2_ := zM (kB (g := gb297) (o := .cells #[.slice A0_0 l0_0.length c0_0, .slice A0_1 l0_1.length c0_1, .int .i64 a0_2, .int .i64 a0_3] 25 (0, 0)) (by (with_reducible repeat (first | refine kN ?_ _ | refine kD ?_ | refine kA ?_ _)); exact BK297.1) hb); have n3_ := zM (zT (by repeat (first | (with_reducible first | exact HB.1 | apply zA | apply zN | apply z1 | refine zS ?_ GE297.1) | exact HB.1)) hb); clear HO_5; clear HO_6; clear BK297; clear HB; have HO_5 := n0_; have HO_6 := n1_; have BK297 := n2_; have HB := n3_; clear n0_ n1_ n2_ n3_; (try clear hb); (try clear hb2); (try clear hk); (try clear hi)) | ((with_reducible refine gate_callee (f := 36) rfl ?_); refine goesL_ (some 82) rfl rfl Tryz.func36 (by kernel_rfl) rfl #[.int .i64 (x6_3.length : Int)] rfl (by (try simp only [List.map_toArray, List.map_cons, List.map_nil]); first | done | rfl | (simp only [List.length_drop, List.length_take]; rfl)) ?_; (with_reducible refine (bitemporalref07_Number.calls k3 (x6_3.length : Int) t325 _ A46.out ?gw_).mono ?_); (case gw_ => first | exact HG.1 | (refine GW.below HG.1 ?_; repeat (first | (with_reducible first | exact HB.1 | apply zA | apply zN | apply z1 | refine zS ?_ GE297.1) | exact HB.1))); rintro e w' ⟨rfl, ⟨nd, rfl⟩⟩; refine ⟨_, rfl, ?_⟩))
           go_ret
           exact ⟨by first | rfl | (simp [errW_none, errW_some] <;> rfl) | (simp [*, errW_none, errW_some] <;> rfl), by repeat (first | (with_reducible first | exact HB.1 | apply zA | apply zN | apply z1 | refine zS ?_ GE297.1) | exact HB.1)⟩
          ·rw [if_neg c44] at H
           have c44b0 : ((x6_3.length : Int) == 1) = false := beq_eq_false_iff_ne.mpr c44
           have c44b1 : ((x6_3.length : Int) != 1) = true := bne_iff_ne.mpr c44
           replace H := Option.bind_eq_some_iff.mp H
           obtain ⟨t326, A530, H⟩ := H
           have A53 := zM A530
           clear A530
           replace H := Option.bind_eq_some_iff.mp H
           obtain ⟨t327, A540, H⟩ := H
           have A54 := zM A540
           clear A540
           by_cases c55 : t326.size + t327.size ≤ 9223372036854775807
           case neg =>
            rw [if_neg c55] at H
            exact absurd H (by simp)
           rw [if_pos c55] at H
           have c55b0 := eq_true c55
           have c55b1 := decide_eq_true c55
           try have c55b2 := eq_false (Nat.not_lt.2 c55)
           by_cases c56 : (t326 ++ t327).size + 6 ≤ 9223372036854775807
           case neg =>
            rw [if_neg c56] at H
            exact absurd H (by simp)
           rw [if_pos c56] at H
           have c56b0 := eq_true c56
           have c56b1 := decide_eq_true c56
           try have c56b2 := eq_false (Nat.not_lt.2 c56)
           try (have c56b3 := c56b2; simp only [ByteArray.size_append, size_lit, List.size_toArray, List.length_cons, List.length_nil, Nat.zero_add] at c56b3)
           obtain rfl := Option.some.inj H
           have hcz57_0 : wr.cell? ⟨gb297, 0, none⟩ = some (.slice A0_0 l0_0.length c0_0) := (kC BK297.1 0).trans rfl
           have hcz57_1 : wr.cell? ⟨gb297, 1, none⟩ = some (.slice A0_1 l0_1.length c0_1) := (kC BK297.1 1).trans rfl
           have hcz57_2 : wr.cell? ⟨gb297, 2, none⟩ = some (.int .i64 a0_2) := (kC BK297.1 2).trans rfl
           have hcz57_3 : wr.cell? ⟨gb297, 3, none⟩ = some (.int .i64 a0_3) := (kC BK297.1 3).trans rfl
           have hfz57_0 := kF BK297.1 0
           have hfz57_1 := kF BK297.1 1
           have hfz57_2 := kF BK297.1 2
           have hfz57_3 := kF BK297.1 3
           obtain ⟨Ao58, co58, eo58⟩ := Kd.R_slice HO_6.out
           subst eo58
           obtain ⟨Ao59, co59, eo59⟩ := Kd.R_slice HO_5.out
           subst eo59
           go_wp2_with (first | ((with_reducible refine gate_callee (f := 35) rfl ?_); refine goesL_ (some 79) rfl rfl Tryz.func35 (by kernel_rfl) rfl #[.slice Ao59 x5_14.length co59, .slice Ao58 x6_3.length co58] rfl (by (try simp only [List.map_toArray, List.map_cons, List.map_nil]); first | done | rfl | (simp only [List.length_drop, List.length_take]; rfl)) ?_; (with_reducible refine (bitemporalref55_table.calls k3 _ _ x5_14 _ _ x6_3 t326 _ ?side1 ?side2 ?side3 ?side4 A53.out ?gw_).mono ?_); (case gw_ => first | exact HG.1 | (refine GW.below HG.1 ?_; repeat (first | (with_reducible first | exact HB.1 | apply zA | apply zN | apply z1 | refine zS ?_ GE297.1) | exact HB.1))); (case side1 => repeat (first | exact (Kd.R_reads' HO_5.out).2.2 | (with_reducible refine Kd.C_alloc ?_ _) | (with_reducible refine Kd.C_drewN ?_ _) | (with_reducible refine Kd.C_drew ?_))); (case side2 => exact (Kd.R_reads' HO_5.out).2.1); (case side3 => repeat (first | exact (Kd.R_reads' HO_6.out).2.2 | (with_reducible refine Kd.C_alloc ?_ _) | (with_reducible refine Kd.C_drewN ?_ _) | (with_reducible refine Kd.C_drew ?_))); (case side4 => exact (Kd.R_reads' HO_6.out).2.1); rintro e w60 ⟨rfl, hb⟩; refine ⟨_, rfl, ?_⟩; have n0_ := zM (Kd.R_below (by (with_reducible repeat (first | apply Kd.R_alloc | apply Kd.R_drewN | apply Kd.R_drew)); exact HO_5.out) hb); have n1_ := zM (Kd.R_below (by (with_reducible repeat (first | apply Kd.R_alloc | apply Kd.R_drewN | apply Kd.R_drew)); exact HO_6.out) hb); have n2_ := zM (kB (g := gb297) (o := .cells #[.slice A0_0 l0_0.length c0_0, .slice A0_1 l0_1.length c0_1, .int .i64 a0_2, .int .i64 a0_3] 25 (0, 0)) (by (with_reducible repeat (first | refine kN ?_ _ | refine kD ?_ | refine kA ?_ _)); exact BK297.1) hb); have n3_ := zM (zT (by repeat (first | (with_reducible first | exact HB.1 | apply zA | apply zN | apply z1 | refine zS ?_ GE297.1) | exact HB.1)) hb); clear HO_5; clear HO_6; clear BK297; clear HB; have HO_5 := n0_; have HO_6 := n1_; have BK297 := n2_; have HB := n3_; clear n0_ n1_ n2_ n3_; (try clear hb); (try clear hb2); (try clear hk); (try clear hi)) | ((with_reducible refine gate_callee (f := 36) rfl ?_); refine goesL_ (some 82) rfl rfl Tryz.func36 (by kernel_rfl) rfl #[.int .i64 (x6_3.length : Int)] rfl (by (try simp only [List.map_toArray, List.map_cons, List.map_nil]); first | done | rfl | (simp only [List.length_drop, List.length_take]; rfl)) ?_; (with_reducible refine (bitemporalref07_Number.calls k3 (x6_3.length : Int) t327 _ A54.out ?gw_).mono ?_); (case gw_ => first | exact HG.1 | (refine GW.below HG.1 ?_; repeat (first | (with_reducible first | exact HB.1 | apply zA | apply zN | apply z1 | refine zS ?_ GE297.1) | exact HB.1))); rintro e w' ⟨rfl, ⟨nd, rfl⟩⟩; refine ⟨_, rfl, ?_⟩))
           go_ret
           exact ⟨by first | rfl | (simp [errW_none, errW_some] <;> rfl) | (simp [*, errW_none, errW_some] <;> rfl), by repeat (first | (with_reducible first | exact HB.1 | apply zA | apply zN | apply z1 | refine zS ?_ GE297.1) | exact HB.1)⟩

end Go.Proofs.YthdgjobhofpjeaaGreatDoor.X
