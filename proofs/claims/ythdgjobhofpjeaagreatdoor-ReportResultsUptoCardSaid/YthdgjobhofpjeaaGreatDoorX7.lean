/- Walks of Go functions of this seat, printed by a program of mine (wip/tools/xprint.py) over the kit's printer: each function as a plain Lean function, and the proof that the call comes to what it says. No conditions but those in each theorem. -/
import Derived.Test.YthdgjobhofpjeaaGreatDoorX0
import Derived.Test.YthdgjobhofpjeaaGreatDoorX3
namespace Go.Proofs.YthdgjobhofpjeaaGreatDoor.X
open Go.RowKit Go.Proofs.YthdgjobhofpjeaaGreatDoorW.PrintWords Go.Proofs.YthdgjobhofpjeaaGreatDoorW.PrintLast Go.Proofs.YthdgjobhofpjeaaGreatDoorW.PrintMore
attribute [local go_sem] max2_int min2_int max_two min_two max_three min_three max_four min_four   -- for this text's walks alone
set_option linter.unusedVariables false
set_option linter.unusedSimpArgs false

/-! ### period_Text: function 29 -/
def period_Text.f (a0_0 : Int) (a0_1 : Int) : Option (ByteArray) := (period_Valid.f a0_0 a0_1).bind fun t126 => (if t126 = true then (if a0_1 = 1099511627776 then ((strconv_Itoa.f a0_0).bind fun t127 => (if 1 + t127.size ≤ 9223372036854775807 then (if ((⟨#[91]⟩ : ByteArray) ++ t127).size + 2 ≤ 9223372036854775807 then (if (((⟨#[91]⟩ : ByteArray) ++ t127) ++ (⟨#[44, 32]⟩ : ByteArray)).size + 7 ≤ 9223372036854775807 then (if ((((⟨#[91]⟩ : ByteArray) ++ t127) ++ (⟨#[44, 32]⟩ : ByteArray)) ++ (⟨#[102, 111, 114, 101, 118, 101, 114]⟩ : ByteArray)).size + 1 ≤ 9223372036854775807 then (some (((((⟨#[91]⟩ : ByteArray) ++ t127) ++ (⟨#[44, 32]⟩ : ByteArray)) ++ (⟨#[102, 111, 114, 101, 118, 101, 114]⟩ : ByteArray)) ++ (⟨#[41]⟩ : ByteArray))) else (none)) else (none)) else (none)) else (none))) else ((strconv_Itoa.f a0_1).bind fun t128 => ((strconv_Itoa.f a0_0).bind fun t129 => (if 1 + t129.size ≤ 9223372036854775807 then (if ((⟨#[91]⟩ : ByteArray) ++ t129).size + 2 ≤ 9223372036854775807 then (if (((⟨#[91]⟩ : ByteArray) ++ t129) ++ (⟨#[44, 32]⟩ : ByteArray)).size + t128.size ≤ 9223372036854775807 then (if ((((⟨#[91]⟩ : ByteArray) ++ t129) ++ (⟨#[44, 32]⟩ : ByteArray)) ++ t128).size + 1 ≤ 9223372036854775807 then (some (((((⟨#[91]⟩ : ByteArray) ++ t129) ++ (⟨#[44, 32]⟩ : ByteArray)) ++ t128) ++ (⟨#[41]⟩ : ByteArray))) else (none)) else (none)) else (none)) else (none))))) else (some (⟨#[]⟩ : ByteArray)))
set_option maxHeartbeats 8000000 in
set_option maxRecDepth 100000 in
theorem period_Text.calls (a0_0 : Int) (a0_1 : Int) (r : ByteArray) (w : World) (h : period_Text.f a0_0 a0_1 = some r) (hG : GW w) :
  Calls Tryz.prog 29 #[.agg #[.int .i64 a0_0, .int .i64 a0_1]] w fun e w' => e = .returned (.string r) ∧ Below w.heap.size w w' := by
 have HG := zM hG
 clear hG
 have hu33 := Tryz.underlying33
 have HB := zM (Below.refl w.heap.size w)
 have H : ((period_Valid.f a0_0 a0_1).bind fun t126 => (if t126 = true then (if a0_1 = 1099511627776 then ((strconv_Itoa.f a0_0).bind fun t127 => (if 1 + t127.size ≤ 9223372036854775807 then (if ((⟨#[91]⟩ : ByteArray) ++ t127).size + 2 ≤ 9223372036854775807 then (if (((⟨#[91]⟩ : ByteArray) ++ t127) ++ (⟨#[44, 32]⟩ : ByteArray)).size + 7 ≤ 9223372036854775807 then (if ((((⟨#[91]⟩ : ByteArray) ++ t127) ++ (⟨#[44, 32]⟩ : ByteArray)) ++ (⟨#[102, 111, 114, 101, 118, 101, 114]⟩ : ByteArray)).size + 1 ≤ 9223372036854775807 then (some (((((⟨#[91]⟩ : ByteArray) ++ t127) ++ (⟨#[44, 32]⟩ : ByteArray)) ++ (⟨#[102, 111, 114, 101, 118, 101, 114]⟩ : ByteArray)) ++ (⟨#[41]⟩ : ByteArray))) else (none)) else (none)) else (none)) else (none))) else ((strconv_Itoa.f a0_1).bind fun t128 => ((strconv_Itoa.f a0_0).bind fun t129 => (if 1 + t129.size ≤ 9223372036854775807 then (if ((⟨#[91]⟩ : ByteArray) ++ t129).size + 2 ≤ 9223372036854775807 then (if (((⟨#[91]⟩ : ByteArray) ++ t129) ++ (⟨#[44, 32]⟩ : ByteArray)).size + t128.size ≤ 9223372036854775807 then (if ((((⟨#[91]⟩ : ByteArray) ++ t129) ++ (⟨#[44, 32]⟩ : ByteArray)) ++ t128).size + 1 ≤ 9223372036854775807 then (some (((((⟨#[91]⟩ : ByteArray) ++ t129) ++ (⟨#[44, 32]⟩ : ByteArray)) ++ t128) ++ (⟨#[41]⟩ : ByteArray))) else (none)) else (none)) else (none)) else (none))))) else (some (⟨#[]⟩ : ByteArray)))) = some r := h
 clear h
 replace H := Option.bind_eq_some_iff.mp H
 obtain ⟨t126, A20, H⟩ := H
 have A2 := zM A20
 clear A20
 by_cases c3 : t126 = true
 ·subst c3
  have H1 : (if a0_1 = 1099511627776 then ((strconv_Itoa.f a0_0).bind fun t127 => (if 1 + t127.size ≤ 9223372036854775807 then (if ((⟨#[91]⟩ : ByteArray) ++ t127).size + 2 ≤ 9223372036854775807 then (if (((⟨#[91]⟩ : ByteArray) ++ t127) ++ (⟨#[44, 32]⟩ : ByteArray)).size + 7 ≤ 9223372036854775807 then (if ((((⟨#[91]⟩ : ByteArray) ++ t127) ++ (⟨#[44, 32]⟩ : ByteArray)) ++ (⟨#[102, 111, 114, 101, 118, 101, 114]⟩ : ByteArray)).size + 1 ≤ 9223372036854775807 then (some (((((⟨#[91]⟩ : ByteArray) ++ t127) ++ (⟨#[44, 32]⟩ : ByteArray)) ++ (⟨#[102, 111, 114, 101, 118, 101, 114]⟩ : ByteArray)) ++ (⟨#[41]⟩ : ByteArray))) else (none)) else (none)) else (none)) else (none))) else ((strconv_Itoa.f a0_1).bind fun t128 => ((strconv_Itoa.f a0_0).bind fun t129 => (if 1 + t129.size ≤ 9223372036854775807 then (if ((⟨#[91]⟩ : ByteArray) ++ t129).size + 2 ≤ 9223372036854775807 then (if (((⟨#[91]⟩ : ByteArray) ++ t129) ++ (⟨#[44, 32]⟩ : ByteArray)).size + t128.size ≤ 9223372036854775807 then (if ((((⟨#[91]⟩ : ByteArray) ++ t129) ++ (⟨#[44, 32]⟩ : ByteArray)) ++ t128).size + 1 ≤ 9223372036854775807 then (some (((((⟨#[91]⟩ : ByteArray) ++ t129) ++ (⟨#[44, 32]⟩ : ByteArray)) ++ t128) ++ (⟨#[41]⟩ : ByteArray))) else (none)) else (none)) else (none)) else (none))))) = some r := by rw [if_pos rfl] at H; exact H
  clear H
  have H := H1
  clear H1
  by_cases c4 : a0_1 = 1099511627776
  ·rw [if_pos c4] at H
   have c4b0 : (a0_1 == 1099511627776) = true := beq_iff_eq.mpr c4
   have c4b1 : (a0_1 != 1099511627776) = false := bne_eq_false_iff_eq.mpr c4
   clear c4
   replace H := Option.bind_eq_some_iff.mp H
   obtain ⟨t127, A50, H⟩ := H
   have A5 := zM A50
   clear A50
   by_cases c6 : 1 + t127.size ≤ 9223372036854775807
   case neg =>
    rw [if_neg c6] at H
    exact absurd H (by simp)
   rw [if_pos c6] at H
   have c6b0 := eq_true c6
   have c6b1 := decide_eq_true c6
   try have c6b2 := eq_false (Nat.not_lt.2 c6)
   by_cases c7 : ((⟨#[91]⟩ : ByteArray) ++ t127).size + 2 ≤ 9223372036854775807
   case neg =>
    rw [if_neg c7] at H
    exact absurd H (by simp)
   rw [if_pos c7] at H
   have c7b0 := eq_true c7
   have c7b1 := decide_eq_true c7
   try have c7b2 := eq_false (Nat.not_lt.2 c7)
   try (have c7b3 := c7b2; simp only [ByteArray.size_append, size_lit, List.size_toArray, List.length_cons, List.length_nil, Nat.zero_add] at c7b3)
   by_cases c8 : (((⟨#[91]⟩ : ByteArray) ++ t127) ++ (⟨#[44, 32]⟩ : ByteArray)).size + 7 ≤ 9223372036854775807
   case neg =>
    rw [if_neg c8] at H
    exact absurd H (by simp)
   rw [if_pos c8] at H
   have c8b0 := eq_true c8
   have c8b1 := decide_eq_true c8
   try have c8b2 := eq_false (Nat.not_lt.2 c8)
   try (have c8b3 := c8b2; simp only [ByteArray.size_append, size_lit, List.size_toArray, List.length_cons, List.length_nil, Nat.zero_add] at c8b3)
   by_cases c9 : ((((⟨#[91]⟩ : ByteArray) ++ t127) ++ (⟨#[44, 32]⟩ : ByteArray)) ++ (⟨#[102, 111, 114, 101, 118, 101, 114]⟩ : ByteArray)).size + 1 ≤ 9223372036854775807
   case neg =>
    rw [if_neg c9] at H
    exact absurd H (by simp)
   rw [if_pos c9] at H
   have c9b0 := eq_true c9
   have c9b1 := decide_eq_true c9
   try have c9b2 := eq_false (Nat.not_lt.2 c9)
   try (have c9b3 := c9b2; simp only [ByteArray.size_append, size_lit, List.size_toArray, List.length_cons, List.length_nil, Nat.zero_add] at c9b3)
   obtain rfl := Option.some.inj H
   go_enter Tryz.func29, Tryz.ntmps29
   go_wp2_with (first | ((with_reducible refine gate_dst (N := 1) rfl ?_); refine box_event ?hg (N := 1) ?hd (cs := #[.int .i64 a0_0, .int .i64 a0_1]) (t := 33) ?hr ?_; (case hd => rfl); (case hg => rfl); (case hr => first | (go_simp; done) | (go_simp; rfl)); intro gb125 hg w10 hbox hb; have n0_ := zM (zT (by repeat (first | (with_reducible first | exact HB.1 | apply zA | apply zN | apply z1) | exact HB.1)) hb); have n1_ := zM (hbox); have n2_ := zM ((by rw [hg]; exact (zZ (by repeat (first | (with_reducible first | exact HB.1 | apply zA | apply zN | apply z1) | exact HB.1))) : w.heap.size ≤ gb125)); have n3_ := n2_; clear HB; have HB := n0_; have BK125 := n1_; have GW125 := n2_; have GE125 := n3_; clear n0_ n1_ n2_ n3_; clear hb hbox hg; have hcz11_0 : w10.cell? ⟨gb125, 0, none⟩ = some (.int .i64 a0_0) := (kC BK125.1 0).trans rfl; have hcz11_1 : w10.cell? ⟨gb125, 1, none⟩ = some (.int .i64 a0_1) := (kC BK125.1 1).trans rfl; have hfz11_0 := kF BK125.1 0; have hfz11_1 := kF BK125.1 1) | ((with_reducible refine gate_callee (f := 37) rfl ?_); refine goesL_ (some 5) rfl rfl Tryz.func37 (by kernel_rfl) rfl #[.agg #[.int .i64 a0_0, .int .i64 a0_1]] rfl (by (try simp only [List.map_toArray, List.map_cons, List.map_nil]); first | done | rfl | (simp only [List.length_drop, List.length_take]; rfl)) ?_; (with_reducible refine (period_Valid.calls a0_0 a0_1 true _ A2.out ?gw_).mono ?_); (case gw_ => first | exact HG.1 | (refine GW.below HG.1 ?_; repeat (first | (with_reducible first | exact HB.1 | apply zA | apply zN | apply z1 | refine zS ?_ GE125.1) | exact HB.1))); rintro e w12 ⟨rfl, hb⟩; refine ⟨_, rfl, ?_⟩; have n0_ := zM (kB (g := gb125) (o := .cells #[.int .i64 a0_0, .int .i64 a0_1] 33 (0, 0)) (by (with_reducible repeat (first | refine kN ?_ _ | refine kD ?_ | refine kA ?_ _)); exact BK125.1) hb); have n1_ := zM (zT (by repeat (first | (with_reducible first | exact HB.1 | apply zA | apply zN | apply z1 | refine zS ?_ GE125.1) | exact HB.1)) hb); clear BK125; clear HB; have BK125 := n0_; have HB := n1_; clear n0_ n1_; (try clear hb); (try clear hb2); (try clear hk); (try clear hi); have hcz13_0 : w12.cell? ⟨gb125, 0, none⟩ = some (.int .i64 a0_0) := (kC BK125.1 0).trans rfl; have hcz13_1 : w12.cell? ⟨gb125, 1, none⟩ = some (.int .i64 a0_1) := (kC BK125.1 1).trans rfl; have hfz13_0 := kF BK125.1 0; have hfz13_1 := kF BK125.1 1) | ((with_reducible refine gate_callee (f := 23) rfl ?_); refine goesL_ (some 15) rfl rfl Tryz.func23 (by kernel_rfl) rfl #[.int .i64 a0_0] rfl (by (try simp only [List.map_toArray, List.map_cons, List.map_nil]); first | done | rfl | (simp only [List.length_drop, List.length_take]; rfl)) ?_; (with_reducible refine (strconv_Itoa.calls a0_0 t127 _ A5.out ?gw_).mono ?_); (case gw_ => first | exact HG.1 | (refine GW.below HG.1 ?_; repeat (first | (with_reducible first | exact HB.1 | apply zA | apply zN | apply z1 | refine zS ?_ GE125.1) | exact HB.1))); rintro e w14 ⟨rfl, hb⟩; refine ⟨_, rfl, ?_⟩; have n0_ := zM (kB (g := gb125) (o := .cells #[.int .i64 a0_0, .int .i64 a0_1] 33 (0, 0)) (by (with_reducible repeat (first | refine kN ?_ _ | refine kD ?_ | refine kA ?_ _)); exact BK125.1) hb); have n1_ := zM (zT (by repeat (first | (with_reducible first | exact HB.1 | apply zA | apply zN | apply z1 | refine zS ?_ GE125.1) | exact HB.1)) hb); clear BK125; clear HB; have BK125 := n0_; have HB := n1_; clear n0_ n1_; (try clear hb); (try clear hb2); (try clear hk); (try clear hi)))
   go_ret
   exact ⟨by first | rfl | (simp [errW_none, errW_some] <;> rfl) | (simp [*, errW_none, errW_some] <;> rfl), by repeat (first | (with_reducible first | exact HB.1 | apply zA | apply zN | apply z1 | refine zS ?_ GE125.1) | exact HB.1)⟩
  ·rw [if_neg c4] at H
   have c4b0 : (a0_1 == 1099511627776) = false := beq_eq_false_iff_ne.mpr c4
   have c4b1 : (a0_1 != 1099511627776) = true := bne_iff_ne.mpr c4
   replace H := Option.bind_eq_some_iff.mp H
   obtain ⟨t128, A150, H⟩ := H
   have A15 := zM A150
   clear A150
   replace H := Option.bind_eq_some_iff.mp H
   obtain ⟨t129, A160, H⟩ := H
   have A16 := zM A160
   clear A160
   by_cases c17 : 1 + t129.size ≤ 9223372036854775807
   case neg =>
    rw [if_neg c17] at H
    exact absurd H (by simp)
   rw [if_pos c17] at H
   have c17b0 := eq_true c17
   have c17b1 := decide_eq_true c17
   try have c17b2 := eq_false (Nat.not_lt.2 c17)
   by_cases c18 : ((⟨#[91]⟩ : ByteArray) ++ t129).size + 2 ≤ 9223372036854775807
   case neg =>
    rw [if_neg c18] at H
    exact absurd H (by simp)
   rw [if_pos c18] at H
   have c18b0 := eq_true c18
   have c18b1 := decide_eq_true c18
   try have c18b2 := eq_false (Nat.not_lt.2 c18)
   try (have c18b3 := c18b2; simp only [ByteArray.size_append, size_lit, List.size_toArray, List.length_cons, List.length_nil, Nat.zero_add] at c18b3)
   by_cases c19 : (((⟨#[91]⟩ : ByteArray) ++ t129) ++ (⟨#[44, 32]⟩ : ByteArray)).size + t128.size ≤ 9223372036854775807
   case neg =>
    rw [if_neg c19] at H
    exact absurd H (by simp)
   rw [if_pos c19] at H
   have c19b0 := eq_true c19
   have c19b1 := decide_eq_true c19
   try have c19b2 := eq_false (Nat.not_lt.2 c19)
   try (have c19b3 := c19b2; simp only [ByteArray.size_append, size_lit, List.size_toArray, List.length_cons, List.length_nil, Nat.zero_add] at c19b3)
   by_cases c20 : ((((⟨#[91]⟩ : ByteArray) ++ t129) ++ (⟨#[44, 32]⟩ : ByteArray)) ++ t128).size + 1 ≤ 9223372036854775807
   case neg =>
    rw [if_neg c20] at H
    exact absurd H (by simp)
   rw [if_pos c20] at H
   have c20b0 := eq_true c20
   have c20b1 := decide_eq_true c20
   try have c20b2 := eq_false (Nat.not_lt.2 c20)
   try (have c20b3 := c20b2; simp only [ByteArray.size_append, size_lit, List.size_toArray, List.length_cons, List.length_nil, Nat.zero_add] at c20b3)
   obtain rfl := Option.some.inj H
   go_enter Tryz.func29, Tryz.ntmps29
   go_wp2_with (first | ((with_reducible refine gate_dst (N := 1) rfl ?_); refine box_event ?hg (N := 1) ?hd (cs := #[.int .i64 a0_0, .int .i64 a0_1]) (t := 33) ?hr ?_; (case hd => rfl); (case hg => rfl); (case hr => first | (go_simp; done) | (go_simp; rfl)); intro gb125 hg w21 hbox hb; have n0_ := zM (zT (by repeat (first | (with_reducible first | exact HB.1 | apply zA | apply zN | apply z1) | exact HB.1)) hb); have n1_ := zM (hbox); have n2_ := zM ((by rw [hg]; exact (zZ (by repeat (first | (with_reducible first | exact HB.1 | apply zA | apply zN | apply z1) | exact HB.1))) : w.heap.size ≤ gb125)); have n3_ := n2_; clear HB; have HB := n0_; have BK125 := n1_; have GW125 := n2_; have GE125 := n3_; clear n0_ n1_ n2_ n3_; clear hb hbox hg; have hcz22_0 : w21.cell? ⟨gb125, 0, none⟩ = some (.int .i64 a0_0) := (kC BK125.1 0).trans rfl; have hcz22_1 : w21.cell? ⟨gb125, 1, none⟩ = some (.int .i64 a0_1) := (kC BK125.1 1).trans rfl; have hfz22_0 := kF BK125.1 0; have hfz22_1 := kF BK125.1 1) | ((with_reducible refine gate_callee (f := 37) rfl ?_); refine goesL_ (some 5) rfl rfl Tryz.func37 (by kernel_rfl) rfl #[.agg #[.int .i64 a0_0, .int .i64 a0_1]] rfl (by (try simp only [List.map_toArray, List.map_cons, List.map_nil]); first | done | rfl | (simp only [List.length_drop, List.length_take]; rfl)) ?_; (with_reducible refine (period_Valid.calls a0_0 a0_1 true _ A2.out ?gw_).mono ?_); (case gw_ => first | exact HG.1 | (refine GW.below HG.1 ?_; repeat (first | (with_reducible first | exact HB.1 | apply zA | apply zN | apply z1 | refine zS ?_ GE125.1) | exact HB.1))); rintro e w23 ⟨rfl, hb⟩; refine ⟨_, rfl, ?_⟩; have n0_ := zM (kB (g := gb125) (o := .cells #[.int .i64 a0_0, .int .i64 a0_1] 33 (0, 0)) (by (with_reducible repeat (first | refine kN ?_ _ | refine kD ?_ | refine kA ?_ _)); exact BK125.1) hb); have n1_ := zM (zT (by repeat (first | (with_reducible first | exact HB.1 | apply zA | apply zN | apply z1 | refine zS ?_ GE125.1) | exact HB.1)) hb); clear BK125; clear HB; have BK125 := n0_; have HB := n1_; clear n0_ n1_; (try clear hb); (try clear hb2); (try clear hk); (try clear hi); have hcz24_0 : w23.cell? ⟨gb125, 0, none⟩ = some (.int .i64 a0_0) := (kC BK125.1 0).trans rfl; have hcz24_1 : w23.cell? ⟨gb125, 1, none⟩ = some (.int .i64 a0_1) := (kC BK125.1 1).trans rfl; have hfz24_0 := kF BK125.1 0; have hfz24_1 := kF BK125.1 1) | ((with_reducible refine gate_callee (f := 23) rfl ?_); refine goesL_ (some 12) rfl rfl Tryz.func23 (by kernel_rfl) rfl #[.int .i64 a0_1] rfl (by (try simp only [List.map_toArray, List.map_cons, List.map_nil]); first | done | rfl | (simp only [List.length_drop, List.length_take]; rfl)) ?_; (with_reducible refine (strconv_Itoa.calls a0_1 t128 _ A15.out ?gw_).mono ?_); (case gw_ => first | exact HG.1 | (refine GW.below HG.1 ?_; repeat (first | (with_reducible first | exact HB.1 | apply zA | apply zN | apply z1 | refine zS ?_ GE125.1) | exact HB.1))); rintro e w25 ⟨rfl, hb⟩; refine ⟨_, rfl, ?_⟩; have n0_ := zM (kB (g := gb125) (o := .cells #[.int .i64 a0_0, .int .i64 a0_1] 33 (0, 0)) (by (with_reducible repeat (first | refine kN ?_ _ | refine kD ?_ | refine kA ?_ _)); exact BK125.1) hb); have n1_ := zM (zT (by repeat (first | (with_reducible first | exact HB.1 | apply zA | apply zN | apply z1 | refine zS ?_ GE125.1) | exact HB.1)) hb); clear BK125; clear HB; have BK125 := n0_; have HB := n1_; clear n0_ n1_; (try clear hb); (try clear hb2); (try clear hk); (try clear hi); have hcz26_0 : w25.cell? ⟨gb125, 0, none⟩ = some (.int .i64 a0_0) := (kC BK125.1 0).trans rfl; have hcz26_1 : w25.cell? ⟨gb125, 1, none⟩ = some (.int .i64 a0_1) := (kC BK125.1 1).trans rfl; have hfz26_0 := kF BK125.1 0; have hfz26_1 := kF BK125.1 1) | ((with_reducible refine gate_callee (f := 23) rfl ?_); refine goesL_ (some 15) rfl rfl Tryz.func23 (by kernel_rfl) rfl #[.int .i64 a0_0] rfl (by (try simp only [List.map_toArray, List.map_cons, List.map_nil]); first | done | rfl | (simp only [List.length_drop, List.length_take]; rfl)) ?_; (with_reducible refine (strconv_Itoa.calls a0_0 t129 _ A16.out ?gw_).mono ?_); (case gw_ => first | exact HG.1 | (refine GW.below HG.1 ?_; repeat (first | (with_reducible first | exact HB.1 | apply zA | apply zN | apply z1 | refine zS ?_ GE125.1) | exact HB.1))); rintro e w27 ⟨rfl, hb⟩; refine ⟨_, rfl, ?_⟩; have n0_ := zM (kB (g := gb125) (o := .cells #[.int .i64 a0_0, .int .i64 a0_1] 33 (0, 0)) (by (with_reducible repeat (first | refine kN ?_ _ | refine kD ?_ | refine kA ?_ _)); exact BK125.1) hb); have n1_ := zM (zT (by repeat (first | (with_reducible first | exact HB.1 | apply zA | apply zN | apply z1 | refine zS ?_ GE125.1) | exact HB.1)) hb); clear BK125; clear HB; have BK125 := n0_; have HB := n1_; clear n0_ n1_; (try clear hb); (try clear hb2); (try clear hk); (try clear hi)))
   go_ret
   exact ⟨by first | rfl | (simp [errW_none, errW_some] <;> rfl) | (simp [*, errW_none, errW_some] <;> rfl), by repeat (first | (with_reducible first | exact HB.1 | apply zA | apply zN | apply z1 | refine zS ?_ GE125.1) | exact HB.1)⟩
 ·replace c3 := Bool.eq_false_iff.mpr c3
  subst c3
  have H1 : (some (⟨#[]⟩ : ByteArray)) = some r := by rw [if_neg (show ¬ (false = true) by decide)] at H; exact H
  clear H
  have H := H1
  clear H1
  obtain rfl := Option.some.inj H
  go_enter Tryz.func29, Tryz.ntmps29
  go_wp2_with (first | ((with_reducible refine gate_dst (N := 1) rfl ?_); refine box_event ?hg (N := 1) ?hd (cs := #[.int .i64 a0_0, .int .i64 a0_1]) (t := 33) ?hr ?_; (case hd => rfl); (case hg => rfl); (case hr => first | (go_simp; done) | (go_simp; rfl)); intro gb125 hg w28 hbox hb; have n0_ := zM (zT (by repeat (first | (with_reducible first | exact HB.1 | apply zA | apply zN | apply z1) | exact HB.1)) hb); have n1_ := zM (hbox); have n2_ := zM ((by rw [hg]; exact (zZ (by repeat (first | (with_reducible first | exact HB.1 | apply zA | apply zN | apply z1) | exact HB.1))) : w.heap.size ≤ gb125)); have n3_ := n2_; clear HB; have HB := n0_; have BK125 := n1_; have GW125 := n2_; have GE125 := n3_; clear n0_ n1_ n2_ n3_; clear hb hbox hg; have hcz29_0 : w28.cell? ⟨gb125, 0, none⟩ = some (.int .i64 a0_0) := (kC BK125.1 0).trans rfl; have hcz29_1 : w28.cell? ⟨gb125, 1, none⟩ = some (.int .i64 a0_1) := (kC BK125.1 1).trans rfl; have hfz29_0 := kF BK125.1 0; have hfz29_1 := kF BK125.1 1) | ((with_reducible refine gate_callee (f := 37) rfl ?_); refine goesL_ (some 5) rfl rfl Tryz.func37 (by kernel_rfl) rfl #[.agg #[.int .i64 a0_0, .int .i64 a0_1]] rfl (by (try simp only [List.map_toArray, List.map_cons, List.map_nil]); first | done | rfl | (simp only [List.length_drop, List.length_take]; rfl)) ?_; (with_reducible refine (period_Valid.calls a0_0 a0_1 false _ A2.out ?gw_).mono ?_); (case gw_ => first | exact HG.1 | (refine GW.below HG.1 ?_; repeat (first | (with_reducible first | exact HB.1 | apply zA | apply zN | apply z1 | refine zS ?_ GE125.1) | exact HB.1))); rintro e w30 ⟨rfl, hb⟩; refine ⟨_, rfl, ?_⟩; have n0_ := zM (kB (g := gb125) (o := .cells #[.int .i64 a0_0, .int .i64 a0_1] 33 (0, 0)) (by (with_reducible repeat (first | refine kN ?_ _ | refine kD ?_ | refine kA ?_ _)); exact BK125.1) hb); have n1_ := zM (zT (by repeat (first | (with_reducible first | exact HB.1 | apply zA | apply zN | apply z1 | refine zS ?_ GE125.1) | exact HB.1)) hb); clear BK125; clear HB; have BK125 := n0_; have HB := n1_; clear n0_ n1_; (try clear hb); (try clear hb2); (try clear hk); (try clear hi)))
  go_ret
  exact ⟨by first | rfl | (simp [errW_none, errW_some] <;> rfl) | (simp [*, errW_none, errW_some] <;> rfl), by repeat (first | (with_reducible first | exact HB.1 | apply zA | apply zN | apply z1 | refine zS ?_ GE125.1) | exact HB.1)⟩

end Go.Proofs.YthdgjobhofpjeaaGreatDoor.X
