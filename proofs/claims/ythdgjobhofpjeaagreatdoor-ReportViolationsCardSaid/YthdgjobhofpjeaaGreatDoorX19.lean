/- Walks of Go functions of this seat, printed by a program of mine (wip/tools/xprint.py) over the kit's printer: each function as a plain Lean function, and the proof that the call comes to what it says. No conditions but those in each theorem. -/
import Derived.Test.YthdgjobhofpjeaaGreatDoorX0
import Derived.Test.YthdgjobhofpjeaaGreatDoorX4
import Derived.Test.YthdgjobhofpjeaaGreatDoorX6
import Derived.Test.YthdgjobhofpjeaaGreatDoorX7
namespace Go.Proofs.YthdgjobhofpjeaaGreatDoor.X
open Go.RowKit Go.Proofs.YthdgjobhofpjeaaGreatDoorW.PrintWords Go.Proofs.YthdgjobhofpjeaaGreatDoorW.PrintLast Go.Proofs.YthdgjobhofpjeaaGreatDoorW.PrintMore
attribute [local go_sem] max2_int min2_int max_two min_two max_three min_three max_four min_four   -- for this text's walks alone
set_option linter.unusedVariables false
set_option linter.unusedSimpArgs false

/-! ### tuple_Text: function 44 -/
def tuple_Text.l0 : Nat → List ByteArray → List (S54) → Int → Int → Option (ByteArray)
  | 0, _, _, _, _ => none
  | k + 1, x3, x6, x7, x8 => if x8 < x7 then (if 0 ≤ x8 then (if x8 < (x6.length : Int) then ((value_Literal.f k ((rd_T54 x6 x8).f0) ((rd_T54 x6 x8).f1) ((rd_T54 x6 x8).f2)).bind fun t393 => (if x3.length < 8796093022208 then (tuple_Text.l0 k (x3 ++ [t393]) x6 x7 (wrap64 (x8 + 1))) else (none))) else (none)) else (none)) else ((strings_Join.f x3 (⟨#[44, 32]⟩ : ByteArray)).bind fun t397 => (if 1 + t397.size ≤ 9223372036854775807 then (if ((⟨#[40]⟩ : ByteArray) ++ t397).size + 1 ≤ 9223372036854775807 then (some (((⟨#[40]⟩ : ByteArray) ++ t397) ++ (⟨#[41]⟩ : ByteArray))) else (none)) else (none)))
def tuple_Text.f (k : Nat) (l0 : List (S54)) : Option (ByteArray) := tuple_Text.l0 k ([] : List ByteArray) l0 (l0.length : Int) 0
theorem tuple_Text.mono_l : ∀ k, (∀ y0 y1 y2 y3, LeO (tuple_Text.l0 k y0 y1 y2 y3) (tuple_Text.l0 (k + 1) y0 y1 y2 y3))
  | 0 => fun _ _ _ _ r h => by simp [tuple_Text.l0] at h
  | k + 1 => by
    have ih0 := tuple_Text.mono_l k
    · intro y0 y1 y2 y3
      unfold tuple_Text.l0
      repeat' first
      | (with_reducible exact ih0 _ _ _ _)
      | (with_reducible exact value_Literal.mono _ _ _ _)
      | (with_reducible exact LeO.refl _)
      | (with_reducible exact LeO.none _)
      | (with_reducible refine LeO.ite ?_ ?_)
      | (with_reducible refine LeO.bind ?_ (fun _ => ?_))
      | exact ih0 _ _ _ _
      | exact value_Literal.mono _ _ _ _
      | exact LeO.none _
      | refine LeO.ite ?_ ?_
      | refine LeO.bind ?_ (fun _ => ?_)
theorem tuple_Text.mono : ∀ a0 k, LeO (tuple_Text.f k a0) (tuple_Text.f (k + 1) a0) := by
  intro a0 k
  have ih0 := tuple_Text.mono_l k
  unfold tuple_Text.f
  repeat' first
      | (with_reducible exact ih0 _ _ _ _)
      | (with_reducible exact value_Literal.mono _ _ _ _)
      | (with_reducible exact LeO.refl _)
      | (with_reducible exact LeO.none _)
      | (with_reducible refine LeO.ite ?_ ?_)
      | (with_reducible refine LeO.bind ?_ (fun _ => ?_))
      | exact ih0 _ _ _ _
      | exact value_Literal.mono _ _ _ _
      | exact LeO.none _
      | refine LeO.ite ?_ ?_
      | refine LeO.bind ?_ (fun _ => ?_)
set_option maxHeartbeats 8000000 in
set_option maxRecDepth 100000 in
theorem tuple_Text.calls (k : Nat) (A0 : Option Addr) (c0 : Nat) (l0 : List (S54)) (r : ByteArray) (w : World) (hr0 : Kd.C k54 w A0 l0.length l0) (hc0 : l0.length ≤ c0) (h : tuple_Text.f k l0 = some r) (hG : GW w) :
  Calls Tryz.prog 44 #[.slice A0 l0.length c0] w fun e w' => e = .returned (.string r) ∧ Below w.heap.size w w' := by
 have HG := zM hG
 clear hG
 have hu54 := Tryz.underlying54
 have HR0 := zM hr0
 have HC0 := zM hc0
 clear hr0 hc0
 have HB := zM (Below.refl w.heap.size w)
 have H : (tuple_Text.l0 k ([] : List ByteArray) l0 (l0.length : Int) 0) = some r := h
 clear h
 have H' := zM H
 clear H
 go_enter Tryz.func44, Tryz.ntmps44
 go_wp2
 go_loopg [3, 8] k (fun kq v3 v8 w' => ∃ (x3_1 : List ByteArray) (x8_1 : Int), v8 = .int .i64 x8_1 ∧ Aside0 (tuple_Text.l0 kq x3_1 l0 (l0.length : Int) x8_1 = some r) ∧ Aside0 (kq ≤ k) ∧ Aside0 (Kd.R Kd.string 9 w' w.heap.size (fun _ => True) v3 x3_1) ∧ Aside0 (Below w.heap.size w w'))
 case atStart => exact ⟨(([] : List ByteArray)), (0), (by first | rfl | (simp; done) | (simp [*]; done)), H', ⟨Nat.le_refl _⟩, ⟨by first | exact Kd.R_nil _ _ _ _ _ | exact Kd.N_nil _ _ _ _ _ | exact Kd.V_nil _ _ _ _ _ | exact Kd.Q_nil _ _ _ _ _ | exact Kd.S_nil _ _ _ _ _⟩, ⟨by repeat (first | (with_reducible first | exact HB.1 | apply zA | apply zN | apply z1) | exact HB.1)⟩⟩
 case round =>
  clear H'
  obtain ⟨x3_1, x8_1, rfl, HA, HK1, HO_3, HB⟩ := hrel
  cases gk with
  | zero => exact absurd HA.out (by simp [tuple_Text.l0])
  | succ k1 =>
   have H := HA.out
   clear HA
   simp only [tuple_Text.l0] at H
   by_cases c2 : x8_1 < (l0.length : Int)
   ·rw [if_pos c2] at H
    have c2b0 : decide (x8_1 < (l0.length : Int)) = true := decide_eq_true c2
    clear c2
    by_cases c3 : 0 ≤ x8_1
    case neg =>
     rw [if_neg c3] at H
     exact absurd H (by simp)
    rw [if_pos c3] at H
    have c3b0 : decide (0 ≤ x8_1) = true := decide_eq_true c3
    clear c3
    by_cases c4 : x8_1 < (l0.length : Int)
    case neg =>
     rw [if_neg c4] at H
     exact absurd H (by simp)
    rw [if_pos c4] at H
    have c4b0 : decide (x8_1 < (l0.length : Int)) = true := decide_eq_true c4
    clear c4
    replace H := Option.bind_eq_some_iff.mp H
    obtain ⟨t393, A50, H⟩ := H
    replace H : (if x3_1.length < 8796093022208 then (tuple_Text.l0 k1 (x3_1 ++ [t393]) l0 (l0.length : Int) (wrap64 (x8_1 + 1))) else (none)) = some r := H
    have A5 := zM A50
    clear A50
    by_cases c6 : x3_1.length < 8796093022208
    case neg =>
     rw [if_neg c6] at H
     exact absurd H (by simp)
    rw [if_pos c6] at H
    have LMc6 := zM c6
    clear c6
    obtain ⟨y394, hy394⟩ : ∃ y_ : List ByteArray, y_ = (x3_1 ++ [t393]) := ⟨_, rfl⟩
    replace H : (tuple_Text.l0 k1 y394 l0 (l0.length : Int) (wrap64 (x8_1 + 1))) = some r := by first | (rw [hy394]; with_reducible exact H) | (have H2_ := (Option.bind_some _ _).symm.trans H; rw [hy394]; with_reducible exact H2_) | (have H2_ := (Option.bind_some _ _).symm.trans H; with_reducible exact H2_) | with_reducible exact H | (rw [hy394]; exact H) | exact H
    have Ny394 := zM hy394
    clear hy394
    have H' := zM H
    clear H
    have p391 : 0 ≤ (x8_1 : Int) := of_decide_eq_true (by first | (with_reducible assumption) | assumption)
    have q391 : x8_1 < (l0.length : Int) := of_decide_eq_true (by first | (with_reducible assumption) | assumption)
    obtain ⟨ad391, e391, hx391_0, hx391_1, hx391_2⟩ := at_T54 HR0.out x8_1 p391 q391
    cases e391
    replace hx391_0 := (HB.1.cell (World.block_lt_of_cell? w _ hx391_0)).trans hx391_0
    replace hx391_1 := (HB.1.cell (World.block_lt_of_cell? w _ hx391_1)).trans hx391_1
    replace hx391_2 := (HB.1.cell (World.block_lt_of_cell? w _ hx391_2)).trans hx391_2
    replace p391 := eq_true p391
    replace q391 := eq_true q391
    go_wp2_with (first | ((with_reducible refine gate_dst (N := 5) rfl ?_); refine box_event ?hg (N := 5) ?hd (cs := #[.int .i64 0, .int .i64 0, .string (⟨#[]⟩ : ByteArray)]) (t := 54) ?hr ?_; (case hd => rfl); (case hg => rfl); (case hr => first | (go_simp; done) | (go_simp; rfl)); intro gb392 hg w7 hbox hb; have n0_ := zM (Kd.R_below (by (with_reducible repeat (first | apply Kd.R_alloc | apply Kd.R_drewN | apply Kd.R_drew)); exact HO_3.out) hb); have n1_ := zM (zT (by repeat (first | (with_reducible first | exact HB.1 | apply zA | apply zN | apply z1) | exact HB.1)) hb); have n2_ := zM (hbox); have n3_ := zM ((by rw [hg]; exact (zZ (by repeat (first | (with_reducible first | exact HB.1 | apply zA | apply zN | apply z1) | exact HB.1))) : w.heap.size ≤ gb392)); have n4_ := n3_; clear HO_3; clear HB; have HO_3 := n0_; have HB := n1_; have BK392 := n2_; have GW392 := n3_; have GE392 := n4_; clear n0_ n1_ n2_ n3_ n4_; clear hb hbox hg; have hcz8_0 : w7.cell? ⟨gb392, 0, none⟩ = some (.int .i64 0) := (kC BK392.1 0).trans rfl; have hcz8_1 : w7.cell? ⟨gb392, 1, none⟩ = some (.int .i64 0) := (kC BK392.1 1).trans rfl; have hcz8_2 : w7.cell? ⟨gb392, 2, none⟩ = some (.string (⟨#[]⟩ : ByteArray)) := (kC BK392.1 2).trans rfl; have hfz8_0 := kF BK392.1 0; have hfz8_1 := kF BK392.1 1; have hfz8_2 := kF BK392.1 2) | ((with_reducible refine gate_callee (f := 52) rfl ?_); refine goesL_ (some 14) rfl rfl Tryz.func52 (by kernel_rfl) rfl #[.agg #[.int .i64 ((rd_T54 l0 x8_1).f0), .int .i64 ((rd_T54 l0 x8_1).f1), .string ((rd_T54 l0 x8_1).f2)]] rfl (by (try simp only [List.map_toArray, List.map_cons, List.map_nil]); first | done | rfl | (simp only [List.length_drop, List.length_take]; rfl)) ?_; (with_reducible refine (value_Literal.calls k1 ((rd_T54 l0 x8_1).f0) ((rd_T54 l0 x8_1).f1) ((rd_T54 l0 x8_1).f2) t393 _ A5.out ?gw_).mono ?_); (case gw_ => first | exact HG.1 | (refine GW.below HG.1 ?_; repeat (first | (with_reducible first | exact HB.1 | apply zA | apply zN | apply z1 | refine zS ?_ GE392.1) | exact HB.1))); rintro e w9 ⟨rfl, hb⟩; refine ⟨_, rfl, ?_⟩; have n0_ := zM (Kd.R_below (by (with_reducible repeat (first | apply Kd.R_alloc | apply Kd.R_drewN | apply Kd.R_drew)); exact (Kd.R_mono (Kd.R_far (p := ⟨gb392, 2, none⟩) (Kd.R_far (p := ⟨gb392, 1, none⟩) (Kd.R_far (p := ⟨gb392, 0, none⟩) (Kd.R_types HO_3.out BK392.1 (by decide)) (fun _ hk => hk.2) (.int .i64 ((rd_T54 l0 x8_1).f0))) (fun _ hk => hk.2) (.int .i64 ((rd_T54 l0 x8_1).f1))) (fun _ hk => hk.2) (.string ((rd_T54 l0 x8_1).f2))) (fun _ h_ => h_.1))) hb); have n1_ := zM (kB (g := gb392) (o := .cells #[.int .i64 ((rd_T54 l0 x8_1).f0), .int .i64 ((rd_T54 l0 x8_1).f1), .string ((rd_T54 l0 x8_1).f2)] 54 (0, 0)) (by (with_reducible repeat (first | refine kN ?_ _ | refine kD ?_ | refine kA ?_ _)); refine blk_put (cs := #[.int .i64 ((rd_T54 l0 x8_1).f0), .int .i64 ((rd_T54 l0 x8_1).f1), .string (⟨#[]⟩ : ByteArray)]) ?_ 2 _ rfl; (with_reducible repeat (first | refine kN ?_ _ | refine kD ?_ | refine kA ?_ _)); refine blk_put (cs := #[.int .i64 ((rd_T54 l0 x8_1).f0), .int .i64 0, .string (⟨#[]⟩ : ByteArray)]) ?_ 1 _ rfl; (with_reducible repeat (first | refine kN ?_ _ | refine kD ?_ | refine kA ?_ _)); refine blk_put (cs := #[.int .i64 0, .int .i64 0, .string (⟨#[]⟩ : ByteArray)]) ?_ 0 _ rfl; (with_reducible repeat (first | refine kN ?_ _ | refine kD ?_ | refine kA ?_ _)); exact BK392.1) hb); have n2_ := zM (zT (by repeat (first | (with_reducible first | exact HB.1 | apply zA | apply zN | apply z1 | refine zS ?_ GE392.1) | exact HB.1)) hb); clear HO_3; clear BK392; clear HB; have HO_3 := n0_; have BK392 := n1_; have HB := n2_; clear n0_ n1_ n2_; (try clear hb); (try clear hb2); (try clear hk); (try clear hi)) | ((with_reducible refine gate_builtin (b := .append) (xs := #[.tmp 12, .tmp 15]) rfl ?_); at_builtin; refine Kd.R_append Kd.string (w0 := w) w.heap.size rfl (.tmp 12) (.tmp 15) 59 9 (.string ⟨#[]⟩) 16 rfl Tryz.underlying59 info9 rfl (by decide) (by omega) u3 x3_1 t393 [.string t393] (fun _ => True) (fun _ => False) rfl rfl ?aP (fun _ hk => hk.elim) ?aF ?aO ?aB ?aS ?aL ?_; (case aP => exact rfl); (case aB => exact (by repeat (first | (with_reducible first | exact HB.1 | apply zA | apply zN | apply z1 | refine zS ?_ GE392.1) | exact HB.1))); (case aF => exact (fun _ _ => trivial)); (case aO => exact (by (with_reducible repeat (first | apply Kd.R_alloc | apply Kd.R_drewN | apply Kd.R_drew)); exact HO_3.out)); (case aS => exact (zZ (by repeat (first | (with_reducible first | exact HB.1 | apply zA | apply zN | apply z1 | refine zS ?_ GE392.1) | exact HB.1)))); (case aL => have := LMc6.out; omega); intro v395 w10 ho hb hg hat; rw [← Ny394.out] at ho; have n0_ := zM (blk_grown (g := gb392) (o := .cells #[.int .i64 ((rd_T54 l0 x8_1).f0), .int .i64 ((rd_T54 l0 x8_1).f1), .string ((rd_T54 l0 x8_1).f2)] 54 (0, 0)) (by (with_reducible repeat (first | refine kN ?_ _ | refine kD ?_ | refine kA ?_ _)); exact BK392.1) hg (Kd.R_ne HO_3.out BK392.1 (by decide))); have n1_ := zM (hb); have n2_ := zM (ho); clear BK392; clear HB; clear HO_3; have BK392 := n0_; have HB := n1_; have HO396 := n2_; clear n0_ n1_ n2_; clear ho hb hg hat))
    go_roundg k1
    case measure => have := HK1.out; omega
    case rel => exact ⟨(y394), (wrap64 (x8_1 + 1)), (by first | rfl | (simp; done) | (simp [*]; done)), H', ⟨by have := HK1.out; omega⟩, ⟨by (with_reducible repeat (first | apply Kd.R_alloc | apply Kd.R_drewN | apply Kd.R_drew)); exact HO396.out⟩, ⟨by repeat (first | (with_reducible first | exact HB.1 | apply zA | apply zN | apply z1 | refine zS ?_ GE392.1) | exact HB.1)⟩⟩
   ·rw [if_neg c2] at H
    have c2b0 : decide (x8_1 < (l0.length : Int)) = false := decide_eq_false c2
    clear c2
    replace H := Option.bind_eq_some_iff.mp H
    obtain ⟨t397, A110, H⟩ := H
    replace H : (if 1 + t397.size ≤ 9223372036854775807 then (if ((⟨#[40]⟩ : ByteArray) ++ t397).size + 1 ≤ 9223372036854775807 then (some (((⟨#[40]⟩ : ByteArray) ++ t397) ++ (⟨#[41]⟩ : ByteArray))) else (none)) else (none)) = some r := H
    have A11 := zM A110
    clear A110
    by_cases c12 : 1 + t397.size ≤ 9223372036854775807
    case neg =>
     rw [if_neg c12] at H
     exact absurd H (by simp)
    rw [if_pos c12] at H
    have c12b0 := eq_true c12
    have c12b1 : decide (1 + t397.size ≤ 9223372036854775807) = true := decide_eq_true c12
    try have c12b2 : (9223372036854775807 < 1 + t397.size) = False := eq_false (Nat.not_lt.2 c12)
    try (have c12b3 := c12b2; simp only [ByteArray.size_append, size_lit, List.size_toArray, List.length_cons, List.length_nil, Nat.zero_add] at c12b3)
    by_cases c13 : ((⟨#[40]⟩ : ByteArray) ++ t397).size + 1 ≤ 9223372036854775807
    case neg =>
     rw [if_neg c13] at H
     exact absurd H (by simp)
    rw [if_pos c13] at H
    have c13b0 := eq_true c13
    have c13b1 : decide (((⟨#[40]⟩ : ByteArray) ++ t397).size + 1 ≤ 9223372036854775807) = true := decide_eq_true c13
    try have c13b2 : (9223372036854775807 < ((⟨#[40]⟩ : ByteArray) ++ t397).size + 1) = False := eq_false (Nat.not_lt.2 c13)
    try (have c13b3 := c13b2; simp only [ByteArray.size_append, size_lit, List.size_toArray, List.length_cons, List.length_nil, Nat.zero_add] at c13b3)
    obtain rfl := Option.some.inj H
    obtain ⟨Ao14, co14, eo14⟩ := Kd.R_slice HO_3.out
    subst eo14
    go_wp2_with (first | ((with_reducible refine gate_callee (f := 50) rfl ?_); refine goesL_ (some 19) rfl rfl Tryz.func50 (by kernel_rfl) rfl #[.slice Ao14 x3_1.length co14, .string (⟨#[44, 32]⟩ : ByteArray)] rfl (by (try simp only [List.map_toArray, List.map_cons, List.map_nil]); first | done | rfl | (simp only [List.length_drop, List.length_take]; rfl)) ?_; (with_reducible refine (strings_Join.calls _ _ x3_1 (⟨#[44, 32]⟩ : ByteArray) t397 _ ?side1 ?side2 A11.out ?gw_).mono ?_); (case gw_ => first | exact HG.1 | (refine GW.below HG.1 ?_; repeat (first | (with_reducible first | exact HB.1 | apply zA | apply zN | apply z1) | exact HB.1))); (case side1 => repeat (first | exact (Kd.R_reads' HO_3.out).2.2 | (with_reducible refine Kd.C_alloc ?_ _) | (with_reducible refine Kd.C_drewN ?_ _) | (with_reducible refine Kd.C_drew ?_))); (case side2 => exact (Kd.R_reads' HO_3.out).2.1); rintro e w15 ⟨rfl, hb⟩; refine ⟨_, rfl, ?_⟩; have n0_ := zM (Kd.R_below (by (with_reducible repeat (first | apply Kd.R_alloc | apply Kd.R_drewN | apply Kd.R_drew)); exact HO_3.out) hb); have n1_ := zM (zT (by repeat (first | (with_reducible first | exact HB.1 | apply zA | apply zN | apply z1) | exact HB.1)) hb); clear HO_3; clear HB; have HO_3 := n0_; have HB := n1_; clear n0_ n1_; (try clear hb); (try clear hb2); (try clear hk); (try clear hi)))
    go_ret
    exact ⟨by first | rfl | (simp [errW_none, errW_some] <;> rfl) | (simp [*, errW_none, errW_some] <;> rfl), by repeat (first | (with_reducible first | exact HB.1 | apply zA | apply zN | apply z1) | exact HB.1)⟩

/-! ### report_Violation: function 15 -/
def report_Violation.f (k : Nat) (a0_0 : Int) (a0_1 : ByteArray) (a0_2 : Int) (l0_3 : List (S54)) (a0_4 : Int) (a0_5 : Int) : Option (ByteArray) := (strconv_Itoa.f (wrap64 (a0_2 + 1))).bind fun t399 => (if a0_0 = 1 then (if 19 + t399.size ≤ 9223372036854775807 then (if a0_1.size + 1 ≤ 9223372036854775807 then ((tuple_Text.f k l0_3).bind fun t400 => ((period_Text.f a0_4 a0_5).bind fun t401 => ((report_line.f (⟨#[32]⟩ : ByteArray) (([a0_1 ++ (⟨#[58]⟩ : ByteArray), (⟨#[110, 111, 116, 32, 110, 117, 108, 108, 32, 111, 102, 32, 99, 111, 108, 117, 109, 110, 32]⟩ : ByteArray) ++ t399, (⟨#[118, 105, 111, 108, 97, 116, 101, 100, 32, 98, 121]⟩ : ByteArray), t400, (⟨#[100, 117, 114, 105, 110, 103]⟩ : ByteArray), t401] : List ByteArray))).bind fun t405 => (some t405)))) else (none)) else (none)) else (if a0_0 = 2 then (if a0_1.size + 1 ≤ 9223372036854775807 then ((tuple_Text.f k l0_3).bind fun t406 => ((period_Text.f a0_4 a0_5).bind fun t407 => ((report_line.f (⟨#[32]⟩ : ByteArray) (([a0_1 ++ (⟨#[58]⟩ : ByteArray), (⟨#[107, 101, 121]⟩ : ByteArray), (⟨#[118, 105, 111, 108, 97, 116, 101, 100, 32, 98, 121]⟩ : ByteArray), t406, (⟨#[100, 117, 114, 105, 110, 103]⟩ : ByteArray), t407] : List ByteArray))).bind fun t411 => (some t411)))) else (none)) else (if a0_0 = 3 then (if 12 + t399.size ≤ 9223372036854775807 then (if a0_1.size + 1 ≤ 9223372036854775807 then ((tuple_Text.f k l0_3).bind fun t412 => ((period_Text.f a0_4 a0_5).bind fun t413 => ((report_line.f (⟨#[32]⟩ : ByteArray) (([a0_1 ++ (⟨#[58]⟩ : ByteArray), (⟨#[102, 111, 114, 101, 105, 103, 110, 32, 107, 101, 121, 32]⟩ : ByteArray) ++ t399, (⟨#[118, 105, 111, 108, 97, 116, 101, 100, 32, 98, 121]⟩ : ByteArray), t412, (⟨#[100, 117, 114, 105, 110, 103]⟩ : ByteArray), t413] : List ByteArray))).bind fun t417 => (some t417)))) else (none)) else (none)) else (if a0_0 = 4 then (if 6 + t399.size ≤ 9223372036854775807 then (if a0_1.size + 1 ≤ 9223372036854775807 then ((tuple_Text.f k l0_3).bind fun t418 => ((period_Text.f a0_4 a0_5).bind fun t419 => ((report_line.f (⟨#[32]⟩ : ByteArray) (([a0_1 ++ (⟨#[58]⟩ : ByteArray), (⟨#[99, 104, 101, 99, 107, 32]⟩ : ByteArray) ++ t399, (⟨#[118, 105, 111, 108, 97, 116, 101, 100, 32, 98, 121]⟩ : ByteArray), t418, (⟨#[100, 117, 114, 105, 110, 103]⟩ : ByteArray), t419] : List ByteArray))).bind fun t423 => (some t423)))) else (none)) else (none)) else (if a0_1.size + 1 ≤ 9223372036854775807 then ((tuple_Text.f k l0_3).bind fun t424 => ((period_Text.f a0_4 a0_5).bind fun t425 => ((report_line.f (⟨#[32]⟩ : ByteArray) (([a0_1 ++ (⟨#[58]⟩ : ByteArray), (⟨#[117, 110, 107, 110, 111, 119, 110]⟩ : ByteArray), (⟨#[118, 105, 111, 108, 97, 116, 101, 100, 32, 98, 121]⟩ : ByteArray), t424, (⟨#[100, 117, 114, 105, 110, 103]⟩ : ByteArray), t425] : List ByteArray))).bind fun t429 => (some t429)))) else (none))))))
theorem report_Violation.mono : ∀ a0 a1 a2 a3 a4 a5 k, LeO (report_Violation.f k a0 a1 a2 a3 a4 a5) (report_Violation.f (k + 1) a0 a1 a2 a3 a4 a5) := by
  intro a0 a1 a2 a3 a4 a5 k
  unfold report_Violation.f
  repeat' first
      | (with_reducible exact tuple_Text.mono _ _)
      | (with_reducible exact LeO.refl _)
      | (with_reducible exact LeO.none _)
      | (with_reducible refine LeO.ite ?_ ?_)
      | (with_reducible refine LeO.bind ?_ (fun _ => ?_))
      | exact tuple_Text.mono _ _
      | exact LeO.none _
      | refine LeO.ite ?_ ?_
      | refine LeO.bind ?_ (fun _ => ?_)
def report_Violation.T12 : Bool × List (List Nat × List Nat) := (true, [([], []), ([0], [0]), ([1], [1]), ([], []), ([], []), ([4], [4]), ([5], [5]), ([], []), ([7], [7]), ([8, 6], [8]), ([2, 3, 6, 9], [2, 3, 6, 9]), ([10, 9], [10]), ([11, 11, 0, 1, 2, 3, 4, 5, 6, 7, 8, 9, 10, 11], [11])])
def report_Violation.B12 : List Nat := [0, 1, 3, 0, 0, 16, 48, 0, 128, 496, 1023, 2047, 4095]
theorem report_Violation.tab12 : rtab .any (opsOf Tryz.f15 12) = report_Violation.T12 := by kernel_rfl
theorem report_Violation.bits12 : waitsOk report_Violation.T12.2 report_Violation.B12 = true := by kernel_rfl
set_option maxHeartbeats 8000000 in
set_option maxRecDepth 100000 in
theorem report_Violation.calls (k : Nat) (a0_0 : Int) (a0_1 : ByteArray) (a0_2 : Int) (A0_3 : Option Addr) (c0_3 : Nat) (l0_3 : List (S54)) (a0_4 : Int) (a0_5 : Int) (r : ByteArray) (w : World) (hr0_3 : Kd.C k54 w A0_3 l0_3.length l0_3) (hc0_3 : l0_3.length ≤ c0_3) (h : report_Violation.f k a0_0 a0_1 a0_2 l0_3 a0_4 a0_5 = some r) (hG : GW w) :
  Calls Tryz.prog 15 #[.agg #[.int .i64 a0_0, .string a0_1, .int .i64 a0_2, .slice A0_3 l0_3.length c0_3, .int .i64 a0_4, .int .i64 a0_5]] w fun e w' => e = .returned (.string r) ∧ Below w.heap.size w w' := by
 have HG := zM hG
 clear hG
 have hu38 := Tryz.underlying38
 have hu33 := Tryz.underlying33
 have HR0_3 := zM hr0_3
 have HC0_3 := zM hc0_3
 clear hr0_3 hc0_3
 have HB := zM (Below.refl w.heap.size w)
 have H : ((strconv_Itoa.f (wrap64 (a0_2 + 1))).bind fun t399 => (if a0_0 = 1 then (if 19 + t399.size ≤ 9223372036854775807 then (if a0_1.size + 1 ≤ 9223372036854775807 then ((tuple_Text.f k l0_3).bind fun t400 => ((period_Text.f a0_4 a0_5).bind fun t401 => ((report_line.f (⟨#[32]⟩ : ByteArray) (([a0_1 ++ (⟨#[58]⟩ : ByteArray), (⟨#[110, 111, 116, 32, 110, 117, 108, 108, 32, 111, 102, 32, 99, 111, 108, 117, 109, 110, 32]⟩ : ByteArray) ++ t399, (⟨#[118, 105, 111, 108, 97, 116, 101, 100, 32, 98, 121]⟩ : ByteArray), t400, (⟨#[100, 117, 114, 105, 110, 103]⟩ : ByteArray), t401] : List ByteArray))).bind fun t405 => (some t405)))) else (none)) else (none)) else (if a0_0 = 2 then (if a0_1.size + 1 ≤ 9223372036854775807 then ((tuple_Text.f k l0_3).bind fun t406 => ((period_Text.f a0_4 a0_5).bind fun t407 => ((report_line.f (⟨#[32]⟩ : ByteArray) (([a0_1 ++ (⟨#[58]⟩ : ByteArray), (⟨#[107, 101, 121]⟩ : ByteArray), (⟨#[118, 105, 111, 108, 97, 116, 101, 100, 32, 98, 121]⟩ : ByteArray), t406, (⟨#[100, 117, 114, 105, 110, 103]⟩ : ByteArray), t407] : List ByteArray))).bind fun t411 => (some t411)))) else (none)) else (if a0_0 = 3 then (if 12 + t399.size ≤ 9223372036854775807 then (if a0_1.size + 1 ≤ 9223372036854775807 then ((tuple_Text.f k l0_3).bind fun t412 => ((period_Text.f a0_4 a0_5).bind fun t413 => ((report_line.f (⟨#[32]⟩ : ByteArray) (([a0_1 ++ (⟨#[58]⟩ : ByteArray), (⟨#[102, 111, 114, 101, 105, 103, 110, 32, 107, 101, 121, 32]⟩ : ByteArray) ++ t399, (⟨#[118, 105, 111, 108, 97, 116, 101, 100, 32, 98, 121]⟩ : ByteArray), t412, (⟨#[100, 117, 114, 105, 110, 103]⟩ : ByteArray), t413] : List ByteArray))).bind fun t417 => (some t417)))) else (none)) else (none)) else (if a0_0 = 4 then (if 6 + t399.size ≤ 9223372036854775807 then (if a0_1.size + 1 ≤ 9223372036854775807 then ((tuple_Text.f k l0_3).bind fun t418 => ((period_Text.f a0_4 a0_5).bind fun t419 => ((report_line.f (⟨#[32]⟩ : ByteArray) (([a0_1 ++ (⟨#[58]⟩ : ByteArray), (⟨#[99, 104, 101, 99, 107, 32]⟩ : ByteArray) ++ t399, (⟨#[118, 105, 111, 108, 97, 116, 101, 100, 32, 98, 121]⟩ : ByteArray), t418, (⟨#[100, 117, 114, 105, 110, 103]⟩ : ByteArray), t419] : List ByteArray))).bind fun t423 => (some t423)))) else (none)) else (none)) else (if a0_1.size + 1 ≤ 9223372036854775807 then ((tuple_Text.f k l0_3).bind fun t424 => ((period_Text.f a0_4 a0_5).bind fun t425 => ((report_line.f (⟨#[32]⟩ : ByteArray) (([a0_1 ++ (⟨#[58]⟩ : ByteArray), (⟨#[117, 110, 107, 110, 111, 119, 110]⟩ : ByteArray), (⟨#[118, 105, 111, 108, 97, 116, 101, 100, 32, 98, 121]⟩ : ByteArray), t424, (⟨#[100, 117, 114, 105, 110, 103]⟩ : ByteArray), t425] : List ByteArray))).bind fun t429 => (some t429)))) else (none))))))) = some r := h
 clear h
 replace H := Option.bind_eq_some_iff.mp H
 obtain ⟨t399, A20, H⟩ := H
 replace H : (if a0_0 = 1 then (if 19 + t399.size ≤ 9223372036854775807 then (if a0_1.size + 1 ≤ 9223372036854775807 then ((tuple_Text.f k l0_3).bind fun t400 => ((period_Text.f a0_4 a0_5).bind fun t401 => ((report_line.f (⟨#[32]⟩ : ByteArray) (([a0_1 ++ (⟨#[58]⟩ : ByteArray), (⟨#[110, 111, 116, 32, 110, 117, 108, 108, 32, 111, 102, 32, 99, 111, 108, 117, 109, 110, 32]⟩ : ByteArray) ++ t399, (⟨#[118, 105, 111, 108, 97, 116, 101, 100, 32, 98, 121]⟩ : ByteArray), t400, (⟨#[100, 117, 114, 105, 110, 103]⟩ : ByteArray), t401] : List ByteArray))).bind fun t405 => (some t405)))) else (none)) else (none)) else (if a0_0 = 2 then (if a0_1.size + 1 ≤ 9223372036854775807 then ((tuple_Text.f k l0_3).bind fun t406 => ((period_Text.f a0_4 a0_5).bind fun t407 => ((report_line.f (⟨#[32]⟩ : ByteArray) (([a0_1 ++ (⟨#[58]⟩ : ByteArray), (⟨#[107, 101, 121]⟩ : ByteArray), (⟨#[118, 105, 111, 108, 97, 116, 101, 100, 32, 98, 121]⟩ : ByteArray), t406, (⟨#[100, 117, 114, 105, 110, 103]⟩ : ByteArray), t407] : List ByteArray))).bind fun t411 => (some t411)))) else (none)) else (if a0_0 = 3 then (if 12 + t399.size ≤ 9223372036854775807 then (if a0_1.size + 1 ≤ 9223372036854775807 then ((tuple_Text.f k l0_3).bind fun t412 => ((period_Text.f a0_4 a0_5).bind fun t413 => ((report_line.f (⟨#[32]⟩ : ByteArray) (([a0_1 ++ (⟨#[58]⟩ : ByteArray), (⟨#[102, 111, 114, 101, 105, 103, 110, 32, 107, 101, 121, 32]⟩ : ByteArray) ++ t399, (⟨#[118, 105, 111, 108, 97, 116, 101, 100, 32, 98, 121]⟩ : ByteArray), t412, (⟨#[100, 117, 114, 105, 110, 103]⟩ : ByteArray), t413] : List ByteArray))).bind fun t417 => (some t417)))) else (none)) else (none)) else (if a0_0 = 4 then (if 6 + t399.size ≤ 9223372036854775807 then (if a0_1.size + 1 ≤ 9223372036854775807 then ((tuple_Text.f k l0_3).bind fun t418 => ((period_Text.f a0_4 a0_5).bind fun t419 => ((report_line.f (⟨#[32]⟩ : ByteArray) (([a0_1 ++ (⟨#[58]⟩ : ByteArray), (⟨#[99, 104, 101, 99, 107, 32]⟩ : ByteArray) ++ t399, (⟨#[118, 105, 111, 108, 97, 116, 101, 100, 32, 98, 121]⟩ : ByteArray), t418, (⟨#[100, 117, 114, 105, 110, 103]⟩ : ByteArray), t419] : List ByteArray))).bind fun t423 => (some t423)))) else (none)) else (none)) else (if a0_1.size + 1 ≤ 9223372036854775807 then ((tuple_Text.f k l0_3).bind fun t424 => ((period_Text.f a0_4 a0_5).bind fun t425 => ((report_line.f (⟨#[32]⟩ : ByteArray) (([a0_1 ++ (⟨#[58]⟩ : ByteArray), (⟨#[117, 110, 107, 110, 111, 119, 110]⟩ : ByteArray), (⟨#[118, 105, 111, 108, 97, 116, 101, 100, 32, 98, 121]⟩ : ByteArray), t424, (⟨#[100, 117, 114, 105, 110, 103]⟩ : ByteArray), t425] : List ByteArray))).bind fun t429 => (some t429)))) else (none)))))) = some r := H
 have A2 := zM A20
 clear A20
 by_cases c3 : a0_0 = 1
 ·rw [if_pos c3] at H
  have c3b0 : (a0_0 == 1) = true := beq_iff_eq.mpr c3
  have c3b1 : (a0_0 != 1) = false := bne_eq_false_iff_eq.mpr c3
  clear c3
  by_cases c4 : 19 + t399.size ≤ 9223372036854775807
  case neg =>
   rw [if_neg c4] at H
   exact absurd H (by simp)
  rw [if_pos c4] at H
  have c4b0 := eq_true c4
  have c4b1 : decide (19 + t399.size ≤ 9223372036854775807) = true := decide_eq_true c4
  try have c4b2 : (9223372036854775807 < 19 + t399.size) = False := eq_false (Nat.not_lt.2 c4)
  try (have c4b3 := c4b2; simp only [ByteArray.size_append, size_lit, List.size_toArray, List.length_cons, List.length_nil, Nat.zero_add] at c4b3)
  by_cases c5 : a0_1.size + 1 ≤ 9223372036854775807
  case neg =>
   rw [if_neg c5] at H
   exact absurd H (by simp)
  rw [if_pos c5] at H
  have c5b0 := eq_true c5
  have c5b1 : decide (a0_1.size + 1 ≤ 9223372036854775807) = true := decide_eq_true c5
  try have c5b2 : (9223372036854775807 < a0_1.size + 1) = False := eq_false (Nat.not_lt.2 c5)
  try (have c5b3 := c5b2; simp only [ByteArray.size_append, size_lit, List.size_toArray, List.length_cons, List.length_nil, Nat.zero_add] at c5b3)
  replace H := Option.bind_eq_some_iff.mp H
  obtain ⟨t400, A60, H⟩ := H
  replace H : ((period_Text.f a0_4 a0_5).bind fun t401 => ((report_line.f (⟨#[32]⟩ : ByteArray) (([a0_1 ++ (⟨#[58]⟩ : ByteArray), (⟨#[110, 111, 116, 32, 110, 117, 108, 108, 32, 111, 102, 32, 99, 111, 108, 117, 109, 110, 32]⟩ : ByteArray) ++ t399, (⟨#[118, 105, 111, 108, 97, 116, 101, 100, 32, 98, 121]⟩ : ByteArray), t400, (⟨#[100, 117, 114, 105, 110, 103]⟩ : ByteArray), t401] : List ByteArray))).bind fun t405 => (some t405))) = some r := H
  have A6 := zM A60
  clear A60
  replace H := Option.bind_eq_some_iff.mp H
  obtain ⟨t401, A70, H⟩ := H
  replace H : ((report_line.f (⟨#[32]⟩ : ByteArray) (([a0_1 ++ (⟨#[58]⟩ : ByteArray), (⟨#[110, 111, 116, 32, 110, 117, 108, 108, 32, 111, 102, 32, 99, 111, 108, 117, 109, 110, 32]⟩ : ByteArray) ++ t399, (⟨#[118, 105, 111, 108, 97, 116, 101, 100, 32, 98, 121]⟩ : ByteArray), t400, (⟨#[100, 117, 114, 105, 110, 103]⟩ : ByteArray), t401] : List ByteArray))).bind fun t405 => (some t405)) = some r := H
  have A7 := zM A70
  clear A70
  obtain ⟨y402, hy402⟩ : ∃ y_ : List ByteArray, y_ = (([a0_1 ++ (⟨#[58]⟩ : ByteArray), (⟨#[110, 111, 116, 32, 110, 117, 108, 108, 32, 111, 102, 32, 99, 111, 108, 117, 109, 110, 32]⟩ : ByteArray) ++ t399, (⟨#[118, 105, 111, 108, 97, 116, 101, 100, 32, 98, 121]⟩ : ByteArray), t400, (⟨#[100, 117, 114, 105, 110, 103]⟩ : ByteArray), t401] : List ByteArray)) := ⟨_, rfl⟩
  replace H : ((report_line.f (⟨#[32]⟩ : ByteArray) y402).bind fun t405 => (some t405)) = some r := by first | (rw [hy402]; with_reducible exact H) | (have H2_ := (Option.bind_some _ _).symm.trans H; rw [hy402]; with_reducible exact H2_) | (have H2_ := (Option.bind_some _ _).symm.trans H; with_reducible exact H2_) | with_reducible exact H | (rw [hy402]; exact H) | exact H
  have Ny402 := zM hy402
  clear hy402
  replace H := Option.bind_eq_some_iff.mp H
  obtain ⟨t405, A80, H⟩ := H
  replace H : (some t405) = some r := H
  have A8 := zM A80
  clear A80
  obtain rfl := Option.some.inj H
  go_enter Tryz.func15, Tryz.ntmps15
  try go_wp2_with (first | ((with_reducible refine gate_dst (N := 1) rfl ?_); refine box_event ?hg (N := 1) ?hd (cs := #[.int .i64 a0_0, .string a0_1, .int .i64 a0_2, .slice A0_3 l0_3.length c0_3, .int .i64 a0_4, .int .i64 a0_5]) (t := 38) ?hr ?_; (case hd => rfl); (case hg => rfl); (case hr => first | (go_simp; done) | (go_simp; rfl)); intro gb398 hg w9 hbox hb; have n0_ := zM (zT (by repeat (first | (with_reducible first | exact HB.1 | apply zA | apply zN | apply z1) | exact HB.1)) hb); have n1_ := zM (hbox); have n2_ := zM ((by rw [hg]; exact (zZ (by repeat (first | (with_reducible first | exact HB.1 | apply zA | apply zN | apply z1) | exact HB.1))) : w.heap.size ≤ gb398)); have n3_ := n2_; clear HB; have HB := n0_; have BK398 := n1_; have GW398 := n2_; have GE398 := n3_; clear n0_ n1_ n2_ n3_; clear hb hbox hg; have hcz10_0 : w9.cell? ⟨gb398, 0, none⟩ = some (.int .i64 a0_0) := (kC BK398.1 0).trans rfl; have hcz10_1 : w9.cell? ⟨gb398, 1, none⟩ = some (.string a0_1) := (kC BK398.1 1).trans rfl; have hcz10_2 : w9.cell? ⟨gb398, 2, none⟩ = some (.int .i64 a0_2) := (kC BK398.1 2).trans rfl; have hcz10_3 : w9.cell? ⟨gb398, 3, none⟩ = some (.slice A0_3 l0_3.length c0_3) := (kC BK398.1 3).trans rfl; have hcz10_4 : w9.cell? ⟨gb398, 4, none⟩ = some (.int .i64 a0_4) := (kC BK398.1 4).trans rfl; have hcz10_5 : w9.cell? ⟨gb398, 5, none⟩ = some (.int .i64 a0_5) := (kC BK398.1 5).trans rfl; have hfz10_0 := kF BK398.1 0; have hfz10_1 := kF BK398.1 1; have hfz10_2 := kF BK398.1 2; have hfz10_3 := kF BK398.1 3; have hfz10_4 := kF BK398.1 4; have hfz10_5 := kF BK398.1 5) | ((with_reducible refine gate_callee (f := 23) rfl ?_); refine goesL_ (some 8) rfl rfl Tryz.func23 (by kernel_rfl) rfl #[.int .i64 (wrap64 (a0_2 + 1))] rfl (by (try simp only [List.map_toArray, List.map_cons, List.map_nil]); first | done | rfl | (simp only [List.length_drop, List.length_take]; rfl)) ?_; (with_reducible refine (strconv_Itoa.calls (wrap64 (a0_2 + 1)) t399 _ A2.out ?gw_).mono ?_); (case gw_ => first | exact HG.1 | (refine GW.below HG.1 ?_; repeat (first | (with_reducible first | exact HB.1 | apply zA | apply zN | apply z1 | refine zS ?_ GE398.1) | exact HB.1))); rintro e w11 ⟨rfl, hb⟩; refine ⟨_, rfl, ?_⟩; have n0_ := zM (kB (g := gb398) (o := .cells #[.int .i64 a0_0, .string a0_1, .int .i64 a0_2, .slice A0_3 l0_3.length c0_3, .int .i64 a0_4, .int .i64 a0_5] 38 (0, 0)) (by (with_reducible repeat (first | refine kN ?_ _ | refine kD ?_ | refine kA ?_ _)); exact BK398.1) hb); have n1_ := zM (zT (by repeat (first | (with_reducible first | exact HB.1 | apply zA | apply zN | apply z1 | refine zS ?_ GE398.1) | exact HB.1)) hb); clear BK398; clear HB; have BK398 := n0_; have HB := n1_; clear n0_ n1_; (try clear hb); (try clear hb2); (try clear hk); (try clear hi); have hcz12_0 : w11.cell? ⟨gb398, 0, none⟩ = some (.int .i64 a0_0) := (kC BK398.1 0).trans rfl; have hcz12_1 : w11.cell? ⟨gb398, 1, none⟩ = some (.string a0_1) := (kC BK398.1 1).trans rfl; have hcz12_2 : w11.cell? ⟨gb398, 2, none⟩ = some (.int .i64 a0_2) := (kC BK398.1 2).trans rfl; have hcz12_3 : w11.cell? ⟨gb398, 3, none⟩ = some (.slice A0_3 l0_3.length c0_3) := (kC BK398.1 3).trans rfl; have hcz12_4 : w11.cell? ⟨gb398, 4, none⟩ = some (.int .i64 a0_4) := (kC BK398.1 4).trans rfl; have hcz12_5 : w11.cell? ⟨gb398, 5, none⟩ = some (.int .i64 a0_5) := (kC BK398.1 5).trans rfl; have hfz12_0 := kF BK398.1 0; have hfz12_1 := kF BK398.1 1; have hfz12_2 := kF BK398.1 2; have hfz12_3 := kF BK398.1 3; have hfz12_4 := kF BK398.1 4; have hfz12_5 := kF BK398.1 5))
  have n0_ := zM (kD BK398.1)
  have n1_ := zM (z1 HB.1)
  clear BK398
  clear HB
  have BK398 := n0_
  have HB := n1_
  clear n0_ n1_
  refine start_ (n := 13) (S := fun w' => w'.cell? ⟨gb398, 0, none⟩ = some (.int .i64 a0_0) ∧ w'.cell? ⟨gb398, 1, none⟩ = some (.string a0_1) ∧ w'.cell? ⟨gb398, 2, none⟩ = some (.int .i64 a0_2) ∧ w'.cell? ⟨gb398, 3, none⟩ = some (.slice A0_3 l0_3.length c0_3) ∧ w'.cell? ⟨gb398, 4, none⟩ = some (.int .i64 a0_4) ∧ w'.cell? ⟨gb398, 5, none⟩ = some (.int .i64 a0_5)) (ds := []) #[false, false, false, false, false, false, false, false, false, false, false, false, false] (by kernel_rfl) rfl rfl ⟨(kC BK398.1 0).trans rfl, (kC BK398.1 1).trans rfl, (kC BK398.1 2).trans rfl, (kC BK398.1 3).trans rfl, (kC BK398.1 4).trans rfl, (kC BK398.1 5).trans rfl⟩ (fun hHeld => ?_); refine with_tabW report_Violation.tab12 report_Violation.bits12 (fun HT_ HW_ => ?_)
  generalize w11.drew = w13 at BK398 HB hHeld ⊢
  refine pure_ (i := 0) (N := some 25) (v := ?_) (a' := ?_) #[true, false, false, false, false, false, false, false, false, false, false, false, false] rfl rfl (any_of HT_.out (by kernel_rfl)) (fun _ _ _ h => h) (Or.inl ⟨by rfl, ?_⟩) ?_ ?_
  rotate_left
  ·intro w'
   go_simp
   with_reducible rfl
  rotate_left
  ·simp only [Act.put, List.setIfInBounds_toArray, List.set_cons_zero, List.set_cons_succ, i64_w, i32_w]
   rfl
  refine pure_ (i := 3) (N := some 28) (v := ?_) (a' := ?_) #[true, false, false, true, false, false, false, false, false, false, false, false, false] rfl rfl (any_of HT_.out (by kernel_rfl)) (fun _ _ _ h => h) (Or.inl ⟨by rfl, ?_⟩) ?_ ?_
  rotate_left
  ·intro w'
   go_simp
   with_reducible rfl
  rotate_left
  ·simp only [Act.put, List.setIfInBounds_toArray, List.set_cons_zero, List.set_cons_succ, i64_w, i32_w]
   rfl
  refine pure_ (i := 4) (N := some 29) (v := ?_) (a' := ?_) #[true, false, false, true, true, false, false, false, false, false, false, false, false] rfl rfl (any_of HT_.out (by kernel_rfl)) (fun _ _ _ h => h) (Or.inl ⟨by rfl, ?_⟩) ?_ ?_
  rotate_left
  ·intro w'
   go_simp
   with_reducible rfl
  rotate_left
  ·simp only [Act.put, List.setIfInBounds_toArray, List.set_cons_zero, List.set_cons_succ, i64_w, i32_w]
   rfl
  refine pure_ (i := 7) (N := some 32) (v := ?_) (a' := ?_) #[true, false, false, true, true, false, false, true, false, false, false, false, false] rfl rfl (any_of HT_.out (by kernel_rfl)) (fun _ _ _ h => h) (Or.inl ⟨by rfl, ?_⟩) ?_ ?_
  rotate_left
  ·intro w'
   go_simp
   with_reducible rfl
  rotate_left
  ·simp only [Act.put, List.setIfInBounds_toArray, List.set_cons_zero, List.set_cons_succ, i64_w, i32_w]
   rfl
  refine take_ (i := 1) (N := some 26) (v := ?_) (a' := ?_) #[true, true, false, true, true, false, false, true, false, false, false, false, false] rfl rfl (take_ofW HT_.out HW_.out (by kernel_rfl)) (fun _ _ _ h => h) (Or.inl ⟨by rfl, ?_⟩) hHeld ?_ ?_
  rotate_left
  ·rintro w' ⟨s0, s1, s2, s3, s4, s5⟩
   go_simp
   with_reducible rfl
  rotate_left
  ·simp only [Act.put, List.setIfInBounds_toArray, List.set_cons_zero, List.set_cons_succ, i64_w, i32_w]
   rfl
  refine pure_ (i := 2) (N := some 27) (v := ?_) (a' := ?_) #[true, true, true, true, true, false, false, true, false, false, false, false, false] rfl rfl (any_of HT_.out (by kernel_rfl)) (fun _ _ _ h => h) (Or.inl ⟨by rfl, ?_⟩) ?_ ?_
  rotate_left
  ·intro w'
   go_simp
   with_reducible rfl
  rotate_left
  ·simp only [Act.put, List.setIfInBounds_toArray, List.set_cons_zero, List.set_cons_succ, i64_w, i32_w]
   rfl
  refine take_ (i := 5) (N := some 30) (v := ?_) (a' := ?_) #[true, true, true, true, true, true, false, true, false, false, false, false, false] rfl rfl (take_ofW HT_.out HW_.out (by kernel_rfl)) (fun _ _ _ h => h) (Or.inl ⟨by rfl, ?_⟩) hHeld ?_ ?_
  rotate_left
  ·rintro w' ⟨s0, s1, s2, s3, s4, s5⟩
   go_simp
   with_reducible rfl
  rotate_left
  ·simp only [Act.put, List.setIfInBounds_toArray, List.set_cons_zero, List.set_cons_succ, i64_w, i32_w]
   rfl
  refine take_ (i := 8) (N := some 33) (v := ?_) (a' := ?_) #[true, true, true, true, true, true, false, true, true, false, false, false, false] rfl rfl (take_ofW HT_.out HW_.out (by kernel_rfl)) (fun _ _ _ h => h) (Or.inl ⟨by rfl, ?_⟩) hHeld ?_ ?_
  rotate_left
  ·rintro w' ⟨s0, s1, s2, s3, s4, s5⟩
   go_simp
   with_reducible rfl
  rotate_left
  ·simp only [Act.put, List.setIfInBounds_toArray, List.set_cons_zero, List.set_cons_succ, i64_w, i32_w]
   rfl
  refine one_ (i := 6) (N := some 31) #[true, true, true, true, true, true, true, true, true, false, false, false, false] rfl rfl (one_of HT_.out (by kernel_rfl)) (by decide) (fun K hK => ?_)
  refine goes_ Tryz.func44 (by kernel_rfl) rfl #[.slice A0_3 l0_3.length c0_3] (by rfl) rfl rfl (by (try simp only [List.map_toArray, List.map_cons, List.map_nil]); first | done | rfl | (simp only [List.length_drop, List.length_take]; rfl)) ?_
  with_reducible refine (tuple_Text.calls k _ _ l0_3 t400 _ ?side1 ?side2 A6.out ?gw_).mono ?_
  (case gw_ => first | exact HG.1 | (refine GW.below HG.1 ?_; repeat (first | (with_reducible first | exact HB.1 | apply zA | apply zN | apply z1 | refine zS ?_ GE398.1) | exact HB.1)))
  (case side1 => repeat (first | exact (Kd.C_below HR0_3.out HB.1) | (with_reducible refine Kd.C_alloc ?_ _) | (with_reducible refine Kd.C_drewN ?_ _) | (with_reducible refine Kd.C_drew ?_)))
  (case side2 => exact HC0_3.out)
  rintro e w14 ⟨rfl, hb⟩
  refine ⟨_, rfl, ?_⟩
  have n0_ := zM (kB (g := gb398) (o := .cells #[.int .i64 a0_0, .string a0_1, .int .i64 a0_2, .slice A0_3 l0_3.length c0_3, .int .i64 a0_4, .int .i64 a0_5] 38 (0, 0)) (by (with_reducible repeat (first | refine kN ?_ _ | refine kD ?_ | refine kA ?_ _)); exact BK398.1) hb)
  have n1_ := zM (zT (by repeat (first | (with_reducible first | exact HB.1 | apply zA | apply zN | apply z1 | refine zS ?_ GE398.1) | exact HB.1)) hb)
  clear BK398
  clear HB
  have BK398 := n0_
  have HB := n1_
  clear n0_ n1_
  (try clear hb)
  (try clear hb2)
  (try clear hk)
  (try clear hi)
  refine hK.out _ _ ⟨(kC BK398.1 0).trans rfl, (kC BK398.1 1).trans rfl, (kC BK398.1 2).trans rfl, (kC BK398.1 3).trans rfl, (kC BK398.1 4).trans rfl, (kC BK398.1 5).trans rfl⟩ (fun hHeld => ?_)
  clear hK K
  refine norm_ (a' := ?_) ?_ ?_
  rotate_left
  ·show Act.put _ (some 31) _ = _
   simp only [Act.put, List.setIfInBounds_toArray, List.set_cons_zero, List.set_cons_succ, i64_w, i32_w]
   rfl
  refine one_ (i := 9) (N := some 34) #[true, true, true, true, true, true, true, true, true, true, false, false, false] rfl rfl (one_of HT_.out (by kernel_rfl)) (by decide) (fun K hK => ?_)
  refine goes_ Tryz.func29 (by kernel_rfl) rfl #[.agg #[.int .i64 a0_4, .int .i64 a0_5]] (by rfl) rfl rfl (by (try simp only [List.map_toArray, List.map_cons, List.map_nil]); first | done | rfl | (simp only [List.length_drop, List.length_take]; rfl)) ?_
  with_reducible refine (period_Text.calls a0_4 a0_5 t401 _ A7.out ?gw_).mono ?_
  (case gw_ => first | exact HG.1 | (refine GW.below HG.1 ?_; repeat (first | (with_reducible first | exact HB.1 | apply zA | apply zN | apply z1 | refine zS ?_ GE398.1) | exact HB.1)))
  rintro e w15 ⟨rfl, hb⟩
  refine ⟨_, rfl, ?_⟩
  have n0_ := zM (kB (g := gb398) (o := .cells #[.int .i64 a0_0, .string a0_1, .int .i64 a0_2, .slice A0_3 l0_3.length c0_3, .int .i64 a0_4, .int .i64 a0_5] 38 (0, 0)) (by (with_reducible repeat (first | refine kN ?_ _ | refine kD ?_ | refine kA ?_ _)); exact BK398.1) hb)
  have n1_ := zM (zT (by repeat (first | (with_reducible first | exact HB.1 | apply zA | apply zN | apply z1 | refine zS ?_ GE398.1) | exact HB.1)) hb)
  clear BK398
  clear HB
  have BK398 := n0_
  have HB := n1_
  clear n0_ n1_
  (try clear hb)
  (try clear hb2)
  (try clear hk)
  (try clear hi)
  refine hK.out _ _ ⟨(kC BK398.1 0).trans rfl, (kC BK398.1 1).trans rfl, (kC BK398.1 2).trans rfl, (kC BK398.1 3).trans rfl, (kC BK398.1 4).trans rfl, (kC BK398.1 5).trans rfl⟩ (fun hHeld => ?_)
  clear hK K
  refine norm_ (a' := ?_) ?_ ?_
  rotate_left
  ·show Act.put _ (some 34) _ = _
   simp only [Act.put, List.setIfInBounds_toArray, List.set_cons_zero, List.set_cons_succ, i64_w, i32_w]
   rfl
  refine one_ (i := 10) (N := some 35) #[true, true, true, true, true, true, true, true, true, true, true, false, false] rfl rfl (one_of HT_.out (by kernel_rfl)) (by decide) (fun K hK => ?_)
  refine Kd.R_lit_step Kd.string _ 9 ?hg (N := 35) ?hd (xs := ([a0_1 ++ (⟨#[58]⟩ : ByteArray), (⟨#[110, 111, 116, 32, 110, 117, 108, 108, 32, 111, 102, 32, 99, 111, 108, 117, 109, 110, 32]⟩ : ByteArray) ++ t399, (⟨#[118, 105, 111, 108, 97, 116, 101, 100, 32, 98, 121]⟩ : ByteArray), t400, (⟨#[100, 117, 114, 105, 110, 103]⟩ : ByteArray), t401] : List ByteArray)) (inner := [.string (a0_1 ++ (⟨#[58]⟩ : ByteArray)), .string ((⟨#[110, 111, 116, 32, 110, 117, 108, 108, 32, 111, 102, 32, 99, 111, 108, 117, 109, 110, 32]⟩ : ByteArray) ++ t399), .string (⟨#[118, 105, 111, 108, 97, 116, 101, 100, 32, 98, 121]⟩ : ByteArray), .string t400, .string (⟨#[100, 117, 114, 105, 110, 103]⟩ : ByteArray), .string t401]) (ok := fun _ => True) (okp := fun _ => True) ?hr ?hp (fun _ hk => hk) trivial (Below.refl _ _) (Nat.le_refl _) (by simp) ?_; (case hd => rfl); (case hg => rfl); (case hr => first | (go_simp; done) | (go_simp; rfl)); (case hp => exact (Reps.one (show Kd.M Kd.string _ _ _ (a0_1 ++ (⟨#[58]⟩ : ByteArray)) [.string (a0_1 ++ (⟨#[58]⟩ : ByteArray))] from rfl) (Reps.one (show Kd.M Kd.string _ _ _ ((⟨#[110, 111, 116, 32, 110, 117, 108, 108, 32, 111, 102, 32, 99, 111, 108, 117, 109, 110, 32]⟩ : ByteArray) ++ t399) [.string ((⟨#[110, 111, 116, 32, 110, 117, 108, 108, 32, 111, 102, 32, 99, 111, 108, 117, 109, 110, 32]⟩ : ByteArray) ++ t399)] from rfl) (Reps.one (show Kd.M Kd.string _ _ _ (⟨#[118, 105, 111, 108, 97, 116, 101, 100, 32, 98, 121]⟩ : ByteArray) [.string (⟨#[118, 105, 111, 108, 97, 116, 101, 100, 32, 98, 121]⟩ : ByteArray)] from rfl) (Reps.one (show Kd.M Kd.string _ _ _ t400 [.string t400] from rfl) (Reps.one (show Kd.M Kd.string _ _ _ (⟨#[100, 117, 114, 105, 110, 103]⟩ : ByteArray) [.string (⟨#[100, 117, 114, 105, 110, 103]⟩ : ByteArray)] from rfl) (Reps.one (show Kd.M Kd.string _ _ _ t401 [.string t401] from rfl) (Reps.none _ _))))))))
  intro v403 w16 ho17 hb hg_ hnew_
  clear hg_ hnew_
  (first | rw [← Ny402.out] at ho17 | (simp only [Int.reduceToNat] at ho17; rw [← Ny402.out] at ho17))
  have n0_ := zM (Kd.R_lower ho17 (zZ (by repeat (first | (with_reducible first | exact HB.1 | apply zA | apply zN | apply z1 | refine zS ?_ GE398.1) | exact HB.1))))
  have n1_ := zM (kB (g := gb398) (o := .cells #[.int .i64 a0_0, .string a0_1, .int .i64 a0_2, .slice A0_3 l0_3.length c0_3, .int .i64 a0_4, .int .i64 a0_5] 38 (0, 0)) (by (with_reducible repeat (first | refine kN ?_ _ | refine kD ?_ | refine kA ?_ _)); exact BK398.1) hb)
  have n2_ := zM (zT (by repeat (first | (with_reducible first | exact HB.1 | apply zA | apply zN | apply z1 | refine zS ?_ GE398.1) | exact HB.1)) hb)
  clear BK398
  clear HB
  have HO404 := n0_
  have BK398 := n1_
  have HB := n2_
  clear n0_ n1_ n2_
  clear hb ho17
  obtain ⟨Ao18, co18, eo18⟩ := Kd.R_slice HO404.out
  (first | subst eo18 | (injection eo18 with f1_ f2_ f3_; have f4_ := f1_.symm; have f5_ := f3_.symm; clear f1_ f2_ f3_; subst f4_; subst f5_))
  refine hK.out _ _ ⟨(kC BK398.1 0).trans rfl, (kC BK398.1 1).trans rfl, (kC BK398.1 2).trans rfl, (kC BK398.1 3).trans rfl, (kC BK398.1 4).trans rfl, (kC BK398.1 5).trans rfl⟩ (fun hHeld => ?_)
  clear hK K
  refine norm_ (a' := ?_) ?_ ?_
  rotate_left
  ·show Act.put _ (some 35) _ = _
   simp only [Act.put, List.setIfInBounds_toArray, List.set_cons_zero, List.set_cons_succ, i64_w, i32_w]
   rfl
  refine one_ (i := 11) (N := some 36) #[true, true, true, true, true, true, true, true, true, true, true, true, false] rfl rfl (one_of HT_.out (by kernel_rfl)) (by decide) (fun K hK => ?_)
  refine goes_ Tryz.func24 (by kernel_rfl) rfl #[.string (⟨#[32]⟩ : ByteArray), .slice Ao18 y402.length co18] (by rfl) rfl rfl (by (try simp only [List.map_toArray, List.map_cons, List.map_nil]); first | done | rfl | (simp only [List.length_drop, List.length_take]; rfl)) ?_
  with_reducible refine (report_line.calls (⟨#[32]⟩ : ByteArray) _ _ y402 t405 _ ?side1 ?side2 A8.out ?gw_).mono ?_
  (case gw_ => first | exact HG.1 | (refine GW.below HG.1 ?_; repeat (first | (with_reducible first | exact HB.1 | apply zA | apply zN | apply z1 | refine zS ?_ GE398.1) | exact HB.1)))
  (case side1 => repeat (first | exact (Kd.R_reads' HO404.out).2.2 | (with_reducible refine Kd.C_alloc ?_ _) | (with_reducible refine Kd.C_drewN ?_ _) | (with_reducible refine Kd.C_drew ?_)))
  (case side2 => exact (Kd.R_reads' HO404.out).2.1)
  rintro e w19 ⟨rfl, hb⟩
  refine ⟨_, rfl, ?_⟩
  have n0_ := zM (Kd.R_below (by (with_reducible repeat (first | apply Kd.R_alloc | apply Kd.R_drewN | apply Kd.R_drew)); exact HO404.out) hb)
  have n1_ := zM (kB (g := gb398) (o := .cells #[.int .i64 a0_0, .string a0_1, .int .i64 a0_2, .slice A0_3 l0_3.length c0_3, .int .i64 a0_4, .int .i64 a0_5] 38 (0, 0)) (by (with_reducible repeat (first | refine kN ?_ _ | refine kD ?_ | refine kA ?_ _)); exact BK398.1) hb)
  have n2_ := zM (zT (by repeat (first | (with_reducible first | exact HB.1 | apply zA | apply zN | apply z1 | refine zS ?_ GE398.1) | exact HB.1)) hb)
  clear HO404
  clear BK398
  clear HB
  have HO404 := n0_
  have BK398 := n1_
  have HB := n2_
  clear n0_ n1_ n2_
  (try clear hb)
  (try clear hb2)
  (try clear hk)
  (try clear hi)
  refine hK.out _ _ ⟨(kC BK398.1 0).trans rfl, (kC BK398.1 1).trans rfl, (kC BK398.1 2).trans rfl, (kC BK398.1 3).trans rfl, (kC BK398.1 4).trans rfl, (kC BK398.1 5).trans rfl⟩ (fun hHeld => ?_)
  clear hK K
  refine norm_ (a' := ?_) ?_ ?_
  rotate_left
  ·show Act.put _ (some 36) _ = _
   simp only [Act.put, List.setIfInBounds_toArray, List.set_cons_zero, List.set_cons_succ, i64_w, i32_w]
   rfl
  refine pure_ (i := 12) (N := some 2) (v := ?_) (a' := ?_) #[true, true, true, true, true, true, true, true, true, true, true, true, true] rfl rfl (any_of HT_.out (by kernel_rfl)) (fun _ _ _ h => h) (Or.inl ⟨by rfl, ?_⟩) ?_ ?_
  rotate_left
  ·intro w'
   go_simp
   with_reducible rfl
  rotate_left
  ·simp only [Act.put, List.setIfInBounds_toArray, List.set_cons_zero, List.set_cons_succ, i64_w, i32_w]
   rfl
  refine done_ (done_of HT_.out (by kernel_rfl)) ?_
  try go_wp2
  go_ret
  exact ⟨by first | rfl | (simp [errW_none, errW_some] <;> rfl) | (simp [*, errW_none, errW_some] <;> rfl), by repeat (first | (with_reducible first | exact HB.1 | apply zA | apply zN | apply z1 | refine zS ?_ GE398.1) | exact HB.1)⟩
 ·rw [if_neg c3] at H
  have c3b0 : (a0_0 == 1) = false := beq_eq_false_iff_ne.mpr c3
  have c3b1 : (a0_0 != 1) = true := bne_iff_ne.mpr c3
  by_cases c20 : a0_0 = 2
  ·rw [if_pos c20] at H
   have c20b0 : (a0_0 == 2) = true := beq_iff_eq.mpr c20
   have c20b1 : (a0_0 != 2) = false := bne_eq_false_iff_eq.mpr c20
   clear c20
   by_cases c21 : a0_1.size + 1 ≤ 9223372036854775807
   case neg =>
    rw [if_neg c21] at H
    exact absurd H (by simp)
   rw [if_pos c21] at H
   have c21b0 := eq_true c21
   have c21b1 : decide (a0_1.size + 1 ≤ 9223372036854775807) = true := decide_eq_true c21
   try have c21b2 : (9223372036854775807 < a0_1.size + 1) = False := eq_false (Nat.not_lt.2 c21)
   try (have c21b3 := c21b2; simp only [ByteArray.size_append, size_lit, List.size_toArray, List.length_cons, List.length_nil, Nat.zero_add] at c21b3)
   replace H := Option.bind_eq_some_iff.mp H
   obtain ⟨t406, A220, H⟩ := H
   replace H : ((period_Text.f a0_4 a0_5).bind fun t407 => ((report_line.f (⟨#[32]⟩ : ByteArray) (([a0_1 ++ (⟨#[58]⟩ : ByteArray), (⟨#[107, 101, 121]⟩ : ByteArray), (⟨#[118, 105, 111, 108, 97, 116, 101, 100, 32, 98, 121]⟩ : ByteArray), t406, (⟨#[100, 117, 114, 105, 110, 103]⟩ : ByteArray), t407] : List ByteArray))).bind fun t411 => (some t411))) = some r := H
   have A22 := zM A220
   clear A220
   replace H := Option.bind_eq_some_iff.mp H
   obtain ⟨t407, A230, H⟩ := H
   replace H : ((report_line.f (⟨#[32]⟩ : ByteArray) (([a0_1 ++ (⟨#[58]⟩ : ByteArray), (⟨#[107, 101, 121]⟩ : ByteArray), (⟨#[118, 105, 111, 108, 97, 116, 101, 100, 32, 98, 121]⟩ : ByteArray), t406, (⟨#[100, 117, 114, 105, 110, 103]⟩ : ByteArray), t407] : List ByteArray))).bind fun t411 => (some t411)) = some r := H
   have A23 := zM A230
   clear A230
   obtain ⟨y408, hy408⟩ : ∃ y_ : List ByteArray, y_ = (([a0_1 ++ (⟨#[58]⟩ : ByteArray), (⟨#[107, 101, 121]⟩ : ByteArray), (⟨#[118, 105, 111, 108, 97, 116, 101, 100, 32, 98, 121]⟩ : ByteArray), t406, (⟨#[100, 117, 114, 105, 110, 103]⟩ : ByteArray), t407] : List ByteArray)) := ⟨_, rfl⟩
   replace H : ((report_line.f (⟨#[32]⟩ : ByteArray) y408).bind fun t411 => (some t411)) = some r := by first | (rw [hy408]; with_reducible exact H) | (have H2_ := (Option.bind_some _ _).symm.trans H; rw [hy408]; with_reducible exact H2_) | (have H2_ := (Option.bind_some _ _).symm.trans H; with_reducible exact H2_) | with_reducible exact H | (rw [hy408]; exact H) | exact H
   have Ny408 := zM hy408
   clear hy408
   replace H := Option.bind_eq_some_iff.mp H
   obtain ⟨t411, A240, H⟩ := H
   replace H : (some t411) = some r := H
   have A24 := zM A240
   clear A240
   obtain rfl := Option.some.inj H
   go_enter Tryz.func15, Tryz.ntmps15
   try go_wp2_with (first | ((with_reducible refine gate_dst (N := 1) rfl ?_); refine box_event ?hg (N := 1) ?hd (cs := #[.int .i64 a0_0, .string a0_1, .int .i64 a0_2, .slice A0_3 l0_3.length c0_3, .int .i64 a0_4, .int .i64 a0_5]) (t := 38) ?hr ?_; (case hd => rfl); (case hg => rfl); (case hr => first | (go_simp; done) | (go_simp; rfl)); intro gb398 hg w25 hbox hb; have n0_ := zM (zT (by repeat (first | (with_reducible first | exact HB.1 | apply zA | apply zN | apply z1) | exact HB.1)) hb); have n1_ := zM (hbox); have n2_ := zM ((by rw [hg]; exact (zZ (by repeat (first | (with_reducible first | exact HB.1 | apply zA | apply zN | apply z1) | exact HB.1))) : w.heap.size ≤ gb398)); have n3_ := n2_; clear HB; have HB := n0_; have BK398 := n1_; have GW398 := n2_; have GE398 := n3_; clear n0_ n1_ n2_ n3_; clear hb hbox hg; have hcz26_0 : w25.cell? ⟨gb398, 0, none⟩ = some (.int .i64 a0_0) := (kC BK398.1 0).trans rfl; have hcz26_1 : w25.cell? ⟨gb398, 1, none⟩ = some (.string a0_1) := (kC BK398.1 1).trans rfl; have hcz26_2 : w25.cell? ⟨gb398, 2, none⟩ = some (.int .i64 a0_2) := (kC BK398.1 2).trans rfl; have hcz26_3 : w25.cell? ⟨gb398, 3, none⟩ = some (.slice A0_3 l0_3.length c0_3) := (kC BK398.1 3).trans rfl; have hcz26_4 : w25.cell? ⟨gb398, 4, none⟩ = some (.int .i64 a0_4) := (kC BK398.1 4).trans rfl; have hcz26_5 : w25.cell? ⟨gb398, 5, none⟩ = some (.int .i64 a0_5) := (kC BK398.1 5).trans rfl; have hfz26_0 := kF BK398.1 0; have hfz26_1 := kF BK398.1 1; have hfz26_2 := kF BK398.1 2; have hfz26_3 := kF BK398.1 3; have hfz26_4 := kF BK398.1 4; have hfz26_5 := kF BK398.1 5) | ((with_reducible refine gate_callee (f := 23) rfl ?_); refine goesL_ (some 8) rfl rfl Tryz.func23 (by kernel_rfl) rfl #[.int .i64 (wrap64 (a0_2 + 1))] rfl (by (try simp only [List.map_toArray, List.map_cons, List.map_nil]); first | done | rfl | (simp only [List.length_drop, List.length_take]; rfl)) ?_; (with_reducible refine (strconv_Itoa.calls (wrap64 (a0_2 + 1)) t399 _ A2.out ?gw_).mono ?_); (case gw_ => first | exact HG.1 | (refine GW.below HG.1 ?_; repeat (first | (with_reducible first | exact HB.1 | apply zA | apply zN | apply z1 | refine zS ?_ GE398.1) | exact HB.1))); rintro e w27 ⟨rfl, hb⟩; refine ⟨_, rfl, ?_⟩; have n0_ := zM (kB (g := gb398) (o := .cells #[.int .i64 a0_0, .string a0_1, .int .i64 a0_2, .slice A0_3 l0_3.length c0_3, .int .i64 a0_4, .int .i64 a0_5] 38 (0, 0)) (by (with_reducible repeat (first | refine kN ?_ _ | refine kD ?_ | refine kA ?_ _)); exact BK398.1) hb); have n1_ := zM (zT (by repeat (first | (with_reducible first | exact HB.1 | apply zA | apply zN | apply z1 | refine zS ?_ GE398.1) | exact HB.1)) hb); clear BK398; clear HB; have BK398 := n0_; have HB := n1_; clear n0_ n1_; (try clear hb); (try clear hb2); (try clear hk); (try clear hi); have hcz28_0 : w27.cell? ⟨gb398, 0, none⟩ = some (.int .i64 a0_0) := (kC BK398.1 0).trans rfl; have hcz28_1 : w27.cell? ⟨gb398, 1, none⟩ = some (.string a0_1) := (kC BK398.1 1).trans rfl; have hcz28_2 : w27.cell? ⟨gb398, 2, none⟩ = some (.int .i64 a0_2) := (kC BK398.1 2).trans rfl; have hcz28_3 : w27.cell? ⟨gb398, 3, none⟩ = some (.slice A0_3 l0_3.length c0_3) := (kC BK398.1 3).trans rfl; have hcz28_4 : w27.cell? ⟨gb398, 4, none⟩ = some (.int .i64 a0_4) := (kC BK398.1 4).trans rfl; have hcz28_5 : w27.cell? ⟨gb398, 5, none⟩ = some (.int .i64 a0_5) := (kC BK398.1 5).trans rfl; have hfz28_0 := kF BK398.1 0; have hfz28_1 := kF BK398.1 1; have hfz28_2 := kF BK398.1 2; have hfz28_3 := kF BK398.1 3; have hfz28_4 := kF BK398.1 4; have hfz28_5 := kF BK398.1 5))
   have n0_ := zM (kD BK398.1)
   have n1_ := zM (z1 HB.1)
   clear BK398
   clear HB
   have BK398 := n0_
   have HB := n1_
   clear n0_ n1_
   refine start_ (n := 13) (S := fun w' => w'.cell? ⟨gb398, 0, none⟩ = some (.int .i64 a0_0) ∧ w'.cell? ⟨gb398, 1, none⟩ = some (.string a0_1) ∧ w'.cell? ⟨gb398, 2, none⟩ = some (.int .i64 a0_2) ∧ w'.cell? ⟨gb398, 3, none⟩ = some (.slice A0_3 l0_3.length c0_3) ∧ w'.cell? ⟨gb398, 4, none⟩ = some (.int .i64 a0_4) ∧ w'.cell? ⟨gb398, 5, none⟩ = some (.int .i64 a0_5)) (ds := []) #[false, false, false, false, false, false, false, false, false, false, false, false, false] (by kernel_rfl) rfl rfl ⟨(kC BK398.1 0).trans rfl, (kC BK398.1 1).trans rfl, (kC BK398.1 2).trans rfl, (kC BK398.1 3).trans rfl, (kC BK398.1 4).trans rfl, (kC BK398.1 5).trans rfl⟩ (fun hHeld => ?_); refine with_tabW report_Violation.tab12 report_Violation.bits12 (fun HT_ HW_ => ?_)
   generalize w27.drew = w29 at BK398 HB hHeld ⊢
   refine pure_ (i := 0) (N := some 25) (v := ?_) (a' := ?_) #[true, false, false, false, false, false, false, false, false, false, false, false, false] rfl rfl (any_of HT_.out (by kernel_rfl)) (fun _ _ _ h => h) (Or.inl ⟨by rfl, ?_⟩) ?_ ?_
   rotate_left
   ·intro w'
    go_simp
    with_reducible rfl
   rotate_left
   ·simp only [Act.put, List.setIfInBounds_toArray, List.set_cons_zero, List.set_cons_succ, i64_w, i32_w]
    rfl
   refine pure_ (i := 3) (N := some 28) (v := ?_) (a' := ?_) #[true, false, false, true, false, false, false, false, false, false, false, false, false] rfl rfl (any_of HT_.out (by kernel_rfl)) (fun _ _ _ h => h) (Or.inl ⟨by rfl, ?_⟩) ?_ ?_
   rotate_left
   ·intro w'
    go_simp
    with_reducible rfl
   rotate_left
   ·simp only [Act.put, List.setIfInBounds_toArray, List.set_cons_zero, List.set_cons_succ, i64_w, i32_w]
    rfl
   refine pure_ (i := 4) (N := some 29) (v := ?_) (a' := ?_) #[true, false, false, true, true, false, false, false, false, false, false, false, false] rfl rfl (any_of HT_.out (by kernel_rfl)) (fun _ _ _ h => h) (Or.inl ⟨by rfl, ?_⟩) ?_ ?_
   rotate_left
   ·intro w'
    go_simp
    with_reducible rfl
   rotate_left
   ·simp only [Act.put, List.setIfInBounds_toArray, List.set_cons_zero, List.set_cons_succ, i64_w, i32_w]
    rfl
   refine pure_ (i := 7) (N := some 32) (v := ?_) (a' := ?_) #[true, false, false, true, true, false, false, true, false, false, false, false, false] rfl rfl (any_of HT_.out (by kernel_rfl)) (fun _ _ _ h => h) (Or.inl ⟨by rfl, ?_⟩) ?_ ?_
   rotate_left
   ·intro w'
    go_simp
    with_reducible rfl
   rotate_left
   ·simp only [Act.put, List.setIfInBounds_toArray, List.set_cons_zero, List.set_cons_succ, i64_w, i32_w]
    rfl
   refine take_ (i := 1) (N := some 26) (v := ?_) (a' := ?_) #[true, true, false, true, true, false, false, true, false, false, false, false, false] rfl rfl (take_ofW HT_.out HW_.out (by kernel_rfl)) (fun _ _ _ h => h) (Or.inl ⟨by rfl, ?_⟩) hHeld ?_ ?_
   rotate_left
   ·rintro w' ⟨s0, s1, s2, s3, s4, s5⟩
    go_simp
    with_reducible rfl
   rotate_left
   ·simp only [Act.put, List.setIfInBounds_toArray, List.set_cons_zero, List.set_cons_succ, i64_w, i32_w]
    rfl
   refine pure_ (i := 2) (N := some 27) (v := ?_) (a' := ?_) #[true, true, true, true, true, false, false, true, false, false, false, false, false] rfl rfl (any_of HT_.out (by kernel_rfl)) (fun _ _ _ h => h) (Or.inl ⟨by rfl, ?_⟩) ?_ ?_
   rotate_left
   ·intro w'
    go_simp
    with_reducible rfl
   rotate_left
   ·simp only [Act.put, List.setIfInBounds_toArray, List.set_cons_zero, List.set_cons_succ, i64_w, i32_w]
    rfl
   refine take_ (i := 5) (N := some 30) (v := ?_) (a' := ?_) #[true, true, true, true, true, true, false, true, false, false, false, false, false] rfl rfl (take_ofW HT_.out HW_.out (by kernel_rfl)) (fun _ _ _ h => h) (Or.inl ⟨by rfl, ?_⟩) hHeld ?_ ?_
   rotate_left
   ·rintro w' ⟨s0, s1, s2, s3, s4, s5⟩
    go_simp
    with_reducible rfl
   rotate_left
   ·simp only [Act.put, List.setIfInBounds_toArray, List.set_cons_zero, List.set_cons_succ, i64_w, i32_w]
    rfl
   refine take_ (i := 8) (N := some 33) (v := ?_) (a' := ?_) #[true, true, true, true, true, true, false, true, true, false, false, false, false] rfl rfl (take_ofW HT_.out HW_.out (by kernel_rfl)) (fun _ _ _ h => h) (Or.inl ⟨by rfl, ?_⟩) hHeld ?_ ?_
   rotate_left
   ·rintro w' ⟨s0, s1, s2, s3, s4, s5⟩
    go_simp
    with_reducible rfl
   rotate_left
   ·simp only [Act.put, List.setIfInBounds_toArray, List.set_cons_zero, List.set_cons_succ, i64_w, i32_w]
    rfl
   refine one_ (i := 6) (N := some 31) #[true, true, true, true, true, true, true, true, true, false, false, false, false] rfl rfl (one_of HT_.out (by kernel_rfl)) (by decide) (fun K hK => ?_)
   refine goes_ Tryz.func44 (by kernel_rfl) rfl #[.slice A0_3 l0_3.length c0_3] (by rfl) rfl rfl (by (try simp only [List.map_toArray, List.map_cons, List.map_nil]); first | done | rfl | (simp only [List.length_drop, List.length_take]; rfl)) ?_
   with_reducible refine (tuple_Text.calls k _ _ l0_3 t406 _ ?side1 ?side2 A22.out ?gw_).mono ?_
   (case gw_ => first | exact HG.1 | (refine GW.below HG.1 ?_; repeat (first | (with_reducible first | exact HB.1 | apply zA | apply zN | apply z1 | refine zS ?_ GE398.1) | exact HB.1)))
   (case side1 => repeat (first | exact (Kd.C_below HR0_3.out HB.1) | (with_reducible refine Kd.C_alloc ?_ _) | (with_reducible refine Kd.C_drewN ?_ _) | (with_reducible refine Kd.C_drew ?_)))
   (case side2 => exact HC0_3.out)
   rintro e w30 ⟨rfl, hb⟩
   refine ⟨_, rfl, ?_⟩
   have n0_ := zM (kB (g := gb398) (o := .cells #[.int .i64 a0_0, .string a0_1, .int .i64 a0_2, .slice A0_3 l0_3.length c0_3, .int .i64 a0_4, .int .i64 a0_5] 38 (0, 0)) (by (with_reducible repeat (first | refine kN ?_ _ | refine kD ?_ | refine kA ?_ _)); exact BK398.1) hb)
   have n1_ := zM (zT (by repeat (first | (with_reducible first | exact HB.1 | apply zA | apply zN | apply z1 | refine zS ?_ GE398.1) | exact HB.1)) hb)
   clear BK398
   clear HB
   have BK398 := n0_
   have HB := n1_
   clear n0_ n1_
   (try clear hb)
   (try clear hb2)
   (try clear hk)
   (try clear hi)
   refine hK.out _ _ ⟨(kC BK398.1 0).trans rfl, (kC BK398.1 1).trans rfl, (kC BK398.1 2).trans rfl, (kC BK398.1 3).trans rfl, (kC BK398.1 4).trans rfl, (kC BK398.1 5).trans rfl⟩ (fun hHeld => ?_)
   clear hK K
   refine norm_ (a' := ?_) ?_ ?_
   rotate_left
   ·show Act.put _ (some 31) _ = _
    simp only [Act.put, List.setIfInBounds_toArray, List.set_cons_zero, List.set_cons_succ, i64_w, i32_w]
    rfl
   refine one_ (i := 9) (N := some 34) #[true, true, true, true, true, true, true, true, true, true, false, false, false] rfl rfl (one_of HT_.out (by kernel_rfl)) (by decide) (fun K hK => ?_)
   refine goes_ Tryz.func29 (by kernel_rfl) rfl #[.agg #[.int .i64 a0_4, .int .i64 a0_5]] (by rfl) rfl rfl (by (try simp only [List.map_toArray, List.map_cons, List.map_nil]); first | done | rfl | (simp only [List.length_drop, List.length_take]; rfl)) ?_
   with_reducible refine (period_Text.calls a0_4 a0_5 t407 _ A23.out ?gw_).mono ?_
   (case gw_ => first | exact HG.1 | (refine GW.below HG.1 ?_; repeat (first | (with_reducible first | exact HB.1 | apply zA | apply zN | apply z1 | refine zS ?_ GE398.1) | exact HB.1)))
   rintro e w31 ⟨rfl, hb⟩
   refine ⟨_, rfl, ?_⟩
   have n0_ := zM (kB (g := gb398) (o := .cells #[.int .i64 a0_0, .string a0_1, .int .i64 a0_2, .slice A0_3 l0_3.length c0_3, .int .i64 a0_4, .int .i64 a0_5] 38 (0, 0)) (by (with_reducible repeat (first | refine kN ?_ _ | refine kD ?_ | refine kA ?_ _)); exact BK398.1) hb)
   have n1_ := zM (zT (by repeat (first | (with_reducible first | exact HB.1 | apply zA | apply zN | apply z1 | refine zS ?_ GE398.1) | exact HB.1)) hb)
   clear BK398
   clear HB
   have BK398 := n0_
   have HB := n1_
   clear n0_ n1_
   (try clear hb)
   (try clear hb2)
   (try clear hk)
   (try clear hi)
   refine hK.out _ _ ⟨(kC BK398.1 0).trans rfl, (kC BK398.1 1).trans rfl, (kC BK398.1 2).trans rfl, (kC BK398.1 3).trans rfl, (kC BK398.1 4).trans rfl, (kC BK398.1 5).trans rfl⟩ (fun hHeld => ?_)
   clear hK K
   refine norm_ (a' := ?_) ?_ ?_
   rotate_left
   ·show Act.put _ (some 34) _ = _
    simp only [Act.put, List.setIfInBounds_toArray, List.set_cons_zero, List.set_cons_succ, i64_w, i32_w]
    rfl
   refine one_ (i := 10) (N := some 35) #[true, true, true, true, true, true, true, true, true, true, true, false, false] rfl rfl (one_of HT_.out (by kernel_rfl)) (by decide) (fun K hK => ?_)
   refine Kd.R_lit_step Kd.string _ 9 ?hg (N := 35) ?hd (xs := ([a0_1 ++ (⟨#[58]⟩ : ByteArray), (⟨#[107, 101, 121]⟩ : ByteArray), (⟨#[118, 105, 111, 108, 97, 116, 101, 100, 32, 98, 121]⟩ : ByteArray), t406, (⟨#[100, 117, 114, 105, 110, 103]⟩ : ByteArray), t407] : List ByteArray)) (inner := [.string (a0_1 ++ (⟨#[58]⟩ : ByteArray)), .string (⟨#[107, 101, 121]⟩ : ByteArray), .string (⟨#[118, 105, 111, 108, 97, 116, 101, 100, 32, 98, 121]⟩ : ByteArray), .string t406, .string (⟨#[100, 117, 114, 105, 110, 103]⟩ : ByteArray), .string t407]) (ok := fun _ => True) (okp := fun _ => True) ?hr ?hp (fun _ hk => hk) trivial (Below.refl _ _) (Nat.le_refl _) (by simp) ?_; (case hd => rfl); (case hg => rfl); (case hr => first | (go_simp; done) | (go_simp; rfl)); (case hp => exact (Reps.one (show Kd.M Kd.string _ _ _ (a0_1 ++ (⟨#[58]⟩ : ByteArray)) [.string (a0_1 ++ (⟨#[58]⟩ : ByteArray))] from rfl) (Reps.one (show Kd.M Kd.string _ _ _ (⟨#[107, 101, 121]⟩ : ByteArray) [.string (⟨#[107, 101, 121]⟩ : ByteArray)] from rfl) (Reps.one (show Kd.M Kd.string _ _ _ (⟨#[118, 105, 111, 108, 97, 116, 101, 100, 32, 98, 121]⟩ : ByteArray) [.string (⟨#[118, 105, 111, 108, 97, 116, 101, 100, 32, 98, 121]⟩ : ByteArray)] from rfl) (Reps.one (show Kd.M Kd.string _ _ _ t406 [.string t406] from rfl) (Reps.one (show Kd.M Kd.string _ _ _ (⟨#[100, 117, 114, 105, 110, 103]⟩ : ByteArray) [.string (⟨#[100, 117, 114, 105, 110, 103]⟩ : ByteArray)] from rfl) (Reps.one (show Kd.M Kd.string _ _ _ t407 [.string t407] from rfl) (Reps.none _ _))))))))
   intro v409 w32 ho33 hb hg_ hnew_
   clear hg_ hnew_
   (first | rw [← Ny408.out] at ho33 | (simp only [Int.reduceToNat] at ho33; rw [← Ny408.out] at ho33))
   have n0_ := zM (Kd.R_lower ho33 (zZ (by repeat (first | (with_reducible first | exact HB.1 | apply zA | apply zN | apply z1 | refine zS ?_ GE398.1) | exact HB.1))))
   have n1_ := zM (kB (g := gb398) (o := .cells #[.int .i64 a0_0, .string a0_1, .int .i64 a0_2, .slice A0_3 l0_3.length c0_3, .int .i64 a0_4, .int .i64 a0_5] 38 (0, 0)) (by (with_reducible repeat (first | refine kN ?_ _ | refine kD ?_ | refine kA ?_ _)); exact BK398.1) hb)
   have n2_ := zM (zT (by repeat (first | (with_reducible first | exact HB.1 | apply zA | apply zN | apply z1 | refine zS ?_ GE398.1) | exact HB.1)) hb)
   clear BK398
   clear HB
   have HO410 := n0_
   have BK398 := n1_
   have HB := n2_
   clear n0_ n1_ n2_
   clear hb ho33
   obtain ⟨Ao34, co34, eo34⟩ := Kd.R_slice HO410.out
   (first | subst eo34 | (injection eo34 with f1_ f2_ f3_; have f4_ := f1_.symm; have f5_ := f3_.symm; clear f1_ f2_ f3_; subst f4_; subst f5_))
   refine hK.out _ _ ⟨(kC BK398.1 0).trans rfl, (kC BK398.1 1).trans rfl, (kC BK398.1 2).trans rfl, (kC BK398.1 3).trans rfl, (kC BK398.1 4).trans rfl, (kC BK398.1 5).trans rfl⟩ (fun hHeld => ?_)
   clear hK K
   refine norm_ (a' := ?_) ?_ ?_
   rotate_left
   ·show Act.put _ (some 35) _ = _
    simp only [Act.put, List.setIfInBounds_toArray, List.set_cons_zero, List.set_cons_succ, i64_w, i32_w]
    rfl
   refine one_ (i := 11) (N := some 36) #[true, true, true, true, true, true, true, true, true, true, true, true, false] rfl rfl (one_of HT_.out (by kernel_rfl)) (by decide) (fun K hK => ?_)
   refine goes_ Tryz.func24 (by kernel_rfl) rfl #[.string (⟨#[32]⟩ : ByteArray), .slice Ao34 y408.length co34] (by rfl) rfl rfl (by (try simp only [List.map_toArray, List.map_cons, List.map_nil]); first | done | rfl | (simp only [List.length_drop, List.length_take]; rfl)) ?_
   with_reducible refine (report_line.calls (⟨#[32]⟩ : ByteArray) _ _ y408 t411 _ ?side1 ?side2 A24.out ?gw_).mono ?_
   (case gw_ => first | exact HG.1 | (refine GW.below HG.1 ?_; repeat (first | (with_reducible first | exact HB.1 | apply zA | apply zN | apply z1 | refine zS ?_ GE398.1) | exact HB.1)))
   (case side1 => repeat (first | exact (Kd.R_reads' HO410.out).2.2 | (with_reducible refine Kd.C_alloc ?_ _) | (with_reducible refine Kd.C_drewN ?_ _) | (with_reducible refine Kd.C_drew ?_)))
   (case side2 => exact (Kd.R_reads' HO410.out).2.1)
   rintro e w35 ⟨rfl, hb⟩
   refine ⟨_, rfl, ?_⟩
   have n0_ := zM (Kd.R_below (by (with_reducible repeat (first | apply Kd.R_alloc | apply Kd.R_drewN | apply Kd.R_drew)); exact HO410.out) hb)
   have n1_ := zM (kB (g := gb398) (o := .cells #[.int .i64 a0_0, .string a0_1, .int .i64 a0_2, .slice A0_3 l0_3.length c0_3, .int .i64 a0_4, .int .i64 a0_5] 38 (0, 0)) (by (with_reducible repeat (first | refine kN ?_ _ | refine kD ?_ | refine kA ?_ _)); exact BK398.1) hb)
   have n2_ := zM (zT (by repeat (first | (with_reducible first | exact HB.1 | apply zA | apply zN | apply z1 | refine zS ?_ GE398.1) | exact HB.1)) hb)
   clear HO410
   clear BK398
   clear HB
   have HO410 := n0_
   have BK398 := n1_
   have HB := n2_
   clear n0_ n1_ n2_
   (try clear hb)
   (try clear hb2)
   (try clear hk)
   (try clear hi)
   refine hK.out _ _ ⟨(kC BK398.1 0).trans rfl, (kC BK398.1 1).trans rfl, (kC BK398.1 2).trans rfl, (kC BK398.1 3).trans rfl, (kC BK398.1 4).trans rfl, (kC BK398.1 5).trans rfl⟩ (fun hHeld => ?_)
   clear hK K
   refine norm_ (a' := ?_) ?_ ?_
   rotate_left
   ·show Act.put _ (some 36) _ = _
    simp only [Act.put, List.setIfInBounds_toArray, List.set_cons_zero, List.set_cons_succ, i64_w, i32_w]
    rfl
   refine pure_ (i := 12) (N := some 2) (v := ?_) (a' := ?_) #[true, true, true, true, true, true, true, true, true, true, true, true, true] rfl rfl (any_of HT_.out (by kernel_rfl)) (fun _ _ _ h => h) (Or.inl ⟨by rfl, ?_⟩) ?_ ?_
   rotate_left
   ·intro w'
    go_simp
    with_reducible rfl
   rotate_left
   ·simp only [Act.put, List.setIfInBounds_toArray, List.set_cons_zero, List.set_cons_succ, i64_w, i32_w]
    rfl
   refine done_ (done_of HT_.out (by kernel_rfl)) ?_
   try go_wp2
   go_ret
   exact ⟨by first | rfl | (simp [errW_none, errW_some] <;> rfl) | (simp [*, errW_none, errW_some] <;> rfl), by repeat (first | (with_reducible first | exact HB.1 | apply zA | apply zN | apply z1 | refine zS ?_ GE398.1) | exact HB.1)⟩
  ·rw [if_neg c20] at H
   have c20b0 : (a0_0 == 2) = false := beq_eq_false_iff_ne.mpr c20
   have c20b1 : (a0_0 != 2) = true := bne_iff_ne.mpr c20
   by_cases c36 : a0_0 = 3
   ·rw [if_pos c36] at H
    have c36b0 : (a0_0 == 3) = true := beq_iff_eq.mpr c36
    have c36b1 : (a0_0 != 3) = false := bne_eq_false_iff_eq.mpr c36
    clear c36
    by_cases c37 : 12 + t399.size ≤ 9223372036854775807
    case neg =>
     rw [if_neg c37] at H
     exact absurd H (by simp)
    rw [if_pos c37] at H
    have c37b0 := eq_true c37
    have c37b1 : decide (12 + t399.size ≤ 9223372036854775807) = true := decide_eq_true c37
    try have c37b2 : (9223372036854775807 < 12 + t399.size) = False := eq_false (Nat.not_lt.2 c37)
    try (have c37b3 := c37b2; simp only [ByteArray.size_append, size_lit, List.size_toArray, List.length_cons, List.length_nil, Nat.zero_add] at c37b3)
    by_cases c38 : a0_1.size + 1 ≤ 9223372036854775807
    case neg =>
     rw [if_neg c38] at H
     exact absurd H (by simp)
    rw [if_pos c38] at H
    have c38b0 := eq_true c38
    have c38b1 : decide (a0_1.size + 1 ≤ 9223372036854775807) = true := decide_eq_true c38
    try have c38b2 : (9223372036854775807 < a0_1.size + 1) = False := eq_false (Nat.not_lt.2 c38)
    try (have c38b3 := c38b2; simp only [ByteArray.size_append, size_lit, List.size_toArray, List.length_cons, List.length_nil, Nat.zero_add] at c38b3)
    replace H := Option.bind_eq_some_iff.mp H
    obtain ⟨t412, A390, H⟩ := H
    replace H : ((period_Text.f a0_4 a0_5).bind fun t413 => ((report_line.f (⟨#[32]⟩ : ByteArray) (([a0_1 ++ (⟨#[58]⟩ : ByteArray), (⟨#[102, 111, 114, 101, 105, 103, 110, 32, 107, 101, 121, 32]⟩ : ByteArray) ++ t399, (⟨#[118, 105, 111, 108, 97, 116, 101, 100, 32, 98, 121]⟩ : ByteArray), t412, (⟨#[100, 117, 114, 105, 110, 103]⟩ : ByteArray), t413] : List ByteArray))).bind fun t417 => (some t417))) = some r := H
    have A39 := zM A390
    clear A390
    replace H := Option.bind_eq_some_iff.mp H
    obtain ⟨t413, A400, H⟩ := H
    replace H : ((report_line.f (⟨#[32]⟩ : ByteArray) (([a0_1 ++ (⟨#[58]⟩ : ByteArray), (⟨#[102, 111, 114, 101, 105, 103, 110, 32, 107, 101, 121, 32]⟩ : ByteArray) ++ t399, (⟨#[118, 105, 111, 108, 97, 116, 101, 100, 32, 98, 121]⟩ : ByteArray), t412, (⟨#[100, 117, 114, 105, 110, 103]⟩ : ByteArray), t413] : List ByteArray))).bind fun t417 => (some t417)) = some r := H
    have A40 := zM A400
    clear A400
    obtain ⟨y414, hy414⟩ : ∃ y_ : List ByteArray, y_ = (([a0_1 ++ (⟨#[58]⟩ : ByteArray), (⟨#[102, 111, 114, 101, 105, 103, 110, 32, 107, 101, 121, 32]⟩ : ByteArray) ++ t399, (⟨#[118, 105, 111, 108, 97, 116, 101, 100, 32, 98, 121]⟩ : ByteArray), t412, (⟨#[100, 117, 114, 105, 110, 103]⟩ : ByteArray), t413] : List ByteArray)) := ⟨_, rfl⟩
    replace H : ((report_line.f (⟨#[32]⟩ : ByteArray) y414).bind fun t417 => (some t417)) = some r := by first | (rw [hy414]; with_reducible exact H) | (have H2_ := (Option.bind_some _ _).symm.trans H; rw [hy414]; with_reducible exact H2_) | (have H2_ := (Option.bind_some _ _).symm.trans H; with_reducible exact H2_) | with_reducible exact H | (rw [hy414]; exact H) | exact H
    have Ny414 := zM hy414
    clear hy414
    replace H := Option.bind_eq_some_iff.mp H
    obtain ⟨t417, A410, H⟩ := H
    replace H : (some t417) = some r := H
    have A41 := zM A410
    clear A410
    obtain rfl := Option.some.inj H
    go_enter Tryz.func15, Tryz.ntmps15
    try go_wp2_with (first | ((with_reducible refine gate_dst (N := 1) rfl ?_); refine box_event ?hg (N := 1) ?hd (cs := #[.int .i64 a0_0, .string a0_1, .int .i64 a0_2, .slice A0_3 l0_3.length c0_3, .int .i64 a0_4, .int .i64 a0_5]) (t := 38) ?hr ?_; (case hd => rfl); (case hg => rfl); (case hr => first | (go_simp; done) | (go_simp; rfl)); intro gb398 hg w42 hbox hb; have n0_ := zM (zT (by repeat (first | (with_reducible first | exact HB.1 | apply zA | apply zN | apply z1) | exact HB.1)) hb); have n1_ := zM (hbox); have n2_ := zM ((by rw [hg]; exact (zZ (by repeat (first | (with_reducible first | exact HB.1 | apply zA | apply zN | apply z1) | exact HB.1))) : w.heap.size ≤ gb398)); have n3_ := n2_; clear HB; have HB := n0_; have BK398 := n1_; have GW398 := n2_; have GE398 := n3_; clear n0_ n1_ n2_ n3_; clear hb hbox hg; have hcz43_0 : w42.cell? ⟨gb398, 0, none⟩ = some (.int .i64 a0_0) := (kC BK398.1 0).trans rfl; have hcz43_1 : w42.cell? ⟨gb398, 1, none⟩ = some (.string a0_1) := (kC BK398.1 1).trans rfl; have hcz43_2 : w42.cell? ⟨gb398, 2, none⟩ = some (.int .i64 a0_2) := (kC BK398.1 2).trans rfl; have hcz43_3 : w42.cell? ⟨gb398, 3, none⟩ = some (.slice A0_3 l0_3.length c0_3) := (kC BK398.1 3).trans rfl; have hcz43_4 : w42.cell? ⟨gb398, 4, none⟩ = some (.int .i64 a0_4) := (kC BK398.1 4).trans rfl; have hcz43_5 : w42.cell? ⟨gb398, 5, none⟩ = some (.int .i64 a0_5) := (kC BK398.1 5).trans rfl; have hfz43_0 := kF BK398.1 0; have hfz43_1 := kF BK398.1 1; have hfz43_2 := kF BK398.1 2; have hfz43_3 := kF BK398.1 3; have hfz43_4 := kF BK398.1 4; have hfz43_5 := kF BK398.1 5) | ((with_reducible refine gate_callee (f := 23) rfl ?_); refine goesL_ (some 8) rfl rfl Tryz.func23 (by kernel_rfl) rfl #[.int .i64 (wrap64 (a0_2 + 1))] rfl (by (try simp only [List.map_toArray, List.map_cons, List.map_nil]); first | done | rfl | (simp only [List.length_drop, List.length_take]; rfl)) ?_; (with_reducible refine (strconv_Itoa.calls (wrap64 (a0_2 + 1)) t399 _ A2.out ?gw_).mono ?_); (case gw_ => first | exact HG.1 | (refine GW.below HG.1 ?_; repeat (first | (with_reducible first | exact HB.1 | apply zA | apply zN | apply z1 | refine zS ?_ GE398.1) | exact HB.1))); rintro e w44 ⟨rfl, hb⟩; refine ⟨_, rfl, ?_⟩; have n0_ := zM (kB (g := gb398) (o := .cells #[.int .i64 a0_0, .string a0_1, .int .i64 a0_2, .slice A0_3 l0_3.length c0_3, .int .i64 a0_4, .int .i64 a0_5] 38 (0, 0)) (by (with_reducible repeat (first | refine kN ?_ _ | refine kD ?_ | refine kA ?_ _)); exact BK398.1) hb); have n1_ := zM (zT (by repeat (first | (with_reducible first | exact HB.1 | apply zA | apply zN | apply z1 | refine zS ?_ GE398.1) | exact HB.1)) hb); clear BK398; clear HB; have BK398 := n0_; have HB := n1_; clear n0_ n1_; (try clear hb); (try clear hb2); (try clear hk); (try clear hi); have hcz45_0 : w44.cell? ⟨gb398, 0, none⟩ = some (.int .i64 a0_0) := (kC BK398.1 0).trans rfl; have hcz45_1 : w44.cell? ⟨gb398, 1, none⟩ = some (.string a0_1) := (kC BK398.1 1).trans rfl; have hcz45_2 : w44.cell? ⟨gb398, 2, none⟩ = some (.int .i64 a0_2) := (kC BK398.1 2).trans rfl; have hcz45_3 : w44.cell? ⟨gb398, 3, none⟩ = some (.slice A0_3 l0_3.length c0_3) := (kC BK398.1 3).trans rfl; have hcz45_4 : w44.cell? ⟨gb398, 4, none⟩ = some (.int .i64 a0_4) := (kC BK398.1 4).trans rfl; have hcz45_5 : w44.cell? ⟨gb398, 5, none⟩ = some (.int .i64 a0_5) := (kC BK398.1 5).trans rfl; have hfz45_0 := kF BK398.1 0; have hfz45_1 := kF BK398.1 1; have hfz45_2 := kF BK398.1 2; have hfz45_3 := kF BK398.1 3; have hfz45_4 := kF BK398.1 4; have hfz45_5 := kF BK398.1 5))
    have n0_ := zM (kD BK398.1)
    have n1_ := zM (z1 HB.1)
    clear BK398
    clear HB
    have BK398 := n0_
    have HB := n1_
    clear n0_ n1_
    refine start_ (n := 13) (S := fun w' => w'.cell? ⟨gb398, 0, none⟩ = some (.int .i64 a0_0) ∧ w'.cell? ⟨gb398, 1, none⟩ = some (.string a0_1) ∧ w'.cell? ⟨gb398, 2, none⟩ = some (.int .i64 a0_2) ∧ w'.cell? ⟨gb398, 3, none⟩ = some (.slice A0_3 l0_3.length c0_3) ∧ w'.cell? ⟨gb398, 4, none⟩ = some (.int .i64 a0_4) ∧ w'.cell? ⟨gb398, 5, none⟩ = some (.int .i64 a0_5)) (ds := []) #[false, false, false, false, false, false, false, false, false, false, false, false, false] (by kernel_rfl) rfl rfl ⟨(kC BK398.1 0).trans rfl, (kC BK398.1 1).trans rfl, (kC BK398.1 2).trans rfl, (kC BK398.1 3).trans rfl, (kC BK398.1 4).trans rfl, (kC BK398.1 5).trans rfl⟩ (fun hHeld => ?_); refine with_tabW report_Violation.tab12 report_Violation.bits12 (fun HT_ HW_ => ?_)
    generalize w44.drew = w46 at BK398 HB hHeld ⊢
    refine pure_ (i := 0) (N := some 25) (v := ?_) (a' := ?_) #[true, false, false, false, false, false, false, false, false, false, false, false, false] rfl rfl (any_of HT_.out (by kernel_rfl)) (fun _ _ _ h => h) (Or.inl ⟨by rfl, ?_⟩) ?_ ?_
    rotate_left
    ·intro w'
     go_simp
     with_reducible rfl
    rotate_left
    ·simp only [Act.put, List.setIfInBounds_toArray, List.set_cons_zero, List.set_cons_succ, i64_w, i32_w]
     rfl
    refine pure_ (i := 3) (N := some 28) (v := ?_) (a' := ?_) #[true, false, false, true, false, false, false, false, false, false, false, false, false] rfl rfl (any_of HT_.out (by kernel_rfl)) (fun _ _ _ h => h) (Or.inl ⟨by rfl, ?_⟩) ?_ ?_
    rotate_left
    ·intro w'
     go_simp
     with_reducible rfl
    rotate_left
    ·simp only [Act.put, List.setIfInBounds_toArray, List.set_cons_zero, List.set_cons_succ, i64_w, i32_w]
     rfl
    refine pure_ (i := 4) (N := some 29) (v := ?_) (a' := ?_) #[true, false, false, true, true, false, false, false, false, false, false, false, false] rfl rfl (any_of HT_.out (by kernel_rfl)) (fun _ _ _ h => h) (Or.inl ⟨by rfl, ?_⟩) ?_ ?_
    rotate_left
    ·intro w'
     go_simp
     with_reducible rfl
    rotate_left
    ·simp only [Act.put, List.setIfInBounds_toArray, List.set_cons_zero, List.set_cons_succ, i64_w, i32_w]
     rfl
    refine pure_ (i := 7) (N := some 32) (v := ?_) (a' := ?_) #[true, false, false, true, true, false, false, true, false, false, false, false, false] rfl rfl (any_of HT_.out (by kernel_rfl)) (fun _ _ _ h => h) (Or.inl ⟨by rfl, ?_⟩) ?_ ?_
    rotate_left
    ·intro w'
     go_simp
     with_reducible rfl
    rotate_left
    ·simp only [Act.put, List.setIfInBounds_toArray, List.set_cons_zero, List.set_cons_succ, i64_w, i32_w]
     rfl
    refine take_ (i := 1) (N := some 26) (v := ?_) (a' := ?_) #[true, true, false, true, true, false, false, true, false, false, false, false, false] rfl rfl (take_ofW HT_.out HW_.out (by kernel_rfl)) (fun _ _ _ h => h) (Or.inl ⟨by rfl, ?_⟩) hHeld ?_ ?_
    rotate_left
    ·rintro w' ⟨s0, s1, s2, s3, s4, s5⟩
     go_simp
     with_reducible rfl
    rotate_left
    ·simp only [Act.put, List.setIfInBounds_toArray, List.set_cons_zero, List.set_cons_succ, i64_w, i32_w]
     rfl
    refine pure_ (i := 2) (N := some 27) (v := ?_) (a' := ?_) #[true, true, true, true, true, false, false, true, false, false, false, false, false] rfl rfl (any_of HT_.out (by kernel_rfl)) (fun _ _ _ h => h) (Or.inl ⟨by rfl, ?_⟩) ?_ ?_
    rotate_left
    ·intro w'
     go_simp
     with_reducible rfl
    rotate_left
    ·simp only [Act.put, List.setIfInBounds_toArray, List.set_cons_zero, List.set_cons_succ, i64_w, i32_w]
     rfl
    refine take_ (i := 5) (N := some 30) (v := ?_) (a' := ?_) #[true, true, true, true, true, true, false, true, false, false, false, false, false] rfl rfl (take_ofW HT_.out HW_.out (by kernel_rfl)) (fun _ _ _ h => h) (Or.inl ⟨by rfl, ?_⟩) hHeld ?_ ?_
    rotate_left
    ·rintro w' ⟨s0, s1, s2, s3, s4, s5⟩
     go_simp
     with_reducible rfl
    rotate_left
    ·simp only [Act.put, List.setIfInBounds_toArray, List.set_cons_zero, List.set_cons_succ, i64_w, i32_w]
     rfl
    refine take_ (i := 8) (N := some 33) (v := ?_) (a' := ?_) #[true, true, true, true, true, true, false, true, true, false, false, false, false] rfl rfl (take_ofW HT_.out HW_.out (by kernel_rfl)) (fun _ _ _ h => h) (Or.inl ⟨by rfl, ?_⟩) hHeld ?_ ?_
    rotate_left
    ·rintro w' ⟨s0, s1, s2, s3, s4, s5⟩
     go_simp
     with_reducible rfl
    rotate_left
    ·simp only [Act.put, List.setIfInBounds_toArray, List.set_cons_zero, List.set_cons_succ, i64_w, i32_w]
     rfl
    refine one_ (i := 6) (N := some 31) #[true, true, true, true, true, true, true, true, true, false, false, false, false] rfl rfl (one_of HT_.out (by kernel_rfl)) (by decide) (fun K hK => ?_)
    refine goes_ Tryz.func44 (by kernel_rfl) rfl #[.slice A0_3 l0_3.length c0_3] (by rfl) rfl rfl (by (try simp only [List.map_toArray, List.map_cons, List.map_nil]); first | done | rfl | (simp only [List.length_drop, List.length_take]; rfl)) ?_
    with_reducible refine (tuple_Text.calls k _ _ l0_3 t412 _ ?side1 ?side2 A39.out ?gw_).mono ?_
    (case gw_ => first | exact HG.1 | (refine GW.below HG.1 ?_; repeat (first | (with_reducible first | exact HB.1 | apply zA | apply zN | apply z1 | refine zS ?_ GE398.1) | exact HB.1)))
    (case side1 => repeat (first | exact (Kd.C_below HR0_3.out HB.1) | (with_reducible refine Kd.C_alloc ?_ _) | (with_reducible refine Kd.C_drewN ?_ _) | (with_reducible refine Kd.C_drew ?_)))
    (case side2 => exact HC0_3.out)
    rintro e w47 ⟨rfl, hb⟩
    refine ⟨_, rfl, ?_⟩
    have n0_ := zM (kB (g := gb398) (o := .cells #[.int .i64 a0_0, .string a0_1, .int .i64 a0_2, .slice A0_3 l0_3.length c0_3, .int .i64 a0_4, .int .i64 a0_5] 38 (0, 0)) (by (with_reducible repeat (first | refine kN ?_ _ | refine kD ?_ | refine kA ?_ _)); exact BK398.1) hb)
    have n1_ := zM (zT (by repeat (first | (with_reducible first | exact HB.1 | apply zA | apply zN | apply z1 | refine zS ?_ GE398.1) | exact HB.1)) hb)
    clear BK398
    clear HB
    have BK398 := n0_
    have HB := n1_
    clear n0_ n1_
    (try clear hb)
    (try clear hb2)
    (try clear hk)
    (try clear hi)
    refine hK.out _ _ ⟨(kC BK398.1 0).trans rfl, (kC BK398.1 1).trans rfl, (kC BK398.1 2).trans rfl, (kC BK398.1 3).trans rfl, (kC BK398.1 4).trans rfl, (kC BK398.1 5).trans rfl⟩ (fun hHeld => ?_)
    clear hK K
    refine norm_ (a' := ?_) ?_ ?_
    rotate_left
    ·show Act.put _ (some 31) _ = _
     simp only [Act.put, List.setIfInBounds_toArray, List.set_cons_zero, List.set_cons_succ, i64_w, i32_w]
     rfl
    refine one_ (i := 9) (N := some 34) #[true, true, true, true, true, true, true, true, true, true, false, false, false] rfl rfl (one_of HT_.out (by kernel_rfl)) (by decide) (fun K hK => ?_)
    refine goes_ Tryz.func29 (by kernel_rfl) rfl #[.agg #[.int .i64 a0_4, .int .i64 a0_5]] (by rfl) rfl rfl (by (try simp only [List.map_toArray, List.map_cons, List.map_nil]); first | done | rfl | (simp only [List.length_drop, List.length_take]; rfl)) ?_
    with_reducible refine (period_Text.calls a0_4 a0_5 t413 _ A40.out ?gw_).mono ?_
    (case gw_ => first | exact HG.1 | (refine GW.below HG.1 ?_; repeat (first | (with_reducible first | exact HB.1 | apply zA | apply zN | apply z1 | refine zS ?_ GE398.1) | exact HB.1)))
    rintro e w48 ⟨rfl, hb⟩
    refine ⟨_, rfl, ?_⟩
    have n0_ := zM (kB (g := gb398) (o := .cells #[.int .i64 a0_0, .string a0_1, .int .i64 a0_2, .slice A0_3 l0_3.length c0_3, .int .i64 a0_4, .int .i64 a0_5] 38 (0, 0)) (by (with_reducible repeat (first | refine kN ?_ _ | refine kD ?_ | refine kA ?_ _)); exact BK398.1) hb)
    have n1_ := zM (zT (by repeat (first | (with_reducible first | exact HB.1 | apply zA | apply zN | apply z1 | refine zS ?_ GE398.1) | exact HB.1)) hb)
    clear BK398
    clear HB
    have BK398 := n0_
    have HB := n1_
    clear n0_ n1_
    (try clear hb)
    (try clear hb2)
    (try clear hk)
    (try clear hi)
    refine hK.out _ _ ⟨(kC BK398.1 0).trans rfl, (kC BK398.1 1).trans rfl, (kC BK398.1 2).trans rfl, (kC BK398.1 3).trans rfl, (kC BK398.1 4).trans rfl, (kC BK398.1 5).trans rfl⟩ (fun hHeld => ?_)
    clear hK K
    refine norm_ (a' := ?_) ?_ ?_
    rotate_left
    ·show Act.put _ (some 34) _ = _
     simp only [Act.put, List.setIfInBounds_toArray, List.set_cons_zero, List.set_cons_succ, i64_w, i32_w]
     rfl
    refine one_ (i := 10) (N := some 35) #[true, true, true, true, true, true, true, true, true, true, true, false, false] rfl rfl (one_of HT_.out (by kernel_rfl)) (by decide) (fun K hK => ?_)
    refine Kd.R_lit_step Kd.string _ 9 ?hg (N := 35) ?hd (xs := ([a0_1 ++ (⟨#[58]⟩ : ByteArray), (⟨#[102, 111, 114, 101, 105, 103, 110, 32, 107, 101, 121, 32]⟩ : ByteArray) ++ t399, (⟨#[118, 105, 111, 108, 97, 116, 101, 100, 32, 98, 121]⟩ : ByteArray), t412, (⟨#[100, 117, 114, 105, 110, 103]⟩ : ByteArray), t413] : List ByteArray)) (inner := [.string (a0_1 ++ (⟨#[58]⟩ : ByteArray)), .string ((⟨#[102, 111, 114, 101, 105, 103, 110, 32, 107, 101, 121, 32]⟩ : ByteArray) ++ t399), .string (⟨#[118, 105, 111, 108, 97, 116, 101, 100, 32, 98, 121]⟩ : ByteArray), .string t412, .string (⟨#[100, 117, 114, 105, 110, 103]⟩ : ByteArray), .string t413]) (ok := fun _ => True) (okp := fun _ => True) ?hr ?hp (fun _ hk => hk) trivial (Below.refl _ _) (Nat.le_refl _) (by simp) ?_; (case hd => rfl); (case hg => rfl); (case hr => first | (go_simp; done) | (go_simp; rfl)); (case hp => exact (Reps.one (show Kd.M Kd.string _ _ _ (a0_1 ++ (⟨#[58]⟩ : ByteArray)) [.string (a0_1 ++ (⟨#[58]⟩ : ByteArray))] from rfl) (Reps.one (show Kd.M Kd.string _ _ _ ((⟨#[102, 111, 114, 101, 105, 103, 110, 32, 107, 101, 121, 32]⟩ : ByteArray) ++ t399) [.string ((⟨#[102, 111, 114, 101, 105, 103, 110, 32, 107, 101, 121, 32]⟩ : ByteArray) ++ t399)] from rfl) (Reps.one (show Kd.M Kd.string _ _ _ (⟨#[118, 105, 111, 108, 97, 116, 101, 100, 32, 98, 121]⟩ : ByteArray) [.string (⟨#[118, 105, 111, 108, 97, 116, 101, 100, 32, 98, 121]⟩ : ByteArray)] from rfl) (Reps.one (show Kd.M Kd.string _ _ _ t412 [.string t412] from rfl) (Reps.one (show Kd.M Kd.string _ _ _ (⟨#[100, 117, 114, 105, 110, 103]⟩ : ByteArray) [.string (⟨#[100, 117, 114, 105, 110, 103]⟩ : ByteArray)] from rfl) (Reps.one (show Kd.M Kd.string _ _ _ t413 [.string t413] from rfl) (Reps.none _ _))))))))
    intro v415 w49 ho50 hb hg_ hnew_
    clear hg_ hnew_
    (first | rw [← Ny414.out] at ho50 | (simp only [Int.reduceToNat] at ho50; rw [← Ny414.out] at ho50))
    have n0_ := zM (Kd.R_lower ho50 (zZ (by repeat (first | (with_reducible first | exact HB.1 | apply zA | apply zN | apply z1 | refine zS ?_ GE398.1) | exact HB.1))))
    have n1_ := zM (kB (g := gb398) (o := .cells #[.int .i64 a0_0, .string a0_1, .int .i64 a0_2, .slice A0_3 l0_3.length c0_3, .int .i64 a0_4, .int .i64 a0_5] 38 (0, 0)) (by (with_reducible repeat (first | refine kN ?_ _ | refine kD ?_ | refine kA ?_ _)); exact BK398.1) hb)
    have n2_ := zM (zT (by repeat (first | (with_reducible first | exact HB.1 | apply zA | apply zN | apply z1 | refine zS ?_ GE398.1) | exact HB.1)) hb)
    clear BK398
    clear HB
    have HO416 := n0_
    have BK398 := n1_
    have HB := n2_
    clear n0_ n1_ n2_
    clear hb ho50
    obtain ⟨Ao51, co51, eo51⟩ := Kd.R_slice HO416.out
    (first | subst eo51 | (injection eo51 with f1_ f2_ f3_; have f4_ := f1_.symm; have f5_ := f3_.symm; clear f1_ f2_ f3_; subst f4_; subst f5_))
    refine hK.out _ _ ⟨(kC BK398.1 0).trans rfl, (kC BK398.1 1).trans rfl, (kC BK398.1 2).trans rfl, (kC BK398.1 3).trans rfl, (kC BK398.1 4).trans rfl, (kC BK398.1 5).trans rfl⟩ (fun hHeld => ?_)
    clear hK K
    refine norm_ (a' := ?_) ?_ ?_
    rotate_left
    ·show Act.put _ (some 35) _ = _
     simp only [Act.put, List.setIfInBounds_toArray, List.set_cons_zero, List.set_cons_succ, i64_w, i32_w]
     rfl
    refine one_ (i := 11) (N := some 36) #[true, true, true, true, true, true, true, true, true, true, true, true, false] rfl rfl (one_of HT_.out (by kernel_rfl)) (by decide) (fun K hK => ?_)
    refine goes_ Tryz.func24 (by kernel_rfl) rfl #[.string (⟨#[32]⟩ : ByteArray), .slice Ao51 y414.length co51] (by rfl) rfl rfl (by (try simp only [List.map_toArray, List.map_cons, List.map_nil]); first | done | rfl | (simp only [List.length_drop, List.length_take]; rfl)) ?_
    with_reducible refine (report_line.calls (⟨#[32]⟩ : ByteArray) _ _ y414 t417 _ ?side1 ?side2 A41.out ?gw_).mono ?_
    (case gw_ => first | exact HG.1 | (refine GW.below HG.1 ?_; repeat (first | (with_reducible first | exact HB.1 | apply zA | apply zN | apply z1 | refine zS ?_ GE398.1) | exact HB.1)))
    (case side1 => repeat (first | exact (Kd.R_reads' HO416.out).2.2 | (with_reducible refine Kd.C_alloc ?_ _) | (with_reducible refine Kd.C_drewN ?_ _) | (with_reducible refine Kd.C_drew ?_)))
    (case side2 => exact (Kd.R_reads' HO416.out).2.1)
    rintro e w52 ⟨rfl, hb⟩
    refine ⟨_, rfl, ?_⟩
    have n0_ := zM (Kd.R_below (by (with_reducible repeat (first | apply Kd.R_alloc | apply Kd.R_drewN | apply Kd.R_drew)); exact HO416.out) hb)
    have n1_ := zM (kB (g := gb398) (o := .cells #[.int .i64 a0_0, .string a0_1, .int .i64 a0_2, .slice A0_3 l0_3.length c0_3, .int .i64 a0_4, .int .i64 a0_5] 38 (0, 0)) (by (with_reducible repeat (first | refine kN ?_ _ | refine kD ?_ | refine kA ?_ _)); exact BK398.1) hb)
    have n2_ := zM (zT (by repeat (first | (with_reducible first | exact HB.1 | apply zA | apply zN | apply z1 | refine zS ?_ GE398.1) | exact HB.1)) hb)
    clear HO416
    clear BK398
    clear HB
    have HO416 := n0_
    have BK398 := n1_
    have HB := n2_
    clear n0_ n1_ n2_
    (try clear hb)
    (try clear hb2)
    (try clear hk)
    (try clear hi)
    refine hK.out _ _ ⟨(kC BK398.1 0).trans rfl, (kC BK398.1 1).trans rfl, (kC BK398.1 2).trans rfl, (kC BK398.1 3).trans rfl, (kC BK398.1 4).trans rfl, (kC BK398.1 5).trans rfl⟩ (fun hHeld => ?_)
    clear hK K
    refine norm_ (a' := ?_) ?_ ?_
    rotate_left
    ·show Act.put _ (some 36) _ = _
     simp only [Act.put, List.setIfInBounds_toArray, List.set_cons_zero, List.set_cons_succ, i64_w, i32_w]
     rfl
    refine pure_ (i := 12) (N := some 2) (v := ?_) (a' := ?_) #[true, true, true, true, true, true, true, true, true, true, true, true, true] rfl rfl (any_of HT_.out (by kernel_rfl)) (fun _ _ _ h => h) (Or.inl ⟨by rfl, ?_⟩) ?_ ?_
    rotate_left
    ·intro w'
     go_simp
     with_reducible rfl
    rotate_left
    ·simp only [Act.put, List.setIfInBounds_toArray, List.set_cons_zero, List.set_cons_succ, i64_w, i32_w]
     rfl
    refine done_ (done_of HT_.out (by kernel_rfl)) ?_
    try go_wp2
    go_ret
    exact ⟨by first | rfl | (simp [errW_none, errW_some] <;> rfl) | (simp [*, errW_none, errW_some] <;> rfl), by repeat (first | (with_reducible first | exact HB.1 | apply zA | apply zN | apply z1 | refine zS ?_ GE398.1) | exact HB.1)⟩
   ·rw [if_neg c36] at H
    have c36b0 : (a0_0 == 3) = false := beq_eq_false_iff_ne.mpr c36
    have c36b1 : (a0_0 != 3) = true := bne_iff_ne.mpr c36
    by_cases c53 : a0_0 = 4
    ·rw [if_pos c53] at H
     have c53b0 : (a0_0 == 4) = true := beq_iff_eq.mpr c53
     have c53b1 : (a0_0 != 4) = false := bne_eq_false_iff_eq.mpr c53
     clear c53
     by_cases c54 : 6 + t399.size ≤ 9223372036854775807
     case neg =>
      rw [if_neg c54] at H
      exact absurd H (by simp)
     rw [if_pos c54] at H
     have c54b0 := eq_true c54
     have c54b1 : decide (6 + t399.size ≤ 9223372036854775807) = true := decide_eq_true c54
     try have c54b2 : (9223372036854775807 < 6 + t399.size) = False := eq_false (Nat.not_lt.2 c54)
     try (have c54b3 := c54b2; simp only [ByteArray.size_append, size_lit, List.size_toArray, List.length_cons, List.length_nil, Nat.zero_add] at c54b3)
     by_cases c55 : a0_1.size + 1 ≤ 9223372036854775807
     case neg =>
      rw [if_neg c55] at H
      exact absurd H (by simp)
     rw [if_pos c55] at H
     have c55b0 := eq_true c55
     have c55b1 : decide (a0_1.size + 1 ≤ 9223372036854775807) = true := decide_eq_true c55
     try have c55b2 : (9223372036854775807 < a0_1.size + 1) = False := eq_false (Nat.not_lt.2 c55)
     try (have c55b3 := c55b2; simp only [ByteArray.size_append, size_lit, List.size_toArray, List.length_cons, List.length_nil, Nat.zero_add] at c55b3)
     replace H := Option.bind_eq_some_iff.mp H
     obtain ⟨t418, A560, H⟩ := H
     replace H : ((period_Text.f a0_4 a0_5).bind fun t419 => ((report_line.f (⟨#[32]⟩ : ByteArray) (([a0_1 ++ (⟨#[58]⟩ : ByteArray), (⟨#[99, 104, 101, 99, 107, 32]⟩ : ByteArray) ++ t399, (⟨#[118, 105, 111, 108, 97, 116, 101, 100, 32, 98, 121]⟩ : ByteArray), t418, (⟨#[100, 117, 114, 105, 110, 103]⟩ : ByteArray), t419] : List ByteArray))).bind fun t423 => (some t423))) = some r := H
     have A56 := zM A560
     clear A560
     replace H := Option.bind_eq_some_iff.mp H
     obtain ⟨t419, A570, H⟩ := H
     replace H : ((report_line.f (⟨#[32]⟩ : ByteArray) (([a0_1 ++ (⟨#[58]⟩ : ByteArray), (⟨#[99, 104, 101, 99, 107, 32]⟩ : ByteArray) ++ t399, (⟨#[118, 105, 111, 108, 97, 116, 101, 100, 32, 98, 121]⟩ : ByteArray), t418, (⟨#[100, 117, 114, 105, 110, 103]⟩ : ByteArray), t419] : List ByteArray))).bind fun t423 => (some t423)) = some r := H
     have A57 := zM A570
     clear A570
     obtain ⟨y420, hy420⟩ : ∃ y_ : List ByteArray, y_ = (([a0_1 ++ (⟨#[58]⟩ : ByteArray), (⟨#[99, 104, 101, 99, 107, 32]⟩ : ByteArray) ++ t399, (⟨#[118, 105, 111, 108, 97, 116, 101, 100, 32, 98, 121]⟩ : ByteArray), t418, (⟨#[100, 117, 114, 105, 110, 103]⟩ : ByteArray), t419] : List ByteArray)) := ⟨_, rfl⟩
     replace H : ((report_line.f (⟨#[32]⟩ : ByteArray) y420).bind fun t423 => (some t423)) = some r := by first | (rw [hy420]; with_reducible exact H) | (have H2_ := (Option.bind_some _ _).symm.trans H; rw [hy420]; with_reducible exact H2_) | (have H2_ := (Option.bind_some _ _).symm.trans H; with_reducible exact H2_) | with_reducible exact H | (rw [hy420]; exact H) | exact H
     have Ny420 := zM hy420
     clear hy420
     replace H := Option.bind_eq_some_iff.mp H
     obtain ⟨t423, A580, H⟩ := H
     replace H : (some t423) = some r := H
     have A58 := zM A580
     clear A580
     obtain rfl := Option.some.inj H
     go_enter Tryz.func15, Tryz.ntmps15
     try go_wp2_with (first | ((with_reducible refine gate_dst (N := 1) rfl ?_); refine box_event ?hg (N := 1) ?hd (cs := #[.int .i64 a0_0, .string a0_1, .int .i64 a0_2, .slice A0_3 l0_3.length c0_3, .int .i64 a0_4, .int .i64 a0_5]) (t := 38) ?hr ?_; (case hd => rfl); (case hg => rfl); (case hr => first | (go_simp; done) | (go_simp; rfl)); intro gb398 hg w59 hbox hb; have n0_ := zM (zT (by repeat (first | (with_reducible first | exact HB.1 | apply zA | apply zN | apply z1) | exact HB.1)) hb); have n1_ := zM (hbox); have n2_ := zM ((by rw [hg]; exact (zZ (by repeat (first | (with_reducible first | exact HB.1 | apply zA | apply zN | apply z1) | exact HB.1))) : w.heap.size ≤ gb398)); have n3_ := n2_; clear HB; have HB := n0_; have BK398 := n1_; have GW398 := n2_; have GE398 := n3_; clear n0_ n1_ n2_ n3_; clear hb hbox hg; have hcz60_0 : w59.cell? ⟨gb398, 0, none⟩ = some (.int .i64 a0_0) := (kC BK398.1 0).trans rfl; have hcz60_1 : w59.cell? ⟨gb398, 1, none⟩ = some (.string a0_1) := (kC BK398.1 1).trans rfl; have hcz60_2 : w59.cell? ⟨gb398, 2, none⟩ = some (.int .i64 a0_2) := (kC BK398.1 2).trans rfl; have hcz60_3 : w59.cell? ⟨gb398, 3, none⟩ = some (.slice A0_3 l0_3.length c0_3) := (kC BK398.1 3).trans rfl; have hcz60_4 : w59.cell? ⟨gb398, 4, none⟩ = some (.int .i64 a0_4) := (kC BK398.1 4).trans rfl; have hcz60_5 : w59.cell? ⟨gb398, 5, none⟩ = some (.int .i64 a0_5) := (kC BK398.1 5).trans rfl; have hfz60_0 := kF BK398.1 0; have hfz60_1 := kF BK398.1 1; have hfz60_2 := kF BK398.1 2; have hfz60_3 := kF BK398.1 3; have hfz60_4 := kF BK398.1 4; have hfz60_5 := kF BK398.1 5) | ((with_reducible refine gate_callee (f := 23) rfl ?_); refine goesL_ (some 8) rfl rfl Tryz.func23 (by kernel_rfl) rfl #[.int .i64 (wrap64 (a0_2 + 1))] rfl (by (try simp only [List.map_toArray, List.map_cons, List.map_nil]); first | done | rfl | (simp only [List.length_drop, List.length_take]; rfl)) ?_; (with_reducible refine (strconv_Itoa.calls (wrap64 (a0_2 + 1)) t399 _ A2.out ?gw_).mono ?_); (case gw_ => first | exact HG.1 | (refine GW.below HG.1 ?_; repeat (first | (with_reducible first | exact HB.1 | apply zA | apply zN | apply z1 | refine zS ?_ GE398.1) | exact HB.1))); rintro e w61 ⟨rfl, hb⟩; refine ⟨_, rfl, ?_⟩; have n0_ := zM (kB (g := gb398) (o := .cells #[.int .i64 a0_0, .string a0_1, .int .i64 a0_2, .slice A0_3 l0_3.length c0_3, .int .i64 a0_4, .int .i64 a0_5] 38 (0, 0)) (by (with_reducible repeat (first | refine kN ?_ _ | refine kD ?_ | refine kA ?_ _)); exact BK398.1) hb); have n1_ := zM (zT (by repeat (first | (with_reducible first | exact HB.1 | apply zA | apply zN | apply z1 | refine zS ?_ GE398.1) | exact HB.1)) hb); clear BK398; clear HB; have BK398 := n0_; have HB := n1_; clear n0_ n1_; (try clear hb); (try clear hb2); (try clear hk); (try clear hi); have hcz62_0 : w61.cell? ⟨gb398, 0, none⟩ = some (.int .i64 a0_0) := (kC BK398.1 0).trans rfl; have hcz62_1 : w61.cell? ⟨gb398, 1, none⟩ = some (.string a0_1) := (kC BK398.1 1).trans rfl; have hcz62_2 : w61.cell? ⟨gb398, 2, none⟩ = some (.int .i64 a0_2) := (kC BK398.1 2).trans rfl; have hcz62_3 : w61.cell? ⟨gb398, 3, none⟩ = some (.slice A0_3 l0_3.length c0_3) := (kC BK398.1 3).trans rfl; have hcz62_4 : w61.cell? ⟨gb398, 4, none⟩ = some (.int .i64 a0_4) := (kC BK398.1 4).trans rfl; have hcz62_5 : w61.cell? ⟨gb398, 5, none⟩ = some (.int .i64 a0_5) := (kC BK398.1 5).trans rfl; have hfz62_0 := kF BK398.1 0; have hfz62_1 := kF BK398.1 1; have hfz62_2 := kF BK398.1 2; have hfz62_3 := kF BK398.1 3; have hfz62_4 := kF BK398.1 4; have hfz62_5 := kF BK398.1 5))
     have n0_ := zM (kD BK398.1)
     have n1_ := zM (z1 HB.1)
     clear BK398
     clear HB
     have BK398 := n0_
     have HB := n1_
     clear n0_ n1_
     refine start_ (n := 13) (S := fun w' => w'.cell? ⟨gb398, 0, none⟩ = some (.int .i64 a0_0) ∧ w'.cell? ⟨gb398, 1, none⟩ = some (.string a0_1) ∧ w'.cell? ⟨gb398, 2, none⟩ = some (.int .i64 a0_2) ∧ w'.cell? ⟨gb398, 3, none⟩ = some (.slice A0_3 l0_3.length c0_3) ∧ w'.cell? ⟨gb398, 4, none⟩ = some (.int .i64 a0_4) ∧ w'.cell? ⟨gb398, 5, none⟩ = some (.int .i64 a0_5)) (ds := []) #[false, false, false, false, false, false, false, false, false, false, false, false, false] (by kernel_rfl) rfl rfl ⟨(kC BK398.1 0).trans rfl, (kC BK398.1 1).trans rfl, (kC BK398.1 2).trans rfl, (kC BK398.1 3).trans rfl, (kC BK398.1 4).trans rfl, (kC BK398.1 5).trans rfl⟩ (fun hHeld => ?_); refine with_tabW report_Violation.tab12 report_Violation.bits12 (fun HT_ HW_ => ?_)
     generalize w61.drew = w63 at BK398 HB hHeld ⊢
     refine pure_ (i := 0) (N := some 25) (v := ?_) (a' := ?_) #[true, false, false, false, false, false, false, false, false, false, false, false, false] rfl rfl (any_of HT_.out (by kernel_rfl)) (fun _ _ _ h => h) (Or.inl ⟨by rfl, ?_⟩) ?_ ?_
     rotate_left
     ·intro w'
      go_simp
      with_reducible rfl
     rotate_left
     ·simp only [Act.put, List.setIfInBounds_toArray, List.set_cons_zero, List.set_cons_succ, i64_w, i32_w]
      rfl
     refine pure_ (i := 3) (N := some 28) (v := ?_) (a' := ?_) #[true, false, false, true, false, false, false, false, false, false, false, false, false] rfl rfl (any_of HT_.out (by kernel_rfl)) (fun _ _ _ h => h) (Or.inl ⟨by rfl, ?_⟩) ?_ ?_
     rotate_left
     ·intro w'
      go_simp
      with_reducible rfl
     rotate_left
     ·simp only [Act.put, List.setIfInBounds_toArray, List.set_cons_zero, List.set_cons_succ, i64_w, i32_w]
      rfl
     refine pure_ (i := 4) (N := some 29) (v := ?_) (a' := ?_) #[true, false, false, true, true, false, false, false, false, false, false, false, false] rfl rfl (any_of HT_.out (by kernel_rfl)) (fun _ _ _ h => h) (Or.inl ⟨by rfl, ?_⟩) ?_ ?_
     rotate_left
     ·intro w'
      go_simp
      with_reducible rfl
     rotate_left
     ·simp only [Act.put, List.setIfInBounds_toArray, List.set_cons_zero, List.set_cons_succ, i64_w, i32_w]
      rfl
     refine pure_ (i := 7) (N := some 32) (v := ?_) (a' := ?_) #[true, false, false, true, true, false, false, true, false, false, false, false, false] rfl rfl (any_of HT_.out (by kernel_rfl)) (fun _ _ _ h => h) (Or.inl ⟨by rfl, ?_⟩) ?_ ?_
     rotate_left
     ·intro w'
      go_simp
      with_reducible rfl
     rotate_left
     ·simp only [Act.put, List.setIfInBounds_toArray, List.set_cons_zero, List.set_cons_succ, i64_w, i32_w]
      rfl
     refine take_ (i := 1) (N := some 26) (v := ?_) (a' := ?_) #[true, true, false, true, true, false, false, true, false, false, false, false, false] rfl rfl (take_ofW HT_.out HW_.out (by kernel_rfl)) (fun _ _ _ h => h) (Or.inl ⟨by rfl, ?_⟩) hHeld ?_ ?_
     rotate_left
     ·rintro w' ⟨s0, s1, s2, s3, s4, s5⟩
      go_simp
      with_reducible rfl
     rotate_left
     ·simp only [Act.put, List.setIfInBounds_toArray, List.set_cons_zero, List.set_cons_succ, i64_w, i32_w]
      rfl
     refine pure_ (i := 2) (N := some 27) (v := ?_) (a' := ?_) #[true, true, true, true, true, false, false, true, false, false, false, false, false] rfl rfl (any_of HT_.out (by kernel_rfl)) (fun _ _ _ h => h) (Or.inl ⟨by rfl, ?_⟩) ?_ ?_
     rotate_left
     ·intro w'
      go_simp
      with_reducible rfl
     rotate_left
     ·simp only [Act.put, List.setIfInBounds_toArray, List.set_cons_zero, List.set_cons_succ, i64_w, i32_w]
      rfl
     refine take_ (i := 5) (N := some 30) (v := ?_) (a' := ?_) #[true, true, true, true, true, true, false, true, false, false, false, false, false] rfl rfl (take_ofW HT_.out HW_.out (by kernel_rfl)) (fun _ _ _ h => h) (Or.inl ⟨by rfl, ?_⟩) hHeld ?_ ?_
     rotate_left
     ·rintro w' ⟨s0, s1, s2, s3, s4, s5⟩
      go_simp
      with_reducible rfl
     rotate_left
     ·simp only [Act.put, List.setIfInBounds_toArray, List.set_cons_zero, List.set_cons_succ, i64_w, i32_w]
      rfl
     refine take_ (i := 8) (N := some 33) (v := ?_) (a' := ?_) #[true, true, true, true, true, true, false, true, true, false, false, false, false] rfl rfl (take_ofW HT_.out HW_.out (by kernel_rfl)) (fun _ _ _ h => h) (Or.inl ⟨by rfl, ?_⟩) hHeld ?_ ?_
     rotate_left
     ·rintro w' ⟨s0, s1, s2, s3, s4, s5⟩
      go_simp
      with_reducible rfl
     rotate_left
     ·simp only [Act.put, List.setIfInBounds_toArray, List.set_cons_zero, List.set_cons_succ, i64_w, i32_w]
      rfl
     refine one_ (i := 6) (N := some 31) #[true, true, true, true, true, true, true, true, true, false, false, false, false] rfl rfl (one_of HT_.out (by kernel_rfl)) (by decide) (fun K hK => ?_)
     refine goes_ Tryz.func44 (by kernel_rfl) rfl #[.slice A0_3 l0_3.length c0_3] (by rfl) rfl rfl (by (try simp only [List.map_toArray, List.map_cons, List.map_nil]); first | done | rfl | (simp only [List.length_drop, List.length_take]; rfl)) ?_
     with_reducible refine (tuple_Text.calls k _ _ l0_3 t418 _ ?side1 ?side2 A56.out ?gw_).mono ?_
     (case gw_ => first | exact HG.1 | (refine GW.below HG.1 ?_; repeat (first | (with_reducible first | exact HB.1 | apply zA | apply zN | apply z1 | refine zS ?_ GE398.1) | exact HB.1)))
     (case side1 => repeat (first | exact (Kd.C_below HR0_3.out HB.1) | (with_reducible refine Kd.C_alloc ?_ _) | (with_reducible refine Kd.C_drewN ?_ _) | (with_reducible refine Kd.C_drew ?_)))
     (case side2 => exact HC0_3.out)
     rintro e w64 ⟨rfl, hb⟩
     refine ⟨_, rfl, ?_⟩
     have n0_ := zM (kB (g := gb398) (o := .cells #[.int .i64 a0_0, .string a0_1, .int .i64 a0_2, .slice A0_3 l0_3.length c0_3, .int .i64 a0_4, .int .i64 a0_5] 38 (0, 0)) (by (with_reducible repeat (first | refine kN ?_ _ | refine kD ?_ | refine kA ?_ _)); exact BK398.1) hb)
     have n1_ := zM (zT (by repeat (first | (with_reducible first | exact HB.1 | apply zA | apply zN | apply z1 | refine zS ?_ GE398.1) | exact HB.1)) hb)
     clear BK398
     clear HB
     have BK398 := n0_
     have HB := n1_
     clear n0_ n1_
     (try clear hb)
     (try clear hb2)
     (try clear hk)
     (try clear hi)
     refine hK.out _ _ ⟨(kC BK398.1 0).trans rfl, (kC BK398.1 1).trans rfl, (kC BK398.1 2).trans rfl, (kC BK398.1 3).trans rfl, (kC BK398.1 4).trans rfl, (kC BK398.1 5).trans rfl⟩ (fun hHeld => ?_)
     clear hK K
     refine norm_ (a' := ?_) ?_ ?_
     rotate_left
     ·show Act.put _ (some 31) _ = _
      simp only [Act.put, List.setIfInBounds_toArray, List.set_cons_zero, List.set_cons_succ, i64_w, i32_w]
      rfl
     refine one_ (i := 9) (N := some 34) #[true, true, true, true, true, true, true, true, true, true, false, false, false] rfl rfl (one_of HT_.out (by kernel_rfl)) (by decide) (fun K hK => ?_)
     refine goes_ Tryz.func29 (by kernel_rfl) rfl #[.agg #[.int .i64 a0_4, .int .i64 a0_5]] (by rfl) rfl rfl (by (try simp only [List.map_toArray, List.map_cons, List.map_nil]); first | done | rfl | (simp only [List.length_drop, List.length_take]; rfl)) ?_
     with_reducible refine (period_Text.calls a0_4 a0_5 t419 _ A57.out ?gw_).mono ?_
     (case gw_ => first | exact HG.1 | (refine GW.below HG.1 ?_; repeat (first | (with_reducible first | exact HB.1 | apply zA | apply zN | apply z1 | refine zS ?_ GE398.1) | exact HB.1)))
     rintro e w65 ⟨rfl, hb⟩
     refine ⟨_, rfl, ?_⟩
     have n0_ := zM (kB (g := gb398) (o := .cells #[.int .i64 a0_0, .string a0_1, .int .i64 a0_2, .slice A0_3 l0_3.length c0_3, .int .i64 a0_4, .int .i64 a0_5] 38 (0, 0)) (by (with_reducible repeat (first | refine kN ?_ _ | refine kD ?_ | refine kA ?_ _)); exact BK398.1) hb)
     have n1_ := zM (zT (by repeat (first | (with_reducible first | exact HB.1 | apply zA | apply zN | apply z1 | refine zS ?_ GE398.1) | exact HB.1)) hb)
     clear BK398
     clear HB
     have BK398 := n0_
     have HB := n1_
     clear n0_ n1_
     (try clear hb)
     (try clear hb2)
     (try clear hk)
     (try clear hi)
     refine hK.out _ _ ⟨(kC BK398.1 0).trans rfl, (kC BK398.1 1).trans rfl, (kC BK398.1 2).trans rfl, (kC BK398.1 3).trans rfl, (kC BK398.1 4).trans rfl, (kC BK398.1 5).trans rfl⟩ (fun hHeld => ?_)
     clear hK K
     refine norm_ (a' := ?_) ?_ ?_
     rotate_left
     ·show Act.put _ (some 34) _ = _
      simp only [Act.put, List.setIfInBounds_toArray, List.set_cons_zero, List.set_cons_succ, i64_w, i32_w]
      rfl
     refine one_ (i := 10) (N := some 35) #[true, true, true, true, true, true, true, true, true, true, true, false, false] rfl rfl (one_of HT_.out (by kernel_rfl)) (by decide) (fun K hK => ?_)
     refine Kd.R_lit_step Kd.string _ 9 ?hg (N := 35) ?hd (xs := ([a0_1 ++ (⟨#[58]⟩ : ByteArray), (⟨#[99, 104, 101, 99, 107, 32]⟩ : ByteArray) ++ t399, (⟨#[118, 105, 111, 108, 97, 116, 101, 100, 32, 98, 121]⟩ : ByteArray), t418, (⟨#[100, 117, 114, 105, 110, 103]⟩ : ByteArray), t419] : List ByteArray)) (inner := [.string (a0_1 ++ (⟨#[58]⟩ : ByteArray)), .string ((⟨#[99, 104, 101, 99, 107, 32]⟩ : ByteArray) ++ t399), .string (⟨#[118, 105, 111, 108, 97, 116, 101, 100, 32, 98, 121]⟩ : ByteArray), .string t418, .string (⟨#[100, 117, 114, 105, 110, 103]⟩ : ByteArray), .string t419]) (ok := fun _ => True) (okp := fun _ => True) ?hr ?hp (fun _ hk => hk) trivial (Below.refl _ _) (Nat.le_refl _) (by simp) ?_; (case hd => rfl); (case hg => rfl); (case hr => first | (go_simp; done) | (go_simp; rfl)); (case hp => exact (Reps.one (show Kd.M Kd.string _ _ _ (a0_1 ++ (⟨#[58]⟩ : ByteArray)) [.string (a0_1 ++ (⟨#[58]⟩ : ByteArray))] from rfl) (Reps.one (show Kd.M Kd.string _ _ _ ((⟨#[99, 104, 101, 99, 107, 32]⟩ : ByteArray) ++ t399) [.string ((⟨#[99, 104, 101, 99, 107, 32]⟩ : ByteArray) ++ t399)] from rfl) (Reps.one (show Kd.M Kd.string _ _ _ (⟨#[118, 105, 111, 108, 97, 116, 101, 100, 32, 98, 121]⟩ : ByteArray) [.string (⟨#[118, 105, 111, 108, 97, 116, 101, 100, 32, 98, 121]⟩ : ByteArray)] from rfl) (Reps.one (show Kd.M Kd.string _ _ _ t418 [.string t418] from rfl) (Reps.one (show Kd.M Kd.string _ _ _ (⟨#[100, 117, 114, 105, 110, 103]⟩ : ByteArray) [.string (⟨#[100, 117, 114, 105, 110, 103]⟩ : ByteArray)] from rfl) (Reps.one (show Kd.M Kd.string _ _ _ t419 [.string t419] from rfl) (Reps.none _ _))))))))
     intro v421 w66 ho67 hb hg_ hnew_
     clear hg_ hnew_
     (first | rw [← Ny420.out] at ho67 | (simp only [Int.reduceToNat] at ho67; rw [← Ny420.out] at ho67))
     have n0_ := zM (Kd.R_lower ho67 (zZ (by repeat (first | (with_reducible first | exact HB.1 | apply zA | apply zN | apply z1 | refine zS ?_ GE398.1) | exact HB.1))))
     have n1_ := zM (kB (g := gb398) (o := .cells #[.int .i64 a0_0, .string a0_1, .int .i64 a0_2, .slice A0_3 l0_3.length c0_3, .int .i64 a0_4, .int .i64 a0_5] 38 (0, 0)) (by (with_reducible repeat (first | refine kN ?_ _ | refine kD ?_ | refine kA ?_ _)); exact BK398.1) hb)
     have n2_ := zM (zT (by repeat (first | (with_reducible first | exact HB.1 | apply zA | apply zN | apply z1 | refine zS ?_ GE398.1) | exact HB.1)) hb)
     clear BK398
     clear HB
     have HO422 := n0_
     have BK398 := n1_
     have HB := n2_
     clear n0_ n1_ n2_
     clear hb ho67
     obtain ⟨Ao68, co68, eo68⟩ := Kd.R_slice HO422.out
     (first | subst eo68 | (injection eo68 with f1_ f2_ f3_; have f4_ := f1_.symm; have f5_ := f3_.symm; clear f1_ f2_ f3_; subst f4_; subst f5_))
     refine hK.out _ _ ⟨(kC BK398.1 0).trans rfl, (kC BK398.1 1).trans rfl, (kC BK398.1 2).trans rfl, (kC BK398.1 3).trans rfl, (kC BK398.1 4).trans rfl, (kC BK398.1 5).trans rfl⟩ (fun hHeld => ?_)
     clear hK K
     refine norm_ (a' := ?_) ?_ ?_
     rotate_left
     ·show Act.put _ (some 35) _ = _
      simp only [Act.put, List.setIfInBounds_toArray, List.set_cons_zero, List.set_cons_succ, i64_w, i32_w]
      rfl
     refine one_ (i := 11) (N := some 36) #[true, true, true, true, true, true, true, true, true, true, true, true, false] rfl rfl (one_of HT_.out (by kernel_rfl)) (by decide) (fun K hK => ?_)
     refine goes_ Tryz.func24 (by kernel_rfl) rfl #[.string (⟨#[32]⟩ : ByteArray), .slice Ao68 y420.length co68] (by rfl) rfl rfl (by (try simp only [List.map_toArray, List.map_cons, List.map_nil]); first | done | rfl | (simp only [List.length_drop, List.length_take]; rfl)) ?_
     with_reducible refine (report_line.calls (⟨#[32]⟩ : ByteArray) _ _ y420 t423 _ ?side1 ?side2 A58.out ?gw_).mono ?_
     (case gw_ => first | exact HG.1 | (refine GW.below HG.1 ?_; repeat (first | (with_reducible first | exact HB.1 | apply zA | apply zN | apply z1 | refine zS ?_ GE398.1) | exact HB.1)))
     (case side1 => repeat (first | exact (Kd.R_reads' HO422.out).2.2 | (with_reducible refine Kd.C_alloc ?_ _) | (with_reducible refine Kd.C_drewN ?_ _) | (with_reducible refine Kd.C_drew ?_)))
     (case side2 => exact (Kd.R_reads' HO422.out).2.1)
     rintro e w69 ⟨rfl, hb⟩
     refine ⟨_, rfl, ?_⟩
     have n0_ := zM (Kd.R_below (by (with_reducible repeat (first | apply Kd.R_alloc | apply Kd.R_drewN | apply Kd.R_drew)); exact HO422.out) hb)
     have n1_ := zM (kB (g := gb398) (o := .cells #[.int .i64 a0_0, .string a0_1, .int .i64 a0_2, .slice A0_3 l0_3.length c0_3, .int .i64 a0_4, .int .i64 a0_5] 38 (0, 0)) (by (with_reducible repeat (first | refine kN ?_ _ | refine kD ?_ | refine kA ?_ _)); exact BK398.1) hb)
     have n2_ := zM (zT (by repeat (first | (with_reducible first | exact HB.1 | apply zA | apply zN | apply z1 | refine zS ?_ GE398.1) | exact HB.1)) hb)
     clear HO422
     clear BK398
     clear HB
     have HO422 := n0_
     have BK398 := n1_
     have HB := n2_
     clear n0_ n1_ n2_
     (try clear hb)
     (try clear hb2)
     (try clear hk)
     (try clear hi)
     refine hK.out _ _ ⟨(kC BK398.1 0).trans rfl, (kC BK398.1 1).trans rfl, (kC BK398.1 2).trans rfl, (kC BK398.1 3).trans rfl, (kC BK398.1 4).trans rfl, (kC BK398.1 5).trans rfl⟩ (fun hHeld => ?_)
     clear hK K
     refine norm_ (a' := ?_) ?_ ?_
     rotate_left
     ·show Act.put _ (some 36) _ = _
      simp only [Act.put, List.setIfInBounds_toArray, List.set_cons_zero, List.set_cons_succ, i64_w, i32_w]
      rfl
     refine pure_ (i := 12) (N := some 2) (v := ?_) (a' := ?_) #[true, true, true, true, true, true, true, true, true, true, true, true, true] rfl rfl (any_of HT_.out (by kernel_rfl)) (fun _ _ _ h => h) (Or.inl ⟨by rfl, ?_⟩) ?_ ?_
     rotate_left
     ·intro w'
      go_simp
      with_reducible rfl
     rotate_left
     ·simp only [Act.put, List.setIfInBounds_toArray, List.set_cons_zero, List.set_cons_succ, i64_w, i32_w]
      rfl
     refine done_ (done_of HT_.out (by kernel_rfl)) ?_
     try go_wp2
     go_ret
     exact ⟨by first | rfl | (simp [errW_none, errW_some] <;> rfl) | (simp [*, errW_none, errW_some] <;> rfl), by repeat (first | (with_reducible first | exact HB.1 | apply zA | apply zN | apply z1 | refine zS ?_ GE398.1) | exact HB.1)⟩
    ·rw [if_neg c53] at H
     have c53b0 : (a0_0 == 4) = false := beq_eq_false_iff_ne.mpr c53
     have c53b1 : (a0_0 != 4) = true := bne_iff_ne.mpr c53
     by_cases c70 : a0_1.size + 1 ≤ 9223372036854775807
     case neg =>
      rw [if_neg c70] at H
      exact absurd H (by simp)
     rw [if_pos c70] at H
     have c70b0 := eq_true c70
     have c70b1 : decide (a0_1.size + 1 ≤ 9223372036854775807) = true := decide_eq_true c70
     try have c70b2 : (9223372036854775807 < a0_1.size + 1) = False := eq_false (Nat.not_lt.2 c70)
     try (have c70b3 := c70b2; simp only [ByteArray.size_append, size_lit, List.size_toArray, List.length_cons, List.length_nil, Nat.zero_add] at c70b3)
     replace H := Option.bind_eq_some_iff.mp H
     obtain ⟨t424, A710, H⟩ := H
     replace H : ((period_Text.f a0_4 a0_5).bind fun t425 => ((report_line.f (⟨#[32]⟩ : ByteArray) (([a0_1 ++ (⟨#[58]⟩ : ByteArray), (⟨#[117, 110, 107, 110, 111, 119, 110]⟩ : ByteArray), (⟨#[118, 105, 111, 108, 97, 116, 101, 100, 32, 98, 121]⟩ : ByteArray), t424, (⟨#[100, 117, 114, 105, 110, 103]⟩ : ByteArray), t425] : List ByteArray))).bind fun t429 => (some t429))) = some r := H
     have A71 := zM A710
     clear A710
     replace H := Option.bind_eq_some_iff.mp H
     obtain ⟨t425, A720, H⟩ := H
     replace H : ((report_line.f (⟨#[32]⟩ : ByteArray) (([a0_1 ++ (⟨#[58]⟩ : ByteArray), (⟨#[117, 110, 107, 110, 111, 119, 110]⟩ : ByteArray), (⟨#[118, 105, 111, 108, 97, 116, 101, 100, 32, 98, 121]⟩ : ByteArray), t424, (⟨#[100, 117, 114, 105, 110, 103]⟩ : ByteArray), t425] : List ByteArray))).bind fun t429 => (some t429)) = some r := H
     have A72 := zM A720
     clear A720
     obtain ⟨y426, hy426⟩ : ∃ y_ : List ByteArray, y_ = (([a0_1 ++ (⟨#[58]⟩ : ByteArray), (⟨#[117, 110, 107, 110, 111, 119, 110]⟩ : ByteArray), (⟨#[118, 105, 111, 108, 97, 116, 101, 100, 32, 98, 121]⟩ : ByteArray), t424, (⟨#[100, 117, 114, 105, 110, 103]⟩ : ByteArray), t425] : List ByteArray)) := ⟨_, rfl⟩
     replace H : ((report_line.f (⟨#[32]⟩ : ByteArray) y426).bind fun t429 => (some t429)) = some r := by first | (rw [hy426]; with_reducible exact H) | (have H2_ := (Option.bind_some _ _).symm.trans H; rw [hy426]; with_reducible exact H2_) | (have H2_ := (Option.bind_some _ _).symm.trans H; with_reducible exact H2_) | with_reducible exact H | (rw [hy426]; exact H) | exact H
     have Ny426 := zM hy426
     clear hy426
     replace H := Option.bind_eq_some_iff.mp H
     obtain ⟨t429, A730, H⟩ := H
     replace H : (some t429) = some r := H
     have A73 := zM A730
     clear A730
     obtain rfl := Option.some.inj H
     go_enter Tryz.func15, Tryz.ntmps15
     try go_wp2_with (first | ((with_reducible refine gate_dst (N := 1) rfl ?_); refine box_event ?hg (N := 1) ?hd (cs := #[.int .i64 a0_0, .string a0_1, .int .i64 a0_2, .slice A0_3 l0_3.length c0_3, .int .i64 a0_4, .int .i64 a0_5]) (t := 38) ?hr ?_; (case hd => rfl); (case hg => rfl); (case hr => first | (go_simp; done) | (go_simp; rfl)); intro gb398 hg w74 hbox hb; have n0_ := zM (zT (by repeat (first | (with_reducible first | exact HB.1 | apply zA | apply zN | apply z1) | exact HB.1)) hb); have n1_ := zM (hbox); have n2_ := zM ((by rw [hg]; exact (zZ (by repeat (first | (with_reducible first | exact HB.1 | apply zA | apply zN | apply z1) | exact HB.1))) : w.heap.size ≤ gb398)); have n3_ := n2_; clear HB; have HB := n0_; have BK398 := n1_; have GW398 := n2_; have GE398 := n3_; clear n0_ n1_ n2_ n3_; clear hb hbox hg; have hcz75_0 : w74.cell? ⟨gb398, 0, none⟩ = some (.int .i64 a0_0) := (kC BK398.1 0).trans rfl; have hcz75_1 : w74.cell? ⟨gb398, 1, none⟩ = some (.string a0_1) := (kC BK398.1 1).trans rfl; have hcz75_2 : w74.cell? ⟨gb398, 2, none⟩ = some (.int .i64 a0_2) := (kC BK398.1 2).trans rfl; have hcz75_3 : w74.cell? ⟨gb398, 3, none⟩ = some (.slice A0_3 l0_3.length c0_3) := (kC BK398.1 3).trans rfl; have hcz75_4 : w74.cell? ⟨gb398, 4, none⟩ = some (.int .i64 a0_4) := (kC BK398.1 4).trans rfl; have hcz75_5 : w74.cell? ⟨gb398, 5, none⟩ = some (.int .i64 a0_5) := (kC BK398.1 5).trans rfl; have hfz75_0 := kF BK398.1 0; have hfz75_1 := kF BK398.1 1; have hfz75_2 := kF BK398.1 2; have hfz75_3 := kF BK398.1 3; have hfz75_4 := kF BK398.1 4; have hfz75_5 := kF BK398.1 5) | ((with_reducible refine gate_callee (f := 23) rfl ?_); refine goesL_ (some 8) rfl rfl Tryz.func23 (by kernel_rfl) rfl #[.int .i64 (wrap64 (a0_2 + 1))] rfl (by (try simp only [List.map_toArray, List.map_cons, List.map_nil]); first | done | rfl | (simp only [List.length_drop, List.length_take]; rfl)) ?_; (with_reducible refine (strconv_Itoa.calls (wrap64 (a0_2 + 1)) t399 _ A2.out ?gw_).mono ?_); (case gw_ => first | exact HG.1 | (refine GW.below HG.1 ?_; repeat (first | (with_reducible first | exact HB.1 | apply zA | apply zN | apply z1 | refine zS ?_ GE398.1) | exact HB.1))); rintro e w76 ⟨rfl, hb⟩; refine ⟨_, rfl, ?_⟩; have n0_ := zM (kB (g := gb398) (o := .cells #[.int .i64 a0_0, .string a0_1, .int .i64 a0_2, .slice A0_3 l0_3.length c0_3, .int .i64 a0_4, .int .i64 a0_5] 38 (0, 0)) (by (with_reducible repeat (first | refine kN ?_ _ | refine kD ?_ | refine kA ?_ _)); exact BK398.1) hb); have n1_ := zM (zT (by repeat (first | (with_reducible first | exact HB.1 | apply zA | apply zN | apply z1 | refine zS ?_ GE398.1) | exact HB.1)) hb); clear BK398; clear HB; have BK398 := n0_; have HB := n1_; clear n0_ n1_; (try clear hb); (try clear hb2); (try clear hk); (try clear hi); have hcz77_0 : w76.cell? ⟨gb398, 0, none⟩ = some (.int .i64 a0_0) := (kC BK398.1 0).trans rfl; have hcz77_1 : w76.cell? ⟨gb398, 1, none⟩ = some (.string a0_1) := (kC BK398.1 1).trans rfl; have hcz77_2 : w76.cell? ⟨gb398, 2, none⟩ = some (.int .i64 a0_2) := (kC BK398.1 2).trans rfl; have hcz77_3 : w76.cell? ⟨gb398, 3, none⟩ = some (.slice A0_3 l0_3.length c0_3) := (kC BK398.1 3).trans rfl; have hcz77_4 : w76.cell? ⟨gb398, 4, none⟩ = some (.int .i64 a0_4) := (kC BK398.1 4).trans rfl; have hcz77_5 : w76.cell? ⟨gb398, 5, none⟩ = some (.int .i64 a0_5) := (kC BK398.1 5).trans rfl; have hfz77_0 := kF BK398.1 0; have hfz77_1 := kF BK398.1 1; have hfz77_2 := kF BK398.1 2; have hfz77_3 := kF BK398.1 3; have hfz77_4 := kF BK398.1 4; have hfz77_5 := kF BK398.1 5))
     have n0_ := zM (kD BK398.1)
     have n1_ := zM (z1 HB.1)
     clear BK398
     clear HB
     have BK398 := n0_
     have HB := n1_
     clear n0_ n1_
     refine start_ (n := 13) (S := fun w' => w'.cell? ⟨gb398, 0, none⟩ = some (.int .i64 a0_0) ∧ w'.cell? ⟨gb398, 1, none⟩ = some (.string a0_1) ∧ w'.cell? ⟨gb398, 2, none⟩ = some (.int .i64 a0_2) ∧ w'.cell? ⟨gb398, 3, none⟩ = some (.slice A0_3 l0_3.length c0_3) ∧ w'.cell? ⟨gb398, 4, none⟩ = some (.int .i64 a0_4) ∧ w'.cell? ⟨gb398, 5, none⟩ = some (.int .i64 a0_5)) (ds := []) #[false, false, false, false, false, false, false, false, false, false, false, false, false] (by kernel_rfl) rfl rfl ⟨(kC BK398.1 0).trans rfl, (kC BK398.1 1).trans rfl, (kC BK398.1 2).trans rfl, (kC BK398.1 3).trans rfl, (kC BK398.1 4).trans rfl, (kC BK398.1 5).trans rfl⟩ (fun hHeld => ?_); refine with_tabW report_Violation.tab12 report_Violation.bits12 (fun HT_ HW_ => ?_)
     generalize w76.drew = w78 at BK398 HB hHeld ⊢
     refine pure_ (i := 0) (N := some 25) (v := ?_) (a' := ?_) #[true, false, false, false, false, false, false, false, false, false, false, false, false] rfl rfl (any_of HT_.out (by kernel_rfl)) (fun _ _ _ h => h) (Or.inl ⟨by rfl, ?_⟩) ?_ ?_
     rotate_left
     ·intro w'
      go_simp
      with_reducible rfl
     rotate_left
     ·simp only [Act.put, List.setIfInBounds_toArray, List.set_cons_zero, List.set_cons_succ, i64_w, i32_w]
      rfl
     refine pure_ (i := 3) (N := some 28) (v := ?_) (a' := ?_) #[true, false, false, true, false, false, false, false, false, false, false, false, false] rfl rfl (any_of HT_.out (by kernel_rfl)) (fun _ _ _ h => h) (Or.inl ⟨by rfl, ?_⟩) ?_ ?_
     rotate_left
     ·intro w'
      go_simp
      with_reducible rfl
     rotate_left
     ·simp only [Act.put, List.setIfInBounds_toArray, List.set_cons_zero, List.set_cons_succ, i64_w, i32_w]
      rfl
     refine pure_ (i := 4) (N := some 29) (v := ?_) (a' := ?_) #[true, false, false, true, true, false, false, false, false, false, false, false, false] rfl rfl (any_of HT_.out (by kernel_rfl)) (fun _ _ _ h => h) (Or.inl ⟨by rfl, ?_⟩) ?_ ?_
     rotate_left
     ·intro w'
      go_simp
      with_reducible rfl
     rotate_left
     ·simp only [Act.put, List.setIfInBounds_toArray, List.set_cons_zero, List.set_cons_succ, i64_w, i32_w]
      rfl
     refine pure_ (i := 7) (N := some 32) (v := ?_) (a' := ?_) #[true, false, false, true, true, false, false, true, false, false, false, false, false] rfl rfl (any_of HT_.out (by kernel_rfl)) (fun _ _ _ h => h) (Or.inl ⟨by rfl, ?_⟩) ?_ ?_
     rotate_left
     ·intro w'
      go_simp
      with_reducible rfl
     rotate_left
     ·simp only [Act.put, List.setIfInBounds_toArray, List.set_cons_zero, List.set_cons_succ, i64_w, i32_w]
      rfl
     refine take_ (i := 1) (N := some 26) (v := ?_) (a' := ?_) #[true, true, false, true, true, false, false, true, false, false, false, false, false] rfl rfl (take_ofW HT_.out HW_.out (by kernel_rfl)) (fun _ _ _ h => h) (Or.inl ⟨by rfl, ?_⟩) hHeld ?_ ?_
     rotate_left
     ·rintro w' ⟨s0, s1, s2, s3, s4, s5⟩
      go_simp
      with_reducible rfl
     rotate_left
     ·simp only [Act.put, List.setIfInBounds_toArray, List.set_cons_zero, List.set_cons_succ, i64_w, i32_w]
      rfl
     refine pure_ (i := 2) (N := some 27) (v := ?_) (a' := ?_) #[true, true, true, true, true, false, false, true, false, false, false, false, false] rfl rfl (any_of HT_.out (by kernel_rfl)) (fun _ _ _ h => h) (Or.inl ⟨by rfl, ?_⟩) ?_ ?_
     rotate_left
     ·intro w'
      go_simp
      with_reducible rfl
     rotate_left
     ·simp only [Act.put, List.setIfInBounds_toArray, List.set_cons_zero, List.set_cons_succ, i64_w, i32_w]
      rfl
     refine take_ (i := 5) (N := some 30) (v := ?_) (a' := ?_) #[true, true, true, true, true, true, false, true, false, false, false, false, false] rfl rfl (take_ofW HT_.out HW_.out (by kernel_rfl)) (fun _ _ _ h => h) (Or.inl ⟨by rfl, ?_⟩) hHeld ?_ ?_
     rotate_left
     ·rintro w' ⟨s0, s1, s2, s3, s4, s5⟩
      go_simp
      with_reducible rfl
     rotate_left
     ·simp only [Act.put, List.setIfInBounds_toArray, List.set_cons_zero, List.set_cons_succ, i64_w, i32_w]
      rfl
     refine take_ (i := 8) (N := some 33) (v := ?_) (a' := ?_) #[true, true, true, true, true, true, false, true, true, false, false, false, false] rfl rfl (take_ofW HT_.out HW_.out (by kernel_rfl)) (fun _ _ _ h => h) (Or.inl ⟨by rfl, ?_⟩) hHeld ?_ ?_
     rotate_left
     ·rintro w' ⟨s0, s1, s2, s3, s4, s5⟩
      go_simp
      with_reducible rfl
     rotate_left
     ·simp only [Act.put, List.setIfInBounds_toArray, List.set_cons_zero, List.set_cons_succ, i64_w, i32_w]
      rfl
     refine one_ (i := 6) (N := some 31) #[true, true, true, true, true, true, true, true, true, false, false, false, false] rfl rfl (one_of HT_.out (by kernel_rfl)) (by decide) (fun K hK => ?_)
     refine goes_ Tryz.func44 (by kernel_rfl) rfl #[.slice A0_3 l0_3.length c0_3] (by rfl) rfl rfl (by (try simp only [List.map_toArray, List.map_cons, List.map_nil]); first | done | rfl | (simp only [List.length_drop, List.length_take]; rfl)) ?_
     with_reducible refine (tuple_Text.calls k _ _ l0_3 t424 _ ?side1 ?side2 A71.out ?gw_).mono ?_
     (case gw_ => first | exact HG.1 | (refine GW.below HG.1 ?_; repeat (first | (with_reducible first | exact HB.1 | apply zA | apply zN | apply z1 | refine zS ?_ GE398.1) | exact HB.1)))
     (case side1 => repeat (first | exact (Kd.C_below HR0_3.out HB.1) | (with_reducible refine Kd.C_alloc ?_ _) | (with_reducible refine Kd.C_drewN ?_ _) | (with_reducible refine Kd.C_drew ?_)))
     (case side2 => exact HC0_3.out)
     rintro e w79 ⟨rfl, hb⟩
     refine ⟨_, rfl, ?_⟩
     have n0_ := zM (kB (g := gb398) (o := .cells #[.int .i64 a0_0, .string a0_1, .int .i64 a0_2, .slice A0_3 l0_3.length c0_3, .int .i64 a0_4, .int .i64 a0_5] 38 (0, 0)) (by (with_reducible repeat (first | refine kN ?_ _ | refine kD ?_ | refine kA ?_ _)); exact BK398.1) hb)
     have n1_ := zM (zT (by repeat (first | (with_reducible first | exact HB.1 | apply zA | apply zN | apply z1 | refine zS ?_ GE398.1) | exact HB.1)) hb)
     clear BK398
     clear HB
     have BK398 := n0_
     have HB := n1_
     clear n0_ n1_
     (try clear hb)
     (try clear hb2)
     (try clear hk)
     (try clear hi)
     refine hK.out _ _ ⟨(kC BK398.1 0).trans rfl, (kC BK398.1 1).trans rfl, (kC BK398.1 2).trans rfl, (kC BK398.1 3).trans rfl, (kC BK398.1 4).trans rfl, (kC BK398.1 5).trans rfl⟩ (fun hHeld => ?_)
     clear hK K
     refine norm_ (a' := ?_) ?_ ?_
     rotate_left
     ·show Act.put _ (some 31) _ = _
      simp only [Act.put, List.setIfInBounds_toArray, List.set_cons_zero, List.set_cons_succ, i64_w, i32_w]
      rfl
     refine one_ (i := 9) (N := some 34) #[true, true, true, true, true, true, true, true, true, true, false, false, false] rfl rfl (one_of HT_.out (by kernel_rfl)) (by decide) (fun K hK => ?_)
     refine goes_ Tryz.func29 (by kernel_rfl) rfl #[.agg #[.int .i64 a0_4, .int .i64 a0_5]] (by rfl) rfl rfl (by (try simp only [List.map_toArray, List.map_cons, List.map_nil]); first | done | rfl | (simp only [List.length_drop, List.length_take]; rfl)) ?_
     with_reducible refine (period_Text.calls a0_4 a0_5 t425 _ A72.out ?gw_).mono ?_
     (case gw_ => first | exact HG.1 | (refine GW.below HG.1 ?_; repeat (first | (with_reducible first | exact HB.1 | apply zA | apply zN | apply z1 | refine zS ?_ GE398.1) | exact HB.1)))
     rintro e w80 ⟨rfl, hb⟩
     refine ⟨_, rfl, ?_⟩
     have n0_ := zM (kB (g := gb398) (o := .cells #[.int .i64 a0_0, .string a0_1, .int .i64 a0_2, .slice A0_3 l0_3.length c0_3, .int .i64 a0_4, .int .i64 a0_5] 38 (0, 0)) (by (with_reducible repeat (first | refine kN ?_ _ | refine kD ?_ | refine kA ?_ _)); exact BK398.1) hb)
     have n1_ := zM (zT (by repeat (first | (with_reducible first | exact HB.1 | apply zA | apply zN | apply z1 | refine zS ?_ GE398.1) | exact HB.1)) hb)
     clear BK398
     clear HB
     have BK398 := n0_
     have HB := n1_
     clear n0_ n1_
     (try clear hb)
     (try clear hb2)
     (try clear hk)
     (try clear hi)
     refine hK.out _ _ ⟨(kC BK398.1 0).trans rfl, (kC BK398.1 1).trans rfl, (kC BK398.1 2).trans rfl, (kC BK398.1 3).trans rfl, (kC BK398.1 4).trans rfl, (kC BK398.1 5).trans rfl⟩ (fun hHeld => ?_)
     clear hK K
     refine norm_ (a' := ?_) ?_ ?_
     rotate_left
     ·show Act.put _ (some 34) _ = _
      simp only [Act.put, List.setIfInBounds_toArray, List.set_cons_zero, List.set_cons_succ, i64_w, i32_w]
      rfl
     refine one_ (i := 10) (N := some 35) #[true, true, true, true, true, true, true, true, true, true, true, false, false] rfl rfl (one_of HT_.out (by kernel_rfl)) (by decide) (fun K hK => ?_)
     refine Kd.R_lit_step Kd.string _ 9 ?hg (N := 35) ?hd (xs := ([a0_1 ++ (⟨#[58]⟩ : ByteArray), (⟨#[117, 110, 107, 110, 111, 119, 110]⟩ : ByteArray), (⟨#[118, 105, 111, 108, 97, 116, 101, 100, 32, 98, 121]⟩ : ByteArray), t424, (⟨#[100, 117, 114, 105, 110, 103]⟩ : ByteArray), t425] : List ByteArray)) (inner := [.string (a0_1 ++ (⟨#[58]⟩ : ByteArray)), .string (⟨#[117, 110, 107, 110, 111, 119, 110]⟩ : ByteArray), .string (⟨#[118, 105, 111, 108, 97, 116, 101, 100, 32, 98, 121]⟩ : ByteArray), .string t424, .string (⟨#[100, 117, 114, 105, 110, 103]⟩ : ByteArray), .string t425]) (ok := fun _ => True) (okp := fun _ => True) ?hr ?hp (fun _ hk => hk) trivial (Below.refl _ _) (Nat.le_refl _) (by simp) ?_; (case hd => rfl); (case hg => rfl); (case hr => first | (go_simp; done) | (go_simp; rfl)); (case hp => exact (Reps.one (show Kd.M Kd.string _ _ _ (a0_1 ++ (⟨#[58]⟩ : ByteArray)) [.string (a0_1 ++ (⟨#[58]⟩ : ByteArray))] from rfl) (Reps.one (show Kd.M Kd.string _ _ _ (⟨#[117, 110, 107, 110, 111, 119, 110]⟩ : ByteArray) [.string (⟨#[117, 110, 107, 110, 111, 119, 110]⟩ : ByteArray)] from rfl) (Reps.one (show Kd.M Kd.string _ _ _ (⟨#[118, 105, 111, 108, 97, 116, 101, 100, 32, 98, 121]⟩ : ByteArray) [.string (⟨#[118, 105, 111, 108, 97, 116, 101, 100, 32, 98, 121]⟩ : ByteArray)] from rfl) (Reps.one (show Kd.M Kd.string _ _ _ t424 [.string t424] from rfl) (Reps.one (show Kd.M Kd.string _ _ _ (⟨#[100, 117, 114, 105, 110, 103]⟩ : ByteArray) [.string (⟨#[100, 117, 114, 105, 110, 103]⟩ : ByteArray)] from rfl) (Reps.one (show Kd.M Kd.string _ _ _ t425 [.string t425] from rfl) (Reps.none _ _))))))))
     intro v427 w81 ho82 hb hg_ hnew_
     clear hg_ hnew_
     (first | rw [← Ny426.out] at ho82 | (simp only [Int.reduceToNat] at ho82; rw [← Ny426.out] at ho82))
     have n0_ := zM (Kd.R_lower ho82 (zZ (by repeat (first | (with_reducible first | exact HB.1 | apply zA | apply zN | apply z1 | refine zS ?_ GE398.1) | exact HB.1))))
     have n1_ := zM (kB (g := gb398) (o := .cells #[.int .i64 a0_0, .string a0_1, .int .i64 a0_2, .slice A0_3 l0_3.length c0_3, .int .i64 a0_4, .int .i64 a0_5] 38 (0, 0)) (by (with_reducible repeat (first | refine kN ?_ _ | refine kD ?_ | refine kA ?_ _)); exact BK398.1) hb)
     have n2_ := zM (zT (by repeat (first | (with_reducible first | exact HB.1 | apply zA | apply zN | apply z1 | refine zS ?_ GE398.1) | exact HB.1)) hb)
     clear BK398
     clear HB
     have HO428 := n0_
     have BK398 := n1_
     have HB := n2_
     clear n0_ n1_ n2_
     clear hb ho82
     obtain ⟨Ao83, co83, eo83⟩ := Kd.R_slice HO428.out
     (first | subst eo83 | (injection eo83 with f1_ f2_ f3_; have f4_ := f1_.symm; have f5_ := f3_.symm; clear f1_ f2_ f3_; subst f4_; subst f5_))
     refine hK.out _ _ ⟨(kC BK398.1 0).trans rfl, (kC BK398.1 1).trans rfl, (kC BK398.1 2).trans rfl, (kC BK398.1 3).trans rfl, (kC BK398.1 4).trans rfl, (kC BK398.1 5).trans rfl⟩ (fun hHeld => ?_)
     clear hK K
     refine norm_ (a' := ?_) ?_ ?_
     rotate_left
     ·show Act.put _ (some 35) _ = _
      simp only [Act.put, List.setIfInBounds_toArray, List.set_cons_zero, List.set_cons_succ, i64_w, i32_w]
      rfl
     refine one_ (i := 11) (N := some 36) #[true, true, true, true, true, true, true, true, true, true, true, true, false] rfl rfl (one_of HT_.out (by kernel_rfl)) (by decide) (fun K hK => ?_)
     refine goes_ Tryz.func24 (by kernel_rfl) rfl #[.string (⟨#[32]⟩ : ByteArray), .slice Ao83 y426.length co83] (by rfl) rfl rfl (by (try simp only [List.map_toArray, List.map_cons, List.map_nil]); first | done | rfl | (simp only [List.length_drop, List.length_take]; rfl)) ?_
     with_reducible refine (report_line.calls (⟨#[32]⟩ : ByteArray) _ _ y426 t429 _ ?side1 ?side2 A73.out ?gw_).mono ?_
     (case gw_ => first | exact HG.1 | (refine GW.below HG.1 ?_; repeat (first | (with_reducible first | exact HB.1 | apply zA | apply zN | apply z1 | refine zS ?_ GE398.1) | exact HB.1)))
     (case side1 => repeat (first | exact (Kd.R_reads' HO428.out).2.2 | (with_reducible refine Kd.C_alloc ?_ _) | (with_reducible refine Kd.C_drewN ?_ _) | (with_reducible refine Kd.C_drew ?_)))
     (case side2 => exact (Kd.R_reads' HO428.out).2.1)
     rintro e w84 ⟨rfl, hb⟩
     refine ⟨_, rfl, ?_⟩
     have n0_ := zM (Kd.R_below (by (with_reducible repeat (first | apply Kd.R_alloc | apply Kd.R_drewN | apply Kd.R_drew)); exact HO428.out) hb)
     have n1_ := zM (kB (g := gb398) (o := .cells #[.int .i64 a0_0, .string a0_1, .int .i64 a0_2, .slice A0_3 l0_3.length c0_3, .int .i64 a0_4, .int .i64 a0_5] 38 (0, 0)) (by (with_reducible repeat (first | refine kN ?_ _ | refine kD ?_ | refine kA ?_ _)); exact BK398.1) hb)
     have n2_ := zM (zT (by repeat (first | (with_reducible first | exact HB.1 | apply zA | apply zN | apply z1 | refine zS ?_ GE398.1) | exact HB.1)) hb)
     clear HO428
     clear BK398
     clear HB
     have HO428 := n0_
     have BK398 := n1_
     have HB := n2_
     clear n0_ n1_ n2_
     (try clear hb)
     (try clear hb2)
     (try clear hk)
     (try clear hi)
     refine hK.out _ _ ⟨(kC BK398.1 0).trans rfl, (kC BK398.1 1).trans rfl, (kC BK398.1 2).trans rfl, (kC BK398.1 3).trans rfl, (kC BK398.1 4).trans rfl, (kC BK398.1 5).trans rfl⟩ (fun hHeld => ?_)
     clear hK K
     refine norm_ (a' := ?_) ?_ ?_
     rotate_left
     ·show Act.put _ (some 36) _ = _
      simp only [Act.put, List.setIfInBounds_toArray, List.set_cons_zero, List.set_cons_succ, i64_w, i32_w]
      rfl
     refine pure_ (i := 12) (N := some 2) (v := ?_) (a' := ?_) #[true, true, true, true, true, true, true, true, true, true, true, true, true] rfl rfl (any_of HT_.out (by kernel_rfl)) (fun _ _ _ h => h) (Or.inl ⟨by rfl, ?_⟩) ?_ ?_
     rotate_left
     ·intro w'
      go_simp
      with_reducible rfl
     rotate_left
     ·simp only [Act.put, List.setIfInBounds_toArray, List.set_cons_zero, List.set_cons_succ, i64_w, i32_w]
      rfl
     refine done_ (done_of HT_.out (by kernel_rfl)) ?_
     try go_wp2
     go_ret
     exact ⟨by first | rfl | (simp [errW_none, errW_some] <;> rfl) | (simp [*, errW_none, errW_some] <;> rfl), by repeat (first | (with_reducible first | exact HB.1 | apply zA | apply zN | apply z1 | refine zS ?_ GE398.1) | exact HB.1)⟩

end Go.Proofs.YthdgjobhofpjeaaGreatDoor.X
