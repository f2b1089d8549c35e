/- Hand-walked functions of the tuple chapter: tuple.Compare (over slices.CompareFunc), each as a plain Lean function, and the proof that the call comes to what it says. No conditions but those in each theorem. -/
import Derived.Test.YtkifafenmboefaaDoorX19
namespace Go.Proofs.YtkifafenmboefaaDoor.X
open Go.RowKit Go.Proofs.YtkifafenmboefaaDoorW.PrintWords Go.Proofs.YtkifafenmboefaaDoorW.PrintLast Go.Proofs.YtkifafenmboefaaDoorW.PrintMore
set_option linter.unusedVariables false
set_option linter.unusedSimpArgs false

/-! ### tuple.Compare -/
def cmpRows (k : Nat) : List S33 → List S33 → Option Int
  | [], [] => some 0
  | [], _ :: _ => some (-1)
  | _ :: _, [] => some 1
  | x :: xs, y :: ys => (value_Compare.f k x.f0 x.f1 x.f2 y.f0 y.f1 y.f2).bind fun c => if c = 0 then cmpRows k xs ys else some c
theorem cmpRows.mono (k : Nat) : ∀ xs ys, LeO (cmpRows k xs ys) (cmpRows (k + 1) xs ys)
  | [], [] => LeO.refl _
  | [], _ :: _ => LeO.refl _
  | _ :: _, [] => LeO.refl _
  | x :: xs, y :: ys => by
    unfold cmpRows
    exact LeO.bind (value_Compare.mono _ _ _ _ _ _ _) (fun c => LeO.ite (cmpRows.mono k xs ys) (LeO.refl _))
def tuple_Compare.f (k : Nat) (l0 l1 : List S33) : Option (Int) := cmpRows k l0 l1
theorem tuple_Compare.mono : ∀ a0 a1 k, LeO (tuple_Compare.f k a0 a1) (tuple_Compare.f (k + 1) a0 a1) := fun a0 a1 k => cmpRows.mono k a0 a1

theorem cmpRows_at (k : Nat) (l0 l1 : List S33) (i : Nat) (h0 : i < l0.length) (h1 : i < l1.length) :
    cmpRows k (l0.drop i) (l1.drop i) = (value_Compare.f k (rd_T33 l0 i).f0 (rd_T33 l0 i).f1 (rd_T33 l0 i).f2 (rd_T33 l1 i).f0 (rd_T33 l1 i).f1 (rd_T33 l1 i).f2).bind fun c => if c = 0 then cmpRows k (l0.drop (i + 1)) (l1.drop (i + 1)) else some c := by
  have e0 : rd_T33 l0 i = l0[i] := by simp [rd_T33, h0]
  have e1 : rd_T33 l1 i = l1[i] := by simp [rd_T33, h1]
  rw [List.drop_eq_getElem_cons h0, List.drop_eq_getElem_cons h1, e0, e1]
  rfl

set_option maxHeartbeats 8000000 in
set_option maxRecDepth 100000 in
theorem CompareFunc_calls (k : Nat) (A0 : Option Addr) (c0 : Nat) (l0 : List S33) (A1 : Option Addr) (c1 : Nat) (l1 : List S33) (r : Int) (w : World) (hr0 : Kd.C k33 w A0 l0.length l0) (hr1 : Kd.C k33 w A1 l1.length l1) (h : cmpRows k l0 l1 = some r) (hG : GW w) :
    Calls Tryd.prog 31 #[.slice A0 l0.length c0, .slice A1 l1.length c1, .func (.func 32) #[] #[]] w fun e w' => e = .returned (.int .i64 r) ∧ Below w.heap.size w w' := by
  have HG := Aside0.mk hG
  clear hG
  have hu33 := Tryd.underlying33
  have HR0 := Aside0.mk hr0
  have HR1 := Aside0.mk hr1
  have hm0 := Kd.C_max hr0
  have hm1 := Kd.C_max hr1
  clear hr0 hr1
  have HB := Aside0.mk (Below.refl w.heap.size w)
  have H0 : Aside0 (cmpRows k (l0.drop 0) (l1.drop 0) = some r) := ⟨h⟩
  clear h
  go_enter Tryd.func31, Tryd.ntmps31
  go_wp2
  go_loopg [13] (l0.length) (fun kq v13 w' => ∃ (i : Nat), v13 = .int .i64 i ∧ i ≤ l0.length ∧ i ≤ l1.length ∧ l0.length - i ≤ kq ∧ Aside0 (cmpRows k (l0.drop i) (l1.drop i) = some r) ∧ Aside0 (Below w.heap.size w w'))
  case atStart => exact ⟨0, rfl, Nat.zero_le _, Nat.zero_le _, Nat.le_refl _, H0, HB⟩
  case round =>
    clear H0 HB
    obtain ⟨i, rfl, hi0, hi1, hg, H, HB⟩ := hrel
    by_cases hlt0 : i < l0.length
    · have hw0 : (i : Int) < (l0.length : Int) := by omega
      obtain ⟨ad0, rfl, hx0, hx1, hx2⟩ := at_T33 HR0.out (i : Int) (by omega) hw0
      replace hx0 := (HB.out.cell (World.block_lt_of_cell? w _ hx0)).trans hx0
      replace hx1 := (HB.out.cell (World.block_lt_of_cell? w _ hx1)).trans hx1
      replace hx2 := (HB.out.cell (World.block_lt_of_cell? w _ hx2)).trans hx2
      simp only [Int.toNat_natCast] at hx0 hx1 hx2
      by_cases hlt1 : i < l1.length
      · have hw1 : (i : Int) < (l1.length : Int) := by omega
        obtain ⟨ad1, rfl, hy0, hy1, hy2⟩ := at_T33 HR1.out (i : Int) (by omega) hw1
        replace hy0 := (HB.out.cell (World.block_lt_of_cell? w _ hy0)).trans hy0
        replace hy1 := (HB.out.cell (World.block_lt_of_cell? w _ hy1)).trans hy1
        replace hy2 := (HB.out.cell (World.block_lt_of_cell? w _ hy2)).trans hy2
        simp only [Int.toNat_natCast] at hy0 hy1 hy2
        have H2 := H.out
        rw [cmpRows_at k l0 l1 i hlt0 hlt1] at H2
        obtain ⟨c, hc, H3⟩ := Option.bind_eq_some_iff.mp H2
        clear H2 H
        have HC := Aside0.mk hc
        have HN := Aside0.mk H3
        clear hc H3
        have hle : ¬ (l1.length : Int) ≤ (i : Int) := by omega
        have hz0 : ∀ o, (wr.alloc o).cell? (ad1.add (i * 3)) = some (Value.int IntKind.i64 (rd_T33 l1 i).f0) := fun o => pw_cell_below (below_alloc (Below.refl _ _) o) hy0
        have hz1 : ∀ o, (wr.alloc o).cell? ⟨(ad1.add (i * 3)).block, (ad1.add (i * 3)).off + 1, none⟩ = some (Value.int IntKind.i64 (rd_T33 l1 i).f1) := fun o => pw_cell_below (below_alloc (Below.refl _ _) o) hy1
        have hz2 : ∀ o, (wr.alloc o).cell? ⟨(ad1.add (i * 3)).block, (ad1.add (i * 3)).off + 2, none⟩ = some (Value.string (rd_T33 l1 i).f2) := fun o => pw_cell_below (below_alloc (Below.refl _ _) o) hy2
        go_wp2_with fail
        refine (value_Compare.calls k _ _ _ _ _ _ c _ HC.out ?gw_).mono ?_
        case gw_ => exact GW.below HG.out (((HB.out).alloc (HB.out).size _).alloc (by simp; have := (HB.out).size; omega) _)
        rintro e w2 ⟨rfl, hb⟩
        have HB2 : Aside0 (Below w.heap.size w w2) := ⟨below_step (((HB.out).alloc (HB.out).size _).alloc (by simp; have := (HB.out).size; omega) _) hb⟩
        clear hb HB hx0 hx1 hx2 hy0 hy1 hy2 hz0 hz1 hz2
        by_cases hc0 : c = 0
        · subst hc0
          have hN := HN.out
          rw [if_pos rfl] at hN
          have HN2 := Aside0.mk hN
          clear hN HN
          go_wp2
          go_roundg (gk - 1)
          case measure => omega
          case rel => exact ⟨i + 1, by go_num, by omega, by omega, by omega, HN2, HB2⟩
        · have hN := HN.out
          rw [if_neg hc0] at hN
          obtain rfl := Option.some.inj hN
          have hne : (c == 0) = false := by simpa using hc0
          go_wp2
          go_ret
          exact ⟨rfl, HB2.out⟩
      · have hge : (l1.length : Int) ≤ (i : Int) := by omega
        have H2 := H.out
        rw [List.drop_eq_nil_of_le (show l1.length ≤ i by omega), List.drop_eq_getElem_cons hlt0] at H2
        obtain rfl : (1 : Int) = r := Option.some.inj H2
        go_wp2
        go_ret
        exact ⟨rfl, (HB.out).alloc (HB.out).size _⟩
    · have hge : ¬ (i : Int) < (l0.length : Int) := by omega
      have hie : i = l0.length := by omega
      have H2 := H.out
      rw [List.drop_eq_nil_of_le (show l0.length ≤ i by omega)] at H2
      by_cases hlt1 : i < l1.length
      · have hz1 : (l0.length : Int) < (l1.length : Int) := by omega
        rw [List.drop_eq_getElem_cons hlt1] at H2
        obtain rfl : (-1 : Int) = r := Option.some.inj H2
        go_wp2
        go_ret
        exact ⟨rfl, HB.out⟩
      · have hz1 : ¬ (l0.length : Int) < (l1.length : Int) := by omega
        rw [List.drop_eq_nil_of_le (show l1.length ≤ i by omega)] at H2
        obtain rfl : (0 : Int) = r := Option.some.inj H2
        go_wp2
        go_ret
        exact ⟨rfl, HB.out⟩

set_option maxHeartbeats 8000000 in
theorem tuple_Compare.calls (k : Nat) (A0 : Option Addr) (c0 : Nat) (l0 : List S33) (A1 : Option Addr) (c1 : Nat) (l1 : List S33) (r : Int) (w : World) (hr0 : Kd.C k33 w A0 l0.length l0) (hc0 : l0.length ≤ c0) (hr1 : Kd.C k33 w A1 l1.length l1) (hc1 : l1.length ≤ c1) (h : tuple_Compare.f k l0 l1 = some r) (hG : GW w) :
    Calls Tryd.prog 10 #[.slice A0 l0.length c0, .slice A1 l1.length c1] w fun e w' => e = .returned (.int .i64 r) ∧ Below w.heap.size w w' := by
  have C := CompareFunc_calls k A0 c0 l0 A1 c1 l1 r w hr0 hr1 h hG
  clear hr0 hr1 h hG
  go_enter Tryd.func10, Tryd.ntmps10
  go_wp2_with fail
  refine C.mono ?_
  rintro e w' ⟨rfl, hb⟩
  go_wp2
  go_ret
  exact ⟨rfl, hb⟩

/-! ### slices.Grow at nil -/
def api_Value_69.f (l0 : List S33) (a1 : Int) : Option (List S33) := if 0 ≤ a1 then (if a1.toNat * 32 ≤ 140737488355328 then some [] else none) else none
set_option maxHeartbeats 8000000 in
set_option maxRecDepth 100000 in
theorem api_Value_69.calls (A0 : Option Addr) (c0 : Nat) (l0 : List S33) (a1 : Int) (r : List S33) (w : World) (hr0 : Kd.C k33 w A0 l0.length l0) (hc0 : l0.length ≤ c0) (h : api_Value_69.f l0 a1 = some r) (hG : GW w) :
    Calls Tryd.prog 69 #[.slice none 0 0, .int .i64 a1] w fun e w' => ∃ v0_ : Value, e = .returned (v0_) ∧ Kd.R k33 33 w' w.heap.size (fun _ => True) v0_ r ∧ Below w.heap.size w w' := by
  clear hr0 hc0 hG
  unfold api_Value_69.f at h
  by_cases h0 : 0 ≤ a1
  case neg => rw [if_neg h0] at h; cases h
  rw [if_pos h0] at h
  by_cases h1 : a1.toNat * 32 ≤ 140737488355328
  case neg => rw [if_neg h1] at h; cases h
  rw [if_pos h1] at h
  obtain rfl := Option.some.inj h
  clear h
  have hn : ¬ a1 < 0 := by omega
  have hw : wrap64 a1 = a1 := by unfold wrap64; omega
  have hw' : IntKind.i64.wrap a1 = a1 := by rw [IntKind.wrap_i64]; omega
  by_cases hz : 0 < a1
  · go_enter Tryd.func69, Tryd.ntmps69
    go_wp2_with (first | (at_builtin; refine Kd.R_append_zeros k33 (w0 := w) w.heap.size rfl (.tmp 20) (.tmp 21) 22 3 33 (.agg #[(.int .i64 0), (.int .i64 0), (.string ⟨#[]⟩)]) 32 rfl Tryd.underlying22 Tryd.underlying3 info33 rfl (by decide) (by omega) (.slice none 0 0) [] z33 a1 (fun _ => True) rfl rfl ?aZ (fun _ _ => trivial) ?aO h0 ?aB ?aS ?aL ?_; (case aZ => exact k33_mkM _ _ _ z33); (case aO => exact Kd.R_nil _ _ _ _ _); (case aB => exact Below.refl _ _); (case aS => exact Nat.le_refl _); (case aL => simpa using h1)))
    intro v1 w1 hR hb _ _
    obtain ⟨g, cap, rfl, _, _, _⟩ := Kd.R_form hR (by simp; omega)
    have hT := Kd.R_take hR (m := 0) (Nat.zero_le _)
    rw [List.take_zero] at hT
    go_wp2
    go_ret
    exact ⟨_, rfl, hT, hb⟩
  · go_enter Tryd.func69, Tryd.ntmps69
    go_wp2
    go_ret
    exact ⟨_, rfl, Kd.R_nil _ _ _ _ _, Below.refl _ _⟩
end Go.Proofs.YtkifafenmboefaaDoor.X
