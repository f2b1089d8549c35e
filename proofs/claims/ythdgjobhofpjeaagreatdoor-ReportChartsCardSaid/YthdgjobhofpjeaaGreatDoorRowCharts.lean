/- The statement ReportCharts: a chart of any periods is drawn as the reference draws it. Conditions: the listed variables of Go's library hold what their initialisers lay. -/
import Derived.Test.YthdgjobhofpjeaaGreatDoorCl
import Derived.Test.YthdgjobhofpjeaaGreatDoorR5
namespace Go.Proofs.YthdgjobhofpjeaaGreatDoor.reportCharts
open Go.ChangeShapes Go.WideShapes Go.ChangeAt Go.RowKit Go.Proofs.YthdgjobhofpjeaaGreatDoorW.PrintWords
open Go.ChangeMaps (open_string shut_string)
set_option linter.unusedVariables false
set_option maxRecDepth 100000 in
theorem contract (H : Type) (enc : TypeId × Value → H) (W : World) (base : Nat) (args : Array Value) (ds gs : List (DataW H)) (before : List MemPlace)
    (hval0 : ∀ (j : Nat) t v, Tryz.f4.params[j]? = some t → args[j]? = some v → Value.okWide Tryz.prog W .any base t v)
    (hW : DataW.Whole enc Tryz.prog Tryz.f4.params.toList Rows.reportChartsSpec.vars false W args.toList ds gs before)
    (hz : (DataW.weightsEach Tryz.prog (Tryz.f4.params.toList ++ (OpenSpec.ofChange Rows.reportChartsSpec).bare.plain.varTypes Tryz.prog) (ds ++ gs)).all (· ≤ reachBytes) = true) (hG : X.GW W) :
    Calls Tryz.prog 4 args W fun e W' => ∃ v, e = .returned v ∧ Rows.reportChartsSpec.post enc Tryz.prog Tryz.f4 false true false false W args v W' := by
  have hval : ∀ (j : Nat) t v, Tryz.f4.params[j]? = some t → args[j]? = some v → Value.okWide Tryz.prog W .any base t v := hval0
  have hW' := hW
  obtain ⟨p, q, hA0, hV, rfl, hfz, hnd⟩ := hW
  have hA : DataW.TrodAll enc Tryz.prog W 0 (fun _ => true) true Tryz.f4.params.toList args.toList ds p := hA0
  rw [Tryz.params4] at hA hval
  obtain ⟨v0, vs0, d0, ds0, p0, q0, hargs, rfl, rfl, h0, r0⟩ := trodAll_cons hA
  obtain ⟨v1, vs1, d1, ds1, p1, q1, rfl, rfl, rfl, h1, r1⟩ := trodAll_cons r0
  obtain ⟨v2, vs2, d2, ds2, p2, q2, rfl, rfl, rfl, h2, r2⟩ := trodAll_cons r1
  obtain ⟨rfl, rfl, rfl⟩ := trodAll_nil r2
  obtain rfl : args = #[v0, v1, v2] := by cases args; simp_all
  obtain ⟨rfl, rfl⟩ := trodVars_none hV
  have k0 := h0
  obtain ⟨n0, t0⟩ := h0
  obtain ⟨A0, c0, l0, e0, m0, C0⟩ := com.openPers t0
  obtain rfl : v0 = .slice A0 l0.length c0 := by obtain ⟨x1, x2, x3, rfl⟩ := okWide_slice Tryz.underlying31 (hval 0 31 v0 rfl rfl); simpa [Value.cells] using e0
  have k1 := h1
  obtain ⟨a1, b1, rfl, rfl, rfl⟩ := com.open_period (hval 1 33 v1 rfl rfl) h1
  obtain ⟨a2, rfl, rfl, rfl, w2⟩ := open_int Tryz.underlying3 (hval 2 3 v2 rfl rfl) h2
  obtain ⟨g2a, g2b⟩ : -9223372036854775808 ≤ a2 ∧ a2 ≤ 9223372036854775807 := com.int_range w2
  clear hA0 hval0
  obtain ⟨k, hp⟩ := X.pure_Charts l0 a1 b1 a2
  refine (X.bitemporallaw55_ReportCharts.calls k A0 c0 l0 a1 b1 a2 true W C0 m0 hp hG).mono fun e W' ⟨he, bel⟩ => ?_
  subst he
  exact ⟨_, rfl, _, _, _, [], _, [], hW', trodAll_mk1 (shut_bool Tryz.underlying4 _), trodAll_cons_mk (Below.trod com.laidOut (by kernel_rfl) (of_decide_eq_true (by kernel_rfl)) k0 bel (fun x hx => DataW.trod_lt _ _ _ _ t0 x hx)) (trodAll_cons_mk (Below.trod com.laidOut (by kernel_rfl) (of_decide_eq_true (by kernel_rfl)) k1 bel (fun x hx => by cases hx)) (trodAll_cons_mk (shut_int Tryz.underlying3 w2) (trodAll_mk0))), rfl, bel.frame _, fun h => by cases h⟩
theorem reads (os : Os) {H : Type} (enc : TypeId × Value → H) : ∃ places, DataW.whole enc Tryz.prog ((World.laidAll Tryz.prog os com.theLaid).forCall (fun _ _ => 0) ⟨#[], #[.slice none 0 0, .agg #[.int .i64 0, .int .i64 0], .int .i64 0], []⟩).memory Tryz.f4.params.toList Rows.reportChartsSpec.vars false (#[.slice none 0 0, .agg #[.int .i64 0, .int .i64 0], .int .i64 0] : Array Value).toList 8 = some ([.nil, .agg [.lit (.int .i64 0), .lit (.int .i64 0)], .lit (.int .i64 0)], [], places) := ⟨[], by kernel_rfl⟩
set_option maxRecDepth 100000 in
theorem lifted (os : Os) (started : os.Started) (H : Type) (enc : TypeId × Value → H) (F : Stop.Interp) :
    ReturnsInHanded {} Tryz.checked os 4 .any ((OpenSpec.ofChange Rows.reportChartsSpec).preRow enc Tryz.prog Tryz.f4 Rows.reportChartsRow.domain false Rows.reportChartsRow.laid) (((OpenSpec.ofChange Rows.reportChartsSpec).at F).post enc Tryz.prog Tryz.f4 false true false false) := by
  obtain ⟨places, hx⟩ := reads os enc
  refine returnsInHanded_of_row (C := Tryz.checked) (s := (OpenSpec.ofChange Rows.reportChartsSpec)) com.own started (by kernel_rfl) Tryz.func4
    (com.witness (enc := enc) (C := Tryz.checked) (World.laidAll Tryz.prog os com.theLaid) #[.slice none 0 0, .agg #[.int .i64 0, .int .i64 0], .int .i64 0] (World.laidAll_os _ _ _) (com.start_shaped os _) (by kernel_rfl)
      (OpenSpec.preRow_of_cond 8 hx (by kernel_rfl) (fun k hk => by cases hk) (by kernel_rfl) (com.start_laid os _))) ?_
  intro W base args ds gs before hval hW _ hcond hz hL hsh _
  exact contract H enc W base args ds gs before hval hW hz (com.gw_of hL hsh)
theorem said : Rows.ReportChartsSaid :=
  OpenClaim.holds_of_cond 4 Tryz.f4 rfl rfl rfl rfl rfl rfl rfl ⟨rfl, rfl, rfl, rfl, rfl⟩ rfl rfl rfl rfl rfl (by kernel_rfl) Tryz.func4 (by kernel_rfl)
    (of_decide_eq_true (by kernel_rfl)) (by unfold Func.isWrapper; first | (rw [if_pos (by decide +kernel)]; kernel_rfl) | (rw [if_neg (by decide +kernel)]; exact ⟨rfl, rfl⟩))
    (fun os started H enc _ F => by rw [OpenClaim.pre_eq_preRow]; exact lifted os started H enc F)
theorem plain (f : FuncId) (fn : Func) (hf : Tryz.pinned.checked.prog.funcNamed Rows.reportChartsRow.func = some f) (hfn : Tryz.pinned.checked.prog.funcs[f]? = some fn) :
    false = Tryz.pinned.checked.prog.looks [] ∧ ∀ (j : Nat) t, fn.params[j]? = some t → Tryz.pinned.checked.prog.wantsStandIn t = false := by
  obtain rfl : f = 4 := Option.some.inj ((show Tryz.prog.funcNamed Rows.reportChartsRow.func = some 4 by kernel_rfl).symm.trans hf) |>.symm
  obtain rfl : fn = Tryz.f4 := (Option.some.inj (Tryz.func4.symm.trans hfn)).symm
  refine ⟨by kernel_rfl, fun j t ht => ?_⟩
  rw [Tryz.params4] at ht
  have hm : t ∈ [31, 33, 3] := by simpa using Array.mem_of_getElem? ht
  have hall : ([31, 33, 3].all fun u => !Tryz.prog.wantsStandIn u) = true := by kernel_rfl
  exact (show Tryz.prog.wantsStandIn t = false by simpa using List.all_eq_true.1 hall t hm)
end Go.Proofs.YthdgjobhofpjeaaGreatDoor.reportCharts
namespace Go.Proofs.YthdgjobhofpjeaaGreatDoor
/-- The statement of the claim. -/
theorem reportCharts_card : Rows.ReportChartsCardSaid :=
  Claim7.holds_tied_plain_at .later [] _ _ _ _ reportCharts.said (fun _ h => by cases h) (by kernel_rfl) (fun _ h => by cases h) reportCharts_row_tie rfl ⟨rfl, rfl⟩ (by kernel_rfl) rfl reportCharts.plain (by kernel_rfl)
end Go.Proofs.YthdgjobhofpjeaaGreatDoor
