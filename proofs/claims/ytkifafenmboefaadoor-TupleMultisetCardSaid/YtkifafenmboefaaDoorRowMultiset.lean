/- The statement TupleMultiset: sorting keeps the rows, puts them into order, and does not depend on the order of the list. Conditions: the listed variables of Go's library hold what their initialisers lay. -/
import Derived.Test.YtkifafenmboefaaDoorCom
import Derived.Test.YtkifafenmboefaaDoorQ8
namespace Go.Proofs.YtkifafenmboefaaDoor.tupleMultiset
open Go.ChangeShapes Go.WideShapes Go.ChangeAt Go.RowKit Go.Proofs.YtkifafenmboefaaDoorW.PrintWords
open Go.ChangeMaps (open_string shut_string)
set_option linter.unusedVariables false
set_option maxRecDepth 100000 in
theorem contract (H : Type) (enc : TypeId × Value → H) (W : World) (base : Nat) (args : Array Value) (ds gs : List (DataW H)) (before : List MemPlace)
    (hval0 : ∀ (j : Nat) t v, Tryd.f7.params[j]? = some t → args[j]? = some v → Value.okWide Tryd.prog W .any base t v)
    (hW : DataW.Whole enc Tryd.prog Tryd.f7.params.toList Rows.tupleMultisetSpec.vars false W args.toList ds gs before)
    (hz : (DataW.weightsEach Tryd.prog (Tryd.f7.params.toList ++ (OpenSpec.ofChange Rows.tupleMultisetSpec).bare.plain.varTypes Tryd.prog) (ds ++ gs)).all (· ≤ reachBytes) = true) (hG : X.GW W) :
    Calls Tryd.prog 7 args W fun e W' => ∃ v, e = .returned v ∧ Rows.tupleMultisetSpec.post enc Tryd.prog Tryd.f7 false true false false W args v W' := by
  have hval : ∀ (j : Nat) t v, Tryd.f7.params[j]? = some t → args[j]? = some v → Value.okWide Tryd.prog W .any base t v := hval0
  have hW' := hW
  obtain ⟨p, q, hA0, hV, rfl, hfz, hnd⟩ := hW
  have hA : DataW.TrodAll enc Tryd.prog W 0 (fun _ => true) true Tryd.f7.params.toList args.toList ds p := hA0
  rw [Tryd.params7] at hA hval
  obtain ⟨v0, vs0, d0, ds0, p0, q0, hargs, rfl, rfl, h0, r0⟩ := trodAll_cons hA
  obtain ⟨v1, vs1, d1, ds1, p1, q1, rfl, rfl, rfl, h1, r1⟩ := trodAll_cons r0
  obtain ⟨v2, vs2, d2, ds2, p2, q2, rfl, rfl, rfl, h2, r2⟩ := trodAll_cons r1
  obtain ⟨v3, vs3, d3, ds3, p3, q3, rfl, rfl, rfl, h3, r3⟩ := trodAll_cons r2
  obtain ⟨rfl, rfl, rfl⟩ := trodAll_nil r3
  obtain rfl : args = #[v0, v1, v2, v3] := by cases args; simp_all
  obtain ⟨rfl, rfl⟩ := trodVars_none hV
  have k0 := h0
  obtain ⟨n0, t0⟩ := h0
  have f0 : com.Fit 26 d0 := com.fit_of hz (j := 0) rfl rfl
  obtain ⟨A0, c0, l0, e0, m0, C0, z0⟩ := com.open26 t0
  obtain rfl : v0 = .slice A0 l0.length c0 := by obtain ⟨x1, x2, x3, rfl⟩ := okWide_slice Tryd.underlying26 (hval 0 26 v0 rfl rfl); simpa [Value.cells] using e0
  have k1 := h1
  obtain ⟨n1, t1⟩ := h1
  have f1 : com.Fit 27 d1 := com.fit_of hz (j := 1) rfl rfl
  obtain ⟨A1, c1, l1, e1, m1, C1⟩ := com.open27 t1
  obtain rfl : v1 = .slice A1 l1.length c1 := by obtain ⟨x1, x2, x3, rfl⟩ := okWide_slice Tryd.underlying27 (hval 1 27 v1 rfl rfl); simpa [Value.cells] using e1
  obtain ⟨a2, rfl, rfl, rfl, w2⟩ := open_int Tryd.underlying3 (hval 2 3 v2 rfl rfl) h2
  obtain ⟨a3, rfl, rfl, rfl, w3⟩ := open_int Tryd.underlying3 (hval 3 3 v3 rfl rfl) h3
  clear hA0 hval0
  obtain ⟨k, hp⟩ := X.pure_Multiset l0 l1 a2 a3 (z0 f0).1 (z0 f0).2
  have HV := com.read_V (P0 := fun _ => True) C0 m0 (fun _ => trivial)
  refine (X.bitemporallaw08_TupleMultiset.calls k (fun _ => True) A0 c0 l0 A1 c1 l1 a2 a3 true W HV C1 m1 hp hG).mono fun e W' ⟨he, bel⟩ => ?_
  subst he
  exact ⟨_, rfl, _, _, _, [], _, [], hW', trodAll_mk1 (shut_bool Tryd.underlying4 _), trodAll_cons_mk (Below.trod com.laidOut (by kernel_rfl) (of_decide_eq_true (by kernel_rfl)) k0 bel (fun x hx => DataW.trod_lt _ _ _ _ t0 x hx)) (trodAll_cons_mk (Below.trod com.laidOut (by kernel_rfl) (of_decide_eq_true (by kernel_rfl)) k1 bel (fun x hx => DataW.trod_lt _ _ _ _ t1 x hx)) (trodAll_cons_mk (shut_int Tryd.underlying3 w2) (trodAll_cons_mk (shut_int Tryd.underlying3 w3) (trodAll_mk0)))), rfl, bel.frame _, fun h => by cases h⟩
theorem reads (os : Os) {H : Type} (enc : TypeId × Value → H) : ∃ places, DataW.whole enc Tryd.prog ((World.laidAll Tryd.prog os com.theLaid).forCall (fun _ _ => 0) ⟨#[], #[.slice none 0 0, .slice none 0 0, .int .i64 0, .int .i64 0], []⟩).memory Tryd.f7.params.toList Rows.tupleMultisetSpec.vars false (#[.slice none 0 0, .slice none 0 0, .int .i64 0, .int .i64 0] : Array Value).toList 8 = some ([.nil, .nil, .lit (.int .i64 0), .lit (.int .i64 0)], [], places) := ⟨[], by kernel_rfl⟩
set_option maxRecDepth 100000 in
theorem lifted (os : Os) (started : os.Started) (H : Type) (enc : TypeId × Value → H) (F : Stop.Interp) :
    ReturnsInHanded {} Tryd.checked os 7 .any ((OpenSpec.ofChange Rows.tupleMultisetSpec).preRow enc Tryd.prog Tryd.f7 Rows.tupleMultisetRow.domain false Rows.tupleMultisetRow.laid) (((OpenSpec.ofChange Rows.tupleMultisetSpec).at F).post enc Tryd.prog Tryd.f7 false true false false) := by
  obtain ⟨places, hx⟩ := reads os enc
  refine returnsInHanded_of_row (C := Tryd.checked) (s := (OpenSpec.ofChange Rows.tupleMultisetSpec)) com.own started (by kernel_rfl) Tryd.func7
    (com.witness (enc := enc) (C := Tryd.checked) (World.laidAll Tryd.prog os com.theLaid) #[.slice none 0 0, .slice none 0 0, .int .i64 0, .int .i64 0] (World.laidAll_os _ _ _) (com.start_shaped os _) (by kernel_rfl)
      (OpenSpec.preRow_of_cond 8 hx (by kernel_rfl) (fun k hk => by cases hk) (by kernel_rfl) (com.start_laid os _))) ?_
  intro W base args ds gs before hval hW _ hcond hz hL hsh _
  exact contract H enc W base args ds gs before hval hW hz (com.gw_of hL hsh)
theorem said : Rows.TupleMultisetSaid :=
  OpenClaim.holds_of_cond 7 Tryd.f7 rfl rfl rfl rfl rfl rfl rfl ⟨rfl, rfl, rfl, rfl, rfl⟩ rfl rfl rfl rfl rfl (by kernel_rfl) Tryd.func7 (by kernel_rfl)
    (of_decide_eq_true (by kernel_rfl)) (by unfold Func.isWrapper; first | (rw [if_pos (by decide +kernel)]; kernel_rfl) | (rw [if_neg (by decide +kernel)]; exact ⟨rfl, rfl⟩))
    (fun os started H enc _ F => by rw [OpenClaim.pre_eq_preRow]; exact lifted os started H enc F)
theorem plain (f : FuncId) (fn : Func) (hf : Tryd.pinned.checked.prog.funcNamed Rows.tupleMultisetRow.func = some f) (hfn : Tryd.pinned.checked.prog.funcs[f]? = some fn) :
    false = Tryd.pinned.checked.prog.looks [] ∧ ∀ (j : Nat) t, fn.params[j]? = some t → Tryd.pinned.checked.prog.wantsStandIn t = false := by
  obtain rfl : f = 7 := Option.some.inj ((show Tryd.prog.funcNamed Rows.tupleMultisetRow.func = some 7 by kernel_rfl).symm.trans hf) |>.symm
  obtain rfl : fn = Tryd.f7 := (Option.some.inj (Tryd.func7.symm.trans hfn)).symm
  refine ⟨by kernel_rfl, fun j t ht => ?_⟩
  rw [Tryd.params7] at ht
  have hm : t ∈ [26, 27, 3, 3] := by simpa using Array.mem_of_getElem? ht
  have hall : ([26, 27, 3, 3].all fun u => !Tryd.prog.wantsStandIn u) = true := by kernel_rfl
  exact (show Tryd.prog.wantsStandIn t = false by simpa using List.all_eq_true.1 hall t hm)
end Go.Proofs.YtkifafenmboefaaDoor.tupleMultiset
namespace Go.Proofs.YtkifafenmboefaaDoor
/-- The statement of the claim. -/
theorem tupleMultiset_card : Rows.TupleMultisetCardSaid :=
  Claim7.holds_tied_plain_at .later [] _ _ _ _ tupleMultiset.said (fun _ h => by cases h) (by kernel_rfl) (fun _ h => by cases h) tupleMultiset_row_tie rfl ⟨rfl, rfl⟩ (by kernel_rfl) rfl tupleMultiset.plain (by kernel_rfl)
end Go.Proofs.YtkifafenmboefaaDoor
