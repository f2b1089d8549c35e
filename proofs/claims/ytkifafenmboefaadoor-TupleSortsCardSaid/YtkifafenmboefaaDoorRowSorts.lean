/- The statement TupleSorts: lists of at most 300 rows are sorted and compared as the reference does it. Conditions: the listed variables of Go's library hold what their initialisers lay. -/
import Derived.Test.YtkifafenmboefaaDoorCom
import Derived.Test.YtkifafenmboefaaDoorQ9
namespace Go.Proofs.YtkifafenmboefaaDoor.tupleSorts
open Go.ChangeShapes Go.WideShapes Go.ChangeAt Go.RowKit Go.Proofs.YtkifafenmboefaaDoorW.PrintWords
open Go.ChangeMaps (open_string shut_string)
set_option linter.unusedVariables false
set_option maxRecDepth 100000 in
theorem contract (H : Type) (enc : TypeId × Value → H) (W : World) (base : Nat) (args : Array Value) (ds gs : List (DataW H)) (before : List MemPlace)
    (hval0 : ∀ (j : Nat) t v, Tryd.f9.params[j]? = some t → args[j]? = some v → Value.okWide Tryd.prog W .any base t v)
    (hW : DataW.Whole enc Tryd.prog Tryd.f9.params.toList Rows.tupleSortsSpec.vars false W args.toList ds gs before)
    (hz : (DataW.weightsEach Tryd.prog (Tryd.f9.params.toList ++ (OpenSpec.ofChange Rows.tupleSortsSpec).bare.plain.varTypes Tryd.prog) (ds ++ gs)).all (· ≤ reachBytes) = true) (hG : X.GW W) :
    Calls Tryd.prog 9 args W fun e W' => ∃ v, e = .returned v ∧ Rows.tupleSortsSpec.post enc Tryd.prog Tryd.f9 false true false false W args v W' := by
  have hval : ∀ (j : Nat) t v, Tryd.f9.params[j]? = some t → args[j]? = some v → Value.okWide Tryd.prog W .any base t v := hval0
  have hW' := hW
  obtain ⟨p, q, hA0, hV, rfl, hfz, hnd⟩ := hW
  have hA : DataW.TrodAll enc Tryd.prog W 0 (fun _ => true) true Tryd.f9.params.toList args.toList ds p := hA0
  rw [Tryd.params9] at hA hval
  obtain ⟨v0, vs0, d0, ds0, p0, q0, hargs, rfl, rfl, h0, r0⟩ := trodAll_cons hA
  obtain ⟨v1, vs1, d1, ds1, p1, q1, rfl, rfl, rfl, h1, r1⟩ := trodAll_cons r0
  obtain ⟨rfl, rfl, rfl⟩ := trodAll_nil r1
  obtain rfl : args = #[v0, v1] := by cases args; simp_all
  obtain ⟨rfl, rfl⟩ := trodVars_none hV
  have k0 := h0
  obtain ⟨n0, t0⟩ := h0
  have f0 : com.Fit 26 d0 := com.fit_of hz (j := 0) rfl rfl
  obtain ⟨A0, c0, l0, e0, m0, C0, z0⟩ := com.open26 t0
  obtain rfl : v0 = .slice A0 l0.length c0 := by obtain ⟨x1, x2, x3, rfl⟩ := okWide_slice Tryd.underlying26 (hval 0 26 v0 rfl rfl); simpa [Value.cells] using e0
  have k1 := h1
  obtain ⟨n1, t1⟩ := h1
  have f1 : com.Fit 26 d1 := com.fit_of hz (j := 1) rfl rfl
  obtain ⟨A1, c1, l1, e1, m1, C1, z1⟩ := com.open26 t1
  obtain rfl : v1 = .slice A1 l1.length c1 := by obtain ⟨x1, x2, x3, rfl⟩ := okWide_slice Tryd.underlying26 (hval 1 26 v1 rfl rfl); simpa [Value.cells] using e1
  clear hA0 hval0
  obtain ⟨k, hp⟩ := X.pure_Sorts l0 l1 (z0 f0).1 (z0 f0).2 (z1 f1).1 (z1 f1).2
  refine (X.bitemporallaw08_TupleSorts.calls k A0 c0 l0 A1 c1 l1 true W C0 m0 C1 m1 hp hG).mono fun e W' ⟨he, bel⟩ => ?_
  subst he
  exact ⟨_, rfl, _, _, _, [], _, [], hW', trodAll_mk1 (shut_bool Tryd.underlying4 _), trodAll_cons_mk (Below.trod com.laidOut (by kernel_rfl) (of_decide_eq_true (by kernel_rfl)) k0 bel (fun x hx => DataW.trod_lt _ _ _ _ t0 x hx)) (trodAll_cons_mk (Below.trod com.laidOut (by kernel_rfl) (of_decide_eq_true (by kernel_rfl)) k1 bel (fun x hx => DataW.trod_lt _ _ _ _ t1 x hx)) (trodAll_mk0)), rfl, bel.frame _, fun h => by cases h⟩
theorem reads (os : Os) {H : Type} (enc : TypeId × Value → H) : ∃ places, DataW.whole enc Tryd.prog ((World.laidAll Tryd.prog os com.theLaid).forCall (fun _ _ => 0) ⟨#[], #[.slice none 0 0, .slice none 0 0], []⟩).memory Tryd.f9.params.toList Rows.tupleSortsSpec.vars false (#[.slice none 0 0, .slice none 0 0] : Array Value).toList 8 = some ([.nil, .nil], [], places) := ⟨[], by kernel_rfl⟩
set_option maxRecDepth 100000 in
theorem lifted (os : Os) (started : os.Started) (H : Type) (enc : TypeId × Value → H) (F : Stop.Interp) :
    ReturnsInHanded {} Tryd.checked os 9 .any ((OpenSpec.ofChange Rows.tupleSortsSpec).preRow enc Tryd.prog Tryd.f9 Rows.tupleSortsRow.domain false Rows.tupleSortsRow.laid) (((OpenSpec.ofChange Rows.tupleSortsSpec).at F).post enc Tryd.prog Tryd.f9 false true false false) := by
  obtain ⟨places, hx⟩ := reads os enc
  refine returnsInHanded_of_row (C := Tryd.checked) (s := (OpenSpec.ofChange Rows.tupleSortsSpec)) com.own started (by kernel_rfl) Tryd.func9
    (com.witness (enc := enc) (C := Tryd.checked) (World.laidAll Tryd.prog os com.theLaid) #[.slice none 0 0, .slice none 0 0] (World.laidAll_os _ _ _) (com.start_shaped os _) (by kernel_rfl)
      (OpenSpec.preRow_of_cond 8 hx (by kernel_rfl) (fun k hk => by cases hk) (by kernel_rfl) (com.start_laid os _))) ?_
  intro W base args ds gs before hval hW _ hcond hz hL hsh _
  exact contract H enc W base args ds gs before hval hW hz (com.gw_of hL hsh)
theorem said : Rows.TupleSortsSaid :=
  OpenClaim.holds_of_cond 9 Tryd.f9 rfl rfl rfl rfl rfl rfl rfl ⟨rfl, rfl, rfl, rfl, rfl⟩ rfl rfl rfl rfl rfl (by kernel_rfl) Tryd.func9 (by kernel_rfl)
    (of_decide_eq_true (by kernel_rfl)) (by unfold Func.isWrapper; first | (rw [if_pos (by decide +kernel)]; kernel_rfl) | (rw [if_neg (by decide +kernel)]; exact ⟨rfl, rfl⟩))
    (fun os started H enc _ F => by rw [OpenClaim.pre_eq_preRow]; exact lifted os started H enc F)
theorem plain (f : FuncId) (fn : Func) (hf : Tryd.pinned.checked.prog.funcNamed Rows.tupleSortsRow.func = some f) (hfn : Tryd.pinned.checked.prog.funcs[f]? = some fn) :
    false = Tryd.pinned.checked.prog.looks [] ∧ ∀ (j : Nat) t, fn.params[j]? = some t → Tryd.pinned.checked.prog.wantsStandIn t = false := by
  obtain rfl : f = 9 := Option.some.inj ((show Tryd.prog.funcNamed Rows.tupleSortsRow.func = some 9 by kernel_rfl).symm.trans hf) |>.symm
  obtain rfl : fn = Tryd.f9 := (Option.some.inj (Tryd.func9.symm.trans hfn)).symm
  refine ⟨by kernel_rfl, fun j t ht => ?_⟩
  rw [Tryd.params9] at ht
  have hm : t ∈ [26, 26] := by simpa using Array.mem_of_getElem? ht
  have hall : ([26, 26].all fun u => !Tryd.prog.wantsStandIn u) = true := by kernel_rfl
  exact (show Tryd.prog.wantsStandIn t = false by simpa using List.all_eq_true.1 hall t hm)
end Go.Proofs.YtkifafenmboefaaDoor.tupleSorts
namespace Go.Proofs.YtkifafenmboefaaDoor
/-- The statement of the claim. -/
theorem tupleSorts_card : Rows.TupleSortsCardSaid :=
  Claim7.holds_tied_plain_at .later [] _ _ _ _ tupleSorts.said (fun _ h => by cases h) (by kernel_rfl) (fun _ h => by cases h) tupleSorts_row_tie rfl ⟨rfl, rfl⟩ (by kernel_rfl) rfl tupleSorts.plain (by kernel_rfl)
end Go.Proofs.YtkifafenmboefaaDoor
