/- slices.Clone at rows of values: the proof that the call hands back a row of its own with the same elements. No conditions but those in each theorem. / A row of rows of the call's own (the print's R) as the stable sort's row, and back: what the sort leaves is a row of rows of the call's own, told by the sorted places. Conditions: those in each theorem. / Hand-walked functions of the tuple chapter: tuple.sorted, Sort, Order, Distinct, Same: each as a plain Lean function, and the proof that the call comes to what it says. Conditions: those in each theorem. / Hand-walked functions of the tuple chapter: tuple.sorted, Sort, Order, Distinct, Same: each as a plain Lean function, and the proof that the call comes to what it says. Conditions: those in each theorem. -/
import Derived.Test.YtkifafenmboefaaDoorX19
import Derived.Laws.Cover3
import Derived.Test.YtkifafenmboefaaDoorSA
import Derived.Test.YtkifafenmboefaaDoorH1
import Derived.Test.YtkifafenmboefaaDoorX7
import Derived.Test.YtkifafenmboefaaDoorX13
import Derived.Test.YtkifafenmboefaaDoorX22
namespace Go.Proofs.YtkifafenmboefaaDoor.X
open Go.RowKit Go.Proofs.YtkifafenmboefaaDoorW.PrintWords Go.Proofs.YtkifafenmboefaaDoorW.PrintLast Go.Proofs.YtkifafenmboefaaDoorW.PrintMore
set_option linter.unusedVariables false
set_option linter.unusedSimpArgs false

theorem run_eql_slice_nil {P : Program} (w : World) (t e : TypeId) (a : Option Addr) (l c : Nat) (h : P.underlying t = some (.slice e)) : (binOp .eql t (.slice a l c) (.slice none 0 0)).run P w = .ok (.bool a.isNone) w := by
  simp only [binOp]
  simp [run_equal_slice_nil w t e a l c h]

set_option maxHeartbeats 8000000 in
set_option maxRecDepth 100000 in
theorem Clone_calls (A0 : Option Addr) (c0 : Nat) (l0 : List S33) (w : World) (hr0 : Kd.C k33 w A0 l0.length l0) (hc0 : l0.length ≤ c0) (hl : l0.length < 4398046511104) :
    Calls Tryd.prog 54 #[.slice A0 l0.length c0] w fun e w' => ∃ v0_ : Value, e = .returned (v0_) ∧ Kd.R k33 33 w' w.heap.size (fun _ => True) v0_ l0 ∧ Below w.heap.size w w' := by
  have heq : ∀ (a : Option Addr) (l c : Nat) (w : World), (binOp .eql 22 (.slice a l c) (.slice none 0 0)).run Tryd.prog w = .ok (.bool a.isNone) w := fun a l c w => run_eql_slice_nil w 22 33 a l c Tryd.underlying22
  cases A0 with
  | none =>
    have h0 : l0 = [] := by
      rcases Nat.eq_zero_or_pos l0.length with h | h
      · exact List.length_eq_zero_iff.1 h
      · obtain ⟨_, h2, _⟩ := hr0.2.2 h
        cases h2
    subst h0
    clear hr0
    go_enter Tryd.func54, Tryd.ntmps54
    go_wp2
    go_ret
    exact ⟨_, rfl, Kd.R_nil _ _ _ _ _, Below.refl _ _⟩
  | some ad =>
    have HR0 := Aside0.mk hr0
    clear hr0
    go_enter Tryd.func54, Tryd.ntmps54
    go_wp2_with (first | ((with_reducible refine gate_dst (N := 5) rfl ?_); refine Kd.R_lit k33 _ 33 ?hg (N := 5) ?hd (xs := ([] : List S33)) (inner := []) (ok := fun _ => True) (okp := fun _ => True) ?hr ?hp (fun _ hk => hk) trivial (Below.refl _ _) (Nat.le_refl _) (by simp) ?_; (case hd => rfl); (case hg => rfl); (case hr => first | (go_simp; done) | (go_simp; rfl)); (case hp => exact (Reps.none _ _)); intro v1 w1 ho hb hg_ hnew_) | (at_builtin; refine Kd.R_append_rows k33 (w0 := w) w.heap.size rfl (.tmp 5) (.tmp 6) 22 33 (.agg #[(.int .i64 0), (.int .i64 0), (.string ⟨#[]⟩)]) 32 rfl Tryd.underlying22 info33 rfl (by decide) (by omega) v1 [] l0 _ _ _ (fun _ => True) (fun _ => False) rfl rfl ?aO ?aR (fun _ _ h => h) (fun _ h => h.elim) ?aF ?aB ?aS ?aL ?_; (case aO => exact ho); (case aR => exact Kd.C_below HR0.out hb); (case aF => exact (fun _ _ => trivial)); (case aB => exact hb); (case aS => exact hb.size); (case aL => simp; omega); intro v2 w2 ho2 hb2 _ _))
    go_ret
    exact ⟨_, rfl, ho2, hb2⟩
end Go.Proofs.YtkifafenmboefaaDoor.X
namespace Go.Proofs.YtkifafenmboefaaDoor.X
open Go Go.RowKit Go.Sort Go.Proofs.YtkifafenmboefaaDoorW.PrintWords Go.Proofs.YtkifafenmboefaaDoorW.PrintLast Go.Proofs.YtkifafenmboefaaDoorW.PrintMore
set_option linter.unusedVariables false
set_option linter.unusedSimpArgs false

def encAt (inner : List Value) (n : Nat) (i : Fin n) : Value := inner.getD i.val undef

theorem sorts_in {w : World} {base : Nat} {ok : Nat → Prop} {v : Value} {L : List (List S33)} [Inhabited (Fin L.length)] (hR : Kd.R (Kd.slice 33 k33) 22 w base ok v L) (hp : 0 < L.length) :
    ∃ g cap inner, v = .slice (some ⟨g, 0, none⟩) L.length cap ∧ base ≤ g ∧ g < w.heap.size ∧ inner.length = L.length ∧
      Holds (encAt inner L.length) (redrawn w 0) g 0 (Array.ofFn id) ∧ (∀ i : Fin L.length, ∃ A c, encAt inner L.length i = .slice A (L.get i).length c ∧ (L.get i).length ≤ c ∧ Kd.C k33 w A (L.get i).length (L.get i)) ∧
      ∀ (d : Array (Fin L.length)) (w' : World), d.size = L.length → SW (encAt inner L.length) (redrawn w 0) g 0 d w' → w.grownBy w' (some g) ∧ (∀ i : Fin L.length, ∃ A c, encAt inner L.length i = .slice A (L.get i).length c ∧ (L.get i).length ≤ c ∧ Kd.C k33 w' A (L.get i).length (L.get i)) ∧ Kd.R (Kd.slice 33 k33) 22 w' base ok v (d.toList.map L.get) := by
  obtain ⟨h0, inner, hown, hreps⟩ := hR
  obtain ⟨hlen, hsh⟩ := hown
  have hlen' : inner.length = L.length := by rw [hlen]; exact Nat.mul_one _
  rcases hsh with ⟨_, hz⟩ | ⟨g, cap, cur, rfl, hg, hh, hnc, hcm, hcs, ht⟩
  · omega
  have hcs' : cur.size = cap := by rw [hcs]; exact Nat.mul_one _
  have ht' : cur.toList.take L.length = inner := by rw [← ht]; congr 1; exact (Nat.mul_one _).symm
  have hcur : ∀ j, j < L.length → cur[j]? = some (inner.getD j undef) := by
    intro j hj
    have h1 : inner[j]? = cur[j]? := by rw [← ht', List.getElem?_take_of_lt hj, Array.getElem?_toList]
    rw [← h1, List.getElem?_eq_getElem (by omega)]
    simp [List.getD_eq_getElem?_getD, List.getElem?_eq_getElem (show j < inner.length by omega)]
  have helem : ∀ (i : Fin L.length), (Kd.slice 33 k33).M w base (fun k => ok k ∧ some k ≠ some g) (L.get i) [encAt inner L.length i] := by
    intro i
    have h1 := hreps.2 i.val (L.get i) (by simp)
    have h2 : (inner.drop (i.val * 1)).take 1 = [encAt inner L.length i] := by
      have hi : i.val < inner.length := by have := i.isLt; omega
      have h5 : encAt inner L.length i = inner[i.val] := by simp [encAt, hi]
      rw [Nat.mul_one, List.drop_eq_getElem_cons hi, h5]
      rfl
    have h3 : (inner.drop (i.val * (Kd.slice 33 k33).sz)).take (Kd.slice 33 k33).sz = [encAt inner L.length i] := h2
    rw [h3] at h1
    exact h1
  have hfin : ∀ (j : Nat) (hj : j < L.length), (Array.ofFn (n := L.length) id)[j]! = ⟨j, hj⟩ := by
    intro j hj
    rw [getElem!_pos _ j (by simpa using hj)]
    simp
  refine ⟨g, cap, inner, rfl, hg, (Array.getElem?_eq_some_iff.1 hh).1, hlen', fun j hj => ?_, fun i => ?_, fun d w' hd hS => ?_⟩
  · have hj' : j < L.length := by simpa using hj
    rw [hfin j hj', Nat.zero_add]
    refine ⟨?_, blk_frozen (w := redrawn w 0) hh j⟩
    rw [blk_cell (w := redrawn w 0) hh j, hcur j hj']
    rfl
  · obtain ⟨v1, hv, hR1⟩ := helem i
    obtain rfl : encAt inner L.length i = v1 := by injection hv
    obtain ⟨A, c, e1⟩ := Kd.R_slice hR1
    rw [e1] at hR1
    obtain ⟨_, h2, h3⟩ := Kd.R_reads' hR1
    exact ⟨A, c, e1, h2, h3⟩
  · obtain ⟨m, os, rfl⟩ := hS
    have hgl : g < w.heap.size := (Array.getElem?_eq_some_iff.1 hh).1
    have hk : ∀ k, k < w.heap.size → k ≠ g → (sortWorld (encAt inner L.length) (redrawn w 0) g 0 m d os).heap[k]? = w.heap[k]? := by
      intro k hk hne
      unfold sortWorld grow putRow mapBlock
      simp only []
      rw [Array.getElem?_append_left (by rw [Array.size_modify]; exact hk), Array.getElem?_modify, if_neg (Ne.symm hne)]
      rfl
    have hgW : (sortWorld (encAt inner L.length) (redrawn w 0) g 0 m d os).heap[g]? = some (.cells (putCells (encAt inner L.length) 0 d cur) 22 (0, 0)) := by
      unfold sortWorld grow putRow mapBlock
      simp only []
      rw [Array.getElem?_append_left (by rw [Array.size_modify]; exact hgl), Array.getElem?_modify, if_pos rfl]
      show (w.heap[g]?).map _ = _
      rw [hh]
      rfl
    have hgr : w.grownBy (sortWorld (encAt inner L.length) (redrawn w 0) g 0 m d os) (some g) := by
      refine ⟨rfl, rfl, rfl, ?_, fun k h1 h2 => hk k h1 (fun e => h2 (by rw [e]))⟩
      unfold sortWorld
      rw [size_grow, size_putRow]
      exact Nat.le_add_right _ _
    refine ⟨hgr, fun i => ?_, h0, d.toList.map (encAt inner L.length), ⟨?_, .inr ⟨g, cap, putCells (encAt inner L.length) 0 d cur, ?_, hg, hgW, ?_, hcm, ?_, ?_⟩⟩, ?_, ?_⟩
    · obtain ⟨v1, hv, hR1⟩ := Kd.M_grown (helem i) hgr (fun k hk => hk.2)
      obtain rfl : encAt inner L.length i = v1 := by injection hv
      obtain ⟨A, c, e1⟩ := Kd.R_slice hR1
      rw [e1] at hR1
      obtain ⟨_, h2, h3⟩ := Kd.R_reads' hR1
      exact ⟨A, c, e1, h2, h3⟩
    · simp only [List.length_map, Array.length_toList, hd]; exact (Nat.mul_one _).symm
    · simp [hd]
    · rw [List.length_map, Array.length_toList, hd]; exact hnc
    · simp only [putCells, Array.size_mapIdx]; exact hcs
    · have e1 : (d.toList.map L.get).length * (Kd.slice 33 k33).sz = L.length := by rw [List.length_map, Array.length_toList, hd]; exact Nat.mul_one _
      rw [e1]
      refine List.ext_getElem? fun j => ?_
      by_cases hj : j < L.length
      · have hjc : j < cur.size := by rw [hcs']; omega
        have hjd : j < d.size := by omega
        rw [List.getElem?_take_of_lt hj, Array.getElem?_toList, List.getElem?_map, Array.getElem?_toList]
        simp only [putCells]
        rw [Array.getElem?_mapIdx, Array.getElem?_eq_getElem hjc, Array.getElem?_eq_getElem hjd]
        simp only [Option.map_some]
        rw [if_pos ⟨Nat.zero_le _, by omega⟩, Nat.sub_zero, getElem!_pos d j hjd]
      · rw [List.getElem?_eq_none (by rw [List.length_take]; omega), List.getElem?_eq_none (by rw [List.length_map, Array.length_toList]; omega)]
    · simp only [List.length_map]; exact (Nat.mul_one _).symm
    · intro j p hj
      rw [List.getElem?_map, Array.getElem?_toList] at hj
      obtain ⟨i, hi, rfl⟩ := Option.map_eq_some_iff.1 hj
      have hjd : j < d.size := (Array.getElem?_eq_some_iff.1 hi).1
      have h5 : ((d.toList.map (encAt inner L.length)).drop (j * 1)).take 1 = [encAt inner L.length i] := by
        have hjl : j < (d.toList.map (encAt inner L.length)).length := by rw [List.length_map, Array.length_toList]; exact hjd
        rw [Nat.mul_one, List.drop_eq_getElem_cons hjl]
        have h6 : (d.toList.map (encAt inner L.length))[j] = encAt inner L.length i := by
          rw [List.getElem_map, Array.getElem_toList]
          rw [(Array.getElem?_eq_some_iff.1 hi).2]
        rw [h6]
        rfl
      have h7 : ((d.toList.map (encAt inner L.length)).drop (j * (Kd.slice 33 k33).sz)).take (Kd.slice 33 k33).sz = [encAt inner L.length i] := h5
      rw [h7]
      exact Kd.M_grown (helem i) hgr (fun k hk => hk.2)
end Go.Proofs.YtkifafenmboefaaDoor.X
namespace Go.Proofs.YtkifafenmboefaaDoor.X
open Go Go.RowKit Go.Sort Go.Proofs.YtkifafenmboefaaDoorW.PrintWords Go.Proofs.YtkifafenmboefaaDoorW.PrintLast Go.Proofs.YtkifafenmboefaaDoorW.PrintMore
open Go.Proofs.YtkifafenmboefaaDoor.Sorts (stableSort sortStable_calls CmpBelow)
set_option linter.unusedVariables false
set_option linter.unusedSimpArgs false

open Classical in
/-- The rows sorted by a comparison that answers for all of them. -/
noncomputable def sortRows (c : List S33 → List S33 → Option Int) (L : List (List S33)) : Option (List (List S33)) :=
  if h : 0 < L.length then
    (if (∀ x ∈ L, ∀ y ∈ L, (c x y).isSome = true) ∧ L.length < 5864062014805 ∧ (∀ x ∈ L, x.length < 4398046511104) then
      haveI : Inhabited (Fin L.length) := ⟨⟨0, h⟩⟩
      some ((stableSort (Go.Proofs.ltOf (fun i j => (c (L.get i) (L.get j)).getD 0)) (Array.ofFn (id : Fin L.length → Fin L.length))).toList.map L.get)
    else none)
  else some []

/-- What is asked of the comparison handed to tuple.sorted. -/
def CmpRowsAt (g : Nat) (cb : Array Value) (c : List S33 → List S33 → Option Int) (w : World) : Prop :=
  ∀ (A0 : Option Addr) (c0 : Nat) (l0 : List S33) (A1 : Option Addr) (c1 : Nat) (l1 : List S33) (r : Int) (W : World), Kd.C k33 W A0 l0.length l0 → l0.length ≤ c0 → Kd.C k33 W A1 l1.length l1 → l1.length ≤ c1 → c l0 l1 = some r → Below w.heap.size w W →
    Calls Tryd.prog g (#[.slice A0 l0.length c0, .slice A1 l1.length c1] ++ cb) W fun e w' => e = .returned (.int .i64 r) ∧ Below W.heap.size W w'

set_option maxHeartbeats 16000000 in
set_option maxRecDepth 100000 in
theorem sorted_calls (g : Nat) (cb : Array Value) (c : List S33 → List S33 → Option Int) (A0 : Option Addr) (c0 : Nat) (L : List (List S33)) (r : List (List S33)) (w : World) (eg : ∀ args w, (callFunc g args).run Tryd.prog w = .ok (.enter g args) w)
    (hcmp : CmpRowsAt g cb c w) (hr0 : Kd.C (Kd.slice 33 k33) w A0 L.length L) (hc0 : L.length ≤ c0) (h : sortRows c L = some r) :
    Calls Tryd.prog 37 #[.slice A0 L.length c0, .func (.func g) #[] cb] w fun e w' => ∃ v0_ : Value, e = .returned (v0_) ∧ Kd.R (Kd.slice 33 k33) 22 w' w.heap.size (fun _ => True) v0_ r ∧ Below w.heap.size w w' := by
  have EG : Aside0 (∀ args w, (callFunc g args).run Tryd.prog w = .ok (.enter g args) w) := ⟨eg⟩
  clear eg
  have HC := Aside0.mk hcmp
  clear hcmp
  have HR0 := Aside0.mk hr0
  clear hr0
  have HH := Aside0.mk h
  clear h
  have hn : L.length < 5864062014805 ∧ (∀ x ∈ L, x.length < 4398046511104) := by
    have h := HH.out
    unfold sortRows at h
    split at h
    · split at h
      · next h2 => exact h2.2
      · cases h
    · next h2 => exact ⟨by omega, fun x hx => by rw [List.length_eq_zero_iff.1 (show L.length = 0 by omega)] at hx; cases hx⟩
  obtain ⟨hn, hx⟩ := hn
  have HX := Aside0.mk hx
  clear hx
  go_enter Tryd.func37, Tryd.ntmps37
  go_wp2_with (first | ((with_reducible refine gate_dst (N := 10) rfl ?_); refine R_make0 (w0 := w) (Kd.slice 33 k33) w.heap.size 22 rfl (N := 10) rfl 26 _ _ rfl (L.length : Int) rfl rfl Tryd.underlying26 (.slice none 0 0) 24 info22 rfl (by decide) (by omega) ([] : List S33) (ok := fun _ => True) (okp := fun _ => True) ⟨_, rfl, Kd.R_nil _ _ _ _ _⟩ (fun _ hk => hk) trivial (by omega) (by simp; omega) (Below.refl _ _) (Nat.le_refl _) ?_; intro v1 w1 ho hb hg_ hnew_))
  rw [show List.replicate 0 ([] : List S33) = [] from rfl] at ho
  have HO0 : Aside0 (Kd.R (Kd.slice 33 k33) 22 w1 w.heap.size (fun _ => True) v1 (L.take 0)) := ⟨by rw [List.take_zero]; exact ho⟩
  have HB0 := Aside0.mk hb
  clear ho hb hg_ hnew_
  go_wp2
  go_loopg [5, 13] L.length (fun k vo vi wr => ∃ (i : Nat), vi = .int .i64 i ∧ i ≤ L.length ∧ L.length - i ≤ k ∧ Aside0 (Kd.R (Kd.slice 33 k33) 22 wr w.heap.size (fun _ => True) vo (L.take i)) ∧ Aside0 (Below w.heap.size w wr))
  case atStart => exact ⟨0, rfl, Nat.zero_le _, Nat.le_refl _, HO0, HB0⟩
  case round =>
    clear HO0 HB0
    obtain ⟨i, rfl, hi, hk, HO, HB⟩ := hrel
    by_cases hlt : i < L.length
    · have hltz : (i : Int) < (L.length : Int) := by omega
      obtain ⟨ad, A, cx, rfl, hx0, hcx, hCx⟩ := at_L3 HR0.out (i : Int) (by omega) hltz
      simp only [Int.toNat_natCast] at hx0
      replace hx0 := (HB.out.cell (World.block_lt_of_cell? w _ hx0)).trans hx0
      have hxl : (rd_L3 L i).length < 4398046511104 := HX.out _ (by simp only [rd_L3, Int.toNat_natCast, List.getD_eq_getElem?_getD, List.getElem?_eq_getElem hlt, Option.getD_some]; exact List.getElem_mem hlt)
      go_wp2_with fail
      refine (Clone_calls A cx (rd_L3 L i) _ (Kd.C_below hCx HB.out) hcx hxl).mono ?_
      rintro e w2 ⟨v2, rfl, hR2, hb2⟩
      obtain ⟨A2, cv2, e2⟩ := Kd.R_slice hR2
      subst e2
      have HO2 : Aside0 (Kd.R (Kd.slice 33 k33) 22 w2 w.heap.size (fun _ => True) u5 (L.take i)) := ⟨Kd.R_below HO.out hb2⟩
      have HB2 : Aside0 (Below w.heap.size w w2) := ⟨below_step HB.out hb2⟩
      have HE : Aside0 (Kd.R k33 33 w2 w.heap.size (fun k => wr.heap.size ≤ k) (.slice A2 (rd_L3 L i).length cv2) (rd_L3 L i)) := ⟨Kd.R_lower (Kd.R_mono (Kd.R_bound hR2) (fun k hk => hk.2.1)) HB.out.size⟩
      have HF : Aside0 (∀ k, wr.heap.size ≤ k → some k ≠ u5.ownBlock) := ⟨fun k hk he => by have := Kd.R_lt HO.out k he.symm; omega⟩
      clear HO HB hx0 hR2 hb2 hcx hCx
      go_wp2_with (first | (at_builtin; refine Kd.R_append (Kd.slice 33 k33) (w0 := w) w.heap.size rfl (.tmp 17) (.tmp 20) 26 22 (.slice none 0 0) 24 rfl Tryd.underlying26 info22 rfl (by decide) (by omega) u5 (L.take i) (rd_L3 L i) [.slice A2 (rd_L3 L i).length cv2] (fun _ => True) (fun k => wr.heap.size ≤ k) rfl rfl ?aP ?aK (fun _ _ => trivial) ?aO ?aB ?aS ?aL ?_; (case aP => exact Kd.M_row HE.out); (case aK => exact (fun k hk => ⟨trivial, HF.out k hk⟩)); (case aO => exact HO2.out); (case aB => exact HB2.out); (case aS => exact HB2.out.size); (case aL => rw [List.length_take]; omega); intro v3 w3 ho3 hb3 _ _))
      have hS : L.take i ++ [rd_L3 L i] = L.take (i + 1) := by
        rw [List.take_succ_eq_append_getElem hlt]
        simp [rd_L3, hlt]
      rw [hS] at ho3
      have HO3 := Aside0.mk ho3
      have HB3 := Aside0.mk hb3
      clear ho3 hb3 hS HO2 HB2 HE HF
      go_wp2
      go_roundg (L.length - (i + 1))
      case measure => omega
      case rel => exact ⟨i + 1, by go_num, hlt, Nat.le_refl _, HO3, HB3⟩
    · have hltz : ¬ (i : Int) < (L.length : Int) := by omega
      obtain rfl : i = L.length := by omega
      have hO := HO.out
      rw [List.take_length] at hO
      rcases Nat.eq_zero_or_pos L.length with hz | hp
      · have hr : r = L := by
          have h := HH.out
          unfold sortRows at h
          rw [dif_neg (by omega)] at h
          rw [List.length_eq_zero_iff.1 hz]
          exact (Option.some.inj h).symm
        obtain ⟨A5, c5, e5⟩ := Kd.R_slice hO
        subst e5
        have HO5 := Aside0.mk hO
        clear hO HO
        go_wp2_with fail
        refine (Go.Proofs.YtkifafenmboefaaDoor.Sorts.sortStable_none A5 c5 (.func (.func g) #[] cb) wr).mono ?_
        rintro e w5 ⟨rfl, rfl⟩
        go_wp2
        go_ret
        have h5 := HO5.out
        rw [hz] at h5
        rw [hr]
        exact ⟨_, rfl, h5, HB.out⟩
      · letI : Inhabited (Fin L.length) := ⟨⟨0, hp⟩⟩
        obtain ⟨gb, cap, inner, rfl, hgb, hgl, hin, hH, hE, hBack⟩ := sorts_in hO hp
        have HBK := Aside0.mk hBack
        have HHd := Aside0.mk hH
        have HEl := Aside0.mk hE
        clear hBack hH hE hO HO
        have hs0 : (Array.ofFn (id : Fin L.length → Fin L.length)).size = L.length := Array.size_ofFn
        obtain ⟨hh, hcc⟩ : (∀ x ∈ L, ∀ y ∈ L, (c x y).isSome = true) ∧ r = ((stableSort (Go.Proofs.ltOf (fun i j => (c (L.get i) (L.get j)).getD 0)) (Array.ofFn (id : Fin L.length → Fin L.length))).toList.map L.get) := by
          have h := HH.out
          unfold sortRows at h
          rw [dif_pos hp] at h
          split at h
          · next h2 => exact ⟨h2.1, (Option.some.inj h).symm⟩
          · cases h
        have hR1 : Go.Proofs.Row1 (encAt inner L.length) (redrawn wr 0) gb 0 (Array.ofFn (id : Fin L.length → Fin L.length)) := ⟨fun x => by obtain ⟨A, cc, e, _⟩ := HEl.out x; rw [e]; rfl, HHd.out, hgl⟩
        have hSW : Go.Proofs.SW (encAt inner L.length) (redrawn wr 0) gb 0 (Array.ofFn (id : Fin L.length → Fin L.length)) wr := by
          have h1 := Go.Proofs.YtkifafenmboefaaDoor.Sorts.SW_regrown (w0 := redrawn wr 0) rfl (Go.Proofs.SW.start HHd.out) wr.drawn #[]
          rw [grow_empty] at h1
          exact h1
        have hcb : CmpBelow Tryd.prog g cb (encAt inner L.length) (fun i j => (c (L.get i) (L.get j)).getD 0) gb 0 (Array.ofFn (id : Fin L.length → Fin L.length)).size (redrawn wr 0) := by
          intro m os dk hdk x y
          obtain ⟨hg1, hE1, _⟩ := HBK.out dk _ (hdk.trans hs0) ⟨m, os, rfl⟩
          obtain ⟨A, ca, ea, la, Ca⟩ := hE1 x
          obtain ⟨B, cb', eb, lb, Cb⟩ := hE1 y
          rw [ea, eb]
          obtain ⟨q, hq⟩ := Option.isSome_iff_exists.1 (hh (L.get x) (List.get_mem L x) (L.get y) (List.get_mem L y))
          simp only [hq, Option.getD_some]
          exact HC.out A ca _ B cb' _ q _ Ca la Cb lb hq (pw_below_grown HB.out _ HB.out.size hg1 (fun k hk => by injection hk with hk; omega))
        have C := sortStable_calls (fun i j => (c (L.get i) (L.get j)).getD 0) g cb cap EG.out hcb hR1 (by rw [hs0]; omega) rfl _ wr rfl hSW
        rw [hs0] at C
        have C2 := Aside0.mk C
        clear C hcb hSW hR1
        go_wp2_with fail
        refine C2.out.mono ?_
        rintro e w5 ⟨rfl, hS5⟩
        have hsz5 : (stableSort (Go.Proofs.ltOf (fun i j => (c (L.get i) (L.get j)).getD 0)) (Array.ofFn (id : Fin L.length → Fin L.length))).size = L.length := (Go.Proofs.YtkifafenmboefaaDoor.Sorts.size_stableSort _ _).trans hs0
        obtain ⟨hg5, _, hR5⟩ := HBK.out _ _ hsz5 hS5
        rw [← hcc] at hR5
        have hB5 : Below w.heap.size w w5 := pw_below_grown HB.out _ HB.out.size hg5 (fun k hk => by injection hk with hk; omega)
        go_wp2
        go_ret
        exact ⟨_, rfl, hR5, hB5⟩

theorem sortRows.mono {c c' : List S33 → List S33 → Option Int} (hc : ∀ x y, LeO (c x y) (c' x y)) (L : List (List S33)) : LeO (sortRows c L) (sortRows c' L) := by
  intro r h
  unfold sortRows at h ⊢
  by_cases hp : 0 < L.length
  · rw [dif_pos hp] at h ⊢
    split at h
    · next h1 =>
      obtain ⟨h2, h3⟩ := h1
      have e : ∀ x ∈ L, ∀ y ∈ L, c' x y = c x y := fun x hx y hy => by
        obtain ⟨q, hq⟩ := Option.isSome_iff_exists.1 (h2 x hx y hy)
        rw [hq, hc x y q hq]
      rw [if_pos ⟨fun x hx y hy => by rw [e x hx y hy]; exact h2 x hx y hy, h3⟩]
      have e2 : (fun i j => (c' (L.get i) (L.get j)).getD 0) = (fun i j : Fin L.length => (c (L.get i) (L.get j)).getD 0) := by
        funext i j
        rw [e _ (List.get_mem L i) _ (List.get_mem L j)]
      rw [e2]
      exact h
    · cases h
  · rw [dif_neg hp] at h ⊢
    exact h

/-! ### tuple.Sort -/
noncomputable def tuple_Sort.f (k : Nat) (l0 : List (List S33)) : Option (List (List S33)) := sortRows (cmpRows k) l0
theorem tuple_Sort.mono : ∀ a0 k, LeO (tuple_Sort.f k a0) (tuple_Sort.f (k + 1) a0) := fun a0 k => sortRows.mono (cmpRows.mono k) a0
theorem tuple_Sort.calls (k : Nat) (A0 : Option Addr) (c0 : Nat) (l0 : List (List S33)) (r : List (List S33)) (w : World) (hr0 : Kd.C (Kd.slice 33 k33) w A0 l0.length l0) (hc0 : l0.length ≤ c0) (h : tuple_Sort.f k l0 = some r) (hG : GW w) :
    Calls Tryd.prog 23 #[.slice A0 l0.length c0] w fun e w' => ∃ v0_ : Value, e = .returned (v0_) ∧ Kd.R (Kd.slice 33 k33) 22 w' w.heap.size (fun _ => True) v0_ r ∧ Below w.heap.size w w' := by
  have C := sorted_calls 10 #[] (cmpRows k) A0 c0 l0 r w (fun args W => enters_ Tryd.func10 (by kernel_rfl) rfl args W) (fun A0 c0 l0 A1 c1 l1 r W h0 hc0 h1 hc1 hr hb => tuple_Compare.calls k A0 c0 l0 A1 c1 l1 r W h0 hc0 h1 hc1 hr (hG.below hb)) hr0 hc0 h
  clear hr0 hG h
  go_enter Tryd.func23, Tryd.ntmps23
  go_wp2_with fail
  refine C.mono ?_
  rintro e w' ⟨v, rfl, hR, hb⟩
  go_wp2
  go_ret
  exact ⟨_, rfl, hR, hb⟩

/-! ### tuple.Order's closure -/
def ordRows (k : Nat) : List S47 → List S33 → List S33 → Option Int
  | [], a, b => (cmpRows k a b).bind fun c => cmp_Compare_int.f c 0
  | x :: xs, a, b => (tuple_at.f a x.f0).bind fun p => (tuple_at.f b x.f0).bind fun q => (value_Compare.f k p.1 p.2.1 p.2.2 q.1 q.2.1 q.2.2).bind fun c => if (if x.f1 = true then wrap64 (-c) else c) = 0 then ordRows k xs a b else some (if x.f1 = true then wrap64 (-c) else c)
theorem ordRows.mono (k : Nat) : ∀ o a b, LeO (ordRows k o a b) (ordRows (k + 1) o a b)
  | [], a, b => LeO.bind (cmpRows.mono k a b) (fun c => LeO.refl _)
  | x :: xs, a, b => by
    unfold ordRows
    exact LeO.bind (LeO.refl _) (fun p => LeO.bind (LeO.refl _) (fun q => LeO.bind (value_Compare.mono _ _ _ _ _ _ _) (fun c => LeO.ite (ordRows.mono k xs a b) (LeO.refl _))))

end Go.Proofs.YtkifafenmboefaaDoor.X
namespace Go.Proofs.YtkifafenmboefaaDoor.X
open Go Go.RowKit Go.Sort Go.Proofs.YtkifafenmboefaaDoorW.PrintWords Go.Proofs.YtkifafenmboefaaDoorW.PrintLast Go.Proofs.YtkifafenmboefaaDoorW.PrintMore
open Go.Proofs.YtkifafenmboefaaDoor.Sorts (stableSort sortStable_calls CmpBelow)
set_option linter.unusedVariables false
set_option linter.unusedSimpArgs false
set_option maxHeartbeats 16000000 in
set_option maxRecDepth 100000 in
theorem OrderCl_calls (k : Nat) (o : List S47) (Ao : Option Addr) (co : Nat) (ao : Addr) (A0 : Option Addr) (c0 : Nat) (l0 : List S33) (A1 : Option Addr) (c1 : Nat) (l1 : List S33) (r : Int) (w : World) (hO : Kd.C k47 w Ao o.length o) (hao : w.cell? ao = some (.slice Ao o.length co))
    (hr0 : Kd.C k33 w A0 l0.length l0) (hc0 : l0.length ≤ c0) (hr1 : Kd.C k33 w A1 l1.length l1) (hc1 : l1.length ≤ c1) (h : ordRows k o l0 l1 = some r) (hG : GW w) :
    Calls Tryd.prog 38 #[.slice A0 l0.length c0, .slice A1 l1.length c1, .pointer (some ao)] w fun e w' => e = .returned (.int .i64 r) ∧ Below w.heap.size w w' := by
  have HG := Aside0.mk hG
  clear hG
  have hu47 := Tryd.underlying47
  have mixed : Tryd.prog.follows .mixedOrders = true := by kernel_rfl
  have HR0 := Aside0.mk hr0
  have HR1 := Aside0.mk hr1
  have HRO := Aside0.mk hO
  have hmo := Kd.C_max hO
  clear hr0 hr1 hO
  have HB0 := Aside0.mk (Below.refl w.heap.size w)
  have H0 : Aside0 (ordRows k (o.drop 0) l0 l1 = some r) := ⟨h⟩
  clear h
  go_enter Tryd.func38, Tryd.ntmps38
  go_wp2
  clear hao
  go_loopg [11] o.length (fun kq v11 w' => ∃ (i : Nat), v11 = .int .i64 i ∧ i ≤ o.length ∧ o.length - i ≤ kq ∧ Aside0 (ordRows k (o.drop i) l0 l1 = some r) ∧ Aside0 (Below w.heap.size w w'))
  case atStart => exact ⟨0, rfl, Nat.zero_le _, Nat.le_refl _, H0, HB0⟩
  case round =>
    clear H0 HB0
    obtain ⟨i, rfl, hi, hk, H, HB⟩ := hrel
    by_cases hlt : i < o.length
    · have hltz : (i : Int) < (o.length : Int) := by omega
      obtain ⟨ad, rfl, hx0, hx1⟩ := at_T47 HRO.out (i : Int) (by omega) hltz
      replace hx0 := (HB.out.cell (World.block_lt_of_cell? w _ hx0)).trans hx0
      replace hx1 := (HB.out.cell (World.block_lt_of_cell? w _ hx1)).trans hx1
      simp only [Int.toNat_natCast] at hx0 hx1
      have H2 := H.out
      rw [List.drop_eq_getElem_cons hlt] at H2
      have eo : o[i] = rd_T47 o i := by simp [rd_T47, hlt]
      rw [eo] at H2
      unfold ordRows at H2
      obtain ⟨⟨p0, p1, p2⟩, hp, H3⟩ := Option.bind_eq_some_iff.mp H2
      obtain ⟨⟨q0, q1, q2⟩, hq, H4⟩ := Option.bind_eq_some_iff.mp H3
      obtain ⟨c, hc, H5⟩ := Option.bind_eq_some_iff.mp H4
      clear H H2 H3 H4
      have HP := Aside0.mk hp
      have HQ := Aside0.mk hq
      have HC := Aside0.mk hc
      have HN := Aside0.mk H5
      clear hp hq hc H5
      go_wp2_with fail
      obtain ⟨W4, hW4⟩ : ∃ W4, W4 = wr.alloc (Obj.cells #[Value.int IntKind.i64 (rd_T47 o i).f0, Value.bool (rd_T47 o i).f1] 47) := ⟨_, rfl⟩
      have hk0 : W4.cell? ⟨wr.heap.size, 0, none⟩ = some (.int .i64 (rd_T47 o i).f0) := by rw [hW4]; simp
      have hk1 : W4.cell? ⟨wr.heap.size, 1, none⟩ = some (.bool (rd_T47 o i).f1) := by rw [hW4]; simp
      have HB4 : Aside0 (Below w.heap.size w W4) := ⟨by rw [hW4]; exact HB.out.alloc HB.out.size _⟩
      rw [← hW4]
      obtain ⟨gx, hgx⟩ : ∃ gx, gx = wr.heap.size := ⟨_, rfl⟩
      rw [← hgx] at hk0 hk1 ⊢
      clear hW4 hgx hx0 hx1 HB
      have hl0 : ∀ d os, (grow (redrawn W4 d) os).cell? ⟨gx, 0, none⟩ = some (.int .i64 (rd_T47 o i).f0) := fun d os => cell_regrown hk0 d os
      have hA1 : ∀ d os, Calls Tryd.prog 39 #[.slice A0 l0.length c0, .int .i64 (rd_T47 o i).f0] (grow (redrawn W4 d) os) fun e w' => e = .returned (.agg #[.int .i64 p0, .int .i64 p1, .string p2]) ∧ Below (grow (redrawn W4 d) os).heap.size (grow (redrawn W4 d) os) w' := fun d os => tuple_at.calls A0 c0 l0 _ p0 p1 p2 _ (Kd.C_below HR0.out (below_step HB4.out (below_regrown W4 d os))) hc0 HP.out (HG.out.below (below_step HB4.out (below_regrown W4 d os)))
      have hA2 : ∀ d os, Calls Tryd.prog 39 #[.slice A1 l1.length c1, .int .i64 (rd_T47 o i).f0] (grow (redrawn W4 d) os) fun e w' => e = .returned (.agg #[.int .i64 q0, .int .i64 q1, .string q2]) ∧ Below (grow (redrawn W4 d) os).heap.size (grow (redrawn W4 d) os) w' := fun d os => tuple_at.calls A1 c1 l1 _ q0 q1 q2 _ (Kd.C_below HR1.out (below_step HB4.out (below_regrown W4 d os))) hc1 HQ.out (HG.out.below (below_step HB4.out (below_regrown W4 d os)))
      have hA3 : ∀ d os, Calls Tryd.prog 32 #[.agg #[.int .i64 p0, .int .i64 p1, .string p2], .agg #[.int .i64 q0, .int .i64 q1, .string q2]] (grow (redrawn W4 d) os) fun e w' => e = .returned (.int .i64 c) ∧ Below (grow (redrawn W4 d) os).heap.size (grow (redrawn W4 d) os) w' := fun d os => value_Compare.calls k _ _ _ _ _ _ c _ HC.out (HG.out.below (below_step HB4.out (below_regrown W4 d os)))
      refine wp_region_quiet_below mixed (by kernel_rfl) ?_
      quiet_step (fail)
      quiet_step (fail)
      quiet_step (fail)
      quiet_step (refine Calls.regrown_of (hA1 _ _))
      quiet_step (fail)
      quiet_step (fail)
      quiet_step (fail)
      quiet_step (refine Calls.regrown_of (hA2 _ _))
      quiet_step (refine Calls.regrown_of (hA3 _ _))
      quiet_step (fail)
      refine wpQuiet_nil ?_
      intro _ hw'
      obtain ⟨⟨nq, osq⟩, hw''⟩ := hw'
      subst hw''
      obtain ⟨W5, hW5⟩ : ∃ W5, W5 = grow (redrawn W4 nq) osq := ⟨_, rfl⟩
      have hm1 : W5.cell? ⟨gx, 1, none⟩ = some (.bool (rd_T47 o i).f1) := by rw [hW5]; exact cell_regrown hk1 nq osq
      have HB5 : Aside0 (Below w.heap.size w W5) := ⟨by rw [hW5]; exact below_step HB4.out (below_regrown W4 nq osq)⟩
      rw [← hW5]
      clear hW5 hA1 hA2 hA3 hk0 hk1 hl0 HB4 HP HQ HC
      obtain ⟨b, hb⟩ : ∃ b, b = (rd_T47 o i).f1 := ⟨_, rfl⟩
      rw [← hb] at hm1 HN
      obtain ⟨n0, hn0⟩ : ∃ n0, n0 = (rd_T47 o i).f0 := ⟨_, rfl⟩
      rw [← hb, ← hn0]
      clear hb hn0
      cases b with
      | true =>
        have H5 := HN.out
        simp only [if_true] at H5
        by_cases hz : wrap64 (-c) = 0
        · rw [if_pos hz] at H5
          go_wp2_with fail
          go_roundg (o.length - (i + 1))
          case measure => omega
          case rel => exact ⟨i + 1, by go_num, hlt, Nat.le_refl _, ⟨H5⟩, HB5⟩
        · rw [if_neg hz] at H5
          go_wp2_with fail
          go_ret
          refine ⟨?_, HB5.out⟩
          rw [← Option.some.inj H5]
          rfl
      | false =>
        have H5 := HN.out
        simp only [Bool.false_eq_true, if_false] at H5
        by_cases hz : c = 0
        · rw [if_pos hz] at H5
          go_wp2_with fail
          go_roundg (o.length - (i + 1))
          case measure => omega
          case rel => exact ⟨i + 1, by go_num, hlt, Nat.le_refl _, ⟨H5⟩, HB5⟩
        · rw [if_neg hz] at H5
          go_wp2_with fail
          go_ret
          refine ⟨?_, HB5.out⟩
          rw [← Option.some.inj H5]
          rfl
    · have hltz : ¬ (i : Int) < (o.length : Int) := by omega
      obtain rfl : i = o.length := by omega
      have H2 := H.out
      rw [List.drop_length] at H2
      unfold ordRows at H2
      obtain ⟨c, hc, hc2⟩ := Option.bind_eq_some_iff.mp H2
      have C1 := tuple_Compare.calls k A0 c0 l0 A1 c1 l1 c wr (Kd.C_below HR0.out HB.out) hc0 (Kd.C_below HR1.out HB.out) hc1 hc (HG.out.below HB.out)
      have HC2 := Aside0.mk hc2
      clear H H2 hc hc2
      go_wp2_with fail
      refine C1.mono ?_
      rintro e w2 ⟨rfl, hb2⟩
      have HB2 : Aside0 (Below w.heap.size w w2) := ⟨below_step HB.out hb2⟩
      clear hb2 HB
      have C2 := cmp_Compare_int.calls c 0 r w2 HC2.out (HG.out.below HB2.out)
      clear HC2
      go_wp2_with fail
      refine C2.mono ?_
      rintro e w3 ⟨rfl, d3⟩
      have HB3 : Aside0 (Below w.heap.size w w3) := ⟨by exact below_step HB2.out (Drawn0.below d3)⟩
      clear d3
      go_wp2
      go_ret
      exact ⟨rfl, HB3.out⟩

/-! ### tuple.Order -/
noncomputable def tuple_Order.f (k : Nat) (l0 : List (List S33)) (l1 : List S47) : Option (List (List S33)) := sortRows (ordRows k l1) l0
theorem tuple_Order.mono : ∀ a0 a1 k, LeO (tuple_Order.f k a0 a1) (tuple_Order.f (k + 1) a0 a1) := fun a0 a1 k => sortRows.mono (ordRows.mono k a1) a0
set_option maxHeartbeats 4000000 in
theorem tuple_Order.calls (k : Nat) (A0 : Option Addr) (c0 : Nat) (l0 : List (List S33)) (A1 : Option Addr) (c1 : Nat) (l1 : List S47) (r : List (List S33)) (w : World) (hr0 : Kd.C (Kd.slice 33 k33) w A0 l0.length l0) (hc0 : l0.length ≤ c0) (hr1 : Kd.C k47 w A1 l1.length l1) (hc1 : l1.length ≤ c1) (h : tuple_Order.f k l0 l1 = some r) (hG : GW w) :
    Calls Tryd.prog 17 #[.slice A0 l0.length c0, .slice A1 l1.length c1] w fun e w' => ∃ v0_ : Value, e = .returned (v0_) ∧ Kd.R (Kd.slice 33 k33) 22 w' w.heap.size (fun _ => True) v0_ r ∧ Below w.heap.size w w' := by
  have HR0 := Aside0.mk hr0
  have HR1 := Aside0.mk hr1
  have HG := Aside0.mk hG
  have HH := Aside0.mk h
  clear hr0 hr1 hG h
  go_enter Tryd.func17, Tryd.ntmps17
  go_wp2_with fail
  obtain ⟨W1, hW1⟩ : ∃ W1, W1 = w.alloc (Obj.cells #[Value.slice A1 l1.length c1] 27) := ⟨_, rfl⟩
  have hk0 : W1.cell? ⟨w.heap.size, 0, none⟩ = some (.slice A1 l1.length c1) := by rw [hW1]; simp
  have HB : Aside0 (Below w.heap.size w W1) := ⟨by rw [hW1]; exact (Below.refl w.heap.size w).alloc (Nat.le_refl _) _⟩
  have hsz : W1.heap.size = w.heap.size + 1 := by rw [hW1]; simp
  rw [← hW1]
  have C := sorted_calls 38 #[.pointer (some ⟨w.heap.size, 0, none⟩)] (ordRows k l1) A0 c0 l0 r W1 (fun args W => enters_ Tryd.func38 (by kernel_rfl) rfl args W) (fun A0 c0 l0 A2 c2 l2 r W h0 hc0 h1 hc2 hr hb => OrderCl_calls k l1 A1 c1 _ A0 c0 l0 A2 c2 l2 r W (Kd.C_below HR1.out (below_step HB.out hb)) ((hb.cell (by rw [hsz]; exact Nat.lt_succ_self _)).trans hk0) h0 hc0 h1 hc2 hr (HG.out.below (below_step HB.out hb))) (Kd.C_below HR0.out HB.out) hc0 HH.out
  refine C.mono ?_
  rintro e w' ⟨v, rfl, hR, hb⟩
  have hR2 := Kd.R_lower hR (show w.heap.size ≤ W1.heap.size by omega)
  have HR2 := Aside0.mk hR2
  have HB2 : Aside0 (Below w.heap.size w w') := ⟨below_step HB.out hb⟩
  clear hR hR2 hb C
  go_wp2
  go_ret
  exact ⟨_, rfl, HR2.out, HB2.out⟩

/-! ### tuple.Same -/
def eqRows (k : Nat) : List (List S33) → List (List S33) → Option Bool
  | a :: s, b :: bs => (tuple_Equal.f k a b).bind fun t => if t = true then eqRows k s bs else some false
  | _, _ => some true
theorem eqRows.mono (k : Nat) : ∀ a b, LeO (eqRows k a b) (eqRows (k + 1) a b)
  | [], b => by unfold eqRows; exact LeO.refl _
  | a :: s, [] => by unfold eqRows; exact LeO.refl _
  | a :: s, b :: bs => by
    unfold eqRows
    exact LeO.bind (tuple_Equal.mono _ _ _) (fun t => LeO.ite (eqRows.mono k s bs) (LeO.refl _))
set_option maxHeartbeats 8000000 in
set_option maxRecDepth 100000 in
theorem EqualFunc_calls (k : Nat) (A0 : Option Addr) (c0 : Nat) (l0 : List (List S33)) (A1 : Option Addr) (c1 : Nat) (l1 : List (List S33)) (r : Bool) (w : World) (hr0 : Kd.C (Kd.slice 33 k33) w A0 l0.length l0) (hc0 : l0.length ≤ c0) (hr1 : Kd.C (Kd.slice 33 k33) w A1 l1.length l1) (hc1 : l1.length ≤ c1) (h : (if l0.length = l1.length then eqRows k l0 l1 else some false) = some r) (hG : GW w) :
    Calls Tryd.prog 47 #[.slice A0 l0.length c0, .slice A1 l1.length c1, .func (.func 12) #[] #[]] w fun e w' => e = .returned (.bool r) ∧ Below w.heap.size w w' := by
  have HR0 := Aside0.mk hr0
  have HR1 := Aside0.mk hr1
  have hm0 := Kd.C_max hr0
  have HG := Aside0.mk hG
  clear hr0 hr1 hG
  have HB0 := Aside0.mk (Below.refl w.heap.size w)
  by_cases hl : l0.length = l1.length
  · have hz : (l0.length : Int) = (l1.length : Int) := by omega
    rw [if_pos hl] at h
    have H0 : Aside0 (eqRows k (l0.drop 0) (l1.drop 0) = some r) := ⟨h⟩
    clear h
    go_enter Tryd.func47, Tryd.ntmps47
    go_wp2
    have HL := Aside0.mk hl
    clear hl hz
    go_loopg [17] l0.length (fun kq v17 w' => ∃ (i : Nat), v17 = .int .i64 i ∧ i ≤ l0.length ∧ l0.length - i ≤ kq ∧ Aside0 (eqRows k (l0.drop i) (l1.drop i) = some r) ∧ Aside0 (Below w.heap.size w w'))
    case atStart => exact ⟨0, rfl, Nat.zero_le _, Nat.le_refl _, H0, HB0⟩
    case round =>
      clear H0 HB0
      obtain ⟨i, rfl, hi, hk, H, HB⟩ := hrel
      by_cases hlt : i < l0.length
      · have hltz : (i : Int) < (l0.length : Int) := by omega
        have hlt1 : i < l1.length := by have := HL.out; omega
        have hltz1 : (i : Int) < (l1.length : Int) := by omega
        obtain ⟨ad0, B0, d0, rfl, hx0, hd0, hC0⟩ := at_L3 HR0.out (i : Int) (by omega) hltz
        obtain ⟨ad1, B1, d1, rfl, hx1, hd1, hC1⟩ := at_L3 HR1.out (i : Int) (by omega) hltz1
        simp only [Int.toNat_natCast] at hx0 hx1
        replace hx0 := (HB.out.cell (World.block_lt_of_cell? w _ hx0)).trans hx0
        replace hx1 := (HB.out.cell (World.block_lt_of_cell? w _ hx1)).trans hx1
        have H2 := H.out
        rw [List.drop_eq_getElem_cons hlt, List.drop_eq_getElem_cons hlt1] at H2
        have e0 : l0[i] = rd_L3 l0 i := by simp [rd_L3, hlt]
        have e1 : l1[i] = rd_L3 l1 i := by simp [rd_L3, hlt1]
        rw [e0, e1] at H2
        unfold eqRows at H2
        obtain ⟨t, ht, H3⟩ := Option.bind_eq_some_iff.mp H2
        clear H H2
        have C := tuple_Equal.calls k B0 d0 (rd_L3 l0 i) B1 d1 (rd_L3 l1 i) t wr (Kd.C_below hC0 HB.out) hd0 (Kd.C_below hC1 HB.out) hd1 ht (HG.out.below HB.out)
        have HN := Aside0.mk H3
        clear H3 ht hC0 hC1
        go_wp2_with fail
        refine C.mono ?_
        rintro e w2 ⟨rfl, hb⟩
        have HB2 : Aside0 (Below w.heap.size w w2) := ⟨below_step HB.out hb⟩
        clear hb HB hx0 hx1 C
        cases t with
        | true =>
          have hN := HN.out
          rw [if_pos rfl] at hN
          have HN2 := Aside0.mk hN
          clear hN HN
          go_wp2
          go_roundg (l0.length - (i + 1))
          case measure => omega
          case rel => exact ⟨i + 1, by go_num, hlt, Nat.le_refl _, HN2, HB2⟩
        | false =>
          have hN := HN.out
          simp only [Bool.false_eq_true, if_false] at hN
          obtain rfl := Option.some.inj hN
          go_wp2
          go_ret
          exact ⟨rfl, HB2.out⟩
      · have hge : ¬ (i : Int) < (l1.length : Int) := by have := HL.out; omega
        obtain rfl : i = l0.length := by omega
        have H2 := H.out
        rw [List.drop_length] at H2
        obtain rfl : true = r := by
          have e : l1.drop l0.length = [] := List.drop_eq_nil_of_le (by have := HL.out; omega)
          rw [e] at H2
          exact Option.some.inj H2
        go_wp2
        go_ret
        exact ⟨rfl, HB.out⟩
  · have hz : ¬ (l0.length : Int) = (l1.length : Int) := by omega
    rw [if_neg hl] at h
    obtain rfl := Option.some.inj h
    go_enter Tryd.func47, Tryd.ntmps47
    go_wp2
    go_ret
    exact ⟨rfl, HB0.out⟩

noncomputable def tuple_Same.f (k : Nat) (l0 : List (List S33)) (l1 : List (List S33)) : Option Bool := (tuple_Sort.f k l0).bind fun a => (tuple_Sort.f k l1).bind fun b => if a.length = b.length then eqRows k a b else some false
theorem tuple_Same.mono : ∀ a0 a1 k, LeO (tuple_Same.f k a0 a1) (tuple_Same.f (k + 1) a0 a1) := fun a0 a1 k => LeO.bind (tuple_Sort.mono _ _) (fun a => LeO.bind (tuple_Sort.mono _ _) (fun b => LeO.ite (eqRows.mono k a b) (LeO.refl _)))
set_option maxHeartbeats 4000000 in
theorem tuple_Same.calls (k : Nat) (A0 : Option Addr) (c0 : Nat) (l0 : List (List S33)) (A1 : Option Addr) (c1 : Nat) (l1 : List (List S33)) (r : Bool) (w : World) (hr0 : Kd.C (Kd.slice 33 k33) w A0 l0.length l0) (hc0 : l0.length ≤ c0) (hr1 : Kd.C (Kd.slice 33 k33) w A1 l1.length l1) (hc1 : l1.length ≤ c1) (h : tuple_Same.f k l0 l1 = some r) (hG : GW w) :
    Calls Tryd.prog 24 #[.slice A0 l0.length c0, .slice A1 l1.length c1] w fun e w' => e = .returned (.bool r) ∧ Below w.heap.size w w' := by
  obtain ⟨a, ha, h⟩ := Option.bind_eq_some_iff.mp h
  obtain ⟨b, hb, h⟩ := Option.bind_eq_some_iff.mp h
  have HR1 := Aside0.mk hr1
  have HG := Aside0.mk hG
  have HH := Aside0.mk h
  have HHb := Aside0.mk hb
  have C := tuple_Sort.calls k A0 c0 l0 a w hr0 hc0 ha hG
  clear hr0 hr1 hG h ha hb
  go_enter Tryd.func24, Tryd.ntmps24
  go_wp2_with fail
  refine C.mono ?_
  rintro e w1 ⟨v, rfl, hR, hb⟩
  obtain ⟨A2, c2, rfl, hc2, hC2⟩ := Kd.R_reads hR
  have HB := Aside0.mk hb
  have HRa := Aside0.mk hC2
  clear C hb hR hC2
  have C := tuple_Sort.calls k A1 c1 l1 b w1 (Kd.C_below HR1.out HB.out) hc1 HHb.out (HG.out.below HB.out)
  clear HHb HR1
  go_wp2_with fail
  refine C.mono ?_
  rintro e w2 ⟨v, rfl, hR, hb⟩
  obtain ⟨A3, c3, rfl, hc3, hC3⟩ := Kd.R_reads hR
  have HRb := Aside0.mk hC3
  have HRa2 := Aside0.mk (Kd.C_below HRa.out hb)
  have HB2 : Aside0 (Below w.heap.size w w2) := ⟨below_step HB.out hb⟩
  clear C hb hR hC3 HB HRa
  have C := EqualFunc_calls k A2 c2 a A3 c3 b r w2 HRa2.out hc2 HRb.out hc3 HH.out (HG.out.below HB2.out)
  go_wp2_with fail
  refine C.mono ?_
  rintro e w3 ⟨rfl, hb⟩
  have HB3 : Aside0 (Below w.heap.size w w3) := ⟨below_step HB2.out hb⟩
  clear C hb
  go_wp2
  go_ret
  exact ⟨rfl, HB3.out⟩
end Go.Proofs.YtkifafenmboefaaDoor.X
