/- A row of rows of the call's own (the print's R) as a row of places (one place more stands for the nil row), and back. Conditions: those in each theorem. / Hand-walked: tuple.Distinct over slices.CompactFunc, as a plain Lean function, and the proof that the call comes to what it says. Conditions: those in each theorem. -/
import Derived.Test.YtkifafenmboefaaDoorX19
import Derived.Test.YtkifafenmboefaaDoorSA
import Derived.Test.YtkifafenmboefaaDoorH3
import Derived.Lib.SliceRun
namespace Go.Proofs.YtkifafenmboefaaDoor.X
open Go Go.RowKit Go.Sort Go.Proofs.YtkifafenmboefaaDoorW.PrintWords Go.Proofs.YtkifafenmboefaaDoorW.PrintLast Go.Proofs.YtkifafenmboefaaDoorW.PrintMore
set_option linter.unusedVariables false
set_option linter.unusedSimpArgs false

def encZ (inner : List Value) (n : Nat) (i : Fin (n + 1)) : Value := if i.val < n then inner.getD i.val undef else .slice none 0 0
def LZ (L : List (List S33)) (i : Fin (L.length + 1)) : List S33 := L.getD i.val []
def dZ (n : Nat) : Array (Fin (n + 1)) := Array.ofFn fun i : Fin n => ⟨i.val, Nat.lt_succ_of_lt i.isLt⟩
theorem dZ_size (n : Nat) : (dZ n).size = n := Array.size_ofFn
theorem dZ_at (n j : Nat) (hj : j < n) : (dZ n)[j]! = ⟨j, Nat.lt_succ_of_lt hj⟩ := by
  rw [getElem!_pos _ j (by rw [dZ_size]; exact hj)]
  simp [dZ]

theorem sorts_in2 {w : World} {base : Nat} {ok : Nat → Prop} {v : Value} {L : List (List S33)} (hR : Kd.R (Kd.slice 33 k33) 22 w base ok v L) (hp : 0 < L.length) :
    ∃ g cap inner, v = .slice (some ⟨g, 0, none⟩) L.length cap ∧ base ≤ g ∧ g < w.heap.size ∧ inner.length = L.length ∧
      Holds (encZ inner L.length) (redrawn w 0) g 0 (dZ L.length) ∧ (∀ i : Fin (L.length + 1), ∃ A c, encZ inner L.length i = .slice A (LZ L i).length c ∧ (LZ L i).length ≤ c ∧ Kd.C k33 w A (LZ L i).length (LZ L i)) ∧
      ∀ (d : Array (Fin (L.length + 1))) (w' : World), d.size = L.length → SW (encZ inner L.length) (redrawn w 0) g 0 d w' → w.grownBy w' (some g) ∧ (∀ i : Fin (L.length + 1), ∃ A c, encZ inner L.length i = .slice A (LZ L i).length c ∧ (LZ L i).length ≤ c ∧ Kd.C k33 w' A (LZ L i).length (LZ L i)) ∧ Kd.R (Kd.slice 33 k33) 22 w' base ok v (d.toList.map (LZ L)) := by
  obtain ⟨h0, inner, hown, hreps⟩ := hR
  obtain ⟨hlen, hsh⟩ := hown
  have hlen' : inner.length = L.length := by rw [hlen]; exact Nat.mul_one _
  rcases hsh with ⟨_, hz⟩ | ⟨g, cap, cur, rfl, hg, hh, hnc, hcm, hcs, ht⟩
  · omega
  have hcs' : cur.size = cap := by rw [hcs]; exact Nat.mul_one _
  have ht' : cur.toList.take L.length = inner := by rw [← ht]; congr 1; exact (Nat.mul_one _).symm
  have hcur : ∀ j, j < L.length → cur[j]? = some (inner.getD j undef) := by
    intro j hj
    have h1 : inner[j]? = cur[j]? := by rw [← ht', List.getElem?_take_of_lt hj, Array.getElem?_toList]
    rw [← h1, List.getElem?_eq_getElem (by omega)]
    simp [List.getD_eq_getElem?_getD, List.getElem?_eq_getElem (show j < inner.length by omega)]
  have helem : ∀ (i : Fin (L.length + 1)), (Kd.slice 33 k33).M w base (fun k => ok k ∧ some k ≠ some g) (LZ L i) [encZ inner L.length i] := by
    intro i
    by_cases hi0 : i.val < L.length
    · have e0 : LZ L i = L[i.val] := by simp [LZ, hi0]
      have h1 := hreps.2 i.val (LZ L i) (by rw [e0]; exact List.getElem?_eq_getElem hi0)
      have h2 : (inner.drop (i.val * 1)).take 1 = [encZ inner L.length i] := by
        have hi : i.val < inner.length := by omega
        have h5 : encZ inner L.length i = inner[i.val] := by simp [encZ, hi0, hi]
        rw [Nat.mul_one, List.drop_eq_getElem_cons hi, h5]
        rfl
      have h3 : (inner.drop (i.val * (Kd.slice 33 k33).sz)).take (Kd.slice 33 k33).sz = [encZ inner L.length i] := h2
      rw [h3] at h1
      exact h1
    · have e0 : LZ L i = [] := by unfold LZ; rw [List.getD_eq_getElem?_getD, List.getElem?_eq_none (by omega)]; rfl
      have e1 : encZ inner L.length i = .slice none 0 0 := by unfold encZ; rw [if_neg hi0]
      rw [e0, e1]
      exact ⟨_, rfl, Kd.R_nil _ _ _ _ _⟩
  refine ⟨g, cap, inner, rfl, hg, (Array.getElem?_eq_some_iff.1 hh).1, hlen', fun j hj => ?_, fun i => ?_, fun d w' hd hS => ?_⟩
  · have hj' : j < L.length := by rw [dZ_size] at hj; exact hj
    rw [dZ_at _ j hj', Nat.zero_add]
    refine ⟨?_, blk_frozen (w := redrawn w 0) hh j⟩
    rw [blk_cell (w := redrawn w 0) hh j, hcur j hj']
    simp [encZ, hj']
  · obtain ⟨v1, hv, hR1⟩ := helem i
    obtain rfl : encZ inner L.length i = v1 := by injection hv
    obtain ⟨A, c, e1⟩ := Kd.R_slice hR1
    rw [e1] at hR1
    obtain ⟨_, h2, h3⟩ := Kd.R_reads' hR1
    exact ⟨A, c, e1, h2, h3⟩
  · obtain ⟨m, os, rfl⟩ := hS
    have hgl : g < w.heap.size := (Array.getElem?_eq_some_iff.1 hh).1
    have hk : ∀ k, k < w.heap.size → k ≠ g → (sortWorld (encZ inner L.length) (redrawn w 0) g 0 m d os).heap[k]? = w.heap[k]? := by
      intro k hk hne
      unfold sortWorld grow putRow mapBlock
      simp only []
      rw [Array.getElem?_append_left (by rw [Array.size_modify]; exact hk), Array.getElem?_modify, if_neg (Ne.symm hne)]
      rfl
    have hgW : (sortWorld (encZ inner L.length) (redrawn w 0) g 0 m d os).heap[g]? = some (.cells (putCells (encZ inner L.length) 0 d cur) 22 (0, 0)) := by
      unfold sortWorld grow putRow mapBlock
      simp only []
      rw [Array.getElem?_append_left (by rw [Array.size_modify]; exact hgl), Array.getElem?_modify, if_pos rfl]
      show (w.heap[g]?).map _ = _
      rw [hh]
      rfl
    have hgr : w.grownBy (sortWorld (encZ inner L.length) (redrawn w 0) g 0 m d os) (some g) := by
      refine ⟨rfl, rfl, rfl, ?_, fun k h1 h2 => hk k h1 (fun e => h2 (by rw [e]))⟩
      unfold sortWorld
      rw [size_grow, size_putRow]
      exact Nat.le_add_right _ _
    refine ⟨hgr, fun i => ?_, h0, d.toList.map (encZ inner L.length), ⟨?_, .inr ⟨g, cap, putCells (encZ inner L.length) 0 d cur, ?_, hg, hgW, ?_, hcm, ?_, ?_⟩⟩, ?_, ?_⟩
    · obtain ⟨v1, hv, hR1⟩ := Kd.M_grown (helem i) hgr (fun k hk => hk.2)
      obtain rfl : encZ inner L.length i = v1 := by injection hv
      obtain ⟨A, c, e1⟩ := Kd.R_slice hR1
      rw [e1] at hR1
      obtain ⟨_, h2, h3⟩ := Kd.R_reads' hR1
      exact ⟨A, c, e1, h2, h3⟩
    · simp only [List.length_map, Array.length_toList, hd]; exact (Nat.mul_one _).symm
    · simp [hd]
    · rw [List.length_map, Array.length_toList, hd]; exact hnc
    · simp only [putCells, Array.size_mapIdx]; exact hcs
    · have e1 : (d.toList.map (LZ L)).length * (Kd.slice 33 k33).sz = L.length := by rw [List.length_map, Array.length_toList, hd]; exact Nat.mul_one _
      rw [e1]
      refine List.ext_getElem? fun j => ?_
      by_cases hj : j < L.length
      · have hjc : j < cur.size := by rw [hcs']; omega
        have hjd : j < d.size := by omega
        rw [List.getElem?_take_of_lt hj, Array.getElem?_toList, List.getElem?_map, Array.getElem?_toList]
        simp only [putCells]
        rw [Array.getElem?_mapIdx, Array.getElem?_eq_getElem hjc, Array.getElem?_eq_getElem hjd]
        simp only [Option.map_some]
        rw [if_pos ⟨Nat.zero_le _, by omega⟩, Nat.sub_zero, getElem!_pos d j hjd]
      · rw [List.getElem?_eq_none (by rw [List.length_take]; omega), List.getElem?_eq_none (by rw [List.length_map, Array.length_toList]; omega)]
    · simp only [List.length_map]; exact (Nat.mul_one _).symm
    · intro j p hj
      rw [List.getElem?_map, Array.getElem?_toList] at hj
      obtain ⟨i, hi, rfl⟩ := Option.map_eq_some_iff.1 hj
      have hjd : j < d.size := (Array.getElem?_eq_some_iff.1 hi).1
      have h5 : ((d.toList.map (encZ inner L.length)).drop (j * 1)).take 1 = [encZ inner L.length i] := by
        have hjl : j < (d.toList.map (encZ inner L.length)).length := by rw [List.length_map, Array.length_toList]; exact hjd
        rw [Nat.mul_one, List.drop_eq_getElem_cons hjl]
        have h6 : (d.toList.map (encZ inner L.length))[j] = encZ inner L.length i := by
          rw [List.getElem_map, Array.getElem_toList]
          rw [(Array.getElem?_eq_some_iff.1 hi).2]
        rw [h6]
        rfl
      have h7 : ((d.toList.map (encZ inner L.length)).drop (j * (Kd.slice 33 k33).sz)).take (Kd.slice 33 k33).sz = [encZ inner L.length i] := h5
      rw [h7]
      exact Kd.M_grown (helem i) hgr (fun k hk => hk.2)
end Go.Proofs.YtkifafenmboefaaDoor.X
namespace Go.Proofs.YtkifafenmboefaaDoor.X
open Go Go.RowKit Go.Sort Go.Proofs.YtkifafenmboefaaDoorW.PrintWords Go.Proofs.YtkifafenmboefaaDoorW.PrintLast Go.Proofs.YtkifafenmboefaaDoorW.PrintMore
open Go.Proofs.YtkifafenmboefaaDoor.Sorts (SW_regrown SW_clr)
set_option linter.unusedVariables false
set_option linter.unusedSimpArgs false
theorem SW_put {α : Type} [Inhabited α] {enc : α → Value} {w0 W : World} {blk off : Nat} {dk : Array α} (h : SW enc w0 blk off dk W) (hblk : blk < w0.heap.size) (i : Nat) (x : α) (hi : i < dk.size) :
    SW enc w0 blk off (dk.setIfInBounds i x) (W.setCell ⟨blk, off + i, none⟩ (enc x)) := by
  obtain ⟨n, os, rfl⟩ := h
  refine ⟨n, os, ?_⟩
  unfold sortWorld
  rw [← putRow_grow enc (Sort.ahead w0 n) os blk off dk hblk, putRow_set enc _ blk off dk i x hi, putRow_grow enc (Sort.ahead w0 n) os blk off _ hblk]
theorem SW_puts {α : Type} [Inhabited α] {enc : α → Value} {w0 : World} {blk : Nat} (hblk : blk < w0.heap.size) (x : α) : ∀ (t m : Nat) (dk : Array α) (W : World), SW enc w0 blk 0 dk W → m + t ≤ dk.size →
    ∃ dk' : Array α, dk'.size = dk.size ∧ (∀ j, j < m → dk'[j]! = dk[j]!) ∧ SW enc w0 blk 0 dk' (W.setCells blk m (List.replicate t (enc x)))
  | 0, m, dk, W, h, _ => ⟨dk, rfl, fun _ _ => rfl, h⟩
  | t + 1, m, dk, W, h, hm => by
    have h1 := SW_put h hblk m x (by omega)
    rw [Nat.zero_add] at h1
    obtain ⟨dk', e1, e2, e3⟩ := SW_puts hblk x t (m + 1) _ _ h1 (by rw [Array.size_setIfInBounds]; omega)
    refine ⟨dk', by rw [e1, Array.size_setIfInBounds], fun j hj => ?_, e3⟩
    rw [e2 j (by omega)]
    by_cases hs : j < dk.size
    · rw [getElem!_pos _ j (by rw [Array.size_setIfInBounds]; exact hs), getElem!_pos dk j hs, Array.getElem_setIfInBounds_ne _ (by omega)]
    · omega
/-- The rows that differ from the one before them. -/
def compF (k : Nat) : List S33 → List (List S33) → Option (List (List S33))
  | _, [] => some []
  | p, y :: ys => (tuple_Equal.f k y p).bind fun b => (compF k y ys).bind fun r => some (if b = true then r else y :: r)
theorem compF.mono (k : Nat) : ∀ p l, LeO (compF k p l) (compF (k + 1) p l)
  | _, [] => LeO.refl _
  | p, y :: ys => by
    unfold compF
    exact LeO.bind (tuple_Equal.mono _ _ _) (fun b => LeO.bind (compF.mono k y ys) (fun r => LeO.refl _))
def compactF (k : Nat) : List (List S33) → Option (List (List S33))
  | [] => some []
  | x :: xs => (compF k x xs).bind fun r => some (x :: r)
theorem compactF.mono (k : Nat) : ∀ l, LeO (compactF k l) (compactF (k + 1) l)
  | [] => LeO.refl _
  | x :: xs => LeO.bind (compF.mono k x xs) (fun r => LeO.refl _)
theorem compactF_some {k : Nat} {L r : List (List S33)} (h : compactF k L = some r) (hL : 0 < L.length) : ∃ rr, compF k (L.getD 0 []) (L.drop 1) = some rr ∧ r = L.take 1 ++ rr := by
  cases L with
  | nil => simp at hL
  | cons x xs =>
    obtain ⟨rr, h1, h2⟩ := Option.bind_eq_some_iff.mp h
    exact ⟨rr, h1, (Option.some.inj h2).symm⟩
theorem compF_step {k : Nat} {p : List S33} {L : List (List S33)} {rr : List (List S33)} {i : Nat} (hi : i < L.length) (h : compF k p (L.drop i) = some rr) :
    ∃ b t, tuple_Equal.f k (L.getD i []) p = some b ∧ compF k (L.getD i []) (L.drop (i + 1)) = some t ∧ rr = if b = true then t else L.getD i [] :: t := by
  have e : L.getD i [] = L[i] := by simp [hi]
  rw [List.drop_eq_getElem_cons hi] at h
  unfold compF at h
  obtain ⟨b, h1, h2⟩ := Option.bind_eq_some_iff.mp h
  obtain ⟨t, h3, h4⟩ := Option.bind_eq_some_iff.mp h2
  rw [e]
  exact ⟨b, t, h1, h3, (Option.some.inj h4).symm⟩
theorem compF_end {k : Nat} {p : List S33} {L : List (List S33)} {rr : List (List S33)} (h : compF k p (L.drop L.length) = some rr) : rr = [] := by
  rw [List.drop_length] at h
  exact (Option.some.inj h).symm
theorem takeZ (n : Nat) (L : List (List S33)) (hn : L.length = n) (d : Array (Fin (L.length + 1))) (hd : d.size = n) (m : Nat) (hm : m ≤ n) (h : ∀ x (hx : x < m), d[x]! = ⟨x, by omega⟩) : (d.toList.map (LZ L)).take m = L.take m := by
  apply List.ext_getElem
  · simp; omega
  · intro i h1 h2
    have hi : i < m := by rw [List.length_take] at h2; omega
    have hid : i < d.size := by omega
    have e := h i hi
    rw [getElem!_pos d i hid] at e
    simp only [List.getElem_take, List.getElem_map, Array.getElem_toList, e]
    simp [LZ, show i < L.length by omega]
set_option maxHeartbeats 32000000 in
set_option maxRecDepth 100000 in
theorem CompactFunc_calls (k : Nat) (A : Option Addr) (c base : Nat) (L : List (List S33)) (r : List (List S33)) (w0 w : World) (hR : Kd.R (Kd.slice 33 k33) 22 w base (fun _ => True) (.slice A L.length c) L) (HB0 : Below w0.heap.size w0 w) (hbase : w0.heap.size ≤ base)
    (h : compactF k L = some r) (hG : GW w0) :
    Calls Tryd.prog 49 #[.slice A L.length c, .func (.func 12) #[] #[]] w fun e w' => ∃ v0_ : Value, e = .returned (v0_) ∧ Kd.R (Kd.slice 33 k33) 22 w' base (fun _ => True) v0_ r ∧ Below w0.heap.size w0 w' := by
  have mixed : Tryd.prog.follows .mixedOrders = true := by kernel_rfl
  by_cases hn2 : L.length < 2
  · have hr : r = L := by
      match L, hn2 with
      | [], _ => exact (Option.some.inj h).symm
      | [x], _ => exact (Option.some.inj h).symm
    subst hr
    have hz : (r.length : Int) < 2 := by omega
    have HR := Aside0.mk hR
    have HB := Aside0.mk HB0
    clear hR HB0 h hG
    go_enter Tryd.func49, Tryd.ntmps49
    go_wp2
    go_ret
    exact ⟨_, rfl, HR.out, HB.out⟩
  · have hz : ¬ (L.length : Int) < 2 := by omega
    obtain ⟨g, cap, inner, eg, hgb, hgl, hin, hH, hE, hBack⟩ := sorts_in2 hR (by omega)
    obtain ⟨rfl, -, rfl⟩ := Value.slice.inj eg
    have hcap : L.length ≤ c := (Kd.R_reads' hR).2.1
    have hmax : L.length ≤ 9223372036854775807 := Kd.C_max (Kd.R_reads' hR).2.2
    clear eg
    have HG := Aside0.mk hG
    have HBK := Aside0.mk hBack
    have HB := Aside0.mk HB0
    have R : Go.Proofs.Row1 (encZ inner L.length) (redrawn w 0) g 0 (dZ L.length) := ⟨fun x => by obtain ⟨A, cc, e, _⟩ := hE x; rw [e]; rfl, hH, hgl⟩
    have S0 : Aside (SW (encZ inner L.length) (redrawn w 0) g 0 (dZ L.length) w) := by
      have h1 := SW_regrown (w0 := redrawn w 0) rfl (SW.start hH) w.drawn #[]
      rw [grow_empty] at h1
      exact h1
    clear hG hBack HB0 hR hE hH
    have hcall : ∀ (dk : Array (Fin (L.length + 1))) (W : World) (x y : Fin (L.length + 1)) (b : Bool), dk.size = L.length → SW (encZ inner L.length) (redrawn w 0) g 0 dk W → tuple_Equal.f k (LZ L x) (LZ L y) = some b → ∀ d os,
        Calls Tryd.prog 12 #[encZ inner L.length x, encZ inner L.length y] (grow (redrawn W d) os) fun e w' => e = .returned (.bool b) ∧ Below (grow (redrawn W d) os).heap.size (grow (redrawn W d) os) w' := by
      intro dk W x y b hd hS hf d os
      obtain ⟨hg1, hE1, _⟩ := HBK.out dk _ hd (SW_regrown (w0 := redrawn w 0) rfl hS d os)
      obtain ⟨A, ca, ea, la, Ca⟩ := hE1 x
      obtain ⟨B, cb, eb, lb, Cb⟩ := hE1 y
      rw [ea, eb]
      exact tuple_Equal.calls k A ca _ B cb _ b _ Ca la Cb lb hf (HG.out.below (pw_below_grown HB.out _ HB.out.size hg1 (fun k hk => by injection hk with hk; omega)))
    have HCALL := Aside0.mk hcall
    clear hcall
    have eLZ : ∀ (j : Nat) (hj : j < L.length + 1), LZ L ⟨j, hj⟩ = L.getD j [] := fun _ _ => rfl
    have ELZ := Aside0.mk eLZ
    clear eLZ
    have H0 : Aside0 (∃ rr, compF k (L.getD (1 - 1) []) (L.drop 1) = some rr ∧ r = L.take 1 ++ rr) := ⟨compactF_some h (by omega)⟩
    clear h
    go_enter Tryd.func49, Tryd.ntmps49
    go_wp2
    go_loopg [5] L.length (fun kq v5 w' => ∃ (i : Nat), v5 = .int .i64 i ∧ 1 ≤ i ∧ i ≤ L.length ∧ L.length - i ≤ kq ∧ Aside (SW (encZ inner L.length) (redrawn w 0) g 0 (dZ L.length) w') ∧ Aside0 (∃ rr, compF k (L.getD (i - 1) []) (L.drop i) = some rr ∧ r = L.take i ++ rr))
    case atStart => exact ⟨1, rfl, Nat.le_refl _, by omega, by omega, S0, H0⟩
    case round =>
      clear S0 H0
      obtain ⟨i, rfl, hi0, hi, hk, S1, H⟩ := hrel
      by_cases hlt : i < L.length
      · have hltz : (i : Int) < (L.length : Int) := by omega
        have ea : ((i : Int) - 1).toNat = i - 1 := by omega
        have pa : (1 : Int) ≤ (i : Int) := by omega
        have pa' : (0 : Int) ≤ (i : Int) - 1 := by omega
        have ba : (i : Int) - 1 < (L.length : Int) := by omega
        have ra : IntKind.i64.wrap ((i : Int) - 1) = (i : Int) - 1 := by rw [IntKind.wrap_i64]; omega
        obtain ⟨rr, h1, h2⟩ := H.out
        obtain ⟨b, t, h3, h4, h5⟩ := compF_step hlt h1
        have HN : Aside0 (compF k (L.getD i []) (L.drop (i + 1)) = some t ∧ r = L.take i ++ if b = true then t else L.getD i [] :: t) := ⟨h4, by rw [h2, h5]⟩
        have HE := Aside0.mk h3
        clear H h1 h2 h4 h5 h3
        have hc := HCALL.out (dZ L.length) wr ⟨i, by omega⟩ ⟨i - 1, by omega⟩ b (dZ_size _) S1 HE.out
        have la := SW_clr S1 R (by omega) i (by rw [dZ_size]; omega)
        have lb := SW_clr S1 R (by omega) (i - 1) (by rw [dZ_size]; omega)
        rw [dZ_at _ i hlt, Nat.zero_add] at la
        rw [dZ_at _ (i - 1) (by omega), Nat.zero_add] at lb
        obtain ⟨x, hx⟩ : ∃ x, x = encZ inner L.length ⟨i, by omega⟩ := ⟨_, rfl⟩
        obtain ⟨y, hy⟩ : ∃ y, y = encZ inner L.length ⟨i - 1, by omega⟩ := ⟨_, rfl⟩
        rw [← hx] at la hc
        rw [← hy] at lb hc
        have HX := Aside0.mk hx
        clear hx hy HE
        go_wp2_with fail
        refine wp_region_quiet_below mixed (by kernel_rfl) ?_
        repeat (quiet_step (refine Calls.regrown_of (hc _ _)))
        refine wpQuiet_nil ?_
        intro _ hw'
        obtain ⟨⟨nq, osq⟩, hw''⟩ := hw'
        subst hw''
        have S2 : Aside (SW (encZ inner L.length) (redrawn w 0) g 0 (dZ L.length) (grow (redrawn wr nq) osq)) := SW_regrown (w0 := redrawn w 0) rfl S1 nq osq
        clear la lb hc S1
        generalize grow (redrawn wr nq) osq = w2 at S2 ⊢
        clear nq osq
        cases b with
        | false =>
          have HN2 : Aside0 (∃ rr, compF k (L.getD (i + 1 - 1) []) (L.drop (i + 1)) = some rr ∧ r = L.take (i + 1) ++ rr) := ⟨t, HN.out.1, by
            rw [HN.out.2, if_neg (by decide), List.take_succ_eq_append_getElem hlt, List.append_assoc]
            simp [hlt]⟩
          clear HN
          go_wp2
          go_roundg (L.length - (i + 1))
          case measure => omega
          case rel => exact ⟨i + 1, by go_num, by omega, hlt, Nat.le_refl _, S2, HN2⟩
        | true =>
          have HN2 : Aside0 (∃ rr, compF k (L.getD (i + 1 - 1) []) (L.drop (i + 1)) = some rr ∧ r = L.take i ++ rr) := ⟨t, HN.out.1, by rw [HN.out.2, if_pos rfl]⟩
          have HD : Aside0 (∀ x (hx : i ≤ x ∧ x < L.length), (dZ L.length)[x]! = ⟨x, by omega⟩) := ⟨fun x hx => dZ_at _ x hx.2⟩
          have HP : Aside0 (((dZ L.length).toList.map (LZ L)).take i = L.take i) := ⟨takeZ L.length L rfl (dZ L.length) (dZ_size _) i (by omega) (fun x hx => dZ_at _ x (by omega))⟩
          clear HN HX
          go_wp2_with fail
          go_loopg [5, 7] (L.length - i) (fun kq v5 v7 w' => ∃ (m j : Nat) (dk : Array (Fin (L.length + 1))) (P : List (List S33)), v5 = .int .i64 m ∧ v7 = .int .i64 j ∧ i ≤ m ∧ 1 ≤ j ∧ m < i + j ∧ i + j ≤ L.length ∧ L.length - i - j ≤ kq ∧ dk.size = L.length ∧
            Aside (SW (encZ inner L.length) (redrawn w 0) g 0 dk w') ∧ Aside0 (∀ x (hx : m ≤ x ∧ x < L.length), dk[x]! = ⟨x, by omega⟩) ∧ Aside0 ((dk.toList.map (LZ L)).take m = P) ∧ Aside0 (∃ rr, compF k (L.getD (i + j - 1) []) (L.drop (i + j)) = some rr ∧ r = P ++ rr))
          case atStart => exact ⟨i, 1, dZ L.length, L.take i, rfl, rfl, Nat.le_refl _, Nat.le_refl _, by omega, by omega, by omega, dZ_size _, S2, HD, HP, HN2⟩
          case round =>
            clear S2 HD HP HN2
            obtain ⟨m, j, dk, P, rfl, rfl, him, hj1, hmj, hij, hkq, hdk, S1, HD, HP, H⟩ := hrel
            by_cases hjl : j < L.length - i
            · have hjz : (j : Int) < ((L.length - i : Nat) : Int) := by omega
              have ea2 : ((j : Int) - 1).toNat = j - 1 := by omega
              have pb : (1 : Int) ≤ (j : Int) := by omega
              have pb' : (0 : Int) ≤ (j : Int) - 1 := by omega
              have bb : (j : Int) - 1 < ((L.length - i : Nat) : Int) := by omega
              have rb : IntKind.i64.wrap ((j : Int) - 1) = (j : Int) - 1 := by rw [IntKind.wrap_i64]; omega
              obtain ⟨rr, h1, h2⟩ := H.out
              obtain ⟨b, t, h3, h4, h5⟩ := compF_step (show i + j < L.length by omega) h1
              have HN : Aside0 (compF k (L.getD (i + j) []) (L.drop (i + j + 1)) = some t ∧ r = P ++ if b = true then t else L.getD (i + j) [] :: t) := ⟨h4, by rw [h2, h5]⟩
              have HE := Aside0.mk h3
              clear H h1 h2 h4 h5 h3
              have hc := HCALL.out dk wr ⟨i + j, by omega⟩ ⟨i + j - 1, by omega⟩ b hdk S1 HE.out
              have la := SW_clr S1 R (by rw [dZ_size]; exact hdk) (i + j) (by omega)
              have lb := SW_clr S1 R (by rw [dZ_size]; exact hdk) (i + (j - 1)) (by omega)
              have c1x := SW.c1 S1 R (by rw [dZ_size]; exact hdk) (i + j) (by omega)
              rw [HD.out (i + j) (by omega), Nat.zero_add] at la c1x
              rw [HD.out (i + (j - 1)) (by omega), Nat.zero_add] at lb
              have eij : (⟨i + (j - 1), by omega⟩ : Fin (L.length + 1)) = ⟨i + j - 1, by omega⟩ := Fin.ext (by show i + (j - 1) = i + j - 1; omega)
              rw [eij] at lb
              obtain ⟨xA, xn, xc, hx⟩ : ∃ xA xn xc, encZ inner L.length ⟨i + j, by omega⟩ = .slice xA xn xc := by
                obtain ⟨A, ca, ea, _⟩ := (HBK.out dk wr hdk S1).2.1 ⟨i + j, by omega⟩
                exact ⟨_, _, _, ea⟩
              obtain ⟨y, hy⟩ : ∃ y, y = encZ inner L.length ⟨i + j - 1, by omega⟩ := ⟨_, rfl⟩
              rw [hx] at la hc
              rw [← hy] at lb hc
              have HX := Aside0.mk hx
              clear hx hy HE eij c1x
              go_wp2_with fail
              refine wp_region_quiet_below mixed (by kernel_rfl) ?_
              repeat (quiet_step (refine Calls.regrown_of (hc _ _)))
              refine wpQuiet_nil ?_
              intro _ hw'
              obtain ⟨⟨nq, osq⟩, hw''⟩ := hw'
              subst hw''
              have S2 : Aside (SW (encZ inner L.length) (redrawn w 0) g 0 dk (grow (redrawn wr nq) osq)) := SW_regrown (w0 := redrawn w 0) rfl S1 nq osq
              clear la lb hc S1
              generalize grow (redrawn wr nq) osq = w3 at S2 ⊢
              clear nq osq
              have e9 : i + (j + 1) - 1 = i + j := by omega
              cases b with
              | true =>
                have HN2 : Aside0 (∃ rr, compF k (L.getD (i + (j + 1) - 1) []) (L.drop (i + (j + 1))) = some rr ∧ r = P ++ rr) := ⟨t, by rw [e9]; exact HN.out.1, by rw [HN.out.2, if_pos rfl]⟩
                clear HN HX
                go_wp2
                go_roundg (L.length - i - (j + 1))
                case measure => omega
                case rel => exact ⟨m, j + 1, dk, P, rfl, by go_num, him, by omega, by omega, by omega, Nat.le_refl _, hdk, S2, HD, HP, HN2⟩
              | false =>
                have HN2 : Aside0 (∃ rr, compF k (L.getD (i + (j + 1) - 1) []) (L.drop (i + (j + 1))) = some rr ∧ r = (P ++ [L.getD (i + j) []]) ++ rr) := ⟨t, by rw [e9]; exact HN.out.1, by rw [HN.out.2, if_neg (by decide), List.append_assoc]; rfl⟩
                have hmL : m < dk.size := by omega
                have HD2 : Aside0 (∀ x (hx : m + 1 ≤ x ∧ x < L.length), (dk.setIfInBounds m ⟨i + j, by omega⟩)[x]! = ⟨x, by omega⟩) := ⟨fun x hx => by
                  have hs : x < dk.size := by omega
                  have hd := HD.out x (by omega)
                  rw [getElem!_pos dk x hs] at hd
                  rw [getElem!_pos _ x (by rw [Array.size_setIfInBounds]; exact hs), Array.getElem_setIfInBounds_ne hs (by omega)]
                  exact hd⟩
                have HP2 : Aside0 (((dk.setIfInBounds m (⟨i + j, by omega⟩ : Fin (L.length + 1))).toList.map (LZ L)).take (m + 1) = P ++ [L.getD (i + j) []]) := ⟨by
                  rw [Array.toList_setIfInBounds, List.map_set, List.take_succ_eq_append_getElem (by simp; omega), List.take_set_of_le (Nat.le_refl _), HP.out, List.getElem_set_self]
                  rfl⟩
                have S3 : Aside (SW (encZ inner L.length) (redrawn w 0) g 0 (dk.setIfInBounds m ⟨i + j, by omega⟩) (w3.setCell ⟨g, m, none⟩ (.slice xA xn xc))) := by
                  have h1 := SW_put S2 R.hblk m ⟨i + j, by omega⟩ hmL
                  rw [HX.out, Nat.zero_add] at h1
                  exact h1
                have c1m := SW.c1 S2 R (by rw [dZ_size]; exact hdk) m hmL
                have f1m := SW.f1 S2 R (by rw [dZ_size]; exact hdk) m hmL
                have c1x := SW.c1 S2 R (by rw [dZ_size]; exact hdk) (i + j) (by omega)
                rw [HD.out (i + j) (by omega), HX.out] at c1x
                rw [Nat.zero_add] at c1m f1m c1x
                have hmz : (m : Int) < (L.length : Int) := by omega
                clear HN HX HD HP S2
                go_wp2_with fail
                go_roundg (L.length - i - (j + 1))
                case measure => omega
                case rel => exact ⟨m + 1, j + 1, dk.setIfInBounds m ⟨i + j, by omega⟩, P ++ [L.getD (i + j) []], by go_num, by go_num, by omega, by omega, by omega, by omega, Nat.le_refl _, by rw [Array.size_setIfInBounds]; exact hdk, S3, HD2, HP2, HN2⟩
            · have hjz : ¬ (j : Int) < ((L.length - i : Nat) : Int) := by omega
              obtain ⟨rr, h1, h2⟩ := H.out
              have hje : i + j = L.length := by omega
              rw [hje] at h1
              obtain rfl := compF_end h1
              rw [List.append_nil] at h2
              subst h2
              have hmz : (m : Int) ≤ (L.length : Int) := by omega
              have hmL : m < L.length := by omega
              obtain ⟨dk', hd1, hd2, S2⟩ := SW_puts R.hblk (⟨L.length, by omega⟩ : Fin (L.length + 1)) (L.length - m) m dk wr S1 (by omega)
              have ez : encZ inner L.length ⟨L.length, by omega⟩ = .slice none 0 0 := by unfold encZ; rw [if_neg (by show ¬ L.length < L.length; omega)]
              rw [ez] at S2
              have hclr := Go.Lib.run_clear_slice (P := Tryd.prog) wr 26 22 0 (.slice none 0 0) Tryd.underlying26 (fun w => by go_simp) rfl rfl g m (L.length - m) (c - m) (by omega)
                (fun q hq => by rw [show m + q = 0 + (m + q) by omega, SW.c1 S1 R (by rw [dZ_size]; exact hdk) (m + q) (by omega)]; rfl)
                (fun q hq => by have := SW.f1 S1 R (by rw [dZ_size]; exact hdk) (m + q) (by omega); rwa [Nat.zero_add] at this)
              obtain ⟨hg1, _, hR1⟩ := HBK.out dk' _ (by rw [hd1]; exact hdk) S2
              have hHB := pw_below_grown HB.out _ HB.out.size hg1 (fun k hk => by injection hk with hk; omega)
              have hR2 := Kd.R_take hR1 (m := m) (by simp [hd1, hdk]; omega)
              have hr2 : (dk'.toList.map (LZ L)).take m = r := by
                rw [← HP.out]
                apply List.ext_getElem
                · simp [hd1]
                · intro q q1 q2
                  have hq : q < m := by rw [List.length_take] at q1; omega
                  have e := hd2 q hq
                  rw [getElem!_pos dk' q (by omega), getElem!_pos dk q (by omega)] at e
                  simp [e]
              rw [hr2] at hR2
              have HRR := Aside0.mk hR2
              have HBB := Aside0.mk hHB
              clear hR1 hR2 hHB hg1 hr2 h1 S1 S2 HD HP H hd2
              go_wp2_with fail
              go_ret
              exact ⟨_, rfl, HRR.out, HBB.out⟩
      · have hltz : ¬ (i : Int) < (L.length : Int) := by omega
        obtain rfl : i = L.length := by omega
        obtain ⟨rr, h1, h2⟩ := H.out
        obtain rfl := compF_end h1
        obtain ⟨hg1, _, hR1⟩ := HBK.out (dZ L.length) wr (dZ_size _) S1
        have hHB := pw_below_grown HB.out _ HB.out.size hg1 (fun k hk => by injection hk with hk; omega)
        have hr : (dZ L.length).toList.map (LZ L) = r := by
          have h3 := takeZ L.length L rfl (dZ L.length) (dZ_size _) L.length (Nat.le_refl _) (fun x hx => dZ_at _ x hx)
          rw [List.take_of_length_le (by simp [dZ_size])] at h3
          rw [h3, h2, List.append_nil]
        rw [hr] at hR1
        have HRR := Aside0.mk hR1
        have HBB := Aside0.mk hHB
        clear hR1 hHB hg1 hr h1 h2
        go_wp2
        go_ret
        exact ⟨_, rfl, HRR.out, HBB.out⟩

noncomputable def tuple_Distinct.f (k : Nat) (l0 : List (List S33)) : Option (List (List S33)) := (tuple_Sort.f k l0).bind fun a => compactF k a
theorem tuple_Distinct.mono : ∀ a0 k, LeO (tuple_Distinct.f k a0) (tuple_Distinct.f (k + 1) a0) := fun a0 k => LeO.bind (tuple_Sort.mono _ _) (fun a => compactF.mono k a)
set_option maxHeartbeats 4000000 in
theorem tuple_Distinct.calls (k : Nat) (A0 : Option Addr) (c0 : Nat) (l0 : List (List S33)) (r : List (List S33)) (w : World) (hr0 : Kd.C (Kd.slice 33 k33) w A0 l0.length l0) (hc0 : l0.length ≤ c0) (h : tuple_Distinct.f k l0 = some r) (hG : GW w) :
    Calls Tryd.prog 28 #[.slice A0 l0.length c0] w fun e w' => ∃ v0_ : Value, e = .returned (v0_) ∧ Kd.R (Kd.slice 33 k33) 22 w' w.heap.size (fun _ => True) v0_ r ∧ Below w.heap.size w w' := by
  obtain ⟨a, ha, h⟩ := Option.bind_eq_some_iff.mp h
  have HG := Aside0.mk hG
  have HH := Aside0.mk h
  have C := tuple_Sort.calls k A0 c0 l0 a w hr0 hc0 ha hG
  clear hr0 hG h ha
  go_enter Tryd.func28, Tryd.ntmps28
  go_wp2_with fail
  refine C.mono ?_
  rintro e w1 ⟨v, rfl, hR, hb⟩
  obtain ⟨A2, c2, rfl⟩ := Kd.R_slice hR
  have C2 := CompactFunc_calls k A2 c2 w.heap.size a r w w1 hR hb (Nat.le_refl _) HH.out HG.out
  clear C hb hR
  go_wp2_with fail
  refine C2.mono ?_
  rintro e w2 ⟨v, rfl, hR2, hb2⟩
  have HR2 := Aside0.mk hR2
  have HB2 := Aside0.mk hb2
  clear C2 hR2 hb2
  go_wp2
  go_ret
  exact ⟨_, rfl, HR2.out, HB2.out⟩
end Go.Proofs.YtkifafenmboefaaDoor.X
