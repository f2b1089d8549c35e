/- strings.Builder's contracts (WriteString, String) at this seat: the shelf's, over the laying that ReplaceAll's has. No conditions but those in each theorem. / slices.Clone at lists of strings: the proof that the call hands back a row of its own with the same elements. No conditions but those in each theorem. / report.padded, hand-walked: the text and as many blanks as are wanting. Conditions: those in each theorem. / slices.SortFunc at span.edges' list of edges, in the printed form: the row that is handed over holds the sorted edges. Conditions: those in each theorem (each edge's place from 0 to Forever; fewer than 2^62 edges). / report.table's answer as a plain function, and what a Builder's writes leave as it was. Conditions: those in each theorem. / report.table, hand-walked: its text. Conditions: those in tableOk. / slices.Grow of nil at strings: no element, room for some. Conditions: those in each theorem. -/
import Derived.Test.YthdgjobhofpjeaaGreatDoorShelf
import Derived.Shelf.Strings.BuilderK
import Derived.Test.YthdgjobhofpjeaaGreatDoorX9
import Derived.Laws.Cover3
import Derived.Test.YthdgjobhofpjeaaGreatDoorStubs
import Derived.WalkKit
import Derived.BigCall
import Derived.Test.YthdgjobhofpjeaaGreatDoorX3
import Derived.Shelf.SlSortCmp.NoneTotal
import Derived.Test.YthdgjobhofpjeaaGreatDoorX6
import Derived.Deep.RegionWith
namespace Go.Proofs.YthdgjobhofpjeaaGreatDoor.X
open Go Go.Proofs
theorem n240_of {P : Program} {ρ : Go.Shelf.Ren} (L : Lays.n155 P ρ) : Lays.n240 P ρ := { L with }
theorem n166_of {P : Program} {ρ : Go.Shelf.Ren} (L : Lays.n155 P ρ) : Lays.n166 P ρ := { L with }
theorem n169_of {P : Program} {ρ : Go.Shelf.Ren} (L : Lays.n155 P ρ) : Lays.n169 P ρ := { L with }
theorem writeString (B b : Nat) (bs : List Value) (s : ByteArray) (w : World) (h : Lib.IsBuilderF 74 5 B b bs w) (hlen : bs.length + s.size ≤ 140737488355328) (hB : B ≤ w.heap.size) :
    Calls Tryz.prog 55 #[.pointer (some ⟨b, 0, none⟩), .string s] w fun e w' => e = .returned (.tuple #[.int .i64 s.size, .nilIface]) ∧ Lib.BuilderAtF 74 5 B b (.pointer (some ⟨b, 0, none⟩)) (bs ++ Lib.strCells s) w' ∧ RowKit.Below B w w' ∧ Lib.OthersKept 5 (some b) w w' :=
  Any.Builder_WriteString_k (n166_of Tryz.lays155) Tryz.Builder_Extra_155 B b bs s w h hlen hB
theorem builderString (B b : Nat) (l : List UInt8) (w : World) (h : Lib.IsBuilderF 74 5 B b (Lib.byteCells l) w) (hB : B ≤ w.heap.size) :
    Calls Tryz.prog 41 #[.pointer (some ⟨b, 0, none⟩)] w fun e w' => e = .returned (.string ⟨l.toArray⟩) ∧ Lib.IsBuilderF 74 5 B b (Lib.byteCells l) w' ∧ RowKit.Below B w w' ∧ Lib.OthersKept 5 (some b) w w' :=
  Any.Builder_String_any_k (n169_of Tryz.lays155) Tryz.Builder_Extra_155 B b l w h hB
/-- WriteByte's numbering: ReplaceAll's, with WriteByte's own number. -/
def ren167 : Go.Shelf.Ren := { Tryz.lays155_ren with f := fun | 167 => 39 | n => Tryz.lays155_ren.f n }
theorem lays167 : Lays.n167 Tryz.prog ren167 := { Tryz.lays155 with f167 := Tryz.func39.trans (congrArg some (by kernel_rfl)) }
set_option maxRecDepth 100000 in
theorem extra167 : Builder.Extra Tryz.prog ren167 := { Tryz.Builder_Extra_155 with }
theorem writeByte (B b : Nat) (bs : List Value) (c : Int) (w : World) (h : Lib.IsBuilderF 74 5 B b bs w) (hlen : bs.length + 1 ≤ 140737488355328) (hB : B ≤ w.heap.size) :
    Calls Tryz.prog 39 #[.pointer (some ⟨b, 0, none⟩), .int .u8 c] w fun e w' => e = .returned .nilIface ∧ Lib.BuilderAtF 74 5 B b (.pointer (some ⟨b, 0, none⟩)) (bs ++ [.int .u8 c]) w' ∧ RowKit.Below B w w' ∧ Lib.OthersKept 5 (some b) w w' :=
  Any.Builder_WriteByte_k lays167 extra167 B b bs c w h hlen hB
theorem builderAt_below {T e : TypeId} {B b : Nat} {p : Value} {bs : List Value} {W W' : World} (h : Lib.BuilderAtF T e B b p bs W) (hb : RowKit.Below W.heap.size W W') : Lib.BuilderAtF T e B b p bs W' := by
  have hlt := h.lt
  obtain ⟨h1, v, h2, h3, h4⟩ := h
  exact ⟨h1, v, (hb.block b hlt).trans h2, h3.kept (row := none) ⟨hb.os, hb.tape, hb.output, hb.size, fun k hk _ => hb.block k hk⟩ (Classical.em _), h4⟩
/-- What came after leaves a builder as it was. -/
theorem builder_below {T e : TypeId} {B b : Nat} {bs : List Value} {W W' : World} (h : Lib.IsBuilderF T e B b bs W) (hb : RowKit.Below W.heap.size W W') : Lib.IsBuilderF T e B b bs W' :=
  h.elim (fun x => .inl (builderAt_below x hb)) (fun x => .inr (builderAt_below x hb))
end Go.Proofs.YthdgjobhofpjeaaGreatDoor.X
namespace Go.Proofs.YthdgjobhofpjeaaGreatDoor.X
open Go.RowKit Go.Proofs.YthdgjobhofpjeaaGreatDoorW.PrintWords Go.Proofs.YthdgjobhofpjeaaGreatDoorW.PrintLast Go.Proofs.YthdgjobhofpjeaaGreatDoorW.PrintMore
set_option linter.unusedVariables false
set_option linter.unusedSimpArgs false

theorem run_eql_slice_nil {P : Program} (w : World) (t e : TypeId) (a : Option Addr) (l c : Nat) (h : P.underlying t = some (.slice e)) : (binOp .eql t (.slice a l c) (.slice none 0 0)).run P w = .ok (.bool a.isNone) w := by
  simp only [binOp]
  simp [run_equal_slice_nil w t e a l c h]

theorem info9_ : (Tryz.prog.info? 9).map (fun i => (i.zero, i.size, i.bytes)) = some (some (.string ⟨#[]⟩), 1, 16) := by kernel_rfl
set_option maxHeartbeats 8000000 in
set_option maxRecDepth 100000 in
theorem Clone_calls (A0 : Option Addr) (c0 : Nat) (l0 : List ByteArray) (w : World) (hr0 : Kd.C Kd.string w A0 l0.length l0) (hc0 : l0.length ≤ c0) (hl : l0.length < 8796093022208) :
    Calls Tryz.prog 53 #[.slice A0 l0.length c0] w fun e w' => ∃ v0_ : Value, e = .returned (v0_) ∧ Kd.R Kd.string 9 w' w.heap.size (fun _ => True) v0_ l0 ∧ Below w.heap.size w w' := by
  have heq : ∀ (a : Option Addr) (l c : Nat) (w : World), (binOp .eql 59 (.slice a l c) (.slice none 0 0)).run Tryz.prog w = .ok (.bool a.isNone) w := fun a l c w => run_eql_slice_nil w 59 9 a l c Tryz.underlying59
  cases A0 with
  | none =>
    have h0 : l0 = [] := by
      rcases Nat.eq_zero_or_pos l0.length with h | h
      · exact List.length_eq_zero_iff.1 h
      · obtain ⟨_, h2, _⟩ := hr0.2.2 h
        cases h2
    subst h0
    clear hr0
    go_enter Tryz.func53, Tryz.ntmps53
    go_wp2
    go_ret
    exact ⟨_, rfl, Kd.R_nil _ _ _ _ _, Below.refl _ _⟩
  | some ad =>
    have HR0 := Aside0.mk hr0
    clear hr0
    go_enter Tryz.func53, Tryz.ntmps53
    go_wp2_with (first | ((with_reducible refine gate_dst (N := 5) rfl ?_); refine Kd.R_lit Kd.string _ 9 ?hg (N := 5) ?hd (xs := ([] : List ByteArray)) (inner := []) (ok := fun _ => True) (okp := fun _ => True) ?hr ?hp (fun _ hk => hk) trivial (Below.refl _ _) (Nat.le_refl _) (by simp) ?_; (case hd => rfl); (case hg => rfl); (case hr => first | (go_simp; done) | (go_simp; rfl)); (case hp => exact (Reps.none _ _)); intro v1 w1 ho hb hg_ hnew_) | (at_builtin; refine Kd.R_append_rows Kd.string (w0 := w) w.heap.size rfl (.tmp 5) (.tmp 6) 59 9 (.string ⟨#[]⟩) 16 rfl Tryz.underlying59 info9_ rfl (by decide) (by omega) v1 [] l0 _ _ _ (fun _ => True) (fun _ => False) rfl rfl ?aO ?aR (fun _ _ h => h) (fun _ h => h.elim) ?aF ?aB ?aS ?aL ?_; (case aO => exact ho); (case aR => exact Kd.C_below HR0.out hb); (case aF => exact (fun _ _ => trivial)); (case aB => exact hb); (case aS => exact hb.size); (case aL => simp; omega); intro v2 w2 ho2 hb2 _ _))
    go_ret
    exact ⟨_, rfl, ho2, hb2⟩
end Go.Proofs.YthdgjobhofpjeaaGreatDoor.X
namespace Go.Proofs.YthdgjobhofpjeaaGreatDoor.X
open Go Go.Proofs Go.RowKit Go.Proofs.YthdgjobhofpjeaaGreatDoorW.PrintWords
set_option linter.unusedVariables false
set_option linter.unusedSimpArgs false
theorem cells_take (s : ByteArray) (fr pos : Nat) (h : fr ≤ pos) : Lib.byteCells (s.data.toList.take fr) ++ Lib.strCells (s.extract fr pos) = Lib.byteCells (s.data.toList.take pos) := by
  have e : Lib.strCells (s.extract fr pos) = Lib.byteCells ((s.data.toList.drop fr).take (pos - fr)) := by
    rw [Lib.strCells_eq]
    simp only [ByteArray.data_extract, Array.toList_extract, List.extract_eq_take_drop]
  rw [e, ← Lib.byteCells_append]
  congr 1
  rw [show pos = fr + (pos - fr) by omega, List.take_add, Nat.add_sub_cancel_left]
theorem width_pos (s : ByteArray) (pos : Nat) (h : pos < s.size) : 1 ≤ (Utf8.decode s pos).2 := by
  by_cases ha : (s[pos]'h).toNat < 128
  · rw [decode_ascii s pos h ha]
    exact Nat.le_refl _
  · exact (decode_high s pos h (by omega)).2
set_option maxHeartbeats 8000000 in
set_option maxRecDepth 1000000 in
theorem padded_calls (s p : ByteArray) (n : Int) (w : World) (hs : s.size ≤ 35184372088832) (h : strings_Repeat.f ⟨#[32]⟩ (wrap64 (n - s.size)) = some p) (hp0 : s.size + p.size ≤ 140737488355328) (hG : GW w) :
    Calls Tryz.prog 54 #[.string s, .int .i64 n] w fun e w' => e = .returned (.string (s ++ p)) ∧ Below w.heap.size w w' := by
  go_enter Tryz.func54, Tryz.ntmps54
  go_wp2
  go_loopw [6] (fun v6 wr => ∃ (pos fr : Nat), v6 = .int .i64 fr ∧ fr ≤ pos ∧ fr ≤ s.size ∧ Lib.IsBuilderF 74 5 w.heap.size w.heap.size (Lib.byteCells (s.data.toList.take fr)) wr ∧ wr.heap[w.heap.size + 1]? = some (.stringIter s pos) ∧ Below w.heap.size w wr) (fun v6 wr => s.size - wr.iterPos (w.heap.size + 1))
  case atStart =>
    refine ⟨0, 0, rfl, Nat.le_refl _, Nat.zero_le _, (Lib.IsBuilderF.of (Lib.fresh_isBuilder 74 5 w)).alloc _, ?_, ((Below.refl _ w).alloc (Nat.le_refl _) _).alloc (by simp) _⟩
    have := World.iter_heap (w.alloc (.cells #[.pointer none, .slice none 0 0] 74)) s 0
    simpa using this
  case round =>
    obtain ⟨pos, fr, rfl, hfp, hfs, hI, hit, hbw⟩ := hrel
    have hsz : w.heap.size + 1 < wr.heap.size := (Array.getElem?_eq_some_iff.1 hit).1
    by_cases hp : pos < s.size
    · have hnx : ∀ ty, (Instr.next (.pointer (some ⟨w.heap.size + 1, 0, none⟩)) true ty).run Tryz.prog wr = _ := fun ty => Lib.run_next_any_at wr (w.heap.size + 1) s pos ty hit hp
      have hwd := width_pos s pos hp
      have hd1 := decode_le s pos
      have hI2 := hI.iterAt hit (pos + (Utf8.decode s pos).2)
      have hit2 := Lib.iterAt_heap wr (w.heap.size + 1) s pos (pos + (Utf8.decode s pos).2) hit
      have hbw2 := Lib.below_iterAt hbw (k := w.heap.size + 1) (by omega) s (pos + (Utf8.decode s pos).2)
      have hsz2 : w.heap.size ≤ (wr.iterAt (w.heap.size + 1) s (pos + (Utf8.decode s pos).2)).heap.size := by rw [Lib.iterAt_size]; omega
      have z1 : (0 : Int) ≤ (fr : Int) := by omega
      have z2 : (fr : Int) ≤ (pos : Int) := by omega
      have z3 : (pos : Int) ≤ (s.size : Int) := by omega
      have hlen : (Lib.byteCells (s.data.toList.take fr)).length + (s.extract fr pos).size ≤ 140737488355328 := by
        rw [Lib.byteCells_length, List.length_take, ByteArray.size_extract]
        omega
      go_wp2_with fail
      refine (writeString w.heap.size w.heap.size _ _ _ hI2 hlen hsz2).mono ?_
      rintro e W1 ⟨rfl, h1, b1, k1⟩
      go_wp2
      go_roundw
      case rel =>
        refine ⟨pos + (Utf8.decode s pos).2, pos, rfl, by omega, by omega, ?_, k1.iter hit2 (by omega), hbw2.trans b1⟩
        rw [← cells_take s fr pos hfp]
        exact Or.inr h1
      case measure =>
        simp only [World.iterPos, k1.iter hit2 (by omega), hit]
        omega
    · have hnx : ∀ ty, (Instr.next (.pointer (some ⟨w.heap.size + 1, 0, none⟩)) true ty).run Tryz.prog wr = _ := fun ty => Lib.run_next_end_at wr (w.heap.size + 1) s pos ty hit hp
      have z1 : (0 : Int) ≤ (fr : Int) := by omega
      have z2 : (fr : Int) ≤ (s.size : Int) := by omega
      have hl0 : (Lib.byteCells (s.data.toList.take fr)).length + (s.extract fr s.size).size ≤ 140737488355328 := by
        rw [Lib.byteCells_length, List.length_take, ByteArray.size_extract]
        omega
      go_wp2_with fail
      refine (writeString w.heap.size w.heap.size _ _ _ hI hl0 (by omega)).mono ?_
      rintro e W1 ⟨rfl, h1, b1, k1⟩
      have hI1 : Lib.IsBuilderF 74 5 w.heap.size w.heap.size (Lib.byteCells s.data.toList) W1 := by
        have e := cells_take s fr s.size hfs
        rw [List.take_of_length_le (show s.data.toList.length ≤ s.size by rw [Array.length_toList]; exact Nat.le_refl _)] at e
        rw [← e]
        exact Or.inr h1
      have hb1 := hbw.trans b1
      clear h1 k1 hI hit
      have CR := strings_Repeat.calls ⟨#[32]⟩ (wrap64 (n - s.size)) p W1 h (hG.below hb1)
      go_wp2_with fail
      refine CR.mono ?_
      rintro e W2 ⟨rfl, hb2⟩
      have hI2 : Lib.IsBuilderF 74 5 w.heap.size w.heap.size (Lib.byteCells s.data.toList) W2 := builder_below hI1 hb2
      have hbw2 : Below w.heap.size w W2 := below_step hb1 hb2
      have hl2 : (Lib.byteCells s.data.toList).length + p.size ≤ 140737488355328 := by
        rw [Lib.byteCells_length, Array.length_toList]
        exact hp0
      clear CR hI1
      go_wp2_with fail
      refine (writeString w.heap.size w.heap.size _ _ _ hI2 hl2 hbw2.size).mono ?_
      rintro e W3 ⟨rfl, h3, b3, k3⟩
      have hI3 : Lib.IsBuilderF 74 5 w.heap.size w.heap.size (Lib.byteCells (s ++ p).data.toList) W3 := by
        have e : Lib.byteCells (s ++ p).data.toList = Lib.byteCells s.data.toList ++ Lib.strCells p := by
          rw [Lib.strCells_eq, ← Lib.byteCells_append]
          congr 1
        rw [e]
        exact Or.inr h3
      have hbw3 := hbw2.trans b3
      clear h3 k3 hI2
      go_wp2_with fail
      refine (builderString w.heap.size w.heap.size _ _ hI3 hbw3.size).mono ?_
      rintro e W4 ⟨rfl, _, b4, _⟩
      go_wp2
      go_ret
      exact ⟨rfl, hbw3.trans b4⟩
end Go.Proofs.YthdgjobhofpjeaaGreatDoor.X
namespace Go.Proofs.YthdgjobhofpjeaaGreatDoor.X
open Go Go.Proofs Go.Shelf Go.RowKit Go.Lib Go.Sort Go.Proofs.YthdgjobhofpjeaaGreatDoorW.PrintWords
set_option linter.unusedVariables false
set_option linter.unusedSimpArgs false

abbrev Edge : Type := {x : S114 // 0 ≤ x.f0 ∧ x.f0 ≤ 1099511627776}
instance : Inhabited Edge := ⟨⟨⟨0, 0, 0⟩, by decide⟩⟩
def encEdge (x : Edge) : List Value := [.int .i64 x.1.f0, .int .i64 x.1.f1, .int .i64 x.1.f2]
def cmpEdge (x y : Edge) : Int := x.1.f0 - y.1.f0
theorem ltEdge (x y : Edge) : ltOf cmpEdge x y = decide (x.1.f0 < y.1.f0) := by
  unfold ltOf cmpEdge
  rw [decide_eq_decide]
  omega
theorem swoEdge : SWO (ltOf cmpEdge) where
  irrefl x := by rw [ltEdge]; simp
  trans x y z h1 h2 := by rw [ltEdge] at *; simp at *; omega
  ntrans x y z h1 h2 := by rw [ltEdge] at *; simp at *; omega

set_option maxHeartbeats 1000000 in
theorem closureEdge (x y : Edge) (W : World) : Calls Tryz.prog 95 #[.agg #[.int .i64 x.1.f0, .int .i64 x.1.f1, .int .i64 x.1.f2], .agg #[.int .i64 y.1.f0, .int .i64 y.1.f1, .int .i64 y.1.f2]] W fun e w' => e = .returned (.int .i64 (cmpEdge x y)) ∧ ∃ q os', w' = grow (W.drewN q) os' := by
  obtain ⟨⟨a0, a1, a2⟩, ha, ha'⟩ := x
  obtain ⟨⟨b0, b1, b2⟩, hb, hb'⟩ := y
  simp only [cmpEdge]
  dsimp only at ha ha' hb hb'
  have h1 : -1099511627776 ≤ a0 - b0 := by omega
  have h2 : a0 - b0 ≤ 1099511627776 := by omega
  go_enter Tryz.func95, Tryz.ntmps95
  go_wp2
  go_ret
  exact ⟨rfl, 0, _, by rw [alloc_eq_grow, alloc_eq_grow, grow_grow]; rfl⟩

def slices_SortFunc_span_edges_1.f (l : List S114) : Option (List S114) :=
  if h : l.length < 4611686018427387904 ∧ ∀ x ∈ l, 0 ≤ x.f0 ∧ x.f0 ≤ 1099511627776 then some ((pdq (ltOf cmpEdge) (l.attachWith _ h.2).toArray 0 (l.attachWith _ h.2).toArray.size (Lib.bitLen (l.attachWith _ h.2).toArray.size) true true).toList.map (·.1)) else none

/-- What the sort answers: a permutation, ascending. -/
theorem sort_spec {l r : List S114} (h : slices_SortFunc_span_edges_1.f l = some r) : r.Perm l ∧ r.Pairwise (fun x y => x.f0 ≤ y.f0) := by
  unfold slices_SortFunc_span_edges_1.f at h
  split at h
  · next hc =>
    obtain rfl := Option.some.inj h
    generalize hd : (l.attachWith _ hc.2).toArray = d
    have hl : d.toList.map (·.1) = l := by rw [← hd]; simp
    obtain ⟨⟨hs, _, hp⟩, hso⟩ := pdq_sorts (ltOf cmpEdge) swoEdge d 0 d.size (Lib.bitLen d.size) true true (Nat.zero_le _) (Nat.le_refl _) (Or.inl rfl)
    generalize hq : pdq (ltOf cmpEdge) d 0 d.size (Lib.bitLen d.size) true true = q at hs hp hso ⊢
    refine ⟨?_, ?_⟩
    · have hp2 : q.toList.Perm d.toList := by
        have e1 : (q.extract 0 d.size) = q := by rw [← hs]; exact Array.extract_size
        have e2 : (d.extract 0 d.size) = d := Array.extract_size
        rwa [e1, e2] at hp
      rw [← hl]
      exact hp2.map _
    · rw [List.pairwise_map, List.pairwise_iff_getElem]
      intro i j hi hj hij
      have h1 := hso i j (Nat.zero_le _) hij (by simpa [hs] using hj)
      rw [ltEdge] at h1
      have e1 : q[i]! = q.toList[i] := by rw [getElem!_pos q i (by simpa using hi)]; simp
      have e2 : q[j]! = q.toList[j] := by rw [getElem!_pos q j (by simpa using hj)]; simp
      rw [e1, e2] at h1
      simpa using h1
  · cases h
theorem sort_some {l : List S114} (h1 : l.length < 4611686018427387904) (h2 : ∀ x ∈ l, 0 ≤ x.f0 ∧ x.f0 ≤ 1099511627776) : ∃ r, slices_SortFunc_span_edges_1.f l = some r := by
  unfold slices_SortFunc_span_edges_1.f
  rw [dif_pos ⟨h1, h2⟩]
  exact ⟨_, rfl⟩

theorem flat_drop (d : Array Edge) (j : Nat) (hj : j < d.size) : ((flatK encEdge 3 d).toList.drop (j * 3)).take 3 = encEdge d[j]! := by
  have hlen : (encEdge d[j]!).length = 3 := rfl
  apply List.ext_getElem?
  intro i
  rw [List.getElem?_take]
  by_cases hi : i < 3
  · rw [if_pos hi, List.getElem?_drop, Array.getElem?_toList]
    have hlt : j * 3 + i < d.size * 3 := by omega
    have hg := get_flatK encEdge 3 d (j * 3 + i) hlt
    rw [getElem!_pos _ _ (by rw [size_flatK]; exact hlt)] at hg
    rw [Array.getElem?_eq_getElem (by rw [size_flatK]; exact hlt), hg, show (j * 3 + i) / 3 = j by omega, show (j * 3 + i) % 3 = i by omega]
    rw [getElem!_pos _ _ (by rw [hlen]; exact hi), List.getElem?_eq_getElem]
  · rw [if_neg hi, List.getElem?_eq_none (by rw [hlen]; omega)]

theorem heap_putRow (w : World) (g : Nat) (F : Array Value) (k : Nat) (hk : k ≠ g) : (putRow id w g 0 F).heap[k]? = w.heap[k]? := by
  unfold putRow mapBlock
  simp [Array.getElem?_modify, Ne.symm hk]
theorem heap_putRow_at (w : World) (g : Nat) (F : Array Value) {cur : Array Value} {e : TypeId} {fr : Nat × Nat} (h : w.heap[g]? = some (.cells cur e fr)) : (putRow id w g 0 F).heap[g]? = some (.cells (putCells id 0 F cur) e fr) := by
  unfold putRow mapBlock
  simp [Array.getElem?_modify, h, onCells]
theorem putCells_take (F cur : Array Value) (h : F.size ≤ cur.size) : (putCells id 0 F cur).toList.take F.size = F.toList ∧ (putCells id 0 F cur).size = cur.size := by
  refine ⟨?_, by simp [putCells]⟩
  apply List.ext_getElem?
  intro i
  rw [List.getElem?_take]
  by_cases hi : i < F.size
  · rw [if_pos hi, Array.getElem?_toList, Array.getElem?_toList]
    have hc : i < cur.size := by omega
    simp [putCells, hi, hc]
  · rw [if_neg hi, List.getElem?_eq_none (by simpa using hi)]

set_option maxHeartbeats 2000000 in
theorem slices_SortFunc_span_edges_1.calls (P0_ : Nat → Prop) (u : Value) (l0 r : List S114) (w0 w : World) (hB : RowKit.Below w0.heap.size w0 w) (ho0 : Kd.R k114 114 w w0.heap.size P0_ u l0) (h : slices_SortFunc_span_edges_1.f l0 = some r) (hG : GW w0) :
    Calls Tryz.prog 94 #[u, .func (Fn.func 95) #[] #[]] w fun e w' => e = .returned (.tuple #[]) ∧ Kd.R k114 114 w' w0.heap.size (fun k_ => (P0_ k_ ∨ w.heap.size ≤ k_)) u r ∧ RowKit.Below w0.heap.size w0 w' ∧ Kept w w' (fun k_ => P0_ k_) := by
  have hspec := sort_spec h
  obtain ⟨hok, inner, ⟨hlen, hown⟩, hreps⟩ := ho0
  rcases hown with ⟨rfl, hn⟩ | ⟨g, cap, cur, rfl, hbg, hg, hncap, hcap, hcs, htake⟩
  · obtain rfl : l0 = [] := List.length_eq_zero_iff.1 hn
    obtain rfl : r = [] := by simpa using hspec.1
    have hc := AnyF.slices_SortFunc_none Tryz.sortE none 0 (.func (Fn.func 95) #[] #[]) w
    refine Calls.mono hc ?_
    rintro e w' ⟨rfl, rfl⟩
    exact ⟨rfl, Kd.R_nil _ _ _ _ _, hB, Kept.refl _ _⟩
  · unfold slices_SortFunc_span_edges_1.f at h
    split at h
    case isFalse => cases h
    case isTrue hc =>
    have hr := (Option.some.inj h).symm
    clear h
    generalize hd : (l0.attachWith _ hc.2).toArray = d at hr
    have hl : d.toList.map (·.1) = l0 := by rw [← hd]; simp
    have hsz : d.size = l0.length := by rw [← hl]; simp
    have hbnd : g < w.heap.size := blk_lt hg
    have hg0 : w0.heap.size ≤ g := hbg
    have hF : (flatK encEdge 3 d).toList = inner := by
      have hlF : (flatK encEdge 3 d).toList.length = inner.length := by rw [Array.length_toList, size_flatK, hsz, hlen]; rfl
      apply List.ext_getElem? 
      intro t
      by_cases ht : t < l0.length * 3
      · have hj : t / 3 < l0.length := by omega
        have h1 := flat_drop d (t / 3) (by omega)
        have h2 := k114_openM (hreps.2 (t / 3) l0[t / 3] (List.getElem?_eq_getElem hj))
        have e1 : ∀ (L : List Value), L[t]? = ((L.drop (t / 3 * 3)).take 3)[t % 3]? := fun L => by
          rw [List.getElem?_take, if_pos (by omega), List.getElem?_drop]
          congr 1
          omega
        have hv : d[t / 3]!.1 = l0[t / 3] := by
          rw [getElem!_pos d _ (by omega)]
          have := congrArg (fun L => L[t / 3]?) hl
          simp only [List.getElem?_map, Array.getElem?_toList, Array.getElem?_eq_getElem (show t / 3 < d.size by omega), List.getElem?_eq_getElem hj, Option.map_some, Option.some.injEq] at this
          exact this
        rw [e1, e1 inner, h1, show k114.sz = 3 from rfl] at *
        rw [h2, encEdge, hv]
      · rw [List.getElem?_eq_none (by rw [hlF, hlen]; exact Nat.le_of_not_lt ht), List.getElem?_eq_none (by rw [hlen]; exact Nat.le_of_not_lt ht)]
    have hH : HoldsK encEdge 3 w g 0 d := by
      intro j hj
      rw [size_flatK] at hj
      refine ⟨?_, blk_frozen hg _⟩
      rw [blk_cell hg, Nat.zero_add]
      have h3 : inner[j]? = cur[j]? := by
        rw [← htake, List.getElem?_take, if_pos (by rw [show k114.sz = 3 from rfl]; omega), Array.getElem?_toList]
      rw [← h3, ← hF, Array.getElem?_toList, getElem!_pos _ _ (by rw [size_flatK]; exact hj), Array.getElem?_eq_getElem (by rw [size_flatK]; exact hj)]
      rfl
    have eg : ∀ args w, (callFunc 95 args).run Tryz.prog w = .ok (.enter 95 args) w := enters_of Tryz.func95 (by kernel_rfl) rfl
    have hcon := AnyQ.slices_SortFunc_eq Tryz.sortE 3 (fun _ => by kernel_rfl) (fun _ => by kernel_rfl) encEdge (fun _ => rfl) (fun x v hv => by simp [encEdge] at hv; rcases hv with rfl | rfl | rfl <;> rfl) cmpEdge swoEdge 95 #[] g 0 cap d w eg (fun _ _ _ _ x y => closureEdge x y _) hH hbnd (by rw [hsz]; exact hc.1)
    rw [hsz] at hcon
    refine Calls.mono hcon ?_
    rintro e w' ⟨rfl, n, os, rfl⟩
    have hsp := pdq_sorts (ltOf cmpEdge) swoEdge d 0 d.size (Lib.bitLen d.size) true true (Nat.zero_le _) (Nat.le_refl _) (Or.inl rfl)
    rw [hsz] at hsp hr
    generalize hq : pdq (ltOf cmpEdge) d 0 l0.length (Lib.bitLen l0.length) true true = q at hr hsp ⊢
    have hqs : q.size = l0.length := by rw [← hsz]; exact hsp.1.1
    have hsame : ∀ k, k < w.heap.size → k ≠ g → (sortWorldK encEdge 3 w g 0 n q os).heap[k]? = w.heap[k]? := by
      intro k hk hne
      unfold sortWorldK
      rw [heap_grow_old _ _ (by simpa [putRowK, putRow, mapBlock, ahead] using hk)]
      exact heap_putRow _ _ _ _ hne
    have hat : (sortWorldK encEdge 3 w g 0 n q os).heap[g]? = some (.cells (putCells id 0 (flatK encEdge 3 q) cur) 114 (0, 0)) := by
      unfold sortWorldK
      rw [heap_grow_old _ _ (by simpa [putRowK, putRow, mapBlock, ahead] using hbnd)]
      exact heap_putRow_at _ _ _ hg
    have hsize : w.heap.size ≤ (sortWorldK encEdge 3 w g 0 n q os).heap.size := by
      simp [sortWorldK, putRowK, putRow, mapBlock, ahead]
    have hpt := putCells_take (flatK encEdge 3 q) cur (by rw [size_flatK, hqs, hcs]; exact Nat.mul_le_mul_right 3 hncap)
    have hrl : r.length = l0.length := by rw [hr]; simp [hqs]
    refine ⟨rfl, ⟨fun k hk => ?_, (flatK encEdge 3 q).toList, ⟨?_, .inr ⟨g, cap, _, ?_, hbg, hat, ?_, hcap, ?_, ?_⟩⟩, ?_, ?_⟩, ?_, ?_⟩
    · exact .inl (hok k hk)
    · rw [Array.length_toList, size_flatK, hqs, hrl]; rfl
    · rw [hrl]
    · rw [hrl]; exact hncap
    · rw [hpt.2]; exact hcs
    · rw [hrl, show k114.sz = 3 from rfl, ← hqs, ← size_flatK encEdge 3 q]; exact hpt.1
    · rw [Array.length_toList, size_flatK, hqs, hrl]; rfl
    · intro j p hp
      rw [hr, List.getElem?_map, Array.getElem?_toList] at hp
      obtain ⟨x, hx, rfl⟩ := Option.map_eq_some_iff.1 hp
      have hj : j < q.size := (Array.getElem?_eq_some_iff.1 hx).1
      rw [show k114.sz = 3 from rfl, flat_drop q j hj, getElem!_pos q j hj]
      have hx2 : q[j] = x := (Array.getElem?_eq_some_iff.1 hx).2
      rw [hx2]
      exact k114_mkM _ _ _ _
    · refine ⟨hB.os, hB.tape, hB.output, Nat.le_trans hB.size hsize, fun k hk => ?_⟩
      have := hB.size
      rw [hsame k (by omega) (by omega)]
      exact hB.block k hk
    · refine ⟨hsize, fun i hi hne => hsame i hi fun hig => hne ?_⟩
      rw [hig]
      exact hok g rfl
end Go.Proofs.YthdgjobhofpjeaaGreatDoor.X
namespace Go.Proofs.YthdgjobhofpjeaaGreatDoor.X
open Go Go.Proofs Go.RowKit Go.Proofs.YthdgjobhofpjeaaGreatDoorW.PrintWords
set_option linter.unusedVariables false
set_option linter.unusedSimpArgs false

/-- The first j elements changed. -/
def part {α : Type} (F : Nat → α → α) (l : List α) (j : Nat) : List α := l.mapIdx fun i x => if i < j then F i x else x
theorem part_length {α : Type} (F : Nat → α → α) (l : List α) (j : Nat) : (part F l j).length = l.length := by simp [part]
theorem part_zero {α : Type} (F : Nat → α → α) (l : List α) : part F l 0 = l := by
  apply List.ext_getElem? 
  intro i
  simp [part, List.getElem?_mapIdx]
theorem part_get {α : Type} (F : Nat → α → α) (l : List α) (j i : Nat) (h : j ≤ i) : (part F l j)[i]? = l[i]? := by
  simp [part, List.getElem?_mapIdx, show ¬ i < j by omega]
theorem part_getD {α : Type} (F : Nat → α → α) (l : List α) (j i : Nat) (d : α) (h : j ≤ i) : (part F l j).getD i d = l.getD i d := by
  rw [List.getD_eq_getElem?_getD, part_get F l j i h, ← List.getD_eq_getElem?_getD]
theorem part_set {α : Type} (F : Nat → α → α) (l : List α) (j : Nat) (d : α) : (part F l j).set j (F j (l.getD j d)) = part F l (j + 1) := by
  apply List.ext_getElem?
  intro i
  rw [List.getElem?_set]
  simp only [part_length]
  simp only [part, List.getElem?_mapIdx]
  by_cases h : j = i
  · subst h
    by_cases hl : j < l.length
    · simp [hl]
    · simp [hl]
  · by_cases h2 : i < j
    · simp [h, h2, show i < j + 1 by omega]
    · simp [h, h2, show ¬ i < j + 1 by omega]

def wF (row : List ByteArray) (i : Nat) (w : Int) : Int := if w < ((row.getD i ⟨#[]⟩).size : Int) then ((row.getD i ⟨#[]⟩).size : Int) else w
def widths (n : Nat) (rows : List (List ByteArray)) : List Int := rows.foldl (fun ws row => part (wF row) ws n) (List.replicate n 0)
theorem widths_length (n : Nat) (rows : List (List ByteArray)) : (widths n rows).length = n := by
  unfold widths
  have : ∀ (l : List (List ByteArray)) (ws : List Int), ws.length = n → (l.foldl (fun ws row => part (wF row) ws n) ws).length = n := by
    intro l
    induction l with
    | nil => intro ws h; exact h
    | cons a l ih => intro ws h; exact ih _ (by rw [part_length]; exact h)
  exact this rows _ (by simp)
def blanks (c : UInt8) (n : Int) : ByteArray := ⟨(Lib.repeatL [c] n.toNat).toArray⟩
def cF (ws : List Int) (i : Nat) (s : ByteArray) : ByteArray := s ++ blanks 32 (ws.getD i 0 - s.size)
def dF (ws : List Int) (i : Nat) (_ : ByteArray) : ByteArray := blanks 45 (ws.getD i 0)
def joinS (sep : ByteArray) (l : List ByteArray) : ByteArray := ⟨(Lib.join (l.map (·.data.toList)) sep.data.toList).toArray⟩
def lineS (sep : ByteArray) (l : List ByteArray) : ByteArray := joinS sep l ++ ⟨#[10]⟩
def rowS (ws : List Int) (row : List ByteArray) : ByteArray := lineS ⟨#[32, 124, 32]⟩ (part (cF ws) row (row.length - 1))
def marksS (ws : List Int) (row : List ByteArray) : ByteArray := lineS ⟨#[45, 43, 45]⟩ (part (dF ws) (part (cF ws) row (row.length - 1)) row.length)
/-- A row. -/
def rowOf (rows : List (List ByteArray)) (k : Nat) : List ByteArray := rows.getD k []
/-- The text of the first k rows. -/
def upS (ws : List Int) (rows : List (List ByteArray)) : Nat → ByteArray
  | 0 => ⟨#[]⟩
  | k + 1 => upS ws rows k ++ (rowS ws (rowOf rows k) ++ (if k = 0 then marksS ws (rowOf rows k) else ⟨#[]⟩))
def tableS (rows : List (List ByteArray)) : ByteArray := upS (widths (rows.headD []).length rows) rows rows.length
/-- What report.table asks: a row ahead, all rows of its length, no word too long, and a text that fits. -/
def tableOk (rows : List (List ByteArray)) : Prop :=
  (rows ≠ [] ∧ 1 ≤ (rows.headD []).length ∧ (rows.headD []).length ≤ 1099511627776 ∧ rows.length ≤ 1099511627776) ∧ (∀ row ∈ rows, row.length = (rows.headD []).length ∧ ∀ s ∈ row, s.size ≤ 1099511627776) ∧
  (∀ k, k < rows.length → (upS (widths (rows.headD []).length rows) rows k).size ≤ 35184372088832 ∧ (rowS (widths (rows.headD []).length rows) (rowOf rows k)).size ≤ 35184372088832) ∧ (marksS (widths (rows.headD []).length rows) (rowOf rows 0)).size ≤ 35184372088832
instance (rows : List (List ByteArray)) : Decidable (tableOk rows) := by unfold tableOk; infer_instance
def report_table.f (l0 : List (List ByteArray)) : Option ByteArray := if tableOk l0 then some (tableS l0) else none

theorem widths_bound (n : Nat) (rows : List (List ByteArray)) (B : Int) (hB : 0 ≤ B) (h : ∀ row ∈ rows, ∀ s ∈ row, (s.size : Int) ≤ B) : ∀ i, 0 ≤ (widths n rows).getD i 0 ∧ (widths n rows).getD i 0 ≤ B := by
  unfold widths
  have : ∀ (l : List (List ByteArray)) (ws : List Int), (∀ row ∈ l, ∀ s ∈ row, (s.size : Int) ≤ B) → (∀ i, 0 ≤ ws.getD i 0 ∧ ws.getD i 0 ≤ B) → ∀ i, 0 ≤ (l.foldl (fun ws row => part (wF row) ws n) ws).getD i 0 ∧ (l.foldl (fun ws row => part (wF row) ws n) ws).getD i 0 ≤ B := by
    intro l
    induction l with
    | nil => intro ws _ h; exact h
    | cons a l ih =>
      intro ws hl h
      refine ih _ (fun row hr => hl row (List.mem_cons_of_mem _ hr)) fun i => ?_
      rw [List.getD_eq_getElem?_getD]
      simp only [part, List.getElem?_mapIdx]
      have h0 := h i
      rw [List.getD_eq_getElem?_getD] at h0
      cases hi : ws[i]? with
      | none => simp; exact hB
      | some x =>
        rw [hi] at h0
        simp only [Option.getD_some, Option.map_some] at h0 ⊢
        split
        · unfold wF
          split
          · refine ⟨by omega, ?_⟩
            rw [List.getD_eq_getElem?_getD]
            cases hr : a[i]? with
            | none => simp [size_lit]; exact hB
            | some s => exact hl a List.mem_cons_self s (List.mem_of_getElem? hr)
          · exact h0
        · exact h0
  exact this rows _ h (fun i => by
    rw [List.getD_eq_getElem?_getD, List.getElem?_replicate]
    split <;> simp [hB])
theorem foldl_ge (n : Nat) : ∀ (l : List (List ByteArray)) (ws : List Int) (i : Nat), ws.length = n → ws.getD i 0 ≤ (l.foldl (fun ws row => part (wF row) ws n) ws).getD i 0
  | [], _, _, _ => Int.le_refl _
  | a :: l, ws, i, hl => by
    refine Int.le_trans ?_ (foldl_ge n l (part (wF a) ws n) i (by rw [part_length]; exact hl))
    rw [List.getD_eq_getElem?_getD, List.getD_eq_getElem?_getD]
    simp only [part, List.getElem?_mapIdx]
    cases hi : ws[i]? with
    | none => simp
    | some x =>
      simp only [Option.getD_some, Option.map_some]
      split
      · unfold wF; split <;> omega
      · omega
/-- Each word fits its column. -/
theorem widths_ge (n : Nat) (rows : List (List ByteArray)) (row : List ByteArray) (hr : row ∈ rows) (i : Nat) (hi : i < n) : ((row.getD i ⟨#[]⟩).size : Int) ≤ (widths n rows).getD i 0 := by
  unfold widths
  have : ∀ (l : List (List ByteArray)) (ws : List Int), ws.length = n → row ∈ l → ((row.getD i ⟨#[]⟩).size : Int) ≤ (l.foldl (fun ws row => part (wF row) ws n) ws).getD i 0 := by
    intro l
    induction l with
    | nil => intro ws _ h; cases h
    | cons a l ih =>
      intro ws hl h
      rcases List.mem_cons.1 h with rfl | h
      · refine Int.le_trans ?_ (foldl_ge n l (part (wF row) ws n) i (by rw [part_length]; exact hl))
        rw [List.getD_eq_getElem?_getD (l := part _ _ _)]
        simp only [part, List.getElem?_mapIdx]
        rw [List.getElem?_eq_getElem (by omega)]
        simp only [Option.map_some, Option.getD_some, if_pos hi]
        unfold wF
        split <;> omega
      · exact ih _ (by rw [part_length]; exact hl) h
  exact this rows _ (by simp) hr

/-- A row of another type than uint8 (and than the Builder's) is kept by what a Builder writes. -/
theorem R_others {α : Type} {d : Kd α} {e : Nat} {W W' : World} {base : Nat} {ok : Nat → Prop} {v : Value} {xs : List α} {T u b : Nat} {cs : Array Value} (h : d.R e W base ok v xs) (hb : W.heap[b]? = some (.cells cs T (0, 0))) (hk : Lib.OthersKept u (some b) W W') (ht : ∀ q, q ∈ e :: d.E → q ≠ u ∧ q ≠ T) : d.R e W' base ok v xs := by
  have h2 : d.R e W' base (fun k => ok k ∧ base ≤ k ∧ k < W.heap.size ∧ ∃ q, q ∈ e :: d.E ∧ ∃ cells, W.heap[k]? = some (.cells cells q (0, 0))) v xs := by
    refine Kd.R_step (Kd.R_bound h) ?_
    rintro k ⟨_, _, _, q, hq, cells, hc⟩ _
    rw [hc]
    obtain ⟨h1, h2⟩ := ht q hq
    refine hk k _ hc ?_ ?_
    · intro e_
      have e2 := Option.some.inj e_
      rw [e2, hb] at hc
      injection hc with hc
      injection hc with _ hc
      exact h2 hc.symm
    · intro c fz e_
      injection e_ with _ e_
      exact h1 e_
  exact Kd.R_mono h2 (fun k hk => hk.1)
/-- A store into a row of another type leaves a Builder as it is. -/
theorem builder_setCell {T e : TypeId} {B b : Nat} {bs : List Value} {W : World} (h : Lib.IsBuilderF T e B b bs W) {g j : Nat} {cs : Array Value} {t : TypeId} (hg : W.heap[g]? = some (.cells cs t (0, 0))) (h1 : t ≠ e) (h2 : t ≠ T) (u : Value) : Lib.IsBuilderF T e B b bs (W.setCell ⟨g, j, none⟩ u) := by
  have key : ∀ p, Lib.BuilderAtF T e B b p bs W → Lib.BuilderAtF T e B b p bs (W.setCell ⟨g, j, none⟩ u) := by
    rintro p ⟨hB, v, hb, hown, hne⟩
    have hbg : b ≠ g := by
      rintro rfl
      rw [hb] at hg
      injection hg with hg
      injection hg with _ hg
      exact h2 hg.symm
    refine ⟨hB, v, (Below.heap_setCell W ⟨g, j, none⟩ u b hbg).trans hb, ?_, hne⟩
    refine hown.kept (row := some g) ⟨rfl, rfl, rfl, by simp, fun k hk hkg => Below.heap_setCell W ⟨g, j, none⟩ u k (fun e_ => hkg (by rw [e_]))⟩ (Or.inr ?_)
    intro hv
    obtain ⟨_, hw⟩ := hown
    rcases hw with ⟨rfl, _⟩ | ⟨g', cap, cur, fz, rfl, _, hg', _⟩
    · simp [Value.ownBlock] at hv
    · simp only [Value.ownBlock, Option.some.injEq] at hv
      subst hv
      rw [hg] at hg'
      injection hg' with hg'
      injection hg' with _ hg' _
      exact h1 hg'
  exact h.elim (fun x => .inl (key _ x)) (fun x => .inr (key _ x))
theorem builder_blk {T e : TypeId} {B b : Nat} {bs : List Value} {W : World} (h : Lib.IsBuilderF T e B b bs W) : ∃ cs, W.heap[b]? = some (.cells cs T (0, 0)) := by
  rcases h with ⟨_, v, hb, _⟩ | ⟨_, v, hb, _⟩
  · exact ⟨_, hb⟩
  · exact ⟨_, hb⟩
end Go.Proofs.YthdgjobhofpjeaaGreatDoor.X
namespace Go.Proofs.YthdgjobhofpjeaaGreatDoor.X
open Go Go.Proofs Go.RowKit Go.Proofs.YthdgjobhofpjeaaGreatDoorW.PrintWords Go.Proofs.YthdgjobhofpjeaaGreatDoorW.PrintLast Go.Proofs.YthdgjobhofpjeaaGreatDoorW.PrintMore
attribute [local go_sem] max2_int min2_int max_two min_two
set_option linter.unusedVariables false
set_option linter.unusedSimpArgs false

theorem cellAt {W : World} {A : Option Addr} {n : Nat} {xs : List ByteArray} (h : Kd.C Kd.string W A n xs) (hp : 0 < n) : ∃ b o, A = some ⟨b, o, none⟩ ∧ ∀ j, j < n → W.cell? ⟨b, o + j, none⟩ = some (.string (xs.getD j ⟨#[]⟩)) := by
  obtain ⟨hl, _, hg⟩ := h
  obtain ⟨⟨b, o, sp⟩, rfl, hcell⟩ := hg hp
  have cell : ∀ (j : Nat) x, xs[j]? = some x → W.cell? ((⟨b, o, sp⟩ : Addr).add j) = some (.string x) := by
    intro j x hx
    obtain ⟨c, hcl, hR, hc⟩ := hcell j x hx
    obtain rfl : c = [.string x] := hR
    have h2 := hc 0 _ rfl
    simpa [Kd.string, Kd.scalar] using h2
  have hsp : sp = none := by
    have h2 := cell 0 _ (List.getElem?_eq_getElem (by omega))
    rw [Addr.add_zero'] at h2
    exact spot_of_cell h2
  subst hsp
  refine ⟨b, o, rfl, fun j hj => ?_⟩
  have h2 := cell j _ (List.getElem?_eq_getElem (show j < xs.length by omega))
  rw [add_at] at h2
  rw [h2, List.getD_eq_getElem?_getD, List.getElem?_eq_getElem (show j < xs.length by omega)]
  rfl
theorem rowAt {W : World} {A : Option Addr} {rows : List (List ByteArray)} (h : Kd.C (Kd.slice 9 Kd.string) W A rows.length rows) (hp : 0 < rows.length) : ∃ b o, A = some ⟨b, o, none⟩ ∧ ∀ j, j < rows.length → ∃ A1 c1, W.cell? ⟨b, o + j, none⟩ = some (.slice A1 (rowOf rows j).length c1) ∧ (rowOf rows j).length ≤ c1 ∧ Kd.C Kd.string W A1 (rowOf rows j).length (rowOf rows j) := by
  obtain ⟨hl, _, hg⟩ := h
  obtain ⟨⟨b, o, sp⟩, rfl, hcell⟩ := hg hp
  have cell : ∀ (j : Nat) x, rows[j]? = some x → ∃ A1 c1, W.cell? ((⟨b, o, sp⟩ : Addr).add j) = some (.slice A1 x.length c1) ∧ x.length ≤ c1 ∧ Kd.C Kd.string W A1 x.length x := by
    intro j x hx
    obtain ⟨c, hcl, ⟨A1, c1, rfl, h1, h2⟩, hc⟩ := hcell j x hx
    have h3 := hc 0 _ rfl
    refine ⟨A1, c1, by simpa [Kd.slice] using h3, h1, h2⟩
  have hsp : sp = none := by
    obtain ⟨_, _, h2, _⟩ := cell 0 _ (List.getElem?_eq_getElem hp)
    rw [Addr.add_zero'] at h2
    exact spot_of_cell h2
  subst hsp
  refine ⟨b, o, rfl, fun j hj => ?_⟩
  have h2 := cell j _ (List.getElem?_eq_getElem hj)
  rw [add_at] at h2
  rw [rowOf, List.getD_eq_getElem?_getD, List.getElem?_eq_getElem hj]
  exact h2
def widthsUp (n : Nat) (rows : List (List ByteArray)) (k : Nat) : List Int := widths n (rows.take k)
theorem widthsUp_succ (n : Nat) (rows : List (List ByteArray)) (k : Nat) (hk : k < rows.length) : widthsUp n rows (k + 1) = part (wF (rowOf rows k)) (widthsUp n rows k) n := by
  unfold widthsUp widths
  rw [rowOf, List.take_succ_eq_append_getElem hk, List.foldl_append, List.getD_eq_getElem?_getD, List.getElem?_eq_getElem hk]
  rfl
theorem widthsUp_length (n : Nat) (rows : List (List ByteArray)) (k : Nat) : (widthsUp n rows k).length = n := widths_length _ _
theorem infoInt_ : (Tryz.prog.info? 3).map (fun i => (i.zero, i.size, i.bytes)) = some (some (.int .i64 0), 1, 8) := by kernel_rfl

theorem repeat_blanks (c : UInt8) (n : Int) (h0 : 0 ≤ n) (h1 : n ≤ 1099511627776) : strings_Repeat.f ⟨#[c]⟩ n = some (blanks c n) := by
  unfold strings_Repeat.f blanks
  rw [if_pos h0, if_pos (by omega), if_pos (by rw [size_lit]; simp; omega)]
theorem blanks_size (c : UInt8) (n : Int) : (blanks c n).size = n.toNat := by
  have : ∀ k, (Lib.repeatL [c] k).length = k := by
    intro k
    induction k with
    | zero => rfl
    | succ k ih => simp [Lib.repeatL, ih]
  unfold blanks
  rw [size_lit, List.size_toArray, this]
theorem padded_cF (s : ByteArray) (wd : Int) (W : World) (h1 : (s.size : Int) ≤ wd) (h2 : wd ≤ 1099511627776) (hG : GW W) :
    Calls Tryz.prog 54 #[.string s, .int .i64 wd] W fun e w' => e = .returned (.string (s ++ blanks 32 (wd - s.size))) ∧ Below W.heap.size W w' := by
  have e : wrap64 (wd - (s.size : Int)) = wd - s.size := by unfold wrap64; omega
  refine padded_calls s _ wd W (by omega) (by rw [e]; exact repeat_blanks 32 _ (by omega) (by omega)) ?_ hG
  rw [blanks_size]
  omega
theorem blkOf {α : Type} {d : Kd α} {e : Nat} {W : World} {base : Nat} {ok : Nat → Prop} {g n cap : Nat} {xs : List α} (h : d.R e W base ok (.slice (some ⟨g, 0, none⟩) n cap) xs) (hp : 0 < xs.length) : (∃ cells, W.heap[g]? = some (.cells cells e (0, 0))) ∧ g < W.heap.size := by
  obtain ⟨g', c, e', _, h1, h2⟩ := Kd.R_form h hp
  injection e' with e' _ _
  injection e' with e'
  injection e' with e' _ _
  subst e'
  exact ⟨h2, h1⟩
theorem C_of_R {α : Type} {d : Kd α} {e : Nat} {W : World} {base : Nat} {ok : Nat → Prop} {A : Option Addr} {n cap : Nat} {xs : List α} (h : d.R e W base ok (.slice A n cap) xs) : n = xs.length ∧ d.C W A n xs := by
  obtain ⟨rfl, _, hC⟩ := Kd.R_reads' h
  exact ⟨rfl, hC⟩
theorem upS_one (ws : List Int) (rows : List (List ByteArray)) : upS ws rows (0 + 1) = upS ws rows 0 ++ rowS ws (rowOf rows 0) ++ marksS ws (rowOf rows 0) := by
  show upS ws rows 0 ++ (rowS ws (rowOf rows 0) ++ (if (0 : Nat) = 0 then _ else _)) = _
  rw [if_pos rfl, ByteArray.append_assoc]
theorem line_some (sep : ByteArray) (l : List ByteArray) (h1 : l.length ≤ 1099511627776) (h2 : (lineS sep l).size ≤ 35184372088832) : report_line.f sep l = some (lineS sep l) := by
  unfold lineS at h2
  have h3 : (Lib.join (l.map (·.data.toList)) sep.data.toList).length + 1 ≤ 35184372088832 := by
    rw [ByteArray.size_append, joinS, size_lit, List.size_toArray, size_lit] at h2
    exact h2
  unfold report_line.f strings_Join.f
  rw [if_pos (by omega), if_pos (by omega), Option.bind_some, if_pos (by rw [size_lit, List.size_toArray]; omega)]
  rfl
theorem line_calls' (sep : ByteArray) (A1 : Option Addr) (c1 n : Nat) (l : List ByteArray) (W : World) (hn : l.length = n) (hr : Kd.C Kd.string W A1 n l) (hc : n ≤ c1) (h1 : n ≤ 1099511627776) (h2 : (lineS sep l).size ≤ 35184372088832) (hG : GW W) :
    Calls Tryz.prog 24 #[.string sep, .slice A1 n c1] W fun e w' => e = .returned (.string (lineS sep l)) ∧ Below W.heap.size W w' := by
  subst hn
  exact report_line.calls sep A1 c1 l _ W hr hc (line_some sep l h1 h2) hG
theorem byteCells_app (a b : ByteArray) : Lib.byteCells (a ++ b).data.toList = Lib.byteCells a.data.toList ++ Lib.strCells b := by
  rw [Lib.strCells_eq, ← Lib.byteCells_append]
  congr 1
theorem app_empty (a : ByteArray) : a ++ (⟨#[]⟩ : ByteArray) = a := by
  apply ByteArray.ext
  simp
theorem Clone_calls' (A0 : Option Addr) (c0 n : Nat) (l0 : List ByteArray) (w : World) (hn : l0.length = n) (hr0 : Kd.C Kd.string w A0 n l0) (hc0 : n ≤ c0) (hl : n < 8796093022208) :
    Calls Tryz.prog 53 #[.slice A0 n c0] w fun e w' => ∃ v0_ : Value, e = .returned (v0_) ∧ Kd.R Kd.string 9 w' w.heap.size (fun _ => True) v0_ l0 ∧ Below w.heap.size w w' := by
  subst hn
  exact Clone_calls A0 c0 l0 w hr0 hc0 hl
set_option maxHeartbeats 8000000 in
set_option maxRecDepth 1000000 in
theorem table_walk (b0 o0 : Nat) (c0 n N : Nat) (l0 : List (List ByteArray)) (w : World) (hN : l0.length = N) (hn : (rowOf l0 0).length = n) (hN0 : 0 < N) (hN1 : N ≤ 1099511627776) (hn0 : 1 ≤ n) (hn1 : n ≤ 1099511627776)
    (hrow : ∀ j, j < N → ∃ A1 c1, w.cell? ⟨b0, o0 + j, none⟩ = some (.slice A1 n c1) ∧ n ≤ c1 ∧ Kd.C Kd.string w A1 n (rowOf l0 j) ∧ (rowOf l0 j).length = n) (hG : GW w)
    (hfit : ∀ k, k < N → ∀ j, j < n → (((rowOf l0 k).getD j ⟨#[]⟩).size : Int) ≤ (widths n l0).getD j 0 ∧ (widths n l0).getD j 0 ≤ 1099511627776)
    (hlen : ∀ k, k < N → (upS (widths n l0) l0 k).size ≤ 35184372088832 ∧ (rowS (widths n l0) (rowOf l0 k)).size ≤ 35184372088832) (hlen2 : (marksS (widths n l0) (rowOf l0 0)).size ≤ 35184372088832) :
    Calls Tryz.prog 30 #[.slice (some ⟨b0, o0, none⟩) N c0] w fun e w' => e = .returned (.string (tableS l0)) ∧ Below w.heap.size w w' := by
  obtain ⟨A1, c1, hx, _, _, _⟩ := hrow 0 hN0
  rw [Nat.add_zero] at hx
  have z0 : (0 : Int) < (N : Int) := by omega
  go_enter Tryz.func30, Tryz.ntmps30
  go_wp2_with ((with_reducible refine gate_dst (N := 18) rfl ?_); refine Kd.R_make (Kd.int .i64) _ 3 rfl (N := 18) rfl 28 _ _ rfl (n : Int) rfl rfl Tryz.underlying28 (.int .i64 0) 8 infoInt_ rfl (by decide) (by omega) (0 : Int) (ok := fun _ => True) (okp := fun _ => True) rfl (fun _ hk => hk) trivial (by omega) (by omega) (Below.refl _ _) (Nat.le_refl _) ?_; intro vW w1 hR hb _ _)
  obtain ⟨gW, cW, rfl, hgW⟩ : ∃ gW cW, vW = .slice (some ⟨gW, 0, none⟩) n cW ∧ w.heap.size ≤ gW := by
    obtain ⟨g, c, e, h1, _, _⟩ := Kd.R_form hR (by simp; omega)
    exact ⟨g, c, by rw [e]; simp, h1⟩
  have HR := Aside0.mk hR
  have HB := Aside0.mk hb
  clear hR hb hx
  have HL0 := Aside0.mk hn
  have HN := Aside0.mk hN
  clear hn hN
  have HW0 := Aside0.mk hrow
  clear hrow
  have HG := Aside0.mk hG
  have HF := Aside0.mk hfit
  have HLen := Aside0.mk hlen
  have HLen2 := Aside0.mk hlen2
  clear hG hfit hlen hlen2
  go_loopw [21] (fun v21 wr => ∃ k : Nat, k ≤ N ∧ v21 = .int .i64 k ∧ Aside0 (Kd.R (Kd.int .i64) 3 wr w.heap.size (fun _ => True) (.slice (some ⟨gW, 0, none⟩) n cW) (widthsUp n l0 k)) ∧ Aside0 (Below w.heap.size w wr)) (fun v21 wr => N - (intOf v21).toNat)
  case atStart => exact ⟨0, Nat.zero_le _, rfl, ⟨by simpa [widthsUp, widths] using HR.out⟩, HB⟩
  case round =>
    clear HR HB
    obtain ⟨k, hk, rfl, HR, HB⟩ := hrel
    by_cases hlt : k < N
    · obtain ⟨A2, c2, hx2, hc2, hC2, hl2⟩ := HW0.out k hlt
      have HL2 := Aside0.mk hl2
      have HX := Aside0.mk hx2
      clear hl2 hx2
      have hx2 := pw_cell_below HB.out HX.out
      obtain ⟨b2, o2, rfl, hs2⟩ := cellAt hC2 (by omega)
      have HS2 := Aside0.mk hs2
      clear hs2 hC2 HX
      go_wp2
      obtain ⟨wo, rfl⟩ : ∃ wo : World, wo = wr := ⟨_, rfl⟩
      clear hx2
      go_loopw [27] (fun v27 wi => ∃ j : Nat, j ≤ n ∧ v27 = .int .i64 j ∧ Aside0 (Kd.R (Kd.int .i64) 3 wi w.heap.size (fun _ => True) (.slice (some ⟨gW, 0, none⟩) n cW) (part (wF (rowOf l0 k)) (widthsUp n l0 k) j)) ∧ Aside0 (Below w.heap.size w wi)) (fun v27 wi => n - (intOf v27).toNat)
      case atStart => exact ⟨0, Nat.zero_le _, rfl, ⟨by rw [part_zero]; exact HR.out⟩, HB⟩
      case round =>
        clear HR HB
        obtain ⟨j, hj, rfl, HR, HB⟩ := hrel
        by_cases hjl : j < n
        · have hs := pw_cell_below HB.out (HS2.out j hjl)
          have hcw := Kd.R_celln (0 : Int) HR.out (j : Int) (by omega) (by omega)
          have hgd : rdOf (0 : Int) (part (wF (rowOf l0 k)) (widthsUp n l0 k) j) (j : Int) = (widthsUp n l0 k).getD j 0 := by unfold rdOf; rw [Int.toNat_natCast]; exact part_getD _ _ _ _ _ (Nat.le_refl _)
          rw [hgd, Int.toNat_natCast] at hcw
          clear hgd
          obtain ⟨hcw1, hcw2⟩ := hcw
          have hput := Kd.R_putn HR.out (j : Int) (wF (rowOf l0 k) j ((widthsUp n l0 k).getD j 0))
          rw [Int.toNat_natCast, part_set] at hput
          have HP := Aside0.mk hput
          clear hput
          unfold wF at HP
          generalize (rowOf l0 k).getD j ⟨#[]⟩ = s at hs HP
          generalize (widthsUp n l0 k).getD j 0 = wd at hcw1 HP
          go_wp2
          go_roundw
          case rel => exact ⟨j + 1, by omega, by go_num, HP, ⟨below_set HB.out hgW⟩⟩
          case measure => simp [intOf]; omega
        · obtain rfl : j = n := by omega
          rw [← widthsUp_succ _ _ _ (by rw [HN.out]; exact hlt)] at HR
          go_wp2
          go_roundw
          case rel => exact ⟨k + 1, by omega, by go_num, HR, HB⟩
          case measure => simp [intOf]; omega
    · obtain rfl : N = k := by omega
      have hws : widthsUp n l0 N = widths n l0 := by unfold widthsUp; rw [List.take_of_length_le (by rw [HN.out]; exact Nat.le_refl _)]
      rw [hws] at HR
      clear hws
      clear hk hlt
      go_wp2
      have hI := (Lib.IsBuilderF.of (Lib.fresh_isBuilder 74 5 wr))
      have HI := Aside0.mk hI
      clear hI
      have hwo := HB.out.size
      have HB2 := Aside0.mk (HB.out.alloc hwo (.cells #[.pointer none, .slice none 0 0] 74))
      have HR2 := Aside0.mk (Kd.R_alloc HR.out (.cells #[.pointer none, .slice none 0 0] 74))
      clear HB HR
      obtain ⟨wo, rfl⟩ : ∃ wo : World, wo = wr := ⟨_, rfl⟩
      go_loopw [46] (fun v46 wr => ∃ k : Nat, k ≤ N ∧ v46 = .int .i64 k ∧ Aside0 (Kd.R (Kd.int .i64) 3 wr w.heap.size (fun _ => True) (.slice (some ⟨gW, 0, none⟩) n cW) (widths n l0)) ∧ Aside0 (Lib.IsBuilderF 74 5 wo.heap.size wo.heap.size (Lib.byteCells (upS (widths n l0) l0 k).data.toList) wr) ∧ Aside0 (Below w.heap.size w wr)) (fun v46 wr => N - (intOf v46).toNat)
      case atStart => exact ⟨0, Nat.zero_le _, rfl, HR2, HI, HB2⟩
      case round =>
        clear HR2 HI HB2
        obtain ⟨k, hk, rfl, HR, HI, HB⟩ := hrel
        by_cases hlt : k < N
        · obtain ⟨A2, c2, hx2, hc2, hC2, hl2⟩ := HW0.out k hlt
          have hx2 := pw_cell_below HB.out hx2
          have HCL := Clone_calls' A2 c2 n (rowOf l0 k) wr hl2 (Kd.C_below hC2 HB.out) hc2 (by omega)
          have HL2 := Aside0.mk hl2
          clear hl2 hC2
          go_wp2_with fail
          refine HCL.mono ?_
          rintro e W1 ⟨vC, rfl, hRC, hb1⟩
          clear HCL hx2
          obtain ⟨gC, cC, rfl, hgC, hncC⟩ : ∃ gC cC, vC = .slice (some ⟨gC, 0, none⟩) n cC ∧ wr.heap.size ≤ gC ∧ n ≤ cC := by
            obtain ⟨g, c, e, h1, _, _⟩ := Kd.R_form hRC (by rw [HL2.out]; omega)
            rw [HL2.out] at e
            obtain ⟨A, c', e', h3, _⟩ := Kd.R_reads hRC
            rw [e] at e'
            injection e' with _ _ e3
            refine ⟨g, c, e, h1, ?_⟩
            rw [HL2.out] at h3
            omega
          have HRC := Aside0.mk (Kd.R_lower hRC HB.out.size)
          have HR1 := Aside0.mk (Kd.R_below HR.out hb1)
          have HI1 := Aside0.mk (builder_below HI.out hb1)
          have HB1 := Aside0.mk (below_step HB.out hb1)
          have hgC2 : w.heap.size ≤ gC := Nat.le_trans HB.out.size hgC
          clear hRC hb1 HR HI HB hgC
          have z1 : (0 : Int) ≤ (n : Int) - 1 := by omega
          have z2 : (n : Int) - 1 ≤ (cC : Int) := by omega
          have HF1 := Aside0.mk (HF.out k hlt)
          go_wp2
          obtain ⟨wo1, rfl⟩ : ∃ wo1 : World, wo1 = W1 := ⟨_, rfl⟩
          go_loopw [59] (fun v59 wi => ∃ j : Nat, j ≤ n - 1 ∧ v59 = .int .i64 j ∧ Aside0 (Kd.R Kd.string 9 wi w.heap.size (fun _ => True) (.slice (some ⟨gC, 0, none⟩) n cC) (part (cF (widths n l0)) (rowOf l0 k) j)) ∧ Aside0 (Kd.R (Kd.int .i64) 3 wi w.heap.size (fun _ => True) (.slice (some ⟨gW, 0, none⟩) n cW) (widths n l0)) ∧ Aside0 (Lib.IsBuilderF 74 5 wo.heap.size wo.heap.size (Lib.byteCells (upS (widths n l0) l0 k).data.toList) wi) ∧ Aside0 (Below w.heap.size w wi)) (fun v59 wi => (n - 1) - (intOf v59).toNat)
          case atStart => exact ⟨0, Nat.zero_le _, rfl, ⟨by rw [part_zero]; exact HRC.out⟩, HR1, HI1, HB1⟩
          case round =>
            clear HRC HR1 HI1 HB1
            obtain ⟨j, hj, rfl, HRC, HR, HI, HB⟩ := hrel
            by_cases hjl : j < n - 1
            · have hcc := Kd.R_celln (⟨#[]⟩ : ByteArray) HRC.out (j : Int) (by omega) (by omega)
              have hgd : rdOf (⟨#[]⟩ : ByteArray) (part (cF (widths n l0)) (rowOf l0 k) j) (j : Int) = (rowOf l0 k).getD j ⟨#[]⟩ := by unfold rdOf; rw [Int.toNat_natCast]; exact part_getD _ _ _ _ _ (Nat.le_refl _)
              rw [hgd, Int.toNat_natCast] at hcc
              have hcw := Kd.R_celln (0 : Int) HR.out (j : Int) (by omega) (by omega)
              have hgd2 : rdOf (0 : Int) (widths n l0) (j : Int) = (widths n l0).getD j 0 := by unfold rdOf; rw [Int.toNat_natCast]
              rw [hgd2, Int.toNat_natCast] at hcw
              clear hgd hgd2
              obtain ⟨hcc1, hcc2⟩ := hcc
              obtain ⟨hcw1, _⟩ := hcw
              have hput := fun (W : World) (h : Kd.R Kd.string 9 W w.heap.size (fun _ => True) (.slice (some ⟨gC, 0, none⟩) n cC) (part (cF (widths n l0)) (rowOf l0 k) j)) => Kd.R_putn h (j : Int) (cF (widths n l0) j ((rowOf l0 k).getD j ⟨#[]⟩))
              simp only [Int.toNat_natCast, part_set] at hput
              have HP := Aside0.mk hput
              clear hput
              unfold cF at HP
              have HF2 := Aside0.mk (HF1.out j (by omega))
              have HGi := Aside0.mk (GW.below HG.out HB.out)
              have HPD := Aside0.mk (fun W => padded_cF ((rowOf l0 k).getD j ⟨#[]⟩) ((widths n l0).getD j 0) W HF2.out.1 HF2.out.2)
              have hltC : gC < wr.heap.size := by
                obtain ⟨g, c, e, _, h, _⟩ := Kd.R_form HRC.out (by rw [part_length, HL2.out]; omega)
                injection e with e _ _
                injection e with e
                injection e with e _ _
                rw [e]
                exact h
              go_wp2
              go_region_with (go_at_call 54; refine (HPD.out _ ?gw).mono ?_; (case gw => repeat (first | exact HGi.out | apply GW.drewN | apply GW.drew)); rintro e W2 ⟨rfl, hb2⟩; have k1 := pw_cell_below hb2 hcc1; have k2 : W2.frozen? ⟨gC, j, none⟩ = false := (hb2.frozen (p := ⟨gC, j, none⟩) hltC).trans hcc2)
              all_goals
                have hr2 := HP.out _ (Kd.R_below (Kd.R_drew HRC.out) hb2)
                have hw2 := Kd.R_below (Kd.R_drew HR.out) hb2
                have hi2 : Lib.IsBuilderF 74 5 wo.heap.size wo.heap.size (Lib.byteCells (upS (widths n l0) l0 k).data.toList) W2 := builder_below (W := wr.drew) HI.out hb2
                have hbb := below_step (below_drew1 HB.out) hb2
                clear hcc1 hcw1 hcc2 k1 k2
                go_wp2
                go_roundw
                case rel =>
                  obtain ⟨⟨cells, hcells⟩, _⟩ := blkOf (Kd.R_below (Kd.R_drew HRC.out) hb2) (by rw [part_length, HL2.out]; omega)
                  exact ⟨j + 1, by omega, by go_num, ⟨hr2⟩, ⟨Kd.R_set hw2 hcells (by decide) _ _⟩, ⟨builder_setCell hi2 hcells (by decide) (by decide) _⟩, ⟨below_set hbb hgC2⟩⟩
                case measure => simp [intOf]; omega
            · obtain rfl : j = n - 1 := by omega
              obtain ⟨hlr1, hlr2⟩ := HLen.out k hlt
              have hrowS : lineS ⟨#[32, 124, 32]⟩ (part (cF (widths n l0)) (rowOf l0 k) (n - 1)) = rowS (widths n l0) (rowOf l0 k) := by unfold rowS; rw [HL2.out]
              have HRowS := Aside0.mk hrowS
              have HLr1 := Aside0.mk hlr1
              have HLr2 := Aside0.mk hlr2
              have hcl : n = (part (cF (widths n l0)) (rowOf l0 k) (n - 1)).length := by rw [part_length, HL2.out]
              have HCl := Aside0.mk hcl
              have HLN := Aside0.mk (line_calls' ⟨#[32, 124, 32]⟩ (some ⟨gC, 0, none⟩) cC n _ wr hcl.symm (C_of_R HRC.out).2 hncC (by omega) (by rw [hrowS]; exact hlr2) (GW.below HG.out HB.out))
              clear hrowS hlr1 hlr2 hcl
              go_wp2_with fail
              refine HLN.out.mono ?_
              rintro e W2 ⟨rfl, hb2⟩
              rw [HRowS.out]
              have HRC2 := Aside0.mk (Kd.R_below HRC.out hb2)
              have HR2 := Aside0.mk (Kd.R_below HR.out hb2)
              have HI2 := Aside0.mk (builder_below HI.out hb2)
              have HB2 := Aside0.mk (below_step HB.out hb2)
              have hwo2 : wo.heap.size ≤ W2.heap.size := by
                obtain ⟨cs, hcs⟩ := builder_blk HI2.out
                exact Nat.le_of_lt (blk_lt hcs)
              clear hb2 HRC HR HI HB
              go_wp2_with fail
              refine (writeString wo.heap.size wo.heap.size _ _ _ HI2.out (by have := HLr1.out; have := HLr2.out; rw [Lib.byteCells_length, data_length]; omega) hwo2).mono ?_
              rintro e W3 ⟨rfl, h3, b3, k3⟩
              obtain ⟨cs, hcs⟩ := builder_blk HI2.out
              have HRC3 := Aside0.mk (R_others HRC2.out hcs k3 (by decide))
              have HR3 := Aside0.mk (R_others HR2.out hcs k3 (by decide))
              have HI3 : Aside0 (Lib.IsBuilderF 74 5 wo.heap.size wo.heap.size (Lib.byteCells (upS (widths n l0) l0 k ++ rowS (widths n l0) (rowOf l0 k)).data.toList) W3) := ⟨by rw [byteCells_app]; exact .inr h3⟩
              have HB3 := Aside0.mk (HB2.out.trans (b3.mono hwo))
              clear h3 b3 k3 HRC2 HR2 HI2 HB2 hcs hwo2
              rcases Nat.eq_zero_or_pos k with hk0 | hk0
              · subst hk0
                go_wp2
                obtain ⟨wo3, rfl⟩ : ∃ wo3 : World, wo3 = W3 := ⟨_, rfl⟩
                go_loopw [82] (fun v82 wi => ∃ j : Nat, j ≤ n ∧ v82 = .int .i64 j ∧ Aside0 (Kd.R Kd.string 9 wi w.heap.size (fun _ => True) (.slice (some ⟨gC, 0, none⟩) n cC) (part (dF (widths n l0)) (part (cF (widths n l0)) (rowOf l0 0) (n - 1)) j)) ∧ Aside0 (Kd.R (Kd.int .i64) 3 wi w.heap.size (fun _ => True) (.slice (some ⟨gW, 0, none⟩) n cW) (widths n l0)) ∧ Aside0 (Lib.IsBuilderF 74 5 wo.heap.size wo.heap.size (Lib.byteCells (upS (widths n l0) l0 0 ++ rowS (widths n l0) (rowOf l0 0)).data.toList) wi) ∧ Aside0 (Below w.heap.size w wi)) (fun v82 wi => n - (intOf v82).toNat)
                case atStart => exact ⟨0, Nat.zero_le _, rfl, ⟨by rw [part_zero]; exact HRC3.out⟩, HR3, HI3, HB3⟩
                case round =>
                  clear HRC3 HR3 HI3 HB3
                  obtain ⟨j, hj, rfl, HRC, HR, HI, HB⟩ := hrel
                  by_cases hjl : j < n
                  · have hcc := Kd.R_celln (⟨#[]⟩ : ByteArray) HRC.out (j : Int) (by omega) (by omega)
                    rw [Int.toNat_natCast] at hcc
                    have hcw := Kd.R_celln (0 : Int) HR.out (j : Int) (by omega) (by omega)
                    have hgd2 : rdOf (0 : Int) (widths n l0) (j : Int) = (widths n l0).getD j 0 := by unfold rdOf; rw [Int.toNat_natCast]
                    rw [hgd2, Int.toNat_natCast] at hcw
                    clear hgd2
                    obtain ⟨hcc1, hcc2⟩ := hcc
                    obtain ⟨hcw1, _⟩ := hcw
                    have hput := fun (W : World) (h : Kd.R Kd.string 9 W w.heap.size (fun _ => True) (.slice (some ⟨gC, 0, none⟩) n cC) (part (dF (widths n l0)) (part (cF (widths n l0)) (rowOf l0 0) (n - 1)) j)) => Kd.R_putn h (j : Int) (dF (widths n l0) j ((part (cF (widths n l0)) (rowOf l0 0) (n - 1)).getD j ⟨#[]⟩))
                    simp only [Int.toNat_natCast, part_set] at hput
                    have HP := Aside0.mk hput
                    clear hput
                    unfold dF at HP
                    have HF2 := Aside0.mk (HF1.out j (by omega))
                    have HGi := Aside0.mk (GW.below HG.out HB.out)
                    have HCR := Aside0.mk (strings_Repeat.calls ⟨#[45]⟩ ((widths n l0).getD j 0) _ wr (repeat_blanks 45 _ (by have := HF2.out.1; omega) HF2.out.2) HGi.out)
                    have hltC : gC < wr.heap.size := (blkOf HRC.out (by rw [part_length, part_length, HL2.out]; omega)).2
                    go_wp2_with fail
                    refine HCR.out.mono ?_
                    rintro e W2 ⟨rfl, hb2⟩
                    have k1 := pw_cell_below hb2 hcc1
                    have k2 : W2.frozen? ⟨gC, j, none⟩ = false := (hb2.frozen (p := ⟨gC, j, none⟩) hltC).trans hcc2
                    have hr2 := HP.out _ (Kd.R_below HRC.out hb2)
                    have hw2 := Kd.R_below HR.out hb2
                    have hi2 := builder_below HI.out hb2
                    have hbb := below_step HB.out hb2
                    obtain ⟨⟨cells, hcells⟩, _⟩ := blkOf (Kd.R_below HRC.out hb2) (by rw [part_length, part_length, HL2.out]; omega)
                    have HRC9 := Aside0.mk hr2
                    have HR9 := Aside0.mk (Kd.R_set hw2 hcells (by decide) j (.string (blanks 45 ((widths n l0).getD j 0))))
                    have HI9 := Aside0.mk (builder_setCell hi2 hcells (by decide) (by decide) (.string (blanks 45 ((widths n l0).getD j 0))) (j := j))
                    have HB9 := Aside0.mk (below_set hbb hgC2 (j := j) (v := .string (blanks 45 ((widths n l0).getD j 0))))
                    clear hcc1 hcw1 hcc2 hb2 hr2 hw2 hi2 hbb hcells
                    go_wp2
                    go_roundw
                    case rel => exact ⟨j + 1, by omega, by go_num, HRC9, HR9, HI9, HB9⟩
                    case measure => simp [intOf]; omega
                  · obtain rfl : n = j := by omega
                    have hmS : lineS ⟨#[45, 43, 45]⟩ (part (dF (widths n l0)) (part (cF (widths n l0)) (rowOf l0 0) (n - 1)) n) = marksS (widths n l0) (rowOf l0 0) := by unfold marksS; rw [HL2.out]
                    have HMS := Aside0.mk hmS
                    have HLN := Aside0.mk (line_calls' ⟨#[45, 43, 45]⟩ (some ⟨gC, 0, none⟩) cC n _ wr (C_of_R HRC.out).1.symm (C_of_R HRC.out).2 hncC (by omega) (by rw [hmS]; exact HLen2.out) (GW.below HG.out HB.out))
                    clear hmS
                    go_wp2_with fail
                    refine HLN.out.mono ?_
                    rintro e W2 ⟨rfl, hb2⟩
                    rw [HMS.out]
                    have HR2 := Aside0.mk (Kd.R_below HR.out hb2)
                    have HI2 := Aside0.mk (builder_below HI.out hb2)
                    have HB2 := Aside0.mk (below_step HB.out hb2)
                    have hwo2 : wo.heap.size ≤ W2.heap.size := by
                      obtain ⟨cs, hcs⟩ := builder_blk HI2.out
                      exact Nat.le_of_lt (blk_lt hcs)
                    clear hb2 HRC HR HI HB
                    have hll : (Lib.byteCells (upS (widths n l0) l0 0 ++ rowS (widths n l0) (rowOf l0 0)).data.toList).length + (marksS (widths n l0) (rowOf l0 0)).size ≤ 140737488355328 := by
                      have := HLr1.out
                      have := HLr2.out
                      have := HLen2.out
                      rw [Lib.byteCells_length, data_length, ByteArray.size_append]
                      omega
                    go_wp2_with fail
                    refine (writeString wo.heap.size wo.heap.size _ _ _ HI2.out hll hwo2).mono ?_
                    rintro e W3 ⟨rfl, h3, b3, k3⟩
                    obtain ⟨cs, hcs⟩ := builder_blk HI2.out
                    have HR3 := Aside0.mk (R_others HR2.out hcs k3 (by decide))
                    have HI3 : Aside0 (Lib.IsBuilderF 74 5 wo.heap.size wo.heap.size (Lib.byteCells (upS (widths n l0) l0 (0 + 1)).data.toList) W3) := ⟨by
                      rw [show upS (widths n l0) l0 (0 + 1) = upS (widths n l0) l0 0 ++ rowS (widths n l0) (rowOf l0 0) ++ marksS (widths n l0) (rowOf l0 0) from upS_one _ _, byteCells_app]
                      exact .inr h3⟩
                    have HB3 := Aside0.mk (HB2.out.trans (b3.mono hwo))
                    clear h3 b3 k3 HR2 HI2 HB2 hcs hwo2 hll
                    go_wp2
                    go_roundw
                    case rel => exact ⟨0 + 1, by omega, by go_num, HR3, HI3, HB3⟩
                    case measure => simp [intOf]; omega
              · have z3 : (0 : Int) < (k : Int) := by omega
                have hup : upS (widths n l0) l0 (k + 1) = upS (widths n l0) l0 k ++ rowS (widths n l0) (rowOf l0 k) := by rw [upS, if_neg (by omega), app_empty]
                rw [← hup] at HI3
                clear hup
                go_wp2
                go_roundw
                case rel => exact ⟨k + 1, by omega, by go_num, HR3, HI3, HB3⟩
                case measure => simp [intOf]; omega
        · obtain rfl : k = N := by omega
          go_wp2_with fail
          refine (builderString wo.heap.size wo.heap.size _ _ HI.out (by
            obtain ⟨cs, hcs⟩ := builder_blk HI.out
            exact Nat.le_of_lt (blk_lt hcs))).mono ?_
          rintro e W4 ⟨rfl, _, b4, _⟩
          have HE := Aside0.mk (HB.out.trans (b4.mono hwo))
          have htab : tableS l0 = upS (widths n l0) l0 k := by
            unfold tableS
            rw [HN.out]
            have : (l0.headD []).length = n := by
              have h1 := HL0.out
              cases l0 with
              | nil => exact h1
              | cons a l => exact h1
            rw [this]
          have HT := Aside0.mk htab
          clear htab b4
          go_wp2
          go_ret
          exact ⟨by rw [HT.out]; rfl, HE.out⟩
theorem headD_rowOf (rows : List (List ByteArray)) : rows.headD [] = rowOf rows 0 := by
  cases rows <;> rfl
theorem report_table.calls (A0 : Option Addr) (c0 : Nat) (l0 : List (List ByteArray)) (r : ByteArray) (w : World) (hr0 : Kd.C (Kd.slice 9 Kd.string) w A0 l0.length l0) (hc0 : l0.length ≤ c0) (h : report_table.f l0 = some r) (hG : GW w) :
    Calls Tryz.prog 30 #[.slice A0 l0.length c0] w fun e w' => e = .returned (.string r) ∧ Below w.heap.size w w' := by
  unfold report_table.f at h
  split at h
  case isFalse => cases h
  case isTrue ht =>
  obtain rfl := Option.some.inj h
  obtain ⟨⟨h1, h2, h3, h4⟩, h5, h6, h7⟩ := ht
  rw [headD_rowOf] at *
  have hp : 0 < l0.length := by
    rcases Nat.eq_zero_or_pos l0.length with h | h
    · exact absurd (List.length_eq_zero_iff.1 h) h1
    · exact h
  have hmem : ∀ k, k < l0.length → rowOf l0 k ∈ l0 := fun k hk => by
    rw [rowOf, List.getD_eq_getElem?_getD, List.getElem?_eq_getElem hk]
    exact List.getElem_mem hk
  obtain ⟨b, o, rfl, hrow⟩ := rowAt hr0 hp
  refine table_walk b o c0 (rowOf l0 0).length l0.length l0 w rfl rfl hp h4 h2 h3 (fun j hj => ?_) hG (fun k hk j hj => ⟨?_, ?_⟩) h6 h7
  · obtain ⟨A1, c1, hx, hc, hC⟩ := hrow j hj
    have hl := (h5 _ (hmem j hj)).1
    rw [hl] at hx hc hC
    exact ⟨A1, c1, hx, hc, hC, hl⟩
  · exact widths_ge _ _ _ (hmem k hk) j hj
  · exact (widths_bound _ _ 1099511627776 (by omega) (fun row hr s hs => by have := (h5 row hr).2 s hs; omega) j).2
end Go.Proofs.YthdgjobhofpjeaaGreatDoor.X
namespace Go.Proofs.YthdgjobhofpjeaaGreatDoor.X
open Go.RowKit Go.Proofs.YthdgjobhofpjeaaGreatDoorW.PrintWords Go.Proofs.YthdgjobhofpjeaaGreatDoorW.PrintLast Go.Proofs.YthdgjobhofpjeaaGreatDoorW.PrintMore
set_option linter.unusedVariables false
set_option linter.unusedSimpArgs false
def slices_Grow_string_string.f (l0 : List ByteArray) (a1 : Int) : Option (List ByteArray) := if 0 ≤ a1 then (if a1.toNat * 16 ≤ 140737488355328 then some [] else none) else none
set_option maxHeartbeats 8000000 in
set_option maxRecDepth 100000 in
theorem slices_Grow_string_string.calls (A0 : Option Addr) (c0 : Nat) (l0 : List ByteArray) (a1 : Int) (r : List ByteArray) (w : World) (hr0 : Kd.C Kd.string w A0 l0.length l0) (hc0 : l0.length ≤ c0) (h : slices_Grow_string_string.f l0 a1 = some r) (hG : GW w) :
    Calls Tryz.prog 67 #[.slice none 0 0, .int .i64 a1] w fun e w' => ∃ v0_ : Value, e = .returned (v0_) ∧ Kd.R Kd.string 9 w' w.heap.size (fun _ => True) v0_ r ∧ Below w.heap.size w w' := by
  clear hr0 hc0 hG
  unfold slices_Grow_string_string.f at h
  by_cases h0 : 0 ≤ a1
  case neg => rw [if_neg h0] at h; cases h
  rw [if_pos h0] at h
  by_cases h1 : a1.toNat * 16 ≤ 140737488355328
  case neg => rw [if_neg h1] at h; cases h
  rw [if_pos h1] at h
  obtain rfl := Option.some.inj h
  clear h
  have hn : ¬ a1 < 0 := by omega
  have hw : wrap64 a1 = a1 := by unfold wrap64; omega
  have hw' : IntKind.i64.wrap a1 = a1 := by rw [IntKind.wrap_i64]; omega
  by_cases hz : 0 < a1
  · go_enter Tryz.func67, Tryz.ntmps67
    go_wp2_with (first | (at_builtin; refine Kd.R_append_zeros Kd.string (w0 := w) w.heap.size rfl (.tmp 20) (.tmp 21) 59 3 9 (.string ⟨#[]⟩) 16 rfl Tryz.underlying59 Tryz.underlying3 info9_ rfl (by decide) (by omega) (.slice none 0 0) [] (⟨#[]⟩ : ByteArray) a1 (fun _ => True) rfl rfl ?aZ (fun _ _ => trivial) ?aO h0 ?aB ?aS ?aL ?_; (case aZ => exact rfl); (case aO => exact Kd.R_nil _ _ _ _ _); (case aB => exact Below.refl _ _); (case aS => exact Nat.le_refl _); (case aL => simpa using h1)))
    intro v1 w1 hR hb _ _
    obtain ⟨g, cap, rfl, _, _, _⟩ := Kd.R_form hR (by simp; omega)
    have hT := Kd.R_take hR (m := 0) (Nat.zero_le _)
    rw [List.take_zero] at hT
    go_wp2
    go_ret
    exact ⟨_, rfl, hT, hb⟩
  · go_enter Tryz.func67, Tryz.ntmps67
    go_wp2
    go_ret
    exact ⟨_, rfl, Kd.R_nil _ _ _ _ _, Below.refl _ _⟩
end Go.Proofs.YthdgjobhofpjeaaGreatDoor.X
