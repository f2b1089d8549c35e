/- Cl Cv Cr in one text. Conditions: those in each theorem. -/
import Derived.Test.YthdgjobhofpjeaaGreatDoorCom
import Derived.Test.YthdgjobhofpjeaaGreatDoorX3
namespace Go.Proofs.YthdgjobhofpjeaaGreatDoor.com
open Go.ChangeShapes Go.WideShapes Go.ChangeAt Go.RowKit Go.Joins Go.Proofs.YthdgjobhofpjeaaGreatDoorW.PrintWords
open Go.Proofs.YthdgjobhofpjeaaGreatDoor.X (GW S33 k33 k33_mk)
section
variable {H : Type} {enc : TypeId × Value → H} {P : Program} {w : World} {base : Nat} {sp : Nat → Bool} {held : Bool}
/-- A slice of any elements as a row that is read; Q: what an element's reading tells of it. -/
theorem open_C {α : Type} (d : Kd α) {t e : TypeId} (ht : P.underlying t = some (.slice e)) (hsz : P.cellsOf e = d.sz) (Q : α → DataW H → Prop)
    (hel : ∀ n cs y, DataW.trod enc P w base sp held n e cs = some y → ∃ x, d.K w x cs ∧ Q x y.1) {fuel : Nat} {cs : List Value} {x : DataW H × List MemPlace} (h : DataW.trod enc P w base sp held fuel t cs = some x) :
    ∃ A c l, cs = [.slice A l.length c] ∧ l.length ≤ c ∧ d.C w A l.length l ∧ ((x.1 = .nil ∧ l = []) ∨ ∃ es s2, x.1 = .slice es s2 ∧ es.length = l.length ∧ ∀ i (hi : i < l.length) y, es[i]? = some y → Q l[i] y) := by
  rcases Go.Deep.open_slice ht h with ⟨rfl, rfl⟩ | ⟨a, len, cap, m, n, D, Pl, rfl, _, hl, hm, hmm, rfl, hx⟩
  · exact ⟨none, 0, [], rfl, Nat.le_refl _, Kd.C_nil _ _, .inl ⟨rfl, rfl⟩⟩
  · have hlm : len ≤ m := by rw [hmm]; split <;> omega
    have each : ∀ i : Fin len, ∃ x : α, ∃ cs', (w.cells? base (a.add (i.1 * P.cellsOf e)) (P.cellsOf e) = some cs' ∧ d.K w x cs' ∧ Q x (D i.1)) := by
      intro i
      obtain ⟨cs', h1, h2⟩ := hx i.1 (Nat.lt_of_lt_of_le i.2 hlm)
      obtain ⟨x, hK, hQ⟩ := hel _ _ _ h2
      exact ⟨x, cs', h1, hK, hQ⟩
    let f : Fin len → α := fun i => Classical.choose (each i)
    have hf : ∀ i, ∃ cs', (w.cells? base (a.add (i.1 * P.cellsOf e)) (P.cellsOf e) = some cs' ∧ d.K w (f i) cs' ∧ Q (f i) (D i.1)) := fun i => Classical.choose_spec (each i)
    have hlen : (List.ofFn f).length = len := List.length_ofFn
    have hmax : (List.ofFn f).length ≤ 9223372036854775807 := by
      have e9 : maxLen = 9223372036854775807 := by decide
      omega
    refine ⟨some a, cap, List.ofFn f, by rw [hlen], by rw [hlen]; exact hl, ⟨rfl, hmax, fun _ => ⟨a, rfl, fun j p hj => ?_⟩⟩, .inr ⟨_, _, rfl, by simp, fun i hi y hy => ?_⟩⟩
    · have hjl : j < len := by rw [← hlen]; exact (List.getElem?_eq_some_iff.1 hj).1
      obtain ⟨cs', h1, h2, _⟩ := hf ⟨j, hjl⟩
      obtain ⟨_, h3, h4⟩ := World.cells?_some h1
      have e1 : p = f ⟨j, hjl⟩ := by
        rw [List.getElem?_ofFn, dif_pos hjl] at hj
        exact (Option.some.inj hj).symm
      subst e1
      refine ⟨cs', by rw [h3, hsz], h2, fun i u hu => ?_⟩
      have hi : i < P.cellsOf e := by rw [← h3]; exact (List.getElem?_eq_some_iff.1 hu).1
      have h5 := h4 i hi
      rw [Go.Deep.add_add, hsz] at h5
      rw [h5, hu]
    · have hil : i < len := by rw [← hlen]; exact hi
      obtain ⟨cs', _, _, h3⟩ := hf ⟨i, hil⟩
      have e2 : y = D i := by
        rw [List.getElem?_map, List.getElem?_range hil] at hy
        exact (Option.some.inj hy).symm
      rw [e2, List.getElem_ofFn]
      exact h3
end


section
variable {H : Type} {enc : TypeId × Value → H} {w : World} {base : Nat} {sp : Nat → Bool} {held : Bool}
set_option maxRecDepth 100000 in
theorem elPer (n : Nat) (cs : List Value) (y : DataW H × List MemPlace) (h : DataW.trod enc Tryz.prog w base sp held n 33 cs = some y) : ∃ x : S33, k33.K w x cs ∧ True := by
  obtain ⟨xs, k, _, _, hl, hxl, hf⟩ := DataW.trod_struct Tryz.underlying33 h
  have cP : Tryz.prog.cellsOf 33 = 2 := by kernel_rfl
  have cI : Tryz.prog.cellsOf 3 = 1 := by kernel_rfl
  rw [cP] at hl
  match xs, hxl, cs, hl with
  | [y0, y1], _, [v0, v1], _ =>
    have g0 := hf 0 _ rfl
    have g1 := hf 1 _ rfl
    simp [cI] at g0 g1
    obtain ⟨a, e0, _⟩ := DataW.trod_int Tryz.underlying3 g0
    obtain ⟨b, e1, _⟩ := DataW.trod_int Tryz.underlying3 g1
    simp at e0 e1
    subst e0 e1
    exact ⟨⟨a, b⟩, k33_mk w ⟨a, b⟩, trivial⟩
theorem openPers {fuel : Nat} {cs : List Value} {x : DataW H × List MemPlace} (h : DataW.trod enc Tryz.prog w base sp held fuel 31 cs = some x) :
    ∃ A c l, cs = [.slice A l.length c] ∧ l.length ≤ c ∧ k33.C w A l.length l := by
  obtain ⟨A, c, l, h1, h2, h3, h4⟩ := open_C k33 (P := Tryz.prog) Tryz.underlying31 (by kernel_rfl) (fun _ _ => True) elPer h
  exact ⟨A, c, l, h1, h2, h3⟩
end
end Go.Proofs.YthdgjobhofpjeaaGreatDoor.com
namespace Go.Proofs.YthdgjobhofpjeaaGreatDoor.com
open Go.ChangeShapes Go.WideShapes Go.ChangeAt Go.RowKit Go.Joins Go.Proofs.YthdgjobhofpjeaaGreatDoorW.PrintWords
open Go.Proofs.YthdgjobhofpjeaaGreatDoor.X (GW S54 k54 k54_mk)
section
variable {H : Type} {enc : TypeId × Value → H} {w : World} {base : Nat} {sp : Nat → Bool} {held : Bool}
set_option maxRecDepth 100000 in
theorem elVal (n : Nat) (cs : List Value) (y : DataW H × List MemPlace) (h : DataW.trod enc Tryz.prog w base sp held n 54 cs = some y) : ∃ x : S54, k54.K w x cs ∧ True := by
  obtain ⟨xs, k, _, _, hl, hxl, hf⟩ := DataW.trod_struct Tryz.underlying54 h
  have cV : Tryz.prog.cellsOf 54 = 3 := by kernel_rfl
  have cI : Tryz.prog.cellsOf 3 = 1 := by kernel_rfl
  have cS : Tryz.prog.cellsOf 9 = 1 := by kernel_rfl
  rw [cV] at hl
  match xs, hxl, cs, hl with
  | [y0, y1, y2], _, [v0, v1, v2], _ =>
    have g0 := hf 0 _ rfl
    have g1 := hf 1 _ rfl
    have g2 := hf 2 _ rfl
    simp [cI, cS] at g0 g1 g2
    obtain ⟨a, e0, _⟩ := DataW.trod_int Tryz.underlying3 g0
    obtain ⟨b, e1, _⟩ := DataW.trod_int Tryz.underlying3 g1
    obtain ⟨s, e2, _⟩ := DataW.trod_string Tryz.underlying9 g2
    simp at e0 e1 e2
    subst e0 e1 e2
    exact ⟨⟨a, b, s⟩, k54_mk w ⟨a, b, s⟩, trivial⟩
theorem openVals {fuel : Nat} {cs : List Value} {x : DataW H × List MemPlace} (h : DataW.trod enc Tryz.prog w base sp held fuel 36 cs = some x) :
    ∃ A c l, cs = [.slice A l.length c] ∧ l.length ≤ c ∧ k54.C w A l.length l := by
  obtain ⟨A, c, l, h1, h2, h3, h4⟩ := open_C k54 (P := Tryz.prog) Tryz.underlying36 (by kernel_rfl) (fun _ _ => True) elVal h
  exact ⟨A, c, l, h1, h2, h3⟩
set_option maxRecDepth 100000 in
theorem openVio {r : Reach} {b0 : Nat} {v : Value} {d : DataW H} {p : List MemPlace} (hv : Value.okWide Tryz.prog w r b0 38 v) (h : DataW.Trod enc Tryz.prog w base sp held 38 v d p) :
    ∃ (a0 : Int) (a1 : ByteArray) (a2 : Int) (A : Option Addr) (c : Nat) (l : List S54) (a4 a5 : Int), v = .agg #[.int .i64 a0, .string a1, .int .i64 a2, .slice A l.length c, .int .i64 a4, .int .i64 a5] ∧ l.length ≤ c ∧ k54.C w A l.length l := by
  obtain ⟨cs, rfl, hsz⟩ := okWide_struct Tryz.underlying38 hv
  obtain ⟨fuel, hq⟩ := h
  obtain ⟨xs, k, _, _, hl, hxl, hf⟩ := DataW.trod_struct Tryz.underlying38 hq
  have cT : Tryz.prog.cellsOf 38 = 6 := by kernel_rfl
  have cI : Tryz.prog.cellsOf 3 = 1 := by kernel_rfl
  have cS : Tryz.prog.cellsOf 9 = 1 := by kernel_rfl
  have cL : Tryz.prog.cellsOf 36 = 1 := by kernel_rfl
  have cP : Tryz.prog.cellsOf 33 = 2 := by kernel_rfl
  rw [cT] at hsz
  obtain ⟨cl⟩ := cs
  match xs, hxl, cl, hsz with
  | [y0, y1, y2, y3, y4], _, [v0, v1, v2, v3, v4, v5], _ =>
    have g0 := hf 0 _ rfl
    have g1 := hf 1 _ rfl
    have g2 := hf 2 _ rfl
    have g3 := hf 3 _ rfl
    have g4 := hf 4 _ rfl
    simp [Value.cells, cI, cS, cL, cP] at g0 g1 g2 g3 g4
    obtain ⟨a0, e0, _⟩ := DataW.trod_int Tryz.underlying3 g0
    obtain ⟨a1, e1, _⟩ := DataW.trod_string Tryz.underlying9 g1
    obtain ⟨a2, e2, _⟩ := DataW.trod_int Tryz.underlying3 g2
    obtain ⟨A, c, l, e3, hc, hC⟩ := openVals g3
    obtain ⟨x, hx, _⟩ := elPer _ _ _ g4
    obtain ⟨q0, q1, e4, e5, e6⟩ := hx
    have e5' : q0 = [.int .i64 x.f0] := e5
    have e6' : q1 = [.int .i64 x.f1] := e6
    subst e5' e6'
    simp at e0 e1 e2 e3 e4
    obtain ⟨e41, e42⟩ := e4
    subst e0 e1 e2 e3 e41 e42
    exact ⟨a0, a1, a2, A, c, l, x.f0, x.f1, rfl, hc, hC⟩
end
end Go.Proofs.YthdgjobhofpjeaaGreatDoor.com
namespace Go.Proofs.YthdgjobhofpjeaaGreatDoor.com
open Go.ChangeShapes Go.WideShapes Go.ChangeAt Go.RowKit Go.Joins Go.Proofs.YthdgjobhofpjeaaGreatDoorW.PrintWords
open Go.Proofs.YthdgjobhofpjeaaGreatDoor.X (GW S54 k54 S49 k49 S45 k45 k45_mk)
section
variable {H : Type} {enc : TypeId × Value → H} {w : World} {base : Nat} {sp : Nat → Bool} {held : Bool}
theorem bulk_pos (d : DataW H) : 1 ≤ Rows.uptoBulk d := by
  cases d with
  | lit l => cases l <;> simp [Rows.uptoBulk]
  | _ => simp [Rows.uptoBulk]
theorem bulk_len : ∀ es : List (DataW H), es.length ≤ Rows.uptoBulkAll es
  | [] => Nat.zero_le _
  | d :: es => by
    have h1 := bulk_pos d
    have h2 := bulk_len es
    simp only [List.length_cons, Rows.uptoBulkAll]
    omega
theorem bulk_mem : ∀ (es : List (DataW H)) (y : DataW H), y ∈ es → Rows.uptoBulk y ≤ Rows.uptoBulkAll es
  | [], _, h => by cases h
  | d :: es, y, h => by
    simp only [Rows.uptoBulkAll]
    rcases List.mem_cons.1 h with rfl | h
    · omega
    · have := bulk_mem es y h
      omega
/-- A row's length and what its elements' bulk bounds, by the bulk of the whole. -/
theorem bulk_slice {α : Type} {l : List α} {d : DataW H} {Q : α → DataW H → Prop} (h : (d = .nil ∧ l = []) ∨ ∃ es s2, d = .slice es s2 ∧ es.length = l.length ∧ ∀ i (hi : i < l.length) y, es[i]? = some y → Q l[i] y) :
    l.length ≤ Rows.uptoBulk d ∧ ∀ x ∈ l, ∃ y, Q x y ∧ Rows.uptoBulk y ≤ Rows.uptoBulk d := by
  rcases h with ⟨rfl, rfl⟩ | ⟨es, s2, rfl, e, hq⟩
  · exact ⟨Nat.zero_le _, fun x hx => by cases hx⟩
  · have h1 := bulk_len es
    refine ⟨by simp only [Rows.uptoBulk]; omega, fun x hx => ?_⟩
    obtain ⟨i, hi, rfl⟩ := List.getElem_of_mem hx
    have hie : i < es.length := by omega
    have h2 := bulk_mem es es[i] (List.getElem_mem hie)
    exact ⟨es[i], hq i hi _ (List.getElem?_eq_getElem hie), by simp only [Rows.uptoBulk]; omega⟩
theorem openValsB {fuel : Nat} {cs : List Value} {x : DataW H × List MemPlace} (h : DataW.trod enc Tryz.prog w base sp held fuel 36 cs = some x) :
    ∃ A c l, cs = [.slice A l.length c] ∧ l.length ≤ c ∧ k54.C w A l.length l ∧ l.length ≤ Rows.uptoBulk x.1 := by
  obtain ⟨A, c, l, h1, h2, h3, h4⟩ := open_C k54 (P := Tryz.prog) Tryz.underlying36 (by kernel_rfl) (fun _ _ => True) elVal h
  exact ⟨A, c, l, h1, h2, h3, (bulk_slice (Q := fun _ _ => True) h4).1⟩
set_option maxRecDepth 100000 in
theorem elCol (n : Nat) (cs : List Value) (y : DataW H × List MemPlace) (h : DataW.trod enc Tryz.prog w base sp held n 49 cs = some y) : ∃ x : S49, k49.K w x cs ∧ True := by
  obtain ⟨xs, k, _, _, hl, hxl, hf⟩ := DataW.trod_struct Tryz.underlying49 h
  have cC : Tryz.prog.cellsOf 49 = 3 := by kernel_rfl
  have cI : Tryz.prog.cellsOf 3 = 1 := by kernel_rfl
  have cS : Tryz.prog.cellsOf 9 = 1 := by kernel_rfl
  have cB : Tryz.prog.cellsOf 4 = 1 := by kernel_rfl
  rw [cC] at hl
  match xs, hxl, cs, hl with
  | [y0, y1, y2], _, [v0, v1, v2], _ =>
    have g0 := hf 0 _ rfl
    have g1 := hf 1 _ rfl
    have g2 := hf 2 _ rfl
    simp [cI, cS, cB] at g0 g1 g2
    obtain ⟨s, e0, _⟩ := DataW.trod_string Tryz.underlying9 g0
    obtain ⟨a, e1, _⟩ := DataW.trod_int Tryz.underlying3 g1
    obtain ⟨b, e2, _⟩ := DataW.trod_bool Tryz.underlying4 g2
    simp at e0 e1 e2
    subst e0 e1 e2
    exact ⟨⟨s, a, b⟩, ⟨[.string s], [.int .i64 a, .bool b], rfl, rfl, ⟨[.int .i64 a], [.bool b], rfl, rfl, rfl⟩⟩, trivial⟩
set_option maxRecDepth 100000 in
theorem elFact (n : Nat) (cs : List Value) (y : DataW H × List MemPlace) (h : DataW.trod enc Tryz.prog w base sp held n 45 cs = some y) : ∃ x : S45, k45.K w x cs ∧ x.f0.length ≤ Rows.uptoBulk y.1 := by
  obtain ⟨xs, k, _, hx, hl, hxl, hf⟩ := DataW.trod_struct Tryz.underlying45 h
  have cC : Tryz.prog.cellsOf 45 = 3 := by kernel_rfl
  have cL : Tryz.prog.cellsOf 36 = 1 := by kernel_rfl
  have cP : Tryz.prog.cellsOf 33 = 2 := by kernel_rfl
  rw [cC] at hl
  match xs, hxl, cs, hl with
  | [y0, y1], _, [v0, v1, v2], _ =>
    have g0 := hf 0 _ rfl
    have g1 := hf 1 _ rfl
    simp [cL, cP] at g0 g1
    obtain ⟨A, c, l, e0, hc, hC, hB⟩ := openValsB g0
    obtain ⟨x, hp, _⟩ := elPer _ _ _ g1
    obtain ⟨q0, q1, e4, e5, e6⟩ := hp
    have e5' : q0 = [.int .i64 x.f0] := e5
    have e6' : q1 = [.int .i64 x.f1] := e6
    subst e5' e6'
    simp at e0 e4
    obtain ⟨e41, e42⟩ := e4
    subst e0 e41 e42
    refine ⟨⟨l, x⟩, k45_mk w ⟨l, x⟩ hc hC, ?_⟩
    subst hx
    show l.length ≤ Rows.uptoBulk (.agg [y0.1, y1.1])
    simp only [Rows.uptoBulk, Rows.uptoBulkAll]
    omega
set_option maxRecDepth 100000 in
theorem openRes {r : Reach} {b0 : Nat} {v : Value} {d : DataW H} {p : List MemPlace} (hv : Value.okWide Tryz.prog w r b0 25 v) (h : DataW.Trod enc Tryz.prog w base sp held 25 v d p) :
    ∃ (A0 : Option Addr) (c0 : Nat) (l0 : List S49) (A1 : Option Addr) (c1 : Nat) (l1 : List S45) (a b : Int), v = .agg #[.slice A0 l0.length c0, .slice A1 l1.length c1, .int .i64 a, .int .i64 b] ∧
      l0.length ≤ c0 ∧ k49.C w A0 l0.length l0 ∧ l1.length ≤ c1 ∧ k45.C w A1 l1.length l1 ∧ (Lit.int .i64 a).wf = true ∧ (Lit.int .i64 b).wf = true ∧
      l0.length ≤ Rows.uptoBulk d ∧ l1.length ≤ Rows.uptoBulk d ∧ ∀ f ∈ l1, f.f0.length ≤ Rows.uptoBulk d := by
  obtain ⟨v0, v1, v2, v3, y0, y1, y2, y3, n, rfl, rfl, _, g0, g1, g2, g3⟩ := open_agg4 Tryz.underlying25 (by kernel_rfl) (by kernel_rfl) hv h
  obtain ⟨A0, c0, l0, e0, m0, C0, q0⟩ := open_C k49 (P := Tryz.prog) Tryz.underlying22 (by kernel_rfl) (fun _ _ => True) elCol g0
  obtain ⟨A1, c1, l1, e1, m1, C1, q1⟩ := open_C k45 (P := Tryz.prog) Tryz.underlying23 (by kernel_rfl) (fun x d => x.f0.length ≤ Rows.uptoBulk d) elFact g1
  obtain ⟨a, e2, _, wa⟩ := DataW.trod_int Tryz.underlying3 g2
  obtain ⟨b, e3, _, wb⟩ := DataW.trod_int Tryz.underlying3 g3
  simp at e0 e1 e2 e3
  subst e0 e1 e2 e3
  have b0 := (bulk_slice (Q := fun _ _ => True) q0).1
  obtain ⟨b1, b2⟩ := bulk_slice (Q := fun (x : S45) d => x.f0.length ≤ Rows.uptoBulk d) q1
  refine ⟨A0, c0, l0, A1, c1, l1, a, b, rfl, m0, C0, m1, C1, wa, wb, ?_, ?_, fun f hf => ?_⟩
  · simp only [Rows.uptoBulk, Rows.uptoBulkAll]
    omega
  · simp only [Rows.uptoBulk, Rows.uptoBulkAll]
    omega
  · obtain ⟨y, hy1, hy2⟩ := b2 f hf
    simp only [Rows.uptoBulk, Rows.uptoBulkAll]
    omega
end
end Go.Proofs.YthdgjobhofpjeaaGreatDoor.com
