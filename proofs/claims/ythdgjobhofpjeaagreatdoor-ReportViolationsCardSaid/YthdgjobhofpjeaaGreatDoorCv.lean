/- A violation opened: its fields, the row of values as a row that is read. No conditions but those in each lemma. -/
import Derived.Test.YthdgjobhofpjeaaGreatDoorCl
import Derived.Test.YthdgjobhofpjeaaGreatDoorX19
namespace Go.Proofs.YthdgjobhofpjeaaGreatDoor.com
open Go.ChangeShapes Go.WideShapes Go.ChangeAt Go.RowKit Go.Joins Go.Proofs.YthdgjobhofpjeaaGreatDoorW.PrintWords
open Go.Proofs.YthdgjobhofpjeaaGreatDoor.X (GW S54 k54 k54_mk)
section
variable {H : Type} {enc : TypeId × Value → H} {w : World} {base : Nat} {sp : Nat → Bool} {held : Bool}
set_option maxRecDepth 100000 in
theorem elVal (n : Nat) (cs : List Value) (y : DataW H × List MemPlace) (h : DataW.trod enc Tryz.prog w base sp held n 54 cs = some y) : ∃ x : S54, k54.K w x cs ∧ True := by
  obtain ⟨xs, k, _, _, hl, hxl, hf⟩ := DataW.trod_struct Tryz.underlying54 h
  have cV : Tryz.prog.cellsOf 54 = 3 := by kernel_rfl
  have cI : Tryz.prog.cellsOf 3 = 1 := by kernel_rfl
  have cS : Tryz.prog.cellsOf 9 = 1 := by kernel_rfl
  rw [cV] at hl
  match xs, hxl, cs, hl with
  | [y0, y1, y2], _, [v0, v1, v2], _ =>
    have g0 := hf 0 _ rfl
    have g1 := hf 1 _ rfl
    have g2 := hf 2 _ rfl
    simp [cI, cS] at g0 g1 g2
    obtain ⟨a, e0, _⟩ := DataW.trod_int Tryz.underlying3 g0
    obtain ⟨b, e1, _⟩ := DataW.trod_int Tryz.underlying3 g1
    obtain ⟨s, e2, _⟩ := DataW.trod_string Tryz.underlying9 g2
    simp at e0 e1 e2
    subst e0 e1 e2
    exact ⟨⟨a, b, s⟩, k54_mk w ⟨a, b, s⟩, trivial⟩
theorem openVals {fuel : Nat} {cs : List Value} {x : DataW H × List MemPlace} (h : DataW.trod enc Tryz.prog w base sp held fuel 36 cs = some x) :
    ∃ A c l, cs = [.slice A l.length c] ∧ l.length ≤ c ∧ k54.C w A l.length l := by
  obtain ⟨A, c, l, h1, h2, h3, h4⟩ := open_C k54 (P := Tryz.prog) Tryz.underlying36 (by kernel_rfl) (fun _ _ => True) elVal h
  exact ⟨A, c, l, h1, h2, h3⟩
set_option maxRecDepth 100000 in
theorem openVio {r : Reach} {b0 : Nat} {v : Value} {d : DataW H} {p : List MemPlace} (hv : Value.okWide Tryz.prog w r b0 38 v) (h : DataW.Trod enc Tryz.prog w base sp held 38 v d p) :
    ∃ (a0 : Int) (a1 : ByteArray) (a2 : Int) (A : Option Addr) (c : Nat) (l : List S54) (a4 a5 : Int), v = .agg #[.int .i64 a0, .string a1, .int .i64 a2, .slice A l.length c, .int .i64 a4, .int .i64 a5] ∧ l.length ≤ c ∧ k54.C w A l.length l := by
  obtain ⟨cs, rfl, hsz⟩ := okWide_struct Tryz.underlying38 hv
  obtain ⟨fuel, hq⟩ := h
  obtain ⟨xs, k, _, _, hl, hxl, hf⟩ := DataW.trod_struct Tryz.underlying38 hq
  have cT : Tryz.prog.cellsOf 38 = 6 := by kernel_rfl
  have cI : Tryz.prog.cellsOf 3 = 1 := by kernel_rfl
  have cS : Tryz.prog.cellsOf 9 = 1 := by kernel_rfl
  have cL : Tryz.prog.cellsOf 36 = 1 := by kernel_rfl
  have cP : Tryz.prog.cellsOf 33 = 2 := by kernel_rfl
  rw [cT] at hsz
  obtain ⟨cl⟩ := cs
  match xs, hxl, cl, hsz with
  | [y0, y1, y2, y3, y4], _, [v0, v1, v2, v3, v4, v5], _ =>
    have g0 := hf 0 _ rfl
    have g1 := hf 1 _ rfl
    have g2 := hf 2 _ rfl
    have g3 := hf 3 _ rfl
    have g4 := hf 4 _ rfl
    simp [Value.cells, cI, cS, cL, cP] at g0 g1 g2 g3 g4
    obtain ⟨a0, e0, _⟩ := DataW.trod_int Tryz.underlying3 g0
    obtain ⟨a1, e1, _⟩ := DataW.trod_string Tryz.underlying9 g1
    obtain ⟨a2, e2, _⟩ := DataW.trod_int Tryz.underlying3 g2
    obtain ⟨A, c, l, e3, hc, hC⟩ := openVals g3
    obtain ⟨x, hx, _⟩ := elPer _ _ _ g4
    obtain ⟨q0, q1, e4, e5, e6⟩ := hx
    have e5' : q0 = [.int .i64 x.f0] := e5
    have e6' : q1 = [.int .i64 x.f1] := e6
    subst e5' e6'
    simp at e0 e1 e2 e3 e4
    obtain ⟨e41, e42⟩ := e4
    subst e0 e1 e2 e3 e41 e42
    exact ⟨a0, a1, a2, A, c, l, x.f0, x.f1, rfl, hc, hC⟩
end
end Go.Proofs.YthdgjobhofpjeaaGreatDoor.com
