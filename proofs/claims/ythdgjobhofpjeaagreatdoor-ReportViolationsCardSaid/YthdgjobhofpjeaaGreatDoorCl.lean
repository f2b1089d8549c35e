/- Slices opened as rows that are read: periods. No conditions but those in each lemma. -/
import Derived.Test.YthdgjobhofpjeaaGreatDoorCom
import Derived.Test.YthdgjobhofpjeaaGreatDoorX3
namespace Go.Proofs.YthdgjobhofpjeaaGreatDoor.com
open Go.ChangeShapes Go.WideShapes Go.ChangeAt Go.RowKit Go.Joins Go.Proofs.YthdgjobhofpjeaaGreatDoorW.PrintWords
open Go.Proofs.YthdgjobhofpjeaaGreatDoor.X (GW S33 k33 k33_mk)
section
variable {H : Type} {enc : TypeId × Value → H} {P : Program} {w : World} {base : Nat} {sp : Nat → Bool} {held : Bool}
/-- A slice of any elements as a row that is read; Q: what an element's reading tells of it. -/
theorem open_C {α : Type} (d : Kd α) {t e : TypeId} (ht : P.underlying t = some (.slice e)) (hsz : P.cellsOf e = d.sz) (Q : α → DataW H → Prop)
    (hel : ∀ n cs y, DataW.trod enc P w base sp held n e cs = some y → ∃ x, d.K w x cs ∧ Q x y.1) {fuel : Nat} {cs : List Value} {x : DataW H × List MemPlace} (h : DataW.trod enc P w base sp held fuel t cs = some x) :
    ∃ A c l, cs = [.slice A l.length c] ∧ l.length ≤ c ∧ d.C w A l.length l ∧ ((x.1 = .nil ∧ l = []) ∨ ∃ es s2, x.1 = .slice es s2 ∧ es.length = l.length ∧ ∀ i (hi : i < l.length) y, es[i]? = some y → Q l[i] y) := by
  rcases Go.Deep.open_slice ht h with ⟨rfl, rfl⟩ | ⟨a, len, cap, m, n, D, Pl, rfl, _, hl, hm, hmm, rfl, hx⟩
  · exact ⟨none, 0, [], rfl, Nat.le_refl _, Kd.C_nil _ _, .inl ⟨rfl, rfl⟩⟩
  · have hlm : len ≤ m := by rw [hmm]; split <;> omega
    have each : ∀ i : Fin len, ∃ x : α, ∃ cs', (w.cells? base (a.add (i.1 * P.cellsOf e)) (P.cellsOf e) = some cs' ∧ d.K w x cs' ∧ Q x (D i.1)) := by
      intro i
      obtain ⟨cs', h1, h2⟩ := hx i.1 (Nat.lt_of_lt_of_le i.2 hlm)
      obtain ⟨x, hK, hQ⟩ := hel _ _ _ h2
      exact ⟨x, cs', h1, hK, hQ⟩
    let f : Fin len → α := fun i => Classical.choose (each i)
    have hf : ∀ i, ∃ cs', (w.cells? base (a.add (i.1 * P.cellsOf e)) (P.cellsOf e) = some cs' ∧ d.K w (f i) cs' ∧ Q (f i) (D i.1)) := fun i => Classical.choose_spec (each i)
    have hlen : (List.ofFn f).length = len := List.length_ofFn
    have hmax : (List.ofFn f).length ≤ 9223372036854775807 := by
      have e9 : maxLen = 9223372036854775807 := by decide
      omega
    refine ⟨some a, cap, List.ofFn f, by rw [hlen], by rw [hlen]; exact hl, ⟨rfl, hmax, fun _ => ⟨a, rfl, fun j p hj => ?_⟩⟩, .inr ⟨_, _, rfl, by simp, fun i hi y hy => ?_⟩⟩
    · have hjl : j < len := by rw [← hlen]; exact (List.getElem?_eq_some_iff.1 hj).1
      obtain ⟨cs', h1, h2, _⟩ := hf ⟨j, hjl⟩
      obtain ⟨_, h3, h4⟩ := World.cells?_some h1
      have e1 : p = f ⟨j, hjl⟩ := by
        rw [List.getElem?_ofFn, dif_pos hjl] at hj
        exact (Option.some.inj hj).symm
      subst e1
      refine ⟨cs', by rw [h3, hsz], h2, fun i u hu => ?_⟩
      have hi : i < P.cellsOf e := by rw [← h3]; exact (List.getElem?_eq_some_iff.1 hu).1
      have h5 := h4 i hi
      rw [Go.Deep.add_add, hsz] at h5
      rw [h5, hu]
    · have hil : i < len := by rw [← hlen]; exact hi
      obtain ⟨cs', _, _, h3⟩ := hf ⟨i, hil⟩
      have e2 : y = D i := by
        rw [List.getElem?_map, List.getElem?_range hil] at hy
        exact (Option.some.inj hy).symm
      rw [e2, List.getElem_ofFn]
      exact h3
end


section
variable {H : Type} {enc : TypeId × Value → H} {w : World} {base : Nat} {sp : Nat → Bool} {held : Bool}
set_option maxRecDepth 100000 in
theorem elPer (n : Nat) (cs : List Value) (y : DataW H × List MemPlace) (h : DataW.trod enc Tryz.prog w base sp held n 33 cs = some y) : ∃ x : S33, k33.K w x cs ∧ True := by
  obtain ⟨xs, k, _, _, hl, hxl, hf⟩ := DataW.trod_struct Tryz.underlying33 h
  have cP : Tryz.prog.cellsOf 33 = 2 := by kernel_rfl
  have cI : Tryz.prog.cellsOf 3 = 1 := by kernel_rfl
  rw [cP] at hl
  match xs, hxl, cs, hl with
  | [y0, y1], _, [v0, v1], _ =>
    have g0 := hf 0 _ rfl
    have g1 := hf 1 _ rfl
    simp [cI] at g0 g1
    obtain ⟨a, e0, _⟩ := DataW.trod_int Tryz.underlying3 g0
    obtain ⟨b, e1, _⟩ := DataW.trod_int Tryz.underlying3 g1
    simp at e0 e1
    subst e0 e1
    exact ⟨⟨a, b⟩, k33_mk w ⟨a, b⟩, trivial⟩
theorem openPers {fuel : Nat} {cs : List Value} {x : DataW H × List MemPlace} (h : DataW.trod enc Tryz.prog w base sp held fuel 31 cs = some x) :
    ∃ A c l, cs = [.slice A l.length c] ∧ l.length ≤ c ∧ k33.C w A l.length l := by
  obtain ⟨A, c, l, h1, h2, h3, h4⟩ := open_C k33 (P := Tryz.prog) Tryz.underlying31 (by kernel_rfl) (fun _ _ => True) elPer h
  exact ⟨A, c, l, h1, h2, h3⟩
end
end Go.Proofs.YthdgjobhofpjeaaGreatDoor.com
