/- What all rows of this seat share: the library's listed variables as a world's facts, a start that fits, slices of values, of rows and of orders opened. No conditions but those in each lemma. -/
import Derived.Test.YtkifafenmboefaaDoorStubs
import Derived.Test.YtkifafenmboefaaDoorWMore
import Derived.Test.YtkifafenmboefaaDoorCards
import Derived.Test.YtkifafenmboefaaDoorTie
import Derived.Test.YtkifafenmboefaaDoorX7
import Derived.ProofKit
import Derived.OpenShut
import Derived.Carry
import Derived.Lay
import Derived.LaidMore
import Derived.Stop.LaidErr
import Derived.Deep.DeepHandedRow
import Derived.Deep.Slices
import Derived.SizedLaws
import Derived.Lib.LaidTab
import Derived.Lib.SmallJoins
import Derived.Shelf.Vars
import Derived.SevenTiedAt
namespace Go.Proofs.YtkifafenmboefaaDoor.com
open Go.ChangeShapes Go.WideShapes Go.ChangeAt Go.RowKit Go.Joins Go.Proofs.YtkifafenmboefaaDoorW.PrintWords
open Go.Proofs.YtkifafenmboefaaDoor.X (GW S33 S47 k33 k47 k33_mk k47_mk)
theorem own : ownKnob Tryd.prog.godebug = none := by kernel_rfl
theorem laidOut : laidOutB Tryd.prog = true := by kernel_rfl
def theLaid : List (String × DataW Unit) := Rows.tupleComparesRow.laid
theorem gPow : Tryd.prog.globalNamed "internal/strconv.uint64pow10" = some 1 := by kernel_rfl
theorem gPowType : (Tryd.prog.globals[1]?).map (·.type) = some 106 := by kernel_rfl
theorem cellsA : Tryd.prog.cellsOf 106 = 20 := by kernel_rfl
theorem cellsE : Tryd.prog.cellsOf 97 = 1 := by kernel_rfl
/-- WHAT THE ROWS' LIST AND THE WORLD's SHAPE GIVE. -/
theorem gw_of {W : World} (h : laidMetH Tryd.prog theLaid W) (hs : W.ShapedOpen Tryd.prog) : GW W := by
  have h1 : laidMet Tryd.prog theLaid W := by rw [← MakeChecks.laidMetH_plain _ _ _ (by kernel_rfl)]; exact h
  refine ⟨?_, ?_⟩
  · exact cell_of_shapedOpen_int (P := Tryd.prog) (g := 0) (t := 3) (zero := #[.int .i64 0]) hs (of_decide_eq_true (by kernel_rfl)) (by kernel_rfl) rfl (by kernel_rfl) (by kernel_rfl) Tryd.underlying3
  · exact Lib.tabIs_of_head gPow gPowType Tryd.underlying106 Tryd.underlying97 cellsE cellsA h1.tail.tail
/-- A START THAT FITS: the settled world with the listed variables laid. -/
theorem witness {H : Type} {enc : TypeId × Value → H} {C : Checked} {os : Os} {f : FuncId} {fn : Func} {s : OpenSpec} {conds : List PathCond} {apart : Bool} {laid : List (String × DataW Unit)} (w0 : World) (args : Array Value) (hos : w0.os = os)
    (hsh : (w0.forCall (fun _ _ => 0) ⟨#[], args, []⟩).Shaped C.prog)
    (hok : Input.okWideB C.prog (w0.forCall (fun _ _ => 0) ⟨#[], args, []⟩) f ⟨#[], args, []⟩ = true)
    (hrow : s.preRow enc C.prog fn conds apart laid (w0.forCall (fun _ _ => 0) ⟨#[], args, []⟩).memory args) :
    ∃ (w : World) (tape : Tape) (i : Input), w.os = os ∧ (w.forCall tape i).Shaped C.prog ∧ i.vars = [] ∧ Input.okWide C.prog (w.forCall tape i) .any w.heap.size f i ∧
      s.preRow enc C.prog fn conds apart laid (w.forCall tape i).memory i.args ∧ ({} : Assume).holds C.prog (lone (Frame.enter C.prog f i.args .normal) [] (w.forCall tape i)) :=
  ⟨w0, fun _ _ => 0, ⟨#[], args, []⟩, hos, hsh, (Input.okWide_of_okWideB (base := 0) hok).1, (Input.okWide_of_okWideB hok).2, hrow, by
    simp only [Assume.holds]
    exact ⟨by simp, by simp, by simp, by simp, by simp⟩⟩
theorem start_shaped (os : Os) (args : Array Value) : ((World.laidAll Tryd.prog os theLaid).forCall (fun _ _ => 0) ⟨#[], args, []⟩).Shaped Tryd.prog := World.shaped_of_ZipB (by kernel_rfl) (by kernel_rfl)
theorem start_laid (os : Os) (args : Array Value) : laidMetH Tryd.prog theLaid ((World.laidAll Tryd.prog os theLaid).forCall (fun _ _ => 0) ⟨#[], args, []⟩).memory := by
  rw [MakeChecks.laidMetH_plain _ _ _ (by kernel_rfl)]; exact laidMet_laidAll _ (by kernel_rfl) (by kernel_rfl)

section
variable {H : Type} {enc : TypeId × Value → H} {P : Program} {w : World} {base : Nat} {sp : Nat → Bool} {held : Bool}
/-- A slice of any elements as a row that is read; Q: what an element's reading tells of it. -/
theorem open_C {α : Type} (d : Kd α) {t e : TypeId} (ht : P.underlying t = some (.slice e)) (hsz : P.cellsOf e = d.sz) (Q : α → DataW H → Prop)
    (hel : ∀ n cs y, DataW.trod enc P w base sp held n e cs = some y → ∃ x, d.K w x cs ∧ Q x y.1) {fuel : Nat} {cs : List Value} {x : DataW H × List MemPlace} (h : DataW.trod enc P w base sp held fuel t cs = some x) :
    ∃ A c l, cs = [.slice A l.length c] ∧ l.length ≤ c ∧ d.C w A l.length l ∧ ((x.1 = .nil ∧ l = []) ∨ ∃ es s2, x.1 = .slice es s2 ∧ es.length = l.length ∧ ∀ i (hi : i < l.length) y, es[i]? = some y → Q l[i] y) := by
  rcases Go.Deep.open_slice ht h with ⟨rfl, rfl⟩ | ⟨a, len, cap, m, n, D, Pl, rfl, _, hl, hm, hmm, rfl, hx⟩
  · exact ⟨none, 0, [], rfl, Nat.le_refl _, Kd.C_nil _ _, .inl ⟨rfl, rfl⟩⟩
  · have hlm : len ≤ m := by rw [hmm]; split <;> omega
    have each : ∀ i : Fin len, ∃ x : α, ∃ cs', (w.cells? base (a.add (i.1 * P.cellsOf e)) (P.cellsOf e) = some cs' ∧ d.K w x cs' ∧ Q x (D i.1)) := by
      intro i
      obtain ⟨cs', h1, h2⟩ := hx i.1 (Nat.lt_of_lt_of_le i.2 hlm)
      obtain ⟨x, hK, hQ⟩ := hel _ _ _ h2
      exact ⟨x, cs', h1, hK, hQ⟩
    let f : Fin len → α := fun i => Classical.choose (each i)
    have hf : ∀ i, ∃ cs', (w.cells? base (a.add (i.1 * P.cellsOf e)) (P.cellsOf e) = some cs' ∧ d.K w (f i) cs' ∧ Q (f i) (D i.1)) := fun i => Classical.choose_spec (each i)
    have hlen : (List.ofFn f).length = len := List.length_ofFn
    have hmax : (List.ofFn f).length ≤ 9223372036854775807 := by
      have e9 : maxLen = 9223372036854775807 := by decide
      omega
    refine ⟨some a, cap, List.ofFn f, by rw [hlen], by rw [hlen]; exact hl, ⟨rfl, hmax, fun _ => ⟨a, rfl, fun j p hj => ?_⟩⟩, .inr ⟨_, _, rfl, by simp, fun i hi y hy => ?_⟩⟩
    · have hjl : j < len := by rw [← hlen]; exact (List.getElem?_eq_some_iff.1 hj).1
      obtain ⟨cs', h1, h2, _⟩ := hf ⟨j, hjl⟩
      obtain ⟨_, h3, h4⟩ := World.cells?_some h1
      have e1 : p = f ⟨j, hjl⟩ := by
        rw [List.getElem?_ofFn, dif_pos hjl] at hj
        exact (Option.some.inj hj).symm
      subst e1
      refine ⟨cs', by rw [h3, hsz], h2, fun i u hu => ?_⟩
      have hi : i < P.cellsOf e := by rw [← h3]; exact (List.getElem?_eq_some_iff.1 hu).1
      have h5 := h4 i hi
      rw [Go.Deep.add_add, hsz] at h5
      rw [h5, hu]
    · have hil : i < len := by rw [← hlen]; exact hi
      obtain ⟨cs', _, _, h3⟩ := hf ⟨i, hil⟩
      have e2 : y = D i := by
        rw [List.getElem?_map, List.getElem?_range hil] at hy
        exact (Option.some.inj hy).symm
      rw [e2, List.getElem_ofFn]
      exact h3
end

section
variable {H : Type} {enc : TypeId × Value → H} {w : World} {base : Nat} {sp : Nat → Bool} {held : Bool}
set_option maxRecDepth 100000 in
/-- A value of the program's, read out of its cells. -/
theorem el33 (n : Nat) (cs : List Value) (y : DataW H × List MemPlace) (h : DataW.trod enc Tryd.prog w base sp held n 33 cs = some y) : ∃ x : S33, k33.K w x cs ∧ True := by
  obtain ⟨xs, k, _, _, hl, hxl, hf⟩ := DataW.trod_struct Tryd.underlying33 h
  have c33 : Tryd.prog.cellsOf 33 = 3 := by kernel_rfl
  have c3 : Tryd.prog.cellsOf 3 = 1 := by kernel_rfl
  have c9 : Tryd.prog.cellsOf 9 = 1 := by kernel_rfl
  rw [c33] at hl
  match xs, hxl, cs, hl with
  | [y0, y1, y2], _, [v0, v1, v2], _ =>
    have g0 := hf 0 _ rfl
    have g1 := hf 1 _ rfl
    have g2 := hf 2 _ rfl
    simp [c3, c9] at g0 g1 g2
    obtain ⟨a, e0, _⟩ := DataW.trod_int Tryd.underlying3 g0
    obtain ⟨b, e1, _⟩ := DataW.trod_int Tryd.underlying3 g1
    obtain ⟨s, e2, _⟩ := DataW.trod_string Tryd.underlying9 g2
    simp at e0 e1 e2
    subst e0 e1 e2
    exact ⟨⟨a, b, s⟩, k33_mk w ⟨a, b, s⟩, trivial⟩
set_option maxRecDepth 100000 in
theorem el47 (n : Nat) (cs : List Value) (y : DataW H × List MemPlace) (h : DataW.trod enc Tryd.prog w base sp held n 47 cs = some y) : ∃ x : S47, k47.K w x cs ∧ True := by
  obtain ⟨xs, k, _, _, hl, hxl, hf⟩ := DataW.trod_struct Tryd.underlying47 h
  have c47 : Tryd.prog.cellsOf 47 = 2 := by kernel_rfl
  have c3 : Tryd.prog.cellsOf 3 = 1 := by kernel_rfl
  have c4 : Tryd.prog.cellsOf 4 = 1 := by kernel_rfl
  rw [c47] at hl
  match xs, hxl, cs, hl with
  | [y0, y1], _, [v0, v1], _ =>
    have g0 := hf 0 _ rfl
    have g1 := hf 1 _ rfl
    simp [c3, c4] at g0 g1
    obtain ⟨a, e0, _⟩ := DataW.trod_int Tryd.underlying3 g0
    obtain ⟨b, e1, _⟩ := DataW.trod_bool Tryd.underlying4 g1
    simp at e0 e1
    subst e0 e1
    exact ⟨⟨a, b⟩, k47_mk w ⟨a, b⟩, trivial⟩
theorem elInt (n : Nat) (cs : List Value) (y : DataW H × List MemPlace) (h : DataW.trod enc Tryd.prog w base sp held n 3 cs = some y) : ∃ x : Int, (Kd.int .i64).K w x cs ∧ (Lit.int .i64 x).wf = true := by
  obtain ⟨a, rfl, _, hw⟩ := DataW.trod_int Tryd.underlying3 h
  exact ⟨a, rfl, hw⟩
/-- What is asked of a slice's elements' number: its bytes are within reach. -/
def Fit (t : TypeId) (d : DataW H) : Prop := ∀ n ∈ d.weights Tryd.prog t, n ≤ reachBytes
theorem fit_slice {t e : TypeId} {es s2 : List (DataW H)} (ht : Tryd.prog.underlying t = some (.slice e)) (h : Fit t (.slice es s2)) : (es.length + s2.length) * Tryd.prog.bytesOf e ≤ reachBytes ∧ ∀ y ∈ es, Fit e y := by
  have h1 : ∀ n ∈ DataW.weights Tryd.prog t (.slice es s2), n ≤ reachBytes := h
  simp only [DataW.weights, ht, List.mem_cons, List.mem_append] at h1
  refine ⟨h1 _ (.inl rfl), fun y hy n hn => h1 n (.inr (.inl ?_))⟩
  clear h1 h
  induction es with
  | nil => cases hy
  | cons z es ih =>
    simp only [DataW.weightsAll, List.mem_append]
    rcases List.mem_cons.1 hy with rfl | hy
    · exact .inl hn
    · exact .inr (ih hy)
theorem bulk_pos (d : DataW H) : 1 ≤ Rows.uptoBulk d := by
  cases d with
  | lit l => cases l <;> simp [Rows.uptoBulk]
  | _ => simp [Rows.uptoBulk]
theorem bulk_len : ∀ es : List (DataW H), es.length ≤ Rows.uptoBulkAll es
  | [] => Nat.zero_le _
  | d :: es => by
    have h1 := bulk_pos d
    have h2 := bulk_len es
    simp only [List.length_cons, Rows.uptoBulkAll]
    omega
theorem open22 {fuel : Nat} {cs : List Value} {x : DataW H × List MemPlace} (h : DataW.trod enc Tryd.prog w base sp held fuel 22 cs = some x) :
    ∃ A c l, cs = [.slice A l.length c] ∧ l.length ≤ c ∧ k33.C w A l.length l ∧ (Fit 22 x.1 → l.length < 4398046511104) ∧ l.length ≤ Rows.uptoBulk x.1 := by
  obtain ⟨A, c, l, h1, h2, h3, h4⟩ := open_C k33 (P := Tryd.prog) Tryd.underlying22 (by kernel_rfl) (fun _ _ => True) el33 h
  refine ⟨A, c, l, h1, h2, h3, fun hf => ?_, ?_⟩
  rotate_left
  · rcases h4 with ⟨_, rfl⟩ | ⟨es, s2, e1, e2, _⟩
    · simp
    · rw [e1]
      have := bulk_len es
      simp only [Rows.uptoBulk]
      omega
  rcases h4 with ⟨_, rfl⟩ | ⟨es, s2, e1, e2, _⟩
  · simp
  · rw [e1] at hf
    have h5 := (fit_slice Tryd.underlying22 hf).1
    rw [show Tryd.prog.bytesOf 33 = 32 by kernel_rfl] at h5
    have := reachBytes_lt
    omega
theorem open26 {fuel : Nat} {cs : List Value} {x : DataW H × List MemPlace} (h : DataW.trod enc Tryd.prog w base sp held fuel 26 cs = some x) :
    ∃ A c l, cs = [.slice A l.length c] ∧ l.length ≤ c ∧ (Kd.slice 33 k33).C w A l.length l ∧ (Fit 26 x.1 → l.length < 5864062014805 ∧ ∀ y ∈ l, y.length < 4398046511104) := by
  obtain ⟨A, c, l, h1, h2, h3, h4⟩ := open_C (Kd.slice 33 k33) (P := Tryd.prog) Tryd.underlying26 (by kernel_rfl) (fun y d => Fit 22 d → y.length < 4398046511104) (fun n cs y hy => by
    obtain ⟨A, c, l, e, hc, hC, hF, _⟩ := open22 hy
    exact ⟨l, ⟨A, c, e, hc, hC⟩, hF⟩) h
  refine ⟨A, c, l, h1, h2, h3, fun hf => ?_⟩
  rcases h4 with ⟨_, rfl⟩ | ⟨es, s2, e1, e2, e3⟩
  · simp
  · rw [e1] at hf
    obtain ⟨h5, h6⟩ := fit_slice Tryd.underlying26 hf
    rw [show Tryd.prog.bytesOf 22 = 24 by kernel_rfl] at h5
    have hrb : reachBytes = 140737488351232 := by decide
    refine ⟨by omega, fun y hy => ?_⟩
    obtain ⟨i, hi, rfl⟩ := List.getElem_of_mem hy
    have hie : i < es.length := by omega
    exact e3 i hi _ (List.getElem?_eq_getElem hie) (h6 _ (List.getElem_mem hie))
theorem open27 {fuel : Nat} {cs : List Value} {x : DataW H × List MemPlace} (h : DataW.trod enc Tryd.prog w base sp held fuel 27 cs = some x) :
    ∃ A c l, cs = [.slice A l.length c] ∧ l.length ≤ c ∧ k47.C w A l.length l := by
  obtain ⟨A, c, l, h1, h2, h3, h4⟩ := open_C k47 (P := Tryd.prog) Tryd.underlying27 (by kernel_rfl) (fun _ _ => True) el47 h
  exact ⟨A, c, l, h1, h2, h3⟩
theorem open36 {fuel : Nat} {cs : List Value} {x : DataW H × List MemPlace} (h : DataW.trod enc Tryd.prog w base sp held fuel 36 cs = some x) :
    ∃ A c l, cs = [.slice A l.length c] ∧ l.length ≤ c ∧ (Kd.int .i64).C w A l.length l := by
  obtain ⟨A, c, l, h1, h2, h3, h4⟩ := open_C (Kd.int .i64) (P := Tryd.prog) Tryd.underlying36 (by kernel_rfl) (fun _ _ => True) (fun n cs y hy => by obtain ⟨x, hx, _⟩ := elInt n cs y hy; exact ⟨x, hx, trivial⟩) h
  exact ⟨A, c, l, h1, h2, h3⟩
theorem read_V {P0 : Nat → Prop} {A : Option Addr} {c : Nat} {l : List (List S33)} (h : (Kd.slice 33 k33).C w A l.length l) (hc : l.length ≤ c) (hP : ∀ k, P0 k) : Kd.V (Kd.slice 33 k33) 22 w w.heap.size P0 (.slice A l.length c) l :=
  ⟨A, c, rfl, hc, Kd.F_mono (Kd.C_F (Kd.heap_slice 33 X.k33_heap) h) (fun k _ => hP k)⟩
theorem fit_of {ts : List TypeId} {ds : List (DataW H)} (h : (DataW.weightsEach Tryd.prog ts ds).all (· ≤ reachBytes) = true) {j : Nat} {t : TypeId} {d : DataW H} (ht : ts[j]? = some t) (hd : ds[j]? = some d) : Fit t d := fun n hn => by
  have := List.all_eq_true.1 h n (DataW.weights_mem_each ht hd n hn)
  simpa using this
end
end Go.Proofs.YtkifafenmboefaaDoor.com
