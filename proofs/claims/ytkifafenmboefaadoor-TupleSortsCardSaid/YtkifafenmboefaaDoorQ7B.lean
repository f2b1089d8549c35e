/- Sorting rows: the program's order and the reference's are sorted permutations of the list, so equal place by place. Conditions: those in each lemma. -/
import Derived.Test.YtkifafenmboefaaDoorPA
import Derived.Test.YtkifafenmboefaaDoorQ6
import Derived.Test.YtkifafenmboefaaDoorX6
namespace Go.Proofs.YtkifafenmboefaaDoor.X
open Go.RowKit Go.Sort Go.Proofs.YtkifafenmboefaaDoorW.PrintWords Go.Proofs.YtkifafenmboefaaDoorW.PrintLast Go.Proofs.YtkifafenmboefaaDoorW.PrintMore
open Go.Proofs.YtkifafenmboefaaDoor.Sorts (stableSort stableSort_list)
set_option linter.unusedVariables false
set_option linter.unusedSimpArgs false
/-- A total preorder, told by a comparison's sign. -/
structure Pre {α : Type} (c : α → α → Int) : Prop where
  anti : ∀ x y, c y x = -c x y
  trans : ∀ x y z, c x y ≤ 0 → c y z ≤ 0 → c x z ≤ 0
section
variable {α : Type} {c c1 c2 : α → α → Int}
theorem Pre.self (h : Pre c) (x : α) : c x x = 0 := by have := h.anti x x; omega
theorem Pre.lt_le (h : Pre c) {x y z : α} (h1 : c x y < 0) (h2 : c y z ≤ 0) : c x z < 0 := by
  rcases Int.lt_or_le (c x z) 0 with h3 | h3
  · exact h3
  · have h4 := h.anti x z
    have h5 := h.trans y z x h2 (by omega)
    have h6 := h.anti x y
    omega
theorem Pre.le_lt (h : Pre c) {x y z : α} (h1 : c x y ≤ 0) (h2 : c y z < 0) : c x z < 0 := by
  rcases Int.lt_or_le (c x z) 0 with h3 | h3
  · exact h3
  · have h4 := h.anti x z
    have h5 := h.trans z x y (by omega) h1
    have h6 := h.anti y z
    omega
theorem Pre.eq_trans (h : Pre c) {x y z : α} (h1 : c x y = 0) (h2 : c y z = 0) : c x z = 0 := by
  have a := h.trans x y z (by omega) (by omega)
  have h3 := h.anti x y
  have h4 := h.anti y z
  have b := h.trans z y x (by omega) (by omega)
  have h5 := h.anti x z
  omega
theorem Pre.lex (h1 : Pre c1) (h2 : Pre c2) : Pre (fun x y => if c1 x y = 0 then c2 x y else c1 x y) := by
  refine ⟨fun x y => ?_, fun x y z a b => ?_⟩
  · have e := h1.anti x y
    by_cases h : c1 x y = 0
    · simp only [if_pos h]
      rw [if_pos (by omega)]
      exact h2.anti x y
    · simp only [if_neg h]
      rw [if_neg (by omega)]
      exact e
  · by_cases p : c1 x y = 0
    · rw [if_pos p] at a
      by_cases q : c1 y z = 0
      · rw [if_pos q] at b
        rw [if_pos (h1.eq_trans p q)]
        exact h2.trans x y z a b
      · rw [if_neg q] at b
        have := h1.le_lt (show c1 x y ≤ 0 by omega) (show c1 y z < 0 by omega)
        rw [if_neg (by omega)]
        omega
    · rw [if_neg p] at a
      have hb : c1 y z ≤ 0 := by
        by_cases q : c1 y z = 0
        · omega
        · rw [if_neg q] at b; exact b
      have := h1.lt_le (show c1 x y < 0 by omega) hb
      rw [if_neg (by omega)]
      omega
end
theorem cv_pre : Pre cv := ⟨fun x y => cmpV_anti _ _ _ _ _ _, fun x y z a b => cmpV_trans a b⟩
theorem cmpR_anti : ∀ a b : List S33, cmpR b a = -cmpR a b
  | [], [] => rfl
  | [], _ :: _ => rfl
  | _ :: _, [] => rfl
  | x :: xs, y :: ys => by
    unfold cmpR
    have e := cv_pre.anti x y
    by_cases h : cv x y = 0
    · rw [if_pos h, if_pos (by omega)]; exact cmpR_anti xs ys
    · rw [if_neg h, if_neg (by omega)]; exact e
theorem cmpR_trans : ∀ a b c : List S33, cmpR a b ≤ 0 → cmpR b c ≤ 0 → cmpR a c ≤ 0
  | [], _, [], _, _ => by unfold cmpR; omega
  | [], _, _ :: _, _, _ => by unfold cmpR; omega
  | _ :: _, [], _, h, _ => by unfold cmpR at h; omega
  | _ :: _, _ :: _, [], _, h => by unfold cmpR at h; omega
  | x :: xs, y :: ys, z :: zs, h1, h2 => by
    unfold cmpR at h1 h2 ⊢
    by_cases p : cv x y = 0
    · rw [if_pos p] at h1
      by_cases q : cv y z = 0
      · rw [if_pos q] at h2
        rw [if_pos (cv_pre.eq_trans p q)]
        exact cmpR_trans xs ys zs h1 h2
      · rw [if_neg q] at h2
        have := cv_pre.le_lt (show cv x y ≤ 0 by omega) (show cv y z < 0 by omega)
        rw [if_neg (by omega)]
        omega
    · rw [if_neg p] at h1
      have hb : cv y z ≤ 0 := by
        by_cases q : cv y z = 0
        · omega
        · rw [if_neg q] at h2; exact h2
      have := cv_pre.lt_le (show cv x y < 0 by omega) hb
      rw [if_neg (by omega)]
      omega
theorem cmpR_pre : Pre cmpR := ⟨cmpR_anti, cmpR_trans⟩
theorem cv_range (x y : S33) : cv x y = -1 ∨ cv x y = 0 ∨ cv x y = 1 := cmpV_range _ _ _ _ _ _
/-- A column's comparison in its direction. -/
def dirS (x : S47) (a b : List S33) : Int := if x.f1 = true then -cv (atS a x.f0) (atS b x.f0) else cv (atS a x.f0) (atS b x.f0)
theorem dir_pre (x : S47) : Pre (dirS x) := by
  unfold dirS
  cases x.f1 with
  | true =>
    simp only [if_true]
    refine ⟨fun a b => ?_, fun a b c h1 h2 => ?_⟩
    · have := cv_pre.anti (atS a x.f0) (atS b x.f0); omega
    · have e1 := cv_pre.anti (atS a x.f0) (atS b x.f0)
      have e2 := cv_pre.anti (atS b x.f0) (atS c x.f0)
      have e3 := cv_pre.anti (atS a x.f0) (atS c x.f0)
      have := cv_pre.trans (atS c x.f0) (atS b x.f0) (atS a x.f0) (by omega) (by omega)
      omega
  | false =>
    simp only [Bool.false_eq_true, if_false]
    exact ⟨fun a b => cv_pre.anti _ _, fun a b c h1 h2 => cv_pre.trans _ _ _ h1 h2⟩
theorem ordS_cons (x : S47) (o : List S47) (a b : List S33) : ordS (x :: o) a b = if dirS x a b = 0 then ordS o a b else dirS x a b := by
  have e : wrap64 (-cv (atS a x.f0) (atS b x.f0)) = -cv (atS a x.f0) (atS b x.f0) := by
    rcases cv_range (atS a x.f0) (atS b x.f0) with h | h | h <;> (rw [h]; exact w64 (by omega) (by omega))
  unfold dirS
  rw [ordS, e]
theorem ord_pre : ∀ o : List S47, Pre (ordS o)
  | [] => by
    refine ⟨fun a b => ?_, fun a b c h1 h2 => ?_⟩
    · unfold ordS sg
      have := cmpR_pre.anti a b
      rcases Int.lt_trichotomy (cmpR a b) 0 with h | h | h
      · rw [if_neg (by omega), if_pos (by omega), if_pos h]; omega
      · rw [if_neg (by omega), if_neg (by omega), if_neg (by omega), if_neg (by omega)]; omega
      · rw [if_pos (by omega), if_neg (by omega), if_pos (by omega)]
    · have sg_le : ∀ z : Int, sg z 0 ≤ 0 ↔ z ≤ 0 := fun z => by
        unfold sg
        split
        · omega
        · split <;> omega
      unfold ordS at h1 h2 ⊢
      rw [sg_le] at h1 h2 ⊢
      exact cmpR_trans a b c h1 h2
  | x :: o => by
    have e : ordS (x :: o) = fun a b => if dirS x a b = 0 then ordS o a b else dirS x a b := by
      funext a b
      exact ordS_cons x o a b
    rw [e]
    exact (dir_pre x).lex (ord_pre o)
theorem ord_zero : ∀ (o : List S47) (a b : List S33), ordS o a b = 0 → cmpR a b = 0
  | [], a, b, h => sg_zero.1 h
  | x :: o, a, b, h => by
    rw [ordS_cons] at h
    by_cases p : dirS x a b = 0
    · rw [if_pos p] at h; exact ord_zero o a b h
    · rw [if_neg p] at h; exact absurd h p
/-! ### two sorted lists of the same elements -/
def Eqv {α : Type} (c : α → α → Int) : List α → List α → Prop
  | [], [] => True
  | a :: r, b :: t => c a b = 0 ∧ Eqv c r t
  | _, _ => False
theorem Eqv.len {α : Type} {c : α → α → Int} : ∀ {r t : List α}, Eqv c r t → r.length = t.length
  | [], [], _ => rfl
  | a :: r, b :: t, h => by simp [Eqv.len h.2]
  | [], _ :: _, h => h.elim
  | _ :: _, [], h => h.elim
theorem Eqv.imp {α : Type} {c c' : α → α → Int} (hc : ∀ a b, c a b = 0 → c' a b = 0) : ∀ {r t : List α}, Eqv c r t → Eqv c' r t
  | [], [], _ => trivial
  | a :: r, b :: t, h => ⟨hc _ _ h.1, Eqv.imp hc h.2⟩
  | [], _ :: _, h => h.elim
  | _ :: _, [], h => h.elim
theorem uniq {α : Type} {c : α → α → Int} (hP : Pre c) : ∀ r t : List α, r.Pairwise (fun x y => ¬ c y x < 0) → t.Pairwise (fun x y => ¬ c y x < 0) → r.length = t.length →
    (∀ x, r.countP (fun y => c x y == 0) = t.countP (fun y => c x y == 0)) → Eqv c r t
  | [], [], _, _, _, _ => trivial
  | [], _ :: _, _, _, h, _ => by simp at h
  | _ :: _, [], _, _, h, _ => by simp at h
  | a :: r, b :: t, h1, h2, hl, hn => by
    have least : ∀ (a : α) (r : List α) (b : α) (t : List α), (a :: r).Pairwise (fun x y => ¬ c y x < 0) → (∀ x, (a :: r).countP (fun y => c x y == 0) = (b :: t).countP (fun y => c x y == 0)) → c a b ≤ 0 := by
      intro a r b t h1 hn
      have h3 := hn b
      have h4 : 0 < (a :: r).countP (fun y => c b y == 0) := by
        rw [h3]
        exact List.countP_pos_iff.2 ⟨b, List.mem_cons_self, by simp [hP.self]⟩
      obtain ⟨z, hz, h5⟩ := List.countP_pos_iff.1 h4
      have h6 : c b z = 0 := by simpa using h5
      have h7 : c a z ≤ 0 := by
        rcases List.mem_cons.1 hz with rfl | hz
        · rw [hP.self]; omega
        · have := (List.pairwise_cons.1 h1).1 z hz
          have := hP.anti a z
          omega
      have h8 := hP.anti b z
      exact hP.trans a z b h7 (by omega)
    have e1 := least a r b t h1 hn
    have e2 := least b t a r h2 (fun x => (hn x).symm)
    have e3 := hP.anti a b
    have e0 : c a b = 0 := by omega
    refine ⟨e0, uniq hP r t (List.pairwise_cons.1 h1).2 (List.pairwise_cons.1 h2).2 (by simpa using hl) fun x => ?_⟩
    have h3 := hn x
    rw [List.countP_cons, List.countP_cons] at h3
    have e4 : (c x a == 0) = (c x b == 0) := by
      by_cases p : c x a = 0
      · have := hP.eq_trans p e0; simp [p, this]
      · have q : ¬ c x b = 0 := fun q => p (hP.eq_trans q (by omega))
        rw [beq_eq_false_iff_ne.2 p, beq_eq_false_iff_ne.2 q]
    rw [e4] at h3
    omega
theorem uniq_perm {α : Type} {c : α → α → Int} (hP : Pre c) {r t : List α} (h1 : r.Pairwise (fun x y => ¬ c y x < 0)) (h2 : t.Pairwise (fun x y => ¬ c y x < 0)) (hp : r.Perm t) : Eqv c r t :=
  uniq hP r t h1 h2 hp.length_eq fun x => hp.countP_eq _
/-! ### the program's sort -/
theorem sortRows_ok {c : List S33 → List S33 → Option Int} {s : List S33 → List S33 → Int} (hc : ∀ x y, c x y = some (s x y)) (hP : Pre s) (L : List (List S33)) (h1 : L.length < 5864062014805) (h2 : ∀ x ∈ L, x.length < 4398046511104) :
    ∃ r, sortRows c L = some r ∧ r.Perm L ∧ r.Pairwise (fun x y => ¬ s y x < 0) := by
  rcases Nat.eq_zero_or_pos L.length with h0 | h0
  · rw [List.length_eq_zero_iff.1 h0]
    refine ⟨[], ?_, List.Perm.refl _, List.Pairwise.nil⟩
    unfold sortRows
    rw [dif_neg (by simp)]
  · letI : Inhabited (Fin L.length) := ⟨⟨0, h0⟩⟩
    have hS : SWO (Go.Proofs.ltOf (fun i j : Fin L.length => s (L.get i) (L.get j))) := by
      refine ⟨fun x => ?_, fun x y z a b => ?_, fun x y z a b => ?_⟩
      · simp [Go.Proofs.ltOf, hP.self]
      · simp only [Go.Proofs.ltOf, decide_eq_true_eq] at a b ⊢
        exact hP.lt_le a (Int.le_of_lt b)
      · simp only [Go.Proofs.ltOf, decide_eq_false_iff_not] at a b ⊢
        have e1 := hP.anti (L.get x) (L.get y)
        have e2 := hP.anti (L.get y) (L.get z)
        have e3 := hP.anti (L.get x) (L.get z)
        have := hP.trans (L.get z) (L.get y) (L.get x) (by omega) (by omega)
        omega
    obtain ⟨p1, p2⟩ := stableSort_list hS (Array.ofFn (id : Fin L.length → Fin L.length))
    refine ⟨_, sortRows_some hc L h0 h1 h2, ?_, ?_⟩
    · have e : (Array.ofFn (id : Fin L.length → Fin L.length)).toList.map L.get = L := by
        apply List.ext_getElem
        · simp
        · intro i h1 h2
          simp
      have := p1.map L.get
      rwa [e] at this
    · rw [List.pairwise_map]
      refine p2.imp ?_
      intro x y h
      simpa [Go.Proofs.ltOf] using h
theorem wr1 (i : Nat) (h : i < 9223372036854775807) : wrap64 ((i : Int) + 1) = ((i + 1 : Nat) : Int) := by
  rw [w64 (by omega) (by omega)]
  omega
/-! ### the reference's equality of lists -/
theorem list_loop (BIG : Nat) (hB : 8796093022208 ≤ BIG) (r t : List (List S33)) (hl : r.length = t.length) (h3 : r.length ≤ 9223372036854775807) (hx : ∀ x ∈ r, x.length < 4398046511104) : ∀ (n i k : Nat), i + n = r.length → n + BIG + 3 ≤ k → Eqv cmpR (r.drop i) (t.drop i) → bitemporalref08_List.l0 k r t (i : Int) = some true
  | n, i, 0, _, hk, _ => by omega
  | 0, i, k + 1, hn, hk, _ => by
    unfold bitemporalref08_List.l0
    rw [if_neg (by omega)]
  | n + 1, i, k + 1, hn, hk, h => by
    unfold bitemporalref08_List.l0
    have h0 : i < r.length := by omega
    have h1 : i < t.length := by omega
    have e0 : rd_L3 r i = r[i] := by simp [rd_L3, h0]
    have e1 : rd_L3 t i = t[i] := by simp [rd_L3, h1]
    rw [List.drop_eq_getElem_cons h0, List.drop_eq_getElem_cons h1] at h
    have hx0 := hx r[i] (List.getElem_mem h0)
    rw [if_pos (by omega), if_pos (by omega), if_pos (by omega), e0, e1, refEqual_eq _ _ (by omega) k (by omega), Option.bind_some, h.1, if_pos (by decide), w64 (by omega) (by omega), show ((i : Int) + 1) = ((i + 1 : Nat) : Int) by omega]
    exact list_loop BIG hB r t hl h3 hx n (i + 1) k (by omega) (by omega) h.2
theorem refList_eq (BIG : Nat) (hB : 8796093022208 ≤ BIG) (r t : List (List S33)) (h3 : r.length ≤ 9223372036854775807) (hx : ∀ x ∈ r, x.length < 4398046511104) (h : Eqv cmpR r t) (k : Nat) (hk : r.length + BIG + 3 ≤ k) : bitemporalref08_List.f k r t = some true := by
  unfold bitemporalref08_List.f
  rw [if_pos (by rw [h.len])]
  exact list_loop BIG hB r t h.len h3 hx r.length 0 k (by omega) hk h
end Go.Proofs.YtkifafenmboefaaDoor.X
