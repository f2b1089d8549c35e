/- A region that draws its order, every operation of which only adds to memory: each operation is shown once, over what its forerunners left; the orders are not walked one by one. Conditions: those in each theorem. / awake of the tuple chapter's laws, hand-walked by wip/hand08/Web.lean's law: it answers true where its examples come out as said. Conditions: those in each theorem. -/
import Derived.OrdersHeld
import Derived.Deep.RegionHeld
import Derived.Below
import Derived.RowKit
import Derived.Test.YtkifafenmboefaaDoorH2
import Derived.Test.YtkifafenmboefaaDoorX20
import Derived.Test.YtkifafenmboefaaDoorX21
import Derived.Test.YtkifafenmboefaaDoorX2
import Derived.Test.YtkifafenmboefaaDoorX12
import Derived.Test.YtkifafenmboefaaDoorX11
namespace Go.Proofs.YtkifafenmboefaaDoor.Web
open Go Go.RowKit

def NoQ : Exit → Act → World → Prop := fun _ _ _ => False

section
variable {P : Program} {ops : Array Oper} {Q : Exit → Act → World → Prop}

theorem wp_moved {o : Oper} {d : Nat} (hd : o.dst = some d) {a b : Act} {w : World} {R : Value → World → Prop} (hs : d < b.tmps.size) (he : execOp a.eval o = execOp b.eval o)
    (h : Oper.wp P o b w (fun a' w' => ∃ v, a' = b.put (some d) v ∧ R v w') NoQ) : Oper.wp P o a w (fun a' w' => ∃ v, a' = a.put (some d) v ∧ R v w') Q := by
  have inj : ∀ u v, b.put (some d) u = b.put (some d) v → u = v := by
    intro u v h
    have h2 := congrArg (fun x : Act => x.tmps[d]?) h
    simpa [Act.put, hs] using h2
  unfold Oper.wp at *
  rw [he]
  generalize (execOp b.eval o).run P w = r at *
  cases r with
  | ok n w' =>
    cases n <;> simp only [Oper.upon, hd] at h ⊢
    case value u => obtain ⟨v, h1, h2⟩ := h; exact ⟨v, by rw [inj _ _ h1], h2⟩
    case skip => obtain ⟨v, h1, h2⟩ := h; exact ⟨v, by rw [inj _ _ h1], h2⟩
    case defer x =>
      obtain ⟨v, h1, _⟩ := h
      have h3 := congrArg (fun y : Act => y.defers.length) h1
      simp [Act.put] at h3
    case enter f args =>
      refine Calls.mono h fun e w'' hx => ?_
      cases e with
      | returned u => obtain ⟨v, h1, h2⟩ := hx; exact ⟨v, by rw [inj _ _ h1], h2⟩
      | panicked c => exact hx.elim
      | outgrown => obtain ⟨_, _, h3⟩ := hx; exact h3.elim
    case row row args => exact Rows.mono h fun u w'' hx => by obtain ⟨v, h1, h2⟩ := hx; exact ⟨v, by rw [inj _ _ h1], h2⟩
  | halt x w' =>
    cases x <;> simp only [Oper.upon] at h ⊢
    case panic u => exact h.elim

/-- The place among the destinations of a temporary. -/
def place (ds : List (Option Tmp)) (t : Nat) : Option Nat := ds.findIdx? (· == some t)

def dstsOk (ops : Array Oper) (ds : List (Option Tmp)) (m : Nat) : Bool :=
  (ops.toList.map (·.dst) == ds) && (List.range ds.length).all fun i => match ds[i]? with
    | some (some d) => place ds d == some i && decide (d < m)
    | _ => false
def looksOk (ops : Array Oper) (ds : List (Option Tmp)) : Bool :=
  Region.noSelect ops && (List.range ops.size).all fun i => match ops[i]? with
    | some o => ((o.looksAt ops).all fun t => match place ds t with
        | some j => o.after.any fun e => Region.binds .any e && e.on == j
        | none => true) && o.after.all fun e => !Region.binds .any e || decide (e.on < i)
    | none => true

theorem filter_lt {α : Type} (p q : α → Bool) (hpq : ∀ x, q x = true → p x = true) : ∀ l : List α, (∃ x ∈ l, p x = true ∧ q x = false) → (l.filter q).length < (l.filter p).length
  | [], ⟨_, h, _⟩ => by cases h
  | y :: l, ⟨x, hx, hp, hq⟩ => by
    have le : ∀ l : List α, (l.filter q).length ≤ (l.filter p).length := by
      intro l
      induction l with
      | nil => simp
      | cons z l ih =>
        simp only [List.filter_cons]
        cases hz : q z
        · cases hz' : p z <;> simp <;> omega
        · rw [hpq z hz]; simp; omega
    simp only [List.filter_cons]
    rcases List.mem_cons.1 hx with rfl | hx
    · rw [hp, hq]; have := le l; simp; omega
    · have := filter_lt p q hpq l ⟨x, hx, hp, hq⟩
      cases hz : q y
      · cases hz' : p y <;> simp <;> omega
      · rw [hpq y hz]; simp; omega

def unl (n : Nat) (l : Array Bool) : List Nat := (List.range n).filter fun i => !l.getD i true

theorem unl_set {n i : Nat} {l : Array Bool} (hi : i < n) (hn : l.size = n) (h : l.getD i true = false) : (unl n (l.setIfInBounds i true)).length < (unl n l).length := by
  refine filter_lt _ _ (fun x hx => ?_) _ ⟨i, List.mem_range.2 hi, by simp only [h]; rfl, ?_⟩
  · by_cases hix : i = x
    · subst hix; simp [hn, hi] at hx
    · simpa [Array.getElem?_setIfInBounds_ne hix] using hx
  · simp [hn, hi]

variable {ds : List (Option Tmp)} {m : Nat} {a : Act} {B : (Nat → Value) → Array Value} {F : Nat → Value → World → Prop} {Inv : World → Prop}

/-- What an operation does, over a frame in which all destinations are filled. -/
def Step (P : Program) (a : Act) (B : (Nat → Value) → Array Value) (F : Nat → Value → World → Prop) (Inv : World → Prop) (ops : Array Oper) (i : Nat) : Prop :=
  ∀ (o : Oper) (d : Nat) (s : Nat → Value) (w : World), ops[i]? = some o → o.dst = some d → Inv w → (∀ e ∈ o.after, Region.binds .any e = true → F e.on (s e.on) w) →
    ∀ K : Act → World → Prop, Shut (∀ v w', Below w.heap.size w w' → Inv w' → F i v w' → K (Act.put ⟨B s, a.defers⟩ (some d) v) w') →
      if Region.wanted o (yielded ops (B s)) = true then Oper.wp P o ⟨B s, a.defers⟩ w K NoQ else K (Act.put ⟨B s, a.defers⟩ (some d) undef) w

structure St (ops : Array Oper) (a : Act) (m : Nat) (F : Nat → Value → World → Prop) (Inv : World → Prop) (l : Array Bool) (a1 : Act) (w1 : World) : Prop where
  size : l.size = ops.size
  inv : Inv w1
  defers : a1.defers = a.defers
  tmps : a1.tmps.size = m
  vals : ∃ s : Nat → Value, (∀ i, l.getD i false = true → F i (s i) w1 ∧ ∀ d o, ops[i]? = some o → o.dst = some d → a1.tmps[d]? = some (s i)) ∧
    ∀ t, (∀ i o, l.getD i false = true → ops[i]? = some o → o.dst ≠ some t) → a1.tmps[t]? = a.tmps[t]?

theorem dst_place (h : dstsOk ops ds m = true) {i : Nat} {o : Oper} (ho : ops[i]? = some o) : ∃ d, o.dst = some d ∧ place ds d = some i ∧ d < m := by
  unfold dstsOk at h
  simp only [Bool.and_eq_true, beq_iff_eq] at h
  obtain ⟨h1, h2⟩ := h
  have hi : i < ops.size := (Array.getElem?_eq_some_iff.1 ho).1
  have hl : ds.length = ops.size := by rw [← h1]; simp
  have h3 := List.all_eq_true.1 h2 i (List.mem_range.2 (by omega))
  have h4 : ds[i]? = some o.dst := by rw [← h1, List.getElem?_map, Array.getElem?_toList, ho]; rfl
  rw [h4] at h3
  cases hd : o.dst with
  | none => rw [hd] at h3; cases h3
  | some d =>
    rw [hd] at h3
    simp only [Bool.and_eq_true, beq_iff_eq, decide_eq_true_eq] at h3
    exact ⟨d, rfl, h3.1, h3.2⟩

theorem place_dst (h : dstsOk ops ds m = true) {t i : Nat} (hp : place ds t = some i) : ∃ o, ops[i]? = some o ∧ o.dst = some t := by
  unfold dstsOk at h
  simp only [Bool.and_eq_true, beq_iff_eq] at h
  obtain ⟨h1, _⟩ := h
  unfold place at hp
  obtain ⟨hi, hx, _⟩ := List.findIdx?_eq_some_iff_getElem.1 hp
  subst h1
  simp only [List.length_map, Array.length_toList] at hi
  simp only [List.getElem_map, Array.getElem_toList, beq_iff_eq] at hx
  exact ⟨ops[i], by simp [hi], hx⟩

theorem web_any (hQ : ∀ (s : Nat → Value) (w' : World), Inv w' → (∀ i, i < ops.size → F i (s i) w') → Q .normal ⟨B s, a.defers⟩ w')
    (hD : dstsOk ops ds m = true) (hL : looksOk ops ds = true) (_hm : a.tmps.size = m)
    (hB : ∀ s t, (B s)[t]? = match place ds t with | some i => some (s i) | none => a.tmps[t]?)
    (hst : ∀ i v w1 w2, F i v w1 → Below w1.heap.size w1 w2 → F i v w2) (step : ∀ i, i < ops.size → Step P a B F Inv ops i) :
    ∀ (fuel : Nat) (l : Array Bool) (a1 : Act) (w1 : World), (unl ops.size l).length ≤ fuel → St ops a m F Inv l a1 w1 → wpAny P .any ops Q fuel l a1 w1 := by
  unfold looksOk at hL
  simp only [Bool.and_eq_true] at hL
  obtain ⟨hsel, hL⟩ := hL
  have look : ∀ i o, ops[i]? = some o → (∀ t ∈ o.looksAt ops, ∀ j, place ds t = some j → ∃ e ∈ o.after, Region.binds .any e = true ∧ e.on = j) ∧ ∀ e ∈ o.after, Region.binds .any e = true → e.on < i := by
    intro i o ho
    have h1 := List.all_eq_true.1 hL i (List.mem_range.2 (Array.getElem?_eq_some_iff.1 ho).1)
    rw [ho] at h1
    simp only [Bool.and_eq_true] at h1
    refine ⟨fun t ht j hj => ?_, fun e he hb => ?_⟩
    · have h2 := List.all_eq_true.1 h1.1 t ht
      rw [hj] at h2
      obtain ⟨e, he, h3⟩ := Array.any_eq_true'.1 h2
      simp only [Bool.and_eq_true, beq_iff_eq] at h3
      exact ⟨e, he, h3⟩
    · have h2 := Array.all_eq_true_iff_forall_mem.1 h1.2 e he
      simpa [hb] using h2
  -- all are listed: the end
  have fin : ∀ l a1 w1, St ops a m F Inv l a1 w1 → (∀ i, i < ops.size → l.getD i false = true) → Q .normal a1 w1 := by
    intro l a1 w1 S hall
    obtain ⟨s, hs, ht⟩ := S.vals
    have : a1 = ⟨B s, a.defers⟩ := by
      have e1 : a1.tmps = B s := by
        refine Array.ext_getElem? fun t => ?_
        rw [hB s t]
        cases hp : place ds t with
        | none =>
          refine ht t fun i o _ ho hd => ?_
          obtain ⟨d, h1, h2, _⟩ := dst_place hD ho
          rw [hd] at h1
          cases h1
          rw [hp] at h2
          cases h2
        | some i =>
          obtain ⟨o, ho, hd⟩ := place_dst hD hp
          exact (hs i (hall i (Array.getElem?_eq_some_iff.1 ho).1)).2 t o ho hd
      cases a1
      simp only [Act.mk.injEq]
      exact ⟨e1, S.defers⟩
    rw [this]
    exact hQ s w1 S.inv fun i hi => (hs i (hall i hi)).1
  have listed_or : ∀ (l : Array Bool) (i : Nat), l.size = ops.size → i < ops.size → l.getD i true = true → l.getD i false = true := by
    intro l i hl hi h
    simp [hl, hi] at h ⊢
    exact h
  have allOf : ∀ l : Array Bool, l.size = ops.size → Region.ready .any ops l = [] → ∀ i, i < ops.size → l.getD i false = true := by
    intro l hl hr i
    induction i using Nat.strongRecOn with
    | _ i ih =>
      intro hi
      cases hx : l.getD i true with
      | true => exact listed_or l i hl hi hx
      | false =>
        exfalso
        have : i ∈ Region.ready .any ops l := mem_ready.2 ⟨hx, ops[i], by simp [hi], fun e he hb => ih e.on ((look i _ (by simp [hi])).2 e he hb) (Nat.lt_trans ((look i _ (by simp [hi])).2 e he hb) hi)⟩
        rw [hr] at this
        cases this
  intro fuel
  induction fuel with
  | zero =>
    intro l a1 w1 hf S
    have hnil : Region.ready .any ops l = [] := by
      cases hr : Region.ready .any ops l with
      | nil => rfl
      | cons i r =>
        exfalso
        have hi : i ∈ Region.ready .any ops l := by rw [hr]; exact List.mem_cons_self
        obtain ⟨h1, o, ho, _⟩ := mem_ready.1 hi
        have : i ∈ unl ops.size l := List.mem_filter.2 ⟨List.mem_range.2 (Array.getElem?_eq_some_iff.1 ho).1, by rw [h1]; rfl⟩
        rw [List.length_eq_zero_iff.1 (Nat.le_zero.1 hf)] at this
        cases this
    exact ⟨hnil, fin l a1 w1 S (allOf l S.size hnil)⟩
  | succ fuel ih =>
    intro l a1 w1 hf S
    refine ⟨fun hnil => fin l a1 w1 S (allOf l S.size hnil), fun i hi => ?_⟩
    obtain ⟨h1, o, ho, hall⟩ := mem_ready.1 hi
    have hin : i < ops.size := (Array.getElem?_eq_some_iff.1 ho).1
    obtain ⟨d, hd, hpd, hdm⟩ := dst_place hD ho
    obtain ⟨s, hs, ht⟩ := S.vals
    have deps : ∀ e ∈ o.after, Region.binds .any e = true → F e.on (s e.on) w1 := fun e he hb => (hs e.on (hall e he hb)).1
    have same : ∀ t ∈ o.looksAt ops, a1.tmps[t]? = (B s)[t]? := by
      intro t htl
      rw [hB s t]
      cases hp : place ds t with
      | none =>
        refine ht t fun j oj _ hoj hdj => ?_
        obtain ⟨d', h3, h4, _⟩ := dst_place hD hoj
        rw [hdj] at h3
        cases h3
        rw [hp] at h4
        cases h4
      | some j =>
        obtain ⟨e, he, hb, rfl⟩ := (look i o ho).1 t htl j hp
        obtain ⟨oj, hoj, hdj⟩ := place_dst hD hp
        exact (hs e.on (hall e he hb)).2 t oj hoj hdj
    have hex : execOp a1.eval o = execOp (Act.eval ⟨B s, a.defers⟩) o := execOp_congr o (fun cs b => Region.noSelect_spec hsel i o cs b ho) fun x hx => by
      cases x with
      | tmp t =>
        have : t ∈ o.looksAt ops := List.mem_append_left _ (List.mem_filterMap.2 ⟨.tmp t, by simpa using hx, rfl⟩)
        have h2 := same t this
        simp only [Act.eval, Array.getD_eq_getD_getElem?, h2]
      | _ => rfl
    have hwant : Region.wanted o (yielded ops a1.tmps) = Region.wanted o (yielded ops (B s)) := by
      unfold Region.wanted
      cases hg : o.guard with
      | none => rfl
      | some gw =>
        obtain ⟨g, want⟩ := gw
        have hy : yielded ops a1.tmps g = yielded ops (B s) g := by
          unfold yielded
          cases htg : (ops[g]?).bind (·.dst) with
          | none => rfl
          | some t =>
            have : t ∈ o.looksAt ops := by simp [Oper.looksAt, hg, htg]
            simp only [Option.bind_some, same t this]
        simp only [hy]
    have next : ∀ v w2, Below w1.heap.size w1 w2 → Inv w2 → F i v w2 → wpAny P .any ops Q fuel (l.setIfInBounds i true) (a1.put (some d) v) w2 := by
      intro v w2 hb hI hF
      refine ih _ _ _ (by have := unl_set hin S.size h1; omega) ⟨by simp [S.size], hI, S.defers, by simp [Act.put, S.tmps], fun j => if j = i then v else s j, fun j hj => ?_, fun t htl => ?_⟩
      · by_cases hji : j = i
        · subst hji
          refine ⟨by simp only [↓reduceIte]; exact hF, fun d' o' ho' hd' => ?_⟩
          have e2 : o' = o := Option.some.inj (ho'.symm.trans ho)
          subst e2
          have e3 : d' = d := Option.some.inj (hd'.symm.trans hd)
          subst e3
          simp [Act.put, S.tmps, hdm]
        · rw [getD_set_ne false (Ne.symm hji)] at hj
          refine ⟨by simp only [if_neg hji]; exact hst j _ _ _ (hs j hj).1 hb, fun d' o' ho' hd' => ?_⟩
          have hne : d ≠ d' := fun e2 => by
            obtain ⟨d2, h3, h4, _⟩ := dst_place hD ho'
            rw [hd'] at h3
            cases h3
            rw [← e2, hpd] at h4
            exact hji (Option.some.inj h4).symm
          simp only [if_neg hji]
          show (a1.tmps.setIfInBounds d v)[d']? = _
          rw [Array.getElem?_setIfInBounds_ne hne]
          exact (hs j hj).2 d' o' ho' hd'
      · have hne : d ≠ t := fun e2 => htl i o (by simp [S.size, hin]) ho (by rw [hd, e2])
        show (a1.tmps.setIfInBounds d v)[t]? = _
        rw [Array.getElem?_setIfInBounds_ne hne]
        exact ht t fun j oj hj hoj => htl j oj (getD_set_true hj) hoj
    have h := step i hin o d s w1 ho hd S.inv deps (fun a' w' => ∃ v, a' = Act.put ⟨B s, a.defers⟩ (some d) v ∧ (Inv w' ∧ F i v w' ∧ Below w1.heap.size w1 w')) (fun v w' hb hI hF => ⟨v, rfl, hI, hF, hb⟩)
    have hsz : d < (B s).size := by
      have h2 := hB s d
      rw [hpd] at h2
      exact (Array.getElem?_eq_some_iff.1 h2).1
    unfold wpOp
    rw [ho]
    show if Region.wanted o (yielded ops a1.tmps) = true then _ else _
    rw [hwant]
    split
    · rename_i hw
      rw [if_pos hw] at h
      refine .inl (Oper.wp_mono ?_ (wp_moved (Q := Q) (a := a1) hd hsz hex h))
      rintro a' w' ⟨v, rfl, hI, hF, hb⟩
      exact next v w' hb hI hF
    · rename_i hw
      rw [if_neg hw] at h
      obtain ⟨v, h2, hI, hF, hb⟩ := h
      have : undef = v := by
        have h3 := congrArg (fun x : Act => x.tmps[d]?) h2
        simpa [Act.put, hsz] using h3
      rw [hd, this]
      exact next v w1 hb hI hF

/-- A region that draws its order, each operation shown once. -/
theorem web_ {id n : Nat} {w : World} (ds : List (Option Tmp)) (B : (Nat → Value) → Array Value) (F : Nat → Value → World → Prop) (Inv : World → Prop) (hmo : P.follows .mixedOrders = true) (hn : ops.size = n)
    (hD : dstsOk ops ds a.tmps.size = true) (hL : looksOk ops ds = true)
    (hB : ∀ s, (B s).size = a.tmps.size ∧ (List.range a.tmps.size).map (fun t => (B s)[t]?) = (List.range a.tmps.size).map fun t => match place ds t with | some i => some (s i) | none => a.tmps[t]?)
    (hst : ∀ i v w1 w2, F i v w1 → Below w1.heap.size w1 w2 → F i v w2) (hI : Inv w.drew)
    (step : ∀ i, i < n → Step P a B F Inv ops i)
    (hQ : ∀ (s : Nat → Value) (w' : World), Inv w' → (∀ i, i < n → F i (s i) w') → Q .normal ⟨B s, a.defers⟩ w') : (Code.region id ops true).wp P Q a w := by
  subst hn
  have hB' : ∀ s t, (B s)[t]? = match place ds t with | some i => some (s i) | none => a.tmps[t]? := by
    intro s t
    obtain ⟨h1, h2⟩ := hB s
    by_cases hlt : t < a.tmps.size
    · have h3 := congrArg (fun l => l[t]?) h2
      simp only [List.getElem?_map, List.getElem?_range hlt, Option.map_some, Option.some.injEq] at h3
      exact h3
    · rw [Array.getElem?_eq_none (by omega)]
      cases hp : place ds t with
      | none => simp only []; rw [Array.getElem?_eq_none (by omega)]
      | some i =>
        obtain ⟨o, ho, hd⟩ := place_dst hD hp
        obtain ⟨d, h3, _, h4⟩ := dst_place hD ho
        have e2 : t = d := Option.some.inj (hd.symm.trans h3)
        exact absurd (e2 ▸ h4) hlt
  refine wp_region_any hmo (web_any hQ hD hL rfl hB' hst step _ _ _ _ ?_ ⟨by simp, hI, rfl, rfl, fun _ => undef, fun i hi => ?_, fun t _ => rfl⟩)
  · exact Nat.le_trans (List.length_filter_le _ _) (by simp)
  · by_cases hlt : i < ops.size <;> simp [hlt] at hi
end
end Go.Proofs.YtkifafenmboefaaDoor.Web
namespace Go.Proofs.YtkifafenmboefaaDoor.X
open Go Go.RowKit Go.Sort Go.Proofs.YtkifafenmboefaaDoorW.PrintWords Go.Proofs.YtkifafenmboefaaDoorW.PrintLast Go.Proofs.YtkifafenmboefaaDoorW.PrintMore Go.Proofs.YtkifafenmboefaaDoor.Web
set_option linter.unusedVariables false
set_option linter.unusedSimpArgs false
namespace Aw
def x1 : S33 := ⟨1, 1, ⟨#[]⟩⟩
def x2 : S33 := ⟨1, 2, ⟨#[]⟩⟩
def xa : S33 := ⟨2, 0, ⟨#[97]⟩⟩
def xb : S33 := ⟨2, 0, ⟨#[98]⟩⟩
def x0 : S33 := ⟨0, 0, ⟨#[]⟩⟩
def vV (x : S33) : Value := .agg #[.int .i64 x.f0, .int .i64 x.f1, .string x.f2]
def IsV (x v : Value) (_ : World) : Prop := v = x
def IsSl {α : Type} (d : Kd α) (l : List α) (v : Value) (w : World) : Prop := ∃ A c, v = .slice A l.length c ∧ l.length ≤ c ∧ d.C w A l.length l
def IsPtrRow (l : List S33) (v : Value) (w : World) : Prop := ∃ ad A c, v = .pointer (some ad) ∧ w.cell? ad = some (.slice A l.length c) ∧ l.length ≤ c ∧ k33.C w A l.length l
def IsPtrVal (x : S33) (v : Value) (w : World) : Prop := ∃ ad, v = .pointer (some ad) ∧ w.cell? ad = some (.int .i64 x.f0) ∧ w.cell? ⟨ad.block, ad.off + 1, none⟩ = some (.int .i64 x.f1) ∧ w.cell? ⟨ad.block, ad.off + 2, none⟩ = some (.string x.f2)
def Stable (p : Value → World → Prop) : Prop := ∀ v w1 w2, p v w1 → Below w1.heap.size w1 w2 → p v w2
theorem IsV.st (x : Value) : Stable (IsV x) := fun _ _ _ h _ => h
theorem IsSl.st {α : Type} (d : Kd α) (l : List α) : Stable (IsSl d l) := fun _ _ _ ⟨A, c, h1, h2, h3⟩ hb => ⟨A, c, h1, h2, Kd.C_below h3 hb⟩
theorem IsPtrRow.st (l : List S33) : Stable (IsPtrRow l) := fun _ _ _ ⟨ad, A, c, h1, h2, h3, h4⟩ hb => ⟨ad, A, c, h1, (hb.cell (World.block_lt_of_cell? _ _ h2)).trans h2, h3, Kd.C_below h4 hb⟩
theorem IsPtrVal.st (x : S33) : Stable (IsPtrVal x) := fun _ _ _ ⟨ad, h1, h2, h3, h4⟩ hb => ⟨ad, h1, (hb.cell (World.block_lt_of_cell? _ _ h2)).trans h2, (hb.cell (World.block_lt_of_cell? _ _ h3)).trans h3, (hb.cell (World.block_lt_of_cell? _ _ h4)).trans h4⟩
def Fof (l : List (Value → World → Prop)) (i : Nat) (v : Value) (w : World) : Prop := l.getD i (fun _ _ => False) v w
theorem Fof.st {l : List (Value → World → Prop)} (h : ∀ p ∈ l, Stable p) : ∀ i v w1 w2, Fof l i v w1 → Below w1.heap.size w1 w2 → Fof l i v w2 := by
  intro i v w1 w2 hF hb
  unfold Fof at hF ⊢
  rw [List.getD_eq_getElem?_getD] at hF ⊢
  cases hi : l[i]? with
  | none => rw [hi] at hF; exact hF.elim
  | some p => rw [hi] at hF; exact h p (List.mem_of_getElem? hi) v w1 w2 hF hb
section
variable {P : Program} {ops : Array Oper} {a : Act} {B : (Nat → Value) → Array Value} {F : Nat → Value → World → Prop} {Inv : World → Prop} {i : Nat} {o : Oper} {d : Nat} {s : Nat → Value} {w : World} {K : Act → World → Prop}
theorem dep (hF : ∀ e ∈ o.after, Region.binds .any e = true → F e.on (s e.on) w) (j : Nat) (h : (o.after.toList.any fun e => Region.binds .any e && e.on == j) = true) : F j (s j) w := by
  obtain ⟨e, he, h3⟩ := List.any_eq_true.1 h
  replace he : e ∈ o.after := by simpa using he
  simp only [Bool.and_eq_true, beq_iff_eq] at h3
  obtain ⟨h4, rfl⟩ := h3
  exact hF e he h4
inductive Does (P : Program) (a : Act) (B : (Nat → Value) → Array Value) (F : Nat → Value → World → Prop) (Inv : World → Prop) (ops : Array Oper) (i : Nat) (o : Oper) (s : Nat → Value) (w : World) : Prop
  | val {v : Value} {w1 : World} (hw : Region.wanted o (yielded ops (B s)) = true) (hrun : (execOp (Act.eval ⟨B s, a.defers⟩) o).run P w = .ok (.value v) w1) (hb : Below w.heap.size w w1) (hI : Inv w1) (hF : F i v w1) : Does P a B F Inv ops i o s w
  | call {f : FuncId} {args : Array Value} (hw : Region.wanted o (yielded ops (B s)) = true) (hrun : (execOp (Act.eval ⟨B s, a.defers⟩) o).run P w = .ok (.enter f args) w) (hc : Calls P f args w fun e w' => ∃ v, e = .returned v ∧ Below w.heap.size w w' ∧ F i v w') (hI : ∀ w', Below w.heap.size w w' → Inv w') : Does P a B F Inv ops i o s w
theorem Step.mk' (h : ∀ (o : Oper) (s : Nat → Value) (w : World), ops[i]? = some o → Inv w → (∀ e ∈ o.after, Region.binds .any e = true → F e.on (s e.on) w) → Does P a B F Inv ops i o s w) : Step P a B F Inv ops i := by
  intro o d s w ho hd hI hF K hK
  rcases h o s w ho hI hF with ⟨hw, hrun, hb, hI1, hF1⟩ | ⟨hw, hrun, hc, hI1⟩
  · rw [if_pos hw]
    unfold Oper.wp
    rw [hrun]
    show K (Act.put _ o.dst _) _
    rw [hd]
    exact hK.out _ _ hb hI1 hF1
  · rw [if_pos hw]
    unfold Oper.wp
    rw [hrun]
    refine Calls.mono hc ?_
    rintro e w' ⟨v, rfl, hb, hF2⟩
    show K (Act.put _ o.dst v) w'
    rw [hd]
    exact hK.out v w' hb (hI1 w' hb) hF2
theorem wanted_of {tmps : Array Value} {g t : Nat} (hg : o.guard = some (g, true)) (ht : (ops[g]?).bind (·.dst) = some t) (hv : tmps[t]? = some (.bool true)) : Region.wanted o (yielded ops tmps) = true := by
  unfold Region.wanted yielded
  rw [hg]
  simp [ht, hv]
end
theorem C_lit {α : Type} (d : Kd α) (W : World) (e : TypeId) {xs : List α} {inner : List Value} (hrep : Reps (d.K W) d.sz xs inner) (hm : xs.length ≤ 9223372036854775807) : d.C (W.alloc (.cells inner.toArray e)) (some ⟨W.heap.size, 0, none⟩) xs.length xs := by
  refine ⟨rfl, hm, fun _ => ⟨_, rfl, fun j p hj => ⟨(inner.drop (j * d.sz)).take d.sz, ?_, d.K_below (below_alloc (Below.refl _ _) _) (hrep.2 j p hj), fun i u hu => ?_⟩⟩⟩
  · have hjl := (List.getElem?_eq_some_iff.1 hj).1
    have h1 : j * d.sz + d.sz ≤ inner.length := by rw [hrep.1, ← Nat.succ_mul]; exact Nat.mul_le_mul_right _ hjl
    rw [List.length_take, List.length_drop]
    omega
  · rw [List.getElem?_take] at hu
    split at hu
    · rw [List.getElem?_drop] at hu
      have e3 : (⟨W.heap.size, 0, none⟩ : Addr).add (j * d.sz + i) = ⟨W.heap.size, j * d.sz + i, none⟩ := by
        unfold Addr.add
        split <;> simp_all
      rw [e3]
      simp [World.cell?_alloc_new, hu]
    · cases hu
theorem eqA33 (d : Nat) (w : World) (x0 y0 : Int) (x1 y1 : Int) (x2 y2 : ByteArray) :
    (Op.equalIn (d + 2) 33 (.agg #[.int .i64 x0, .int .i64 x1, .string x2]) (.agg #[.int .i64 y0, .int .i64 y1, .string y2])).run Tryd.prog w = .ok (x0 == y0 && (x1 == y1 && (x2.toList == y2.toList))) w := by
  refine eqA_of Tryd.underlying33 (by kernel_rfl) ?_
  refine eqf_cons (by rfl) (by go_simp; rfl) (by go_simp; rfl) (by go_simp) ?_
  refine eqf_cons (by rfl) (by go_simp; rfl) (by go_simp; rfl) (by go_simp) ?_
  exact eqf_last (by rfl) (by go_simp; rfl) (by go_simp; rfl) (by go_simp)
theorem eqVV {p q : Operand} (x : S33) (w : World) : ((Sem.run Tryd.prog (eqGuard .eql 33 p q (vV x) (vV x)) w).andThen fun a w' => (Sem.run Tryd.prog (binOp .eql 33 (vV x) (vV x)) w').andThen fun a w' => Result.ok (Next.value a) w') = Result.ok (Next.value (Value.bool true)) w := by
  have hm : Tryd.prog.eqGuardType Tryd.prog.depth 33 = false := by kernel_rfl
  unfold vV
  rw [run_eqGuard_agg w .eql 33 p q _ _ hm, Result.andThen_ok, run_eql_struct, eqA33 9998]
  simp
end Aw
open Aw

structure awakeIs (k : Nat) : Prop where
  i1 : value_Int.f k 1 = some (x1.f0, x1.f1, x1.f2)
  i2 : value_Int.f k 2 = some (x2.f0, x2.f1, x2.f2)
  ta : value_Text.f k ⟨#[97]⟩ = some (xa.f0, xa.f1, xa.f2)
  tb : value_Text.f k ⟨#[98]⟩ = some (xb.f0, xb.f1, xb.f2)
  or_ : tuple_Order.f k [[x1, xb], [x2, xa], [x1, xa]] [⟨0, true⟩] = some [[x2, xa], [x1, xa], [x1, xb]]
  pk : tuple_Pick.f k [x1, xb] [1, 5] = some [xb, x0]
  tx : tuple_Text.f k [x1, xa, x0] = some ⟨#[40, 49, 44, 32, 39, 97, 39, 44, 32, 78, 85, 76, 76, 41]⟩
  e1 : tuple_Equal.f k [x2, xa] [x2, xa] = some true
  e2 : tuple_Equal.f k [x1, xb] [x1, xb] = some true
  e3 : tuple_Equal.f k [x2, xa] [x1, xa] = some false
open Classical in
noncomputable def bitemporallaw08_awake.f (k : Nat) : Option Bool := if awakeIs k then some true else none
theorem bitemporallaw08_awake.mono : ∀ k, LeO (bitemporallaw08_awake.f k) (bitemporallaw08_awake.f (k + 1)) := by
  intro k r h
  unfold bitemporallaw08_awake.f at h ⊢
  split at h
  · next H => rw [if_pos ⟨value_Int.mono _ _ _ H.i1, value_Int.mono _ _ _ H.i2, value_Text.mono _ _ _ H.ta, value_Text.mono _ _ _ H.tb, tuple_Order.mono _ _ _ _ H.or_, tuple_Pick.mono _ _ _ _ H.pk, tuple_Text.mono _ _ _ H.tx, tuple_Equal.mono _ _ _ _ H.e1, tuple_Equal.mono _ _ _ _ H.e2, tuple_Equal.mono _ _ _ _ H.e3⟩]; exact h
  · cases h
set_option maxHeartbeats 16000000 in
set_option maxRecDepth 100000 in
theorem bitemporallaw08_awake.calls (k : Nat) (r : Bool) (w : World) (h : bitemporallaw08_awake.f k = some r) (hG : GW w) :
    Calls Tryd.prog 14 #[] w fun e w' => e = .returned (.bool r) ∧ Below w.heap.size w w' := by
  have hH : awakeIs k ∧ r = true := by
    unfold bitemporallaw08_awake.f at h
    split at h
    · next H => exact ⟨H, (Option.some.inj h).symm⟩
    · cases h
  obtain ⟨H0, rfl⟩ := hH
  have H := Aside0.mk H0
  have HG := Aside0.mk hG
  clear h hG H0
  have mixed : Tryd.prog.follows .mixedOrders = true := by kernel_rfl
  go_enter Tryd.func14, Tryd.ntmps14
  go_wp2_with fail
  refine (value_Text.calls k _ _ _ _ _ H.out.ta HG.out).mono ?_
  rintro e w1 ⟨rfl, hb1⟩
  have HB1 := Aside0.mk hb1
  clear hb1
  go_wp2_with fail
  refine (value_Text.calls k _ _ _ _ _ H.out.tb (HG.out.below HB1.out)).mono ?_
  rintro e w2 ⟨rfl, hb2⟩
  have HB2 : Aside0 (Below w.heap.size w w2) := ⟨below_step HB1.out hb2⟩
  clear hb2 HB1
  go_wp2_with fail
  obtain ⟨W4, hW4⟩ : ∃ W4, W4 = (w2.alloc (Obj.cells #[Value.int IntKind.i64 xa.f0, Value.int IntKind.i64 xa.f1, Value.string xa.f2] 33)).alloc (Obj.cells #[Value.int IntKind.i64 xb.f0, Value.int IntKind.i64 xb.f1, Value.string xb.f2] 33) := ⟨_, rfl⟩
  obtain ⟨pa, hpa⟩ : ∃ pa : Addr, pa = ⟨w2.heap.size, 0, none⟩ := ⟨_, rfl⟩
  obtain ⟨pb, hpb⟩ : ∃ pb : Addr, pb = ⟨w2.heap.size + 1, 0, none⟩ := ⟨_, rfl⟩
  have hA4 : IsPtrVal xa (.pointer (some pa)) W4 := by rw [hW4, hpa]; exact ⟨_, rfl, by simp, by simp, by simp⟩
  have hB4 : IsPtrVal xb (.pointer (some pb)) W4 := by rw [hW4, hpb]; exact ⟨_, rfl, by simp, by simp, by simp⟩
  have hb4 : Below w.heap.size w W4 := by rw [hW4]; exact (HB2.out.alloc HB2.out.size _).alloc (by have := HB2.out.size; simp; omega) _
  rw [← hW4, ← hpa, ← hpb]
  clear hW4 hpa hpb HB2
  obtain ⟨Inv, hInv⟩ : ∃ Inv : World → Prop, Inv = fun w' => Below W4.heap.size W4 w' := ⟨_, rfl⟩
  have hS : ∀ w1 w2, Inv w1 → Below w1.heap.size w1 w2 → Inv w2 := by rw [hInv]; exact fun w1 w2 h1 h2 => below_step h1 h2
  have hG_ : ∀ w', Inv w' → GW w' := by rw [hInv]; exact fun w' h => HG.out.below (below_step hb4 h)
  have hA_ : ∀ w', Inv w' → IsPtrVal xa (.pointer (some pa)) w' := by rw [hInv]; exact fun w' h => IsPtrVal.st _ _ _ _ hA4 h
  have hB_ : ∀ w', Inv w' → IsPtrVal xb (.pointer (some pb)) w' := by rw [hInv]; exact fun w' h => IsPtrVal.st _ _ _ _ hB4 h
  have hE_ : ∀ w', Inv w' → Below w.heap.size w w' := by rw [hInv]; exact fun w' h => below_step hb4 h
  have hID : ∀ w', Inv w' → Inv w'.drew := fun w' h => hS _ _ h (below_drew (Below.refl _ _))
  have hI0 : Inv W4 := by rw [hInv]; exact Below.refl _ _
  clear hInv hA4 hB4 hb4 HG
  --GEN
  refine web_ (n := 14) [some 7, some 8, some 9, some 10, some 11, some 12, some 13, some 14, some 15, some 16, some 17, some 18, some 19, some 3] (fun s => #[(.bool false), (.pointer (some pa)), (.pointer (some pb)), (s 13), undef, (vV xa), (vV xb), (s 0), (s 1), (s 2), (s 3), (s 4), (s 5), (s 6), (s 7), (s 8), (s 9), (s 10), (s 11), (s 12), undef, undef, undef, undef, undef, undef, undef, undef, undef, undef, undef, undef, undef, undef, undef, undef, undef, undef, undef, undef, undef, undef, undef, undef, undef, undef, undef, undef, undef, undef, undef, undef, undef, undef, undef, undef, undef, undef, undef, undef, undef, undef, undef, undef, undef, undef, undef, undef, undef, undef, undef, undef, undef, undef, undef, undef, undef, undef, undef, undef, undef, undef, undef]) (Fof [IsV ((vV x1)), IsV ((vV xb)), IsSl k33 [x1, xb], IsV ((vV x2)), IsV ((vV xa)), IsSl k33 [x2, xa], IsV ((vV x1)), IsV ((vV xa)), IsSl k33 [x1, xa], IsSl (Kd.slice 33 k33) [[x1, xb], [x2, xa], [x1, xa]], IsV ((.agg #[.int .i64 0, .bool true])), IsSl k47 [⟨0, true⟩], IsSl (Kd.slice 33 k33) [[x2, xa], [x1, xa], [x1, xb]], IsSl (Kd.slice 33 k33) [[x2, xa], [x1, xa], [x1, xb]]]) Inv mixed rfl (by kernel_rfl) (by kernel_rfl) (fun s => ⟨rfl, rfl⟩) (Fof.st ?fst2) (hID _ hI0) ?step2 ?next2
  case fst2 =>
    intro p hp
    simp only [List.mem_cons, List.mem_nil_iff, or_false] at hp
    rcases hp with rfl | rfl | rfl | rfl | rfl | rfl | rfl | rfl | rfl | rfl | rfl | rfl | rfl | rfl
    · exact IsV.st _
    · exact IsV.st _
    · exact IsSl.st _ _
    · exact IsV.st _
    · exact IsV.st _
    · exact IsSl.st _ _
    · exact IsV.st _
    · exact IsV.st _
    · exact IsSl.st _ _
    · exact IsSl.st _ _
    · exact IsV.st _
    · exact IsSl.st _ _
    · exact IsSl.st _ _
    · exact IsSl.st _ _
  case step2 =>
    clear hI0
    intro i hi
    match i, hi with
    | 0, _ =>
      refine Step.mk' ?_
      intro o s w ho hI hF
      simp only [List.getElem?_toArray, List.getElem?_cons_succ, List.getElem?_cons_zero, Option.some.injEq] at ho
      subst ho
      clear hF
      refine Does.call (f := 35) (args := #[.int .i64 1]) rfl (by go_simp) ?_ (fun w' hb => hS _ _ hI hb)
      refine (value_Int.calls k _ _ _ _ _ H.out.i1 (hG_ _ hI)).mono ?_
      rintro e w' ⟨rfl, hb⟩
      exact ⟨_, rfl, hb, rfl⟩
    | 1, _ =>
      refine Step.mk' ?_
      intro o s w ho hI hF
      simp only [List.getElem?_toArray, List.getElem?_cons_succ, List.getElem?_cons_zero, Option.some.injEq] at ho
      subst ho
      clear hF
      obtain ⟨q, eq_, y, z, t⟩ := hB_ _ hI
      obtain rfl := Option.some.inj (Value.pointer.inj eq_)
      exact Does.val (v := (vV xb)) rfl (by first | (go_simp; done) | (go_simp; rfl)) (Below.refl _ _) hI rfl
    | 2, _ =>
      refine Step.mk' ?_
      intro o s w ho hI hF
      simp only [List.getElem?_toArray, List.getElem?_cons_succ, List.getElem?_cons_zero, Option.some.injEq] at ho
      subst ho
      have e0 : s 0 = (vV x1) := dep hF 0 rfl
      have e1 : s 1 = (vV xb) := dep hF 1 rfl
      clear hF
      refine Does.val (v := .slice (some ⟨w.heap.size, 0, none⟩) 2 2) (w1 := w.alloc (.cells #[.int .i64 x1.f0, .int .i64 x1.f1, .string x1.f2, .int .i64 xb.f0, .int .i64 xb.f1, .string xb.f2] 33)) rfl (by simp only [e0, e1]; first | (go_simp; done) | (go_simp; rfl)) (below_alloc (Below.refl _ _) _) (hS _ _ hI (below_alloc (Below.refl _ _) _)) ?_
      exact ⟨_, _, rfl, Nat.le_refl _, C_lit (k33) w 33 (xs := [x1, xb]) (inner := [.int .i64 x1.f0, .int .i64 x1.f1, .string x1.f2, .int .i64 xb.f0, .int .i64 xb.f1, .string xb.f2]) (Reps.snoc (Reps.snoc (Reps.none _ _) (k33_mk w x1) rfl) (k33_mk w xb) rfl) (by simp)⟩
    | 3, _ =>
      refine Step.mk' ?_
      intro o s w ho hI hF
      simp only [List.getElem?_toArray, List.getElem?_cons_succ, List.getElem?_cons_zero, Option.some.injEq] at ho
      subst ho
      clear hF
      refine Does.call (f := 35) (args := #[.int .i64 2]) rfl (by go_simp) ?_ (fun w' hb => hS _ _ hI hb)
      refine (value_Int.calls k _ _ _ _ _ H.out.i2 (hG_ _ hI)).mono ?_
      rintro e w' ⟨rfl, hb⟩
      exact ⟨_, rfl, hb, rfl⟩
    | 4, _ =>
      refine Step.mk' ?_
      intro o s w ho hI hF
      simp only [List.getElem?_toArray, List.getElem?_cons_succ, List.getElem?_cons_zero, Option.some.injEq] at ho
      subst ho
      clear hF
      obtain ⟨q, eq_, y, z, t⟩ := hA_ _ hI
      obtain rfl := Option.some.inj (Value.pointer.inj eq_)
      exact Does.val (v := (vV xa)) rfl (by first | (go_simp; done) | (go_simp; rfl)) (Below.refl _ _) hI rfl
    | 5, _ =>
      refine Step.mk' ?_
      intro o s w ho hI hF
      simp only [List.getElem?_toArray, List.getElem?_cons_succ, List.getElem?_cons_zero, Option.some.injEq] at ho
      subst ho
      have e3 : s 3 = (vV x2) := dep hF 3 rfl
      have e4 : s 4 = (vV xa) := dep hF 4 rfl
      clear hF
      refine Does.val (v := .slice (some ⟨w.heap.size, 0, none⟩) 2 2) (w1 := w.alloc (.cells #[.int .i64 x2.f0, .int .i64 x2.f1, .string x2.f2, .int .i64 xa.f0, .int .i64 xa.f1, .string xa.f2] 33)) rfl (by simp only [e3, e4]; first | (go_simp; done) | (go_simp; rfl)) (below_alloc (Below.refl _ _) _) (hS _ _ hI (below_alloc (Below.refl _ _) _)) ?_
      exact ⟨_, _, rfl, Nat.le_refl _, C_lit (k33) w 33 (xs := [x2, xa]) (inner := [.int .i64 x2.f0, .int .i64 x2.f1, .string x2.f2, .int .i64 xa.f0, .int .i64 xa.f1, .string xa.f2]) (Reps.snoc (Reps.snoc (Reps.none _ _) (k33_mk w x2) rfl) (k33_mk w xa) rfl) (by simp)⟩
    | 6, _ =>
      refine Step.mk' ?_
      intro o s w ho hI hF
      simp only [List.getElem?_toArray, List.getElem?_cons_succ, List.getElem?_cons_zero, Option.some.injEq] at ho
      subst ho
      clear hF
      refine Does.call (f := 35) (args := #[.int .i64 1]) rfl (by go_simp) ?_ (fun w' hb => hS _ _ hI hb)
      refine (value_Int.calls k _ _ _ _ _ H.out.i1 (hG_ _ hI)).mono ?_
      rintro e w' ⟨rfl, hb⟩
      exact ⟨_, rfl, hb, rfl⟩
    | 7, _ =>
      refine Step.mk' ?_
      intro o s w ho hI hF
      simp only [List.getElem?_toArray, List.getElem?_cons_succ, List.getElem?_cons_zero, Option.some.injEq] at ho
      subst ho
      clear hF
      obtain ⟨q, eq_, y, z, t⟩ := hA_ _ hI
      obtain rfl := Option.some.inj (Value.pointer.inj eq_)
      exact Does.val (v := (vV xa)) rfl (by first | (go_simp; done) | (go_simp; rfl)) (Below.refl _ _) hI rfl
    | 8, _ =>
      refine Step.mk' ?_
      intro o s w ho hI hF
      simp only [List.getElem?_toArray, List.getElem?_cons_succ, List.getElem?_cons_zero, Option.some.injEq] at ho
      subst ho
      have e6 : s 6 = (vV x1) := dep hF 6 rfl
      have e7 : s 7 = (vV xa) := dep hF 7 rfl
      clear hF
      refine Does.val (v := .slice (some ⟨w.heap.size, 0, none⟩) 2 2) (w1 := w.alloc (.cells #[.int .i64 x1.f0, .int .i64 x1.f1, .string x1.f2, .int .i64 xa.f0, .int .i64 xa.f1, .string xa.f2] 33)) rfl (by simp only [e6, e7]; first | (go_simp; done) | (go_simp; rfl)) (below_alloc (Below.refl _ _) _) (hS _ _ hI (below_alloc (Below.refl _ _) _)) ?_
      exact ⟨_, _, rfl, Nat.le_refl _, C_lit (k33) w 33 (xs := [x1, xa]) (inner := [.int .i64 x1.f0, .int .i64 x1.f1, .string x1.f2, .int .i64 xa.f0, .int .i64 xa.f1, .string xa.f2]) (Reps.snoc (Reps.snoc (Reps.none _ _) (k33_mk w x1) rfl) (k33_mk w xa) rfl) (by simp)⟩
    | 9, _ =>
      refine Step.mk' ?_
      intro o s w ho hI hF
      simp only [List.getElem?_toArray, List.getElem?_cons_succ, List.getElem?_cons_zero, Option.some.injEq] at ho
      subst ho
      obtain ⟨A2, c2, e2, l2, C2⟩ : IsSl k33 [x1, xb] (s 2) w := dep hF 2 rfl
      obtain ⟨A5, c5, e5, l5, C5⟩ : IsSl k33 [x2, xa] (s 5) w := dep hF 5 rfl
      obtain ⟨A8, c8, e8, l8, C8⟩ : IsSl k33 [x1, xa] (s 8) w := dep hF 8 rfl
      clear hF
      refine Does.val (v := .slice (some ⟨w.heap.size, 0, none⟩) 3 3) (w1 := w.alloc (.cells #[.slice A2 2 c2, .slice A5 2 c5, .slice A8 2 c8] 22)) rfl (by simp only [e2, e5, e8]; first | (go_simp; done) | (go_simp; rfl)) (below_alloc (Below.refl _ _) _) (hS _ _ hI (below_alloc (Below.refl _ _) _)) ?_
      exact ⟨_, _, rfl, Nat.le_refl _, C_lit (Kd.slice 33 k33) w 22 (xs := [[x1, xb], [x2, xa], [x1, xa]]) (inner := [.slice A2 2 c2, .slice A5 2 c5, .slice A8 2 c8]) (Reps.snoc (Reps.snoc (Reps.snoc (Reps.none _ _) (show (Kd.slice 33 k33).K w [x1, xb] [.slice A2 2 c2] from ⟨A2, c2, rfl, l2, C2⟩) rfl) (show (Kd.slice 33 k33).K w [x2, xa] [.slice A5 2 c5] from ⟨A5, c5, rfl, l5, C5⟩) rfl) (show (Kd.slice 33 k33).K w [x1, xa] [.slice A8 2 c8] from ⟨A8, c8, rfl, l8, C8⟩) rfl) (by simp)⟩
    | 10, _ =>
      refine Step.mk' ?_
      intro o s w ho hI hF
      simp only [List.getElem?_toArray, List.getElem?_cons_succ, List.getElem?_cons_zero, Option.some.injEq] at ho
      subst ho
      clear hF
      exact Does.val (v := (.agg #[.int .i64 0, .bool true])) rfl (by first | (go_simp; done) | (go_simp; rfl)) (Below.refl _ _) hI rfl
    | 11, _ =>
      refine Step.mk' ?_
      intro o s w ho hI hF
      simp only [List.getElem?_toArray, List.getElem?_cons_succ, List.getElem?_cons_zero, Option.some.injEq] at ho
      subst ho
      have e10 : s 10 = (.agg #[.int .i64 0, .bool true]) := dep hF 10 rfl
      clear hF
      refine Does.val (v := .slice (some ⟨w.heap.size, 0, none⟩) 1 1) (w1 := w.alloc (.cells #[.int .i64 0, .bool true] 47)) rfl (by simp only [e10]; first | (go_simp; done) | (go_simp; rfl)) (below_alloc (Below.refl _ _) _) (hS _ _ hI (below_alloc (Below.refl _ _) _)) ?_
      exact ⟨_, _, rfl, Nat.le_refl _, C_lit (k47) w 47 (xs := [⟨0, true⟩]) (inner := [.int .i64 0, .bool true]) (Reps.snoc (Reps.none _ _) (k47_mk w ⟨0, true⟩) rfl) (by simp)⟩
    | 12, _ =>
      refine Step.mk' ?_
      intro o s w ho hI hF
      simp only [List.getElem?_toArray, List.getElem?_cons_succ, List.getElem?_cons_zero, Option.some.injEq] at ho
      subst ho
      obtain ⟨A9, c9, e9, l9, C9⟩ : IsSl (Kd.slice 33 k33) [[x1, xb], [x2, xa], [x1, xa]] (s 9) w := dep hF 9 rfl
      obtain ⟨A11, c11, e11, l11, C11⟩ : IsSl k47 [⟨0, true⟩] (s 11) w := dep hF 11 rfl
      clear hF
      refine Does.call (f := 17) (args := #[.slice A9 3 c9, .slice A11 1 c11]) rfl (by simp only [e9, e11]; go_simp) ?_ (fun w' hb => hS _ _ hI hb)
      refine (tuple_Order.calls k A9 c9 _ A11 c11 _ _ w C9 l9 C11 l11 H.out.or_ (hG_ _ hI)).mono ?_
      rintro e w' ⟨v, rfl, hR, hb⟩
      obtain ⟨A, c, rfl, hc, hC⟩ := Kd.R_reads hR
      exact ⟨_, rfl, hb, A, c, rfl, hc, hC⟩
    | 13, _ =>
      refine Step.mk' ?_
      intro o s w ho hI hF
      simp only [List.getElem?_toArray, List.getElem?_cons_succ, List.getElem?_cons_zero, Option.some.injEq] at ho
      subst ho
      obtain ⟨A12, c12, e12, l12, C12⟩ : IsSl (Kd.slice 33 k33) [[x2, xa], [x1, xa], [x1, xb]] (s 12) w := dep hF 12 rfl
      clear hF
      exact Does.val (v := .slice A12 _ c12) rfl (by simp only [e12]; first | (go_simp; done) | (go_simp; rfl)) (Below.refl _ _) hI ⟨_, _, rfl, l12, C12⟩
    | n + 14, hn => exact absurd hn (by omega)
  case' next2 => intro s wr hI hF
  have F13 : IsSl (Kd.slice 33 k33) [[x2, xa], [x1, xa], [x1, xb]] (s 13) wr := hF 13 (by decide)
  dsimp only
  obtain ⟨v7, hv⟩ : ∃ v, v = s 0 := ⟨_, rfl⟩
  rw [← hv]
  clear hv
  obtain ⟨v8, hv⟩ : ∃ v, v = s 1 := ⟨_, rfl⟩
  rw [← hv]
  clear hv
  obtain ⟨v9, hv⟩ : ∃ v, v = s 2 := ⟨_, rfl⟩
  rw [← hv]
  clear hv
  obtain ⟨v10, hv⟩ : ∃ v, v = s 3 := ⟨_, rfl⟩
  rw [← hv]
  clear hv
  obtain ⟨v11, hv⟩ : ∃ v, v = s 4 := ⟨_, rfl⟩
  rw [← hv]
  clear hv
  obtain ⟨v12, hv⟩ : ∃ v, v = s 5 := ⟨_, rfl⟩
  rw [← hv]
  clear hv
  obtain ⟨v13, hv⟩ : ∃ v, v = s 6 := ⟨_, rfl⟩
  rw [← hv]
  clear hv
  obtain ⟨v14, hv⟩ : ∃ v, v = s 7 := ⟨_, rfl⟩
  rw [← hv]
  clear hv
  obtain ⟨v15, hv⟩ : ∃ v, v = s 8 := ⟨_, rfl⟩
  rw [← hv]
  clear hv
  obtain ⟨v16, hv⟩ : ∃ v, v = s 9 := ⟨_, rfl⟩
  rw [← hv]
  clear hv
  obtain ⟨v17, hv⟩ : ∃ v, v = s 10 := ⟨_, rfl⟩
  rw [← hv]
  clear hv
  obtain ⟨v18, hv⟩ : ∃ v, v = s 11 := ⟨_, rfl⟩
  rw [← hv]
  clear hv
  obtain ⟨v19, hv⟩ : ∃ v, v = s 12 := ⟨_, rfl⟩
  rw [← hv]
  clear hv
  obtain ⟨vl, hv⟩ : ∃ v, v = s 13 := ⟨_, rfl⟩
  rw [← hv] at F13 ⊢
  clear hv
  clear hI0
  have hI1 := hI
  obtain ⟨Inv1, hInv⟩ : ∃ I : World → Prop, I = fun w' => Inv w' ∧ Below wr.heap.size wr w' := ⟨_, rfl⟩
  replace hG_ : ∀ w', Inv1 w' → GW w' := by rw [hInv]; exact fun w' h => hG_ w' h.1
  replace hA_ : ∀ w', Inv1 w' → IsPtrVal xa (.pointer (some pa)) w' := by rw [hInv]; exact fun w' h => hA_ w' h.1
  replace hB_ : ∀ w', Inv1 w' → IsPtrVal xb (.pointer (some pb)) w' := by rw [hInv]; exact fun w' h => hB_ w' h.1
  replace hE_ : ∀ w', Inv1 w' → Below w.heap.size w w' := by rw [hInv]; exact fun w' h => hE_ w' h.1
  have hL_ : ∀ w', Inv1 w' → IsSl (Kd.slice 33 k33) [[x2, xa], [x1, xa], [x1, xb]] vl w' := by rw [hInv]; exact fun w' h => (IsSl.st _ _) _ _ _ F13 h.2
  replace hS : ∀ w1 w2, Inv1 w1 → Below w1.heap.size w1 w2 → Inv1 w2 := by rw [hInv]; exact fun w1 w2 h1 h2 => ⟨hS w1 w2 h1.1 h2, below_step h1.2 h2⟩
  have hI0 : Inv1 wr := by rw [hInv]; exact ⟨hI1, Below.refl _ _⟩
  clear hInv hI1 hI hID hF F13
  clear Inv
  have hID : ∀ w', Inv1 w' → Inv1 w'.drew := fun w' h => hS _ _ h (below_drew (Below.refl _ _))
  go_wp2_with fail
  refine web_ (n := 6) [some 20, some 21, some 22, some 23, some 24, some 4] (fun s => #[(.bool false), (.pointer (some pa)), (.pointer (some pb)), vl, (s 5), (vV xa), (vV xb), v7, v8, v9, v10, v11, v12, v13, v14, v15, v16, v17, v18, v19, (s 0), (s 1), (s 2), (s 3), (s 4), undef, undef, undef, undef, undef, undef, undef, undef, undef, undef, undef, undef, undef, undef, undef, undef, undef, undef, undef, undef, undef, undef, undef, undef, undef, undef, undef, undef, undef, undef, undef, undef, undef, undef, undef, undef, undef, undef, undef, undef, undef, undef, undef, undef, undef, undef, undef, undef, undef, undef, undef, undef, undef, undef, undef, undef, undef, undef]) (Fof [IsV ((vV x1)), IsV ((vV xb)), IsSl k33 [x1, xb], IsSl (Kd.int .i64) [1, 5], IsSl k33 [xb, x0], IsSl k33 [xb, x0]]) Inv1 mixed rfl (by kernel_rfl) (by kernel_rfl) (fun s => ⟨rfl, rfl⟩) (Fof.st ?fst3) (hID _ hI0) ?step3 ?next3
  case fst3 =>
    intro p hp
    simp only [List.mem_cons, List.mem_nil_iff, or_false] at hp
    rcases hp with rfl | rfl | rfl | rfl | rfl | rfl
    · exact IsV.st _
    · exact IsV.st _
    · exact IsSl.st _ _
    · exact IsSl.st _ _
    · exact IsSl.st _ _
    · exact IsSl.st _ _
  case step3 =>
    clear hI0
    intro i hi
    match i, hi with
    | 0, _ =>
      refine Step.mk' ?_
      intro o s w ho hI hF
      simp only [List.getElem?_toArray, List.getElem?_cons_succ, List.getElem?_cons_zero, Option.some.injEq] at ho
      subst ho
      clear hF
      refine Does.call (f := 35) (args := #[.int .i64 1]) rfl (by go_simp) ?_ (fun w' hb => hS _ _ hI hb)
      refine (value_Int.calls k _ _ _ _ _ H.out.i1 (hG_ _ hI)).mono ?_
      rintro e w' ⟨rfl, hb⟩
      exact ⟨_, rfl, hb, rfl⟩
    | 1, _ =>
      refine Step.mk' ?_
      intro o s w ho hI hF
      simp only [List.getElem?_toArray, List.getElem?_cons_succ, List.getElem?_cons_zero, Option.some.injEq] at ho
      subst ho
      clear hF
      obtain ⟨q, eq_, y, z, t⟩ := hB_ _ hI
      obtain rfl := Option.some.inj (Value.pointer.inj eq_)
      exact Does.val (v := (vV xb)) rfl (by first | (go_simp; done) | (go_simp; rfl)) (Below.refl _ _) hI rfl
    | 2, _ =>
      refine Step.mk' ?_
      intro o s w ho hI hF
      simp only [List.getElem?_toArray, List.getElem?_cons_succ, List.getElem?_cons_zero, Option.some.injEq] at ho
      subst ho
      have e0 : s 0 = (vV x1) := dep hF 0 rfl
      have e1 : s 1 = (vV xb) := dep hF 1 rfl
      clear hF
      refine Does.val (v := .slice (some ⟨w.heap.size, 0, none⟩) 2 2) (w1 := w.alloc (.cells #[.int .i64 x1.f0, .int .i64 x1.f1, .string x1.f2, .int .i64 xb.f0, .int .i64 xb.f1, .string xb.f2] 33)) rfl (by simp only [e0, e1]; first | (go_simp; done) | (go_simp; rfl)) (below_alloc (Below.refl _ _) _) (hS _ _ hI (below_alloc (Below.refl _ _) _)) ?_
      exact ⟨_, _, rfl, Nat.le_refl _, C_lit (k33) w 33 (xs := [x1, xb]) (inner := [.int .i64 x1.f0, .int .i64 x1.f1, .string x1.f2, .int .i64 xb.f0, .int .i64 xb.f1, .string xb.f2]) (Reps.snoc (Reps.snoc (Reps.none _ _) (k33_mk w x1) rfl) (k33_mk w xb) rfl) (by simp)⟩
    | 3, _ =>
      refine Step.mk' ?_
      intro o s w ho hI hF
      simp only [List.getElem?_toArray, List.getElem?_cons_succ, List.getElem?_cons_zero, Option.some.injEq] at ho
      subst ho
      clear hF
      refine Does.val (v := .slice (some ⟨w.heap.size, 0, none⟩) 2 2) (w1 := w.alloc (.cells #[.int .i64 1, .int .i64 5] 3)) rfl (by first | (go_simp; done) | (go_simp; rfl)) (below_alloc (Below.refl _ _) _) (hS _ _ hI (below_alloc (Below.refl _ _) _)) ?_
      exact ⟨_, _, rfl, Nat.le_refl _, C_lit (Kd.int .i64) w 3 (xs := [1, 5]) (inner := [.int .i64 1, .int .i64 5]) (Reps.snoc (Reps.snoc (Reps.none _ _) (show (Kd.int .i64).K w 1 [.int .i64 1] from rfl) rfl) (show (Kd.int .i64).K w 5 [.int .i64 5] from rfl) rfl) (by simp)⟩
    | 4, _ =>
      refine Step.mk' ?_
      intro o s w ho hI hF
      simp only [List.getElem?_toArray, List.getElem?_cons_succ, List.getElem?_cons_zero, Option.some.injEq] at ho
      subst ho
      obtain ⟨A2, c2, e2, l2, C2⟩ : IsSl k33 [x1, xb] (s 2) w := dep hF 2 rfl
      obtain ⟨A3, c3, e3, l3, C3⟩ : IsSl (Kd.int .i64) [1, 5] (s 3) w := dep hF 3 rfl
      clear hF
      refine Does.call (f := 26) (args := #[.slice A2 2 c2, .slice A3 2 c3]) rfl (by simp only [e2, e3]; go_simp) ?_ (fun w' hb => hS _ _ hI hb)
      refine (tuple_Pick.calls k A2 c2 _ A3 c3 _ _ w C2 l2 C3 l3 H.out.pk (hG_ _ hI)).mono ?_
      rintro e w' ⟨v, rfl, hR, hb⟩
      obtain ⟨A, c, rfl, hc, hC⟩ := Kd.R_reads hR
      exact ⟨_, rfl, hb, A, c, rfl, hc, hC⟩
    | 5, _ =>
      refine Step.mk' ?_
      intro o s w ho hI hF
      simp only [List.getElem?_toArray, List.getElem?_cons_succ, List.getElem?_cons_zero, Option.some.injEq] at ho
      subst ho
      obtain ⟨A4, c4, e4, l4, C4⟩ : IsSl k33 [xb, x0] (s 4) w := dep hF 4 rfl
      clear hF
      exact Does.val (v := .slice A4 _ c4) rfl (by simp only [e4]; first | (go_simp; done) | (go_simp; rfl)) (Below.refl _ _) hI ⟨_, _, rfl, l4, C4⟩
    | n + 6, hn => exact absurd hn (by omega)
  case' next3 => intro s wr hI hF
  have F5 : IsSl k33 [xb, x0] (s 5) wr := hF 5 (by decide)
  dsimp only
  obtain ⟨v20, hv⟩ : ∃ v, v = s 0 := ⟨_, rfl⟩
  rw [← hv]
  clear hv
  obtain ⟨v21, hv⟩ : ∃ v, v = s 1 := ⟨_, rfl⟩
  rw [← hv]
  clear hv
  obtain ⟨v22, hv⟩ : ∃ v, v = s 2 := ⟨_, rfl⟩
  rw [← hv]
  clear hv
  obtain ⟨v23, hv⟩ : ∃ v, v = s 3 := ⟨_, rfl⟩
  rw [← hv]
  clear hv
  obtain ⟨v24, hv⟩ : ∃ v, v = s 4 := ⟨_, rfl⟩
  rw [← hv]
  clear hv
  obtain ⟨vp, hv⟩ : ∃ v, v = s 5 := ⟨_, rfl⟩
  rw [← hv] at F5 ⊢
  clear hv
  clear hI0
  have hI1 := hI
  obtain ⟨Inv2, hInv⟩ : ∃ I : World → Prop, I = fun w' => Inv1 w' ∧ Below wr.heap.size wr w' := ⟨_, rfl⟩
  replace hG_ : ∀ w', Inv2 w' → GW w' := by rw [hInv]; exact fun w' h => hG_ w' h.1
  replace hA_ : ∀ w', Inv2 w' → IsPtrVal xa (.pointer (some pa)) w' := by rw [hInv]; exact fun w' h => hA_ w' h.1
  replace hB_ : ∀ w', Inv2 w' → IsPtrVal xb (.pointer (some pb)) w' := by rw [hInv]; exact fun w' h => hB_ w' h.1
  replace hE_ : ∀ w', Inv2 w' → Below w.heap.size w w' := by rw [hInv]; exact fun w' h => hE_ w' h.1
  have hP_ : ∀ w', Inv2 w' → IsSl k33 [xb, x0] vp w' := by rw [hInv]; exact fun w' h => (IsSl.st _ _) _ _ _ F5 h.2
  replace hL_ : ∀ w', Inv2 w' → IsSl (Kd.slice 33 k33) [[x2, xa], [x1, xa], [x1, xb]] vl w' := by rw [hInv]; exact fun w' h => hL_ w' h.1
  replace hS : ∀ w1 w2, Inv2 w1 → Below w1.heap.size w1 w2 → Inv2 w2 := by rw [hInv]; exact fun w1 w2 h1 h2 => ⟨hS w1 w2 h1.1 h2, below_step h1.2 h2⟩
  have hI0 : Inv2 wr := by rw [hInv]; exact ⟨hI1, Below.refl _ _⟩
  clear hInv hI1 hI hID hF F5
  clear Inv1
  have hID : ∀ w', Inv2 w' → Inv2 w'.drew := fun w' h => hS _ _ h (below_drew (Below.refl _ _))
  go_wp2_with fail
  refine web_ (n := 59) [some 25, some 26, some 27, some 28, some 29, some 30, some 31, some 32, some 33, some 34, some 35, some 36, some 37, some 38, some 39, some 40, some 41, some 42, some 43, some 44, some 45, some 46, some 47, some 48, some 49, some 50, some 51, some 52, some 53, some 54, some 55, some 56, some 57, some 58, some 59, some 60, some 61, some 62, some 63, some 64, some 65, some 66, some 67, some 68, some 69, some 70, some 71, some 72, some 73, some 74, some 75, some 76, some 77, some 78, some 79, some 80, some 81, some 82, some 0] (fun s => #[(s 58), (.pointer (some pa)), (.pointer (some pb)), vl, vp, (vV xa), (vV xb), v7, v8, v9, v10, v11, v12, v13, v14, v15, v16, v17, v18, v19, v20, v21, v22, v23, v24, (s 0), (s 1), (s 2), (s 3), (s 4), (s 5), (s 6), (s 7), (s 8), (s 9), (s 10), (s 11), (s 12), (s 13), (s 14), (s 15), (s 16), (s 17), (s 18), (s 19), (s 20), (s 21), (s 22), (s 23), (s 24), (s 25), (s 26), (s 27), (s 28), (s 29), (s 30), (s 31), (s 32), (s 33), (s 34), (s 35), (s 36), (s 37), (s 38), (s 39), (s 40), (s 41), (s 42), (s 43), (s 44), (s 45), (s 46), (s 47), (s 48), (s 49), (s 50), (s 51), (s 52), (s 53), (s 54), (s 55), (s 56), (s 57)]) (Fof [IsV ((vV x1)), IsV ((vV xa)), IsV ((vV x0)), IsSl k33 [x1, xa, x0], IsV ((.string ⟨#[40, 49, 44, 32, 39, 97, 39, 44, 32, 78, 85, 76, 76, 41]⟩)), IsV ((.bool true)), IsV ((.bool true)), IsSl (Kd.slice 33 k33) [[x2, xa], [x1, xa], [x1, xb]], IsV ((.int .i64 3)), IsV ((.bool true)), IsV ((.bool true)), IsV ((.bool true)), IsSl (Kd.slice 33 k33) [[x2, xa], [x1, xa], [x1, xb]], IsPtrRow [x2, xa], IsSl k33 [x2, xa], IsV ((vV x2)), IsV ((vV xa)), IsSl k33 [x2, xa], IsV ((.bool true)), IsV ((.bool true)), IsV ((.bool true)), IsSl (Kd.slice 33 k33) [[x2, xa], [x1, xa], [x1, xb]], IsPtrRow [x1, xb], IsSl k33 [x1, xb], IsV ((vV x1)), IsV ((vV xb)), IsSl k33 [x1, xb], IsV ((.bool true)), IsV ((.bool true)), IsV ((.bool true)), IsSl k33 [xb, x0], IsV ((.int .i64 2)), IsV ((.bool true)), IsV ((.bool true)), IsV ((.bool true)), IsSl k33 [xb, x0], IsPtrVal xb, IsV ((vV xb)), IsV ((vV xb)), IsV ((.bool true)), IsV ((.bool true)), IsV ((.bool true)), IsSl k33 [xb, x0], IsPtrVal x0, IsV ((vV x0)), IsV ((vV x0)), IsV ((.bool true)), IsV ((.bool true)), IsV ((.bool true)), IsSl (Kd.slice 33 k33) [[x2, xa], [x1, xa], [x1, xb]], IsPtrRow [x2, xa], IsSl k33 [x2, xa], IsSl (Kd.slice 33 k33) [[x2, xa], [x1, xa], [x1, xb]], IsPtrRow [x1, xa], IsSl k33 [x1, xa], IsV ((.bool false)), IsV ((.bool true)), IsV ((.bool true)), IsV ((.bool true))]) Inv2 mixed rfl (by kernel_rfl) (by kernel_rfl) (fun s => ⟨rfl, rfl⟩) (Fof.st ?fst4) (hID _ hI0) ?step4 ?next4
  case fst4 =>
    intro p hp
    simp only [List.mem_cons, List.mem_nil_iff, or_false] at hp
    rcases hp with rfl | rfl | rfl | rfl | rfl | rfl | rfl | rfl | rfl | rfl | rfl | rfl | rfl | rfl | rfl | rfl | rfl | rfl | rfl | rfl | rfl | rfl | rfl | rfl | rfl | rfl | rfl | rfl | rfl | rfl | rfl | rfl | rfl | rfl | rfl | rfl | rfl | rfl | rfl | rfl | rfl | rfl | rfl | rfl | rfl | rfl | rfl | rfl | rfl | rfl | rfl | rfl | rfl | rfl | rfl | rfl | rfl | rfl | rfl
    · exact IsV.st _
    · exact IsV.st _
    · exact IsV.st _
    · exact IsSl.st _ _
    · exact IsV.st _
    · exact IsV.st _
    · exact IsV.st _
    · exact IsSl.st _ _
    · exact IsV.st _
    · exact IsV.st _
    · exact IsV.st _
    · exact IsV.st _
    · exact IsSl.st _ _
    · exact IsPtrRow.st _
    · exact IsSl.st _ _
    · exact IsV.st _
    · exact IsV.st _
    · exact IsSl.st _ _
    · exact IsV.st _
    · exact IsV.st _
    · exact IsV.st _
    · exact IsSl.st _ _
    · exact IsPtrRow.st _
    · exact IsSl.st _ _
    · exact IsV.st _
    · exact IsV.st _
    · exact IsSl.st _ _
    · exact IsV.st _
    · exact IsV.st _
    · exact IsV.st _
    · exact IsSl.st _ _
    · exact IsV.st _
    · exact IsV.st _
    · exact IsV.st _
    · exact IsV.st _
    · exact IsSl.st _ _
    · exact IsPtrVal.st _
    · exact IsV.st _
    · exact IsV.st _
    · exact IsV.st _
    · exact IsV.st _
    · exact IsV.st _
    · exact IsSl.st _ _
    · exact IsPtrVal.st _
    · exact IsV.st _
    · exact IsV.st _
    · exact IsV.st _
    · exact IsV.st _
    · exact IsV.st _
    · exact IsSl.st _ _
    · exact IsPtrRow.st _
    · exact IsSl.st _ _
    · exact IsSl.st _ _
    · exact IsPtrRow.st _
    · exact IsSl.st _ _
    · exact IsV.st _
    · exact IsV.st _
    · exact IsV.st _
    · exact IsV.st _
  case step4 =>
    clear hI0
    intro i hi
    match i, hi with
    | 0, _ =>
      refine Step.mk' ?_
      intro o s w ho hI hF
      simp only [List.getElem?_toArray, List.getElem?_cons_succ, List.getElem?_cons_zero, Option.some.injEq] at ho
      subst ho
      clear hF
      refine Does.call (f := 35) (args := #[.int .i64 1]) rfl (by go_simp) ?_ (fun w' hb => hS _ _ hI hb)
      refine (value_Int.calls k _ _ _ _ _ H.out.i1 (hG_ _ hI)).mono ?_
      rintro e w' ⟨rfl, hb⟩
      exact ⟨_, rfl, hb, rfl⟩
    | 1, _ =>
      refine Step.mk' ?_
      intro o s w ho hI hF
      simp only [List.getElem?_toArray, List.getElem?_cons_succ, List.getElem?_cons_zero, Option.some.injEq] at ho
      subst ho
      clear hF
      obtain ⟨q, eq_, y, z, t⟩ := hA_ _ hI
      obtain rfl := Option.some.inj (Value.pointer.inj eq_)
      exact Does.val (v := (vV xa)) rfl (by first | (go_simp; done) | (go_simp; rfl)) (Below.refl _ _) hI rfl
    | 2, _ =>
      refine Step.mk' ?_
      intro o s w ho hI hF
      simp only [List.getElem?_toArray, List.getElem?_cons_succ, List.getElem?_cons_zero, Option.some.injEq] at ho
      subst ho
      clear hF
      refine Does.call (f := 36) (args := #[]) rfl (by go_simp) ?_ (fun w' hb => hS _ _ hI hb)
      refine (value_Null.calls _ _ _ _ rfl (hG_ _ hI)).mono ?_
      rintro e w' ⟨rfl, hb⟩
      exact ⟨_, rfl, hb, rfl⟩
    | 3, _ =>
      refine Step.mk' ?_
      intro o s w ho hI hF
      simp only [List.getElem?_toArray, List.getElem?_cons_succ, List.getElem?_cons_zero, Option.some.injEq] at ho
      subst ho
      have e0 : s 0 = (vV x1) := dep hF 0 rfl
      have e1 : s 1 = (vV xa) := dep hF 1 rfl
      have e2 : s 2 = (vV x0) := dep hF 2 rfl
      clear hF
      refine Does.val (v := .slice (some ⟨w.heap.size, 0, none⟩) 3 3) (w1 := w.alloc (.cells #[.int .i64 x1.f0, .int .i64 x1.f1, .string x1.f2, .int .i64 xa.f0, .int .i64 xa.f1, .string xa.f2, .int .i64 x0.f0, .int .i64 x0.f1, .string x0.f2] 33)) rfl (by simp only [e0, e1, e2]; first | (go_simp; done) | (go_simp; rfl)) (below_alloc (Below.refl _ _) _) (hS _ _ hI (below_alloc (Below.refl _ _) _)) ?_
      exact ⟨_, _, rfl, Nat.le_refl _, C_lit (k33) w 33 (xs := [x1, xa, x0]) (inner := [.int .i64 x1.f0, .int .i64 x1.f1, .string x1.f2, .int .i64 xa.f0, .int .i64 xa.f1, .string xa.f2, .int .i64 x0.f0, .int .i64 x0.f1, .string x0.f2]) (Reps.snoc (Reps.snoc (Reps.snoc (Reps.none _ _) (k33_mk w x1) rfl) (k33_mk w xa) rfl) (k33_mk w x0) rfl) (by simp)⟩
    | 4, _ =>
      refine Step.mk' ?_
      intro o s w ho hI hF
      simp only [List.getElem?_toArray, List.getElem?_cons_succ, List.getElem?_cons_zero, Option.some.injEq] at ho
      subst ho
      obtain ⟨A3, c3, e3, l3, C3⟩ : IsSl k33 [x1, xa, x0] (s 3) w := dep hF 3 rfl
      clear hF
      refine Does.call (f := 19) (args := #[.slice A3 3 c3]) rfl (by simp only [e3]; go_simp) ?_ (fun w' hb => hS _ _ hI hb)
      refine (tuple_Text.calls k A3 c3 _ _ w C3 l3 H.out.tx (hG_ _ hI)).mono ?_
      rintro e w' ⟨rfl, hb⟩
      exact ⟨_, rfl, hb, rfl⟩
    | 5, _ =>
      refine Step.mk' ?_
      intro o s w ho hI hF
      simp only [List.getElem?_toArray, List.getElem?_cons_succ, List.getElem?_cons_zero, Option.some.injEq] at ho
      subst ho
      have e4 : s 4 = (.string ⟨#[40, 49, 44, 32, 39, 97, 39, 44, 32, 78, 85, 76, 76, 41]⟩) := dep hF 4 rfl
      clear hF
      exact Does.val (v := (.bool true)) rfl (by simp only [e4]; first | (go_simp; done) | (go_simp; rfl)) (Below.refl _ _) hI rfl
    | 6, _ =>
      refine Step.mk' ?_
      intro o s w ho hI hF
      simp only [List.getElem?_toArray, List.getElem?_cons_succ, List.getElem?_cons_zero, Option.some.injEq] at ho
      subst ho
      have e5 : s 5 = (.bool true) := dep hF 5 rfl
      clear hF
      exact Does.val (v := (.bool true)) rfl (by simp only [e5]; first | (go_simp; done) | (go_simp; rfl)) (Below.refl _ _) hI rfl
    | 7, _ =>
      refine Step.mk' ?_
      intro o s w ho hI hF
      simp only [List.getElem?_toArray, List.getElem?_cons_succ, List.getElem?_cons_zero, Option.some.injEq] at ho
      subst ho
      have e6 : s 6 = (.bool true) := dep hF 6 rfl
      clear hF
      obtain ⟨A, c, e_, l_, C_⟩ := hL_ _ hI
      exact Does.val (v := .slice A _ c) (wanted_of (g := 6) (t := 31) rfl rfl (congrArg some e6)) (by simp only [e_]; first | (go_simp; done) | (go_simp; rfl)) (Below.refl _ _) hI ⟨A, c, rfl, l_, C_⟩
    | 8, _ =>
      refine Step.mk' ?_
      intro o s w ho hI hF
      simp only [List.getElem?_toArray, List.getElem?_cons_succ, List.getElem?_cons_zero, Option.some.injEq] at ho
      subst ho
      obtain ⟨A7, c7, e7, l7, C7⟩ : IsSl (Kd.slice 33 k33) [[x2, xa], [x1, xa], [x1, xb]] (s 7) w := dep hF 7 rfl
      have e6 : s 6 = (.bool true) := dep hF 6 rfl
      clear hF
      exact Does.val (v := (.int .i64 3)) (wanted_of (g := 6) (t := 31) rfl rfl (congrArg some e6)) (by simp only [e7, e6]; first | (go_simp; done) | (go_simp; rfl)) (Below.refl _ _) hI rfl
    | 9, _ =>
      refine Step.mk' ?_
      intro o s w ho hI hF
      simp only [List.getElem?_toArray, List.getElem?_cons_succ, List.getElem?_cons_zero, Option.some.injEq] at ho
      subst ho
      have e8 : s 8 = (.int .i64 3) := dep hF 8 rfl
      have e6 : s 6 = (.bool true) := dep hF 6 rfl
      clear hF
      exact Does.val (v := (.bool true)) (wanted_of (g := 6) (t := 31) rfl rfl (congrArg some e6)) (by simp only [e8, e6]; first | (go_simp; done) | (go_simp; rfl)) (Below.refl _ _) hI rfl
    | 10, _ =>
      refine Step.mk' ?_
      intro o s w ho hI hF
      simp only [List.getElem?_toArray, List.getElem?_cons_succ, List.getElem?_cons_zero, Option.some.injEq] at ho
      subst ho
      have e6 : s 6 = (.bool true) := dep hF 6 rfl
      have e9 : s 9 = (.bool true) := dep hF 9 rfl
      clear hF
      exact Does.val (v := (.bool true)) rfl (by simp only [e6, e9]; first | (go_simp; done) | (go_simp; rfl)) (Below.refl _ _) hI rfl
    | 11, _ =>
      refine Step.mk' ?_
      intro o s w ho hI hF
      simp only [List.getElem?_toArray, List.getElem?_cons_succ, List.getElem?_cons_zero, Option.some.injEq] at ho
      subst ho
      have e10 : s 10 = (.bool true) := dep hF 10 rfl
      clear hF
      exact Does.val (v := (.bool true)) rfl (by simp only [e10]; first | (go_simp; done) | (go_simp; rfl)) (Below.refl _ _) hI rfl
    | 12, _ =>
      refine Step.mk' ?_
      intro o s w ho hI hF
      simp only [List.getElem?_toArray, List.getElem?_cons_succ, List.getElem?_cons_zero, Option.some.injEq] at ho
      subst ho
      have e11 : s 11 = (.bool true) := dep hF 11 rfl
      clear hF
      obtain ⟨A, c, e_, l_, C_⟩ := hL_ _ hI
      exact Does.val (v := .slice A _ c) (wanted_of (g := 11) (t := 36) rfl rfl (congrArg some e11)) (by simp only [e_]; first | (go_simp; done) | (go_simp; rfl)) (Below.refl _ _) hI ⟨A, c, rfl, l_, C_⟩
    | 13, _ =>
      refine Step.mk' ?_
      intro o s w ho hI hF
      simp only [List.getElem?_toArray, List.getElem?_cons_succ, List.getElem?_cons_zero, Option.some.injEq] at ho
      subst ho
      obtain ⟨A12, c12, e12, l12, C12⟩ : IsSl (Kd.slice 33 k33) [[x2, xa], [x1, xa], [x1, xb]] (s 12) w := dep hF 12 rfl
      have e11 : s 11 = (.bool true) := dep hF 11 rfl
      clear hF
      obtain ⟨ad, A0, c0, ea, hy, hl, hC⟩ := at_L3 C12 0 (by omega) (by decide)
      subst ea
      exact Does.val (v := .pointer (some (ad.add 0))) (wanted_of (g := 11) (t := 36) rfl rfl (congrArg some e11)) (by simp only [e12, e11]; first | (go_simp; done) | (go_simp; rfl)) (Below.refl _ _) hI ⟨_, A0, c0, rfl, hy, hl, hC⟩
    | 14, _ =>
      refine Step.mk' ?_
      intro o s w ho hI hF
      simp only [List.getElem?_toArray, List.getElem?_cons_succ, List.getElem?_cons_zero, Option.some.injEq] at ho
      subst ho
      obtain ⟨p13, A13, c13, e13, y13, l13, C13⟩ : IsPtrRow [x2, xa] (s 13) w := dep hF 13 rfl
      have e11 : s 11 = (.bool true) := dep hF 11 rfl
      clear hF
      exact Does.val (v := .slice A13 2 c13) (wanted_of (g := 11) (t := 36) rfl rfl (congrArg some e11)) (by simp only [e13, e11]; first | (go_simp; done) | (go_simp; rfl)) (Below.refl _ _) hI ⟨_, _, rfl, l13, C13⟩
    | 15, _ =>
      refine Step.mk' ?_
      intro o s w ho hI hF
      simp only [List.getElem?_toArray, List.getElem?_cons_succ, List.getElem?_cons_zero, Option.some.injEq] at ho
      subst ho
      have e11 : s 11 = (.bool true) := dep hF 11 rfl
      clear hF
      refine Does.call (f := 35) (args := #[.int .i64 2]) (wanted_of (g := 11) (t := 36) rfl rfl (congrArg some e11)) (by simp only [e11]; go_simp) ?_ (fun w' hb => hS _ _ hI hb)
      refine (value_Int.calls k _ _ _ _ _ H.out.i2 (hG_ _ hI)).mono ?_
      rintro e w' ⟨rfl, hb⟩
      exact ⟨_, rfl, hb, rfl⟩
    | 16, _ =>
      refine Step.mk' ?_
      intro o s w ho hI hF
      simp only [List.getElem?_toArray, List.getElem?_cons_succ, List.getElem?_cons_zero, Option.some.injEq] at ho
      subst ho
      have e11 : s 11 = (.bool true) := dep hF 11 rfl
      clear hF
      obtain ⟨q, eq_, y, z, t⟩ := hA_ _ hI
      obtain rfl := Option.some.inj (Value.pointer.inj eq_)
      exact Does.val (v := (vV xa)) (wanted_of (g := 11) (t := 36) rfl rfl (congrArg some e11)) (by simp only [e11]; first | (go_simp; done) | (go_simp; rfl)) (Below.refl _ _) hI rfl
    | 17, _ =>
      refine Step.mk' ?_
      intro o s w ho hI hF
      simp only [List.getElem?_toArray, List.getElem?_cons_succ, List.getElem?_cons_zero, Option.some.injEq] at ho
      subst ho
      have e15 : s 15 = (vV x2) := dep hF 15 rfl
      have e16 : s 16 = (vV xa) := dep hF 16 rfl
      have e11 : s 11 = (.bool true) := dep hF 11 rfl
      clear hF
      refine Does.val (v := .slice (some ⟨w.heap.size, 0, none⟩) 2 2) (w1 := w.alloc (.cells #[.int .i64 x2.f0, .int .i64 x2.f1, .string x2.f2, .int .i64 xa.f0, .int .i64 xa.f1, .string xa.f2] 33)) (wanted_of (g := 11) (t := 36) rfl rfl (congrArg some e11)) (by simp only [e15, e16, e11]; first | (go_simp; done) | (go_simp; rfl)) (below_alloc (Below.refl _ _) _) (hS _ _ hI (below_alloc (Below.refl _ _) _)) ?_
      exact ⟨_, _, rfl, Nat.le_refl _, C_lit (k33) w 33 (xs := [x2, xa]) (inner := [.int .i64 x2.f0, .int .i64 x2.f1, .string x2.f2, .int .i64 xa.f0, .int .i64 xa.f1, .string xa.f2]) (Reps.snoc (Reps.snoc (Reps.none _ _) (k33_mk w x2) rfl) (k33_mk w xa) rfl) (by simp)⟩
    | 18, _ =>
      refine Step.mk' ?_
      intro o s w ho hI hF
      simp only [List.getElem?_toArray, List.getElem?_cons_succ, List.getElem?_cons_zero, Option.some.injEq] at ho
      subst ho
      obtain ⟨A14, c14, e14, l14, C14⟩ : IsSl k33 [x2, xa] (s 14) w := dep hF 14 rfl
      obtain ⟨A17, c17, e17, l17, C17⟩ : IsSl k33 [x2, xa] (s 17) w := dep hF 17 rfl
      have e11 : s 11 = (.bool true) := dep hF 11 rfl
      clear hF
      refine Does.call (f := 12) (args := #[.slice A14 2 c14, .slice A17 2 c17]) (wanted_of (g := 11) (t := 36) rfl rfl (congrArg some e11)) (by simp only [e14, e17, e11]; go_simp) ?_ (fun w' hb => hS _ _ hI hb)
      refine (tuple_Equal.calls k A14 c14 _ A17 c17 _ _ w C14 l14 C17 l17 H.out.e1 (hG_ _ hI)).mono ?_
      rintro e w' ⟨rfl, hb⟩
      exact ⟨_, rfl, hb, rfl⟩
    | 19, _ =>
      refine Step.mk' ?_
      intro o s w ho hI hF
      simp only [List.getElem?_toArray, List.getElem?_cons_succ, List.getElem?_cons_zero, Option.some.injEq] at ho
      subst ho
      have e11 : s 11 = (.bool true) := dep hF 11 rfl
      have e18 : s 18 = (.bool true) := dep hF 18 rfl
      clear hF
      exact Does.val (v := (.bool true)) rfl (by simp only [e11, e18]; first | (go_simp; done) | (go_simp; rfl)) (Below.refl _ _) hI rfl
    | 20, _ =>
      refine Step.mk' ?_
      intro o s w ho hI hF
      simp only [List.getElem?_toArray, List.getElem?_cons_succ, List.getElem?_cons_zero, Option.some.injEq] at ho
      subst ho
      have e19 : s 19 = (.bool true) := dep hF 19 rfl
      clear hF
      exact Does.val (v := (.bool true)) rfl (by simp only [e19]; first | (go_simp; done) | (go_simp; rfl)) (Below.refl _ _) hI rfl
    | 21, _ =>
      refine Step.mk' ?_
      intro o s w ho hI hF
      simp only [List.getElem?_toArray, List.getElem?_cons_succ, List.getElem?_cons_zero, Option.some.injEq] at ho
      subst ho
      have e20 : s 20 = (.bool true) := dep hF 20 rfl
      clear hF
      obtain ⟨A, c, e_, l_, C_⟩ := hL_ _ hI
      exact Does.val (v := .slice A _ c) (wanted_of (g := 20) (t := 45) rfl rfl (congrArg some e20)) (by simp only [e_]; first | (go_simp; done) | (go_simp; rfl)) (Below.refl _ _) hI ⟨A, c, rfl, l_, C_⟩
    | 22, _ =>
      refine Step.mk' ?_
      intro o s w ho hI hF
      simp only [List.getElem?_toArray, List.getElem?_cons_succ, List.getElem?_cons_zero, Option.some.injEq] at ho
      subst ho
      obtain ⟨A21, c21, e21, l21, C21⟩ : IsSl (Kd.slice 33 k33) [[x2, xa], [x1, xa], [x1, xb]] (s 21) w := dep hF 21 rfl
      have e20 : s 20 = (.bool true) := dep hF 20 rfl
      clear hF
      obtain ⟨ad, A0, c0, ea, hy, hl, hC⟩ := at_L3 C21 2 (by omega) (by decide)
      subst ea
      exact Does.val (v := .pointer (some (ad.add 2))) (wanted_of (g := 20) (t := 45) rfl rfl (congrArg some e20)) (by simp only [e21, e20]; first | (go_simp; done) | (go_simp; rfl)) (Below.refl _ _) hI ⟨_, A0, c0, rfl, hy, hl, hC⟩
    | 23, _ =>
      refine Step.mk' ?_
      intro o s w ho hI hF
      simp only [List.getElem?_toArray, List.getElem?_cons_succ, List.getElem?_cons_zero, Option.some.injEq] at ho
      subst ho
      obtain ⟨p22, A22, c22, e22, y22, l22, C22⟩ : IsPtrRow [x1, xb] (s 22) w := dep hF 22 rfl
      have e20 : s 20 = (.bool true) := dep hF 20 rfl
      clear hF
      exact Does.val (v := .slice A22 2 c22) (wanted_of (g := 20) (t := 45) rfl rfl (congrArg some e20)) (by simp only [e22, e20]; first | (go_simp; done) | (go_simp; rfl)) (Below.refl _ _) hI ⟨_, _, rfl, l22, C22⟩
    | 24, _ =>
      refine Step.mk' ?_
      intro o s w ho hI hF
      simp only [List.getElem?_toArray, List.getElem?_cons_succ, List.getElem?_cons_zero, Option.some.injEq] at ho
      subst ho
      have e20 : s 20 = (.bool true) := dep hF 20 rfl
      clear hF
      refine Does.call (f := 35) (args := #[.int .i64 1]) (wanted_of (g := 20) (t := 45) rfl rfl (congrArg some e20)) (by simp only [e20]; go_simp) ?_ (fun w' hb => hS _ _ hI hb)
      refine (value_Int.calls k _ _ _ _ _ H.out.i1 (hG_ _ hI)).mono ?_
      rintro e w' ⟨rfl, hb⟩
      exact ⟨_, rfl, hb, rfl⟩
    | 25, _ =>
      refine Step.mk' ?_
      intro o s w ho hI hF
      simp only [List.getElem?_toArray, List.getElem?_cons_succ, List.getElem?_cons_zero, Option.some.injEq] at ho
      subst ho
      have e20 : s 20 = (.bool true) := dep hF 20 rfl
      clear hF
      obtain ⟨q, eq_, y, z, t⟩ := hB_ _ hI
      obtain rfl := Option.some.inj (Value.pointer.inj eq_)
      exact Does.val (v := (vV xb)) (wanted_of (g := 20) (t := 45) rfl rfl (congrArg some e20)) (by simp only [e20]; first | (go_simp; done) | (go_simp; rfl)) (Below.refl _ _) hI rfl
    | 26, _ =>
      refine Step.mk' ?_
      intro o s w ho hI hF
      simp only [List.getElem?_toArray, List.getElem?_cons_succ, List.getElem?_cons_zero, Option.some.injEq] at ho
      subst ho
      have e24 : s 24 = (vV x1) := dep hF 24 rfl
      have e25 : s 25 = (vV xb) := dep hF 25 rfl
      have e20 : s 20 = (.bool true) := dep hF 20 rfl
      clear hF
      refine Does.val (v := .slice (some ⟨w.heap.size, 0, none⟩) 2 2) (w1 := w.alloc (.cells #[.int .i64 x1.f0, .int .i64 x1.f1, .string x1.f2, .int .i64 xb.f0, .int .i64 xb.f1, .string xb.f2] 33)) (wanted_of (g := 20) (t := 45) rfl rfl (congrArg some e20)) (by simp only [e24, e25, e20]; first | (go_simp; done) | (go_simp; rfl)) (below_alloc (Below.refl _ _) _) (hS _ _ hI (below_alloc (Below.refl _ _) _)) ?_
      exact ⟨_, _, rfl, Nat.le_refl _, C_lit (k33) w 33 (xs := [x1, xb]) (inner := [.int .i64 x1.f0, .int .i64 x1.f1, .string x1.f2, .int .i64 xb.f0, .int .i64 xb.f1, .string xb.f2]) (Reps.snoc (Reps.snoc (Reps.none _ _) (k33_mk w x1) rfl) (k33_mk w xb) rfl) (by simp)⟩
    | 27, _ =>
      refine Step.mk' ?_
      intro o s w ho hI hF
      simp only [List.getElem?_toArray, List.getElem?_cons_succ, List.getElem?_cons_zero, Option.some.injEq] at ho
      subst ho
      obtain ⟨A23, c23, e23, l23, C23⟩ : IsSl k33 [x1, xb] (s 23) w := dep hF 23 rfl
      obtain ⟨A26, c26, e26, l26, C26⟩ : IsSl k33 [x1, xb] (s 26) w := dep hF 26 rfl
      have e20 : s 20 = (.bool true) := dep hF 20 rfl
      clear hF
      refine Does.call (f := 12) (args := #[.slice A23 2 c23, .slice A26 2 c26]) (wanted_of (g := 20) (t := 45) rfl rfl (congrArg some e20)) (by simp only [e23, e26, e20]; go_simp) ?_ (fun w' hb => hS _ _ hI hb)
      refine (tuple_Equal.calls k A23 c23 _ A26 c26 _ _ w C23 l23 C26 l26 H.out.e2 (hG_ _ hI)).mono ?_
      rintro e w' ⟨rfl, hb⟩
      exact ⟨_, rfl, hb, rfl⟩
    | 28, _ =>
      refine Step.mk' ?_
      intro o s w ho hI hF
      simp only [List.getElem?_toArray, List.getElem?_cons_succ, List.getElem?_cons_zero, Option.some.injEq] at ho
      subst ho
      have e20 : s 20 = (.bool true) := dep hF 20 rfl
      have e27 : s 27 = (.bool true) := dep hF 27 rfl
      clear hF
      exact Does.val (v := (.bool true)) rfl (by simp only [e20, e27]; first | (go_simp; done) | (go_simp; rfl)) (Below.refl _ _) hI rfl
    | 29, _ =>
      refine Step.mk' ?_
      intro o s w ho hI hF
      simp only [List.getElem?_toArray, List.getElem?_cons_succ, List.getElem?_cons_zero, Option.some.injEq] at ho
      subst ho
      have e28 : s 28 = (.bool true) := dep hF 28 rfl
      clear hF
      exact Does.val (v := (.bool true)) rfl (by simp only [e28]; first | (go_simp; done) | (go_simp; rfl)) (Below.refl _ _) hI rfl
    | 30, _ =>
      refine Step.mk' ?_
      intro o s w ho hI hF
      simp only [List.getElem?_toArray, List.getElem?_cons_succ, List.getElem?_cons_zero, Option.some.injEq] at ho
      subst ho
      have e29 : s 29 = (.bool true) := dep hF 29 rfl
      clear hF
      obtain ⟨A, c, e_, l_, C_⟩ := hP_ _ hI
      exact Does.val (v := .slice A _ c) (wanted_of (g := 29) (t := 54) rfl rfl (congrArg some e29)) (by simp only [e_]; first | (go_simp; done) | (go_simp; rfl)) (Below.refl _ _) hI ⟨A, c, rfl, l_, C_⟩
    | 31, _ =>
      refine Step.mk' ?_
      intro o s w ho hI hF
      simp only [List.getElem?_toArray, List.getElem?_cons_succ, List.getElem?_cons_zero, Option.some.injEq] at ho
      subst ho
      obtain ⟨A30, c30, e30, l30, C30⟩ : IsSl k33 [xb, x0] (s 30) w := dep hF 30 rfl
      have e29 : s 29 = (.bool true) := dep hF 29 rfl
      clear hF
      exact Does.val (v := (.int .i64 2)) (wanted_of (g := 29) (t := 54) rfl rfl (congrArg some e29)) (by simp only [e30, e29]; first | (go_simp; done) | (go_simp; rfl)) (Below.refl _ _) hI rfl
    | 32, _ =>
      refine Step.mk' ?_
      intro o s w ho hI hF
      simp only [List.getElem?_toArray, List.getElem?_cons_succ, List.getElem?_cons_zero, Option.some.injEq] at ho
      subst ho
      have e31 : s 31 = (.int .i64 2) := dep hF 31 rfl
      have e29 : s 29 = (.bool true) := dep hF 29 rfl
      clear hF
      exact Does.val (v := (.bool true)) (wanted_of (g := 29) (t := 54) rfl rfl (congrArg some e29)) (by simp only [e31, e29]; first | (go_simp; done) | (go_simp; rfl)) (Below.refl _ _) hI rfl
    | 33, _ =>
      refine Step.mk' ?_
      intro o s w ho hI hF
      simp only [List.getElem?_toArray, List.getElem?_cons_succ, List.getElem?_cons_zero, Option.some.injEq] at ho
      subst ho
      have e29 : s 29 = (.bool true) := dep hF 29 rfl
      have e32 : s 32 = (.bool true) := dep hF 32 rfl
      clear hF
      exact Does.val (v := (.bool true)) rfl (by simp only [e29, e32]; first | (go_simp; done) | (go_simp; rfl)) (Below.refl _ _) hI rfl
    | 34, _ =>
      refine Step.mk' ?_
      intro o s w ho hI hF
      simp only [List.getElem?_toArray, List.getElem?_cons_succ, List.getElem?_cons_zero, Option.some.injEq] at ho
      subst ho
      have e33 : s 33 = (.bool true) := dep hF 33 rfl
      clear hF
      exact Does.val (v := (.bool true)) rfl (by simp only [e33]; first | (go_simp; done) | (go_simp; rfl)) (Below.refl _ _) hI rfl
    | 35, _ =>
      refine Step.mk' ?_
      intro o s w ho hI hF
      simp only [List.getElem?_toArray, List.getElem?_cons_succ, List.getElem?_cons_zero, Option.some.injEq] at ho
      subst ho
      have e34 : s 34 = (.bool true) := dep hF 34 rfl
      clear hF
      obtain ⟨A, c, e_, l_, C_⟩ := hP_ _ hI
      exact Does.val (v := .slice A _ c) (wanted_of (g := 34) (t := 59) rfl rfl (congrArg some e34)) (by simp only [e_]; first | (go_simp; done) | (go_simp; rfl)) (Below.refl _ _) hI ⟨A, c, rfl, l_, C_⟩
    | 36, _ =>
      refine Step.mk' ?_
      intro o s w ho hI hF
      simp only [List.getElem?_toArray, List.getElem?_cons_succ, List.getElem?_cons_zero, Option.some.injEq] at ho
      subst ho
      obtain ⟨A35, c35, e35, l35, C35⟩ : IsSl k33 [xb, x0] (s 35) w := dep hF 35 rfl
      have e34 : s 34 = (.bool true) := dep hF 34 rfl
      clear hF
      obtain ⟨ad, ea, h0, h1, h2⟩ := at_T33 C35 0 (by omega) (by decide)
      subst ea
      exact Does.val (v := .pointer (some (ad.add 0))) (wanted_of (g := 34) (t := 59) rfl rfl (congrArg some e34)) (by simp only [e35, e34]; first | (go_simp; done) | (go_simp; rfl)) (Below.refl _ _) hI ⟨_, rfl, h0, h1, h2⟩
    | 37, _ =>
      refine Step.mk' ?_
      intro o s w ho hI hF
      simp only [List.getElem?_toArray, List.getElem?_cons_succ, List.getElem?_cons_zero, Option.some.injEq] at ho
      subst ho
      obtain ⟨p36, e36, y36, z36, t36⟩ : IsPtrVal xb (s 36) w := dep hF 36 rfl
      have e34 : s 34 = (.bool true) := dep hF 34 rfl
      clear hF
      exact Does.val (v := (vV xb)) (wanted_of (g := 34) (t := 59) rfl rfl (congrArg some e34)) (by simp only [e36, e34]; first | (go_simp; done) | (go_simp; rfl)) (Below.refl _ _) hI rfl
    | 38, _ =>
      refine Step.mk' ?_
      intro o s w ho hI hF
      simp only [List.getElem?_toArray, List.getElem?_cons_succ, List.getElem?_cons_zero, Option.some.injEq] at ho
      subst ho
      have e34 : s 34 = (.bool true) := dep hF 34 rfl
      clear hF
      obtain ⟨q, eq_, y, z, t⟩ := hB_ _ hI
      obtain rfl := Option.some.inj (Value.pointer.inj eq_)
      exact Does.val (v := (vV xb)) (wanted_of (g := 34) (t := 59) rfl rfl (congrArg some e34)) (by simp only [e34]; first | (go_simp; done) | (go_simp; rfl)) (Below.refl _ _) hI rfl
    | 39, _ =>
      refine Step.mk' ?_
      intro o s w ho hI hF
      simp only [List.getElem?_toArray, List.getElem?_cons_succ, List.getElem?_cons_zero, Option.some.injEq] at ho
      subst ho
      have e37 : s 37 = (vV xb) := dep hF 37 rfl
      have e38 : s 38 = (vV xb) := dep hF 38 rfl
      have e34 : s 34 = (.bool true) := dep hF 34 rfl
      clear hF
      exact Does.val (v := .bool true) (wanted_of (g := 34) (t := 59) rfl rfl (congrArg some e34)) (by simp only [e37, e38, e34]; go_simp; exact eqVV xb w) (Below.refl _ _) hI rfl
    | 40, _ =>
      refine Step.mk' ?_
      intro o s w ho hI hF
      simp only [List.getElem?_toArray, List.getElem?_cons_succ, List.getElem?_cons_zero, Option.some.injEq] at ho
      subst ho
      have e34 : s 34 = (.bool true) := dep hF 34 rfl
      have e39 : s 39 = (.bool true) := dep hF 39 rfl
      clear hF
      exact Does.val (v := (.bool true)) rfl (by simp only [e34, e39]; first | (go_simp; done) | (go_simp; rfl)) (Below.refl _ _) hI rfl
    | 41, _ =>
      refine Step.mk' ?_
      intro o s w ho hI hF
      simp only [List.getElem?_toArray, List.getElem?_cons_succ, List.getElem?_cons_zero, Option.some.injEq] at ho
      subst ho
      have e40 : s 40 = (.bool true) := dep hF 40 rfl
      clear hF
      exact Does.val (v := (.bool true)) rfl (by simp only [e40]; first | (go_simp; done) | (go_simp; rfl)) (Below.refl _ _) hI rfl
    | 42, _ =>
      refine Step.mk' ?_
      intro o s w ho hI hF
      simp only [List.getElem?_toArray, List.getElem?_cons_succ, List.getElem?_cons_zero, Option.some.injEq] at ho
      subst ho
      have e41 : s 41 = (.bool true) := dep hF 41 rfl
      clear hF
      obtain ⟨A, c, e_, l_, C_⟩ := hP_ _ hI
      exact Does.val (v := .slice A _ c) (wanted_of (g := 41) (t := 66) rfl rfl (congrArg some e41)) (by simp only [e_]; first | (go_simp; done) | (go_simp; rfl)) (Below.refl _ _) hI ⟨A, c, rfl, l_, C_⟩
    | 43, _ =>
      refine Step.mk' ?_
      intro o s w ho hI hF
      simp only [List.getElem?_toArray, List.getElem?_cons_succ, List.getElem?_cons_zero, Option.some.injEq] at ho
      subst ho
      obtain ⟨A42, c42, e42, l42, C42⟩ : IsSl k33 [xb, x0] (s 42) w := dep hF 42 rfl
      have e41 : s 41 = (.bool true) := dep hF 41 rfl
      clear hF
      obtain ⟨ad, ea, h0, h1, h2⟩ := at_T33 C42 1 (by omega) (by decide)
      subst ea
      exact Does.val (v := .pointer (some (ad.add 3))) (wanted_of (g := 41) (t := 66) rfl rfl (congrArg some e41)) (by simp only [e42, e41]; first | (go_simp; done) | (go_simp; rfl)) (Below.refl _ _) hI ⟨_, rfl, h0, h1, h2⟩
    | 44, _ =>
      refine Step.mk' ?_
      intro o s w ho hI hF
      simp only [List.getElem?_toArray, List.getElem?_cons_succ, List.getElem?_cons_zero, Option.some.injEq] at ho
      subst ho
      obtain ⟨p43, e43, y43, z43, t43⟩ : IsPtrVal x0 (s 43) w := dep hF 43 rfl
      have e41 : s 41 = (.bool true) := dep hF 41 rfl
      clear hF
      exact Does.val (v := (vV x0)) (wanted_of (g := 41) (t := 66) rfl rfl (congrArg some e41)) (by simp only [e43, e41]; first | (go_simp; done) | (go_simp; rfl)) (Below.refl _ _) hI rfl
    | 45, _ =>
      refine Step.mk' ?_
      intro o s w ho hI hF
      simp only [List.getElem?_toArray, List.getElem?_cons_succ, List.getElem?_cons_zero, Option.some.injEq] at ho
      subst ho
      have e41 : s 41 = (.bool true) := dep hF 41 rfl
      clear hF
      refine Does.call (f := 36) (args := #[]) (wanted_of (g := 41) (t := 66) rfl rfl (congrArg some e41)) (by simp only [e41]; go_simp) ?_ (fun w' hb => hS _ _ hI hb)
      refine (value_Null.calls _ _ _ _ rfl (hG_ _ hI)).mono ?_
      rintro e w' ⟨rfl, hb⟩
      exact ⟨_, rfl, hb, rfl⟩
    | 46, _ =>
      refine Step.mk' ?_
      intro o s w ho hI hF
      simp only [List.getElem?_toArray, List.getElem?_cons_succ, List.getElem?_cons_zero, Option.some.injEq] at ho
      subst ho
      have e44 : s 44 = (vV x0) := dep hF 44 rfl
      have e45 : s 45 = (vV x0) := dep hF 45 rfl
      have e41 : s 41 = (.bool true) := dep hF 41 rfl
      clear hF
      exact Does.val (v := .bool true) (wanted_of (g := 41) (t := 66) rfl rfl (congrArg some e41)) (by simp only [e44, e45, e41]; go_simp; exact eqVV x0 w) (Below.refl _ _) hI rfl
    | 47, _ =>
      refine Step.mk' ?_
      intro o s w ho hI hF
      simp only [List.getElem?_toArray, List.getElem?_cons_succ, List.getElem?_cons_zero, Option.some.injEq] at ho
      subst ho
      have e41 : s 41 = (.bool true) := dep hF 41 rfl
      have e46 : s 46 = (.bool true) := dep hF 46 rfl
      clear hF
      exact Does.val (v := (.bool true)) rfl (by simp only [e41, e46]; first | (go_simp; done) | (go_simp; rfl)) (Below.refl _ _) hI rfl
    | 48, _ =>
      refine Step.mk' ?_
      intro o s w ho hI hF
      simp only [List.getElem?_toArray, List.getElem?_cons_succ, List.getElem?_cons_zero, Option.some.injEq] at ho
      subst ho
      have e47 : s 47 = (.bool true) := dep hF 47 rfl
      clear hF
      exact Does.val (v := (.bool true)) rfl (by simp only [e47]; first | (go_simp; done) | (go_simp; rfl)) (Below.refl _ _) hI rfl
    | 49, _ =>
      refine Step.mk' ?_
      intro o s w ho hI hF
      simp only [List.getElem?_toArray, List.getElem?_cons_succ, List.getElem?_cons_zero, Option.some.injEq] at ho
      subst ho
      have e48 : s 48 = (.bool true) := dep hF 48 rfl
      clear hF
      obtain ⟨A, c, e_, l_, C_⟩ := hL_ _ hI
      exact Does.val (v := .slice A _ c) (wanted_of (g := 48) (t := 73) rfl rfl (congrArg some e48)) (by simp only [e_]; first | (go_simp; done) | (go_simp; rfl)) (Below.refl _ _) hI ⟨A, c, rfl, l_, C_⟩
    | 50, _ =>
      refine Step.mk' ?_
      intro o s w ho hI hF
      simp only [List.getElem?_toArray, List.getElem?_cons_succ, List.getElem?_cons_zero, Option.some.injEq] at ho
      subst ho
      obtain ⟨A49, c49, e49, l49, C49⟩ : IsSl (Kd.slice 33 k33) [[x2, xa], [x1, xa], [x1, xb]] (s 49) w := dep hF 49 rfl
      have e48 : s 48 = (.bool true) := dep hF 48 rfl
      clear hF
      obtain ⟨ad, A0, c0, ea, hy, hl, hC⟩ := at_L3 C49 0 (by omega) (by decide)
      subst ea
      exact Does.val (v := .pointer (some (ad.add 0))) (wanted_of (g := 48) (t := 73) rfl rfl (congrArg some e48)) (by simp only [e49, e48]; first | (go_simp; done) | (go_simp; rfl)) (Below.refl _ _) hI ⟨_, A0, c0, rfl, hy, hl, hC⟩
    | 51, _ =>
      refine Step.mk' ?_
      intro o s w ho hI hF
      simp only [List.getElem?_toArray, List.getElem?_cons_succ, List.getElem?_cons_zero, Option.some.injEq] at ho
      subst ho
      obtain ⟨p50, A50, c50, e50, y50, l50, C50⟩ : IsPtrRow [x2, xa] (s 50) w := dep hF 50 rfl
      have e48 : s 48 = (.bool true) := dep hF 48 rfl
      clear hF
      exact Does.val (v := .slice A50 2 c50) (wanted_of (g := 48) (t := 73) rfl rfl (congrArg some e48)) (by simp only [e50, e48]; first | (go_simp; done) | (go_simp; rfl)) (Below.refl _ _) hI ⟨_, _, rfl, l50, C50⟩
    | 52, _ =>
      refine Step.mk' ?_
      intro o s w ho hI hF
      simp only [List.getElem?_toArray, List.getElem?_cons_succ, List.getElem?_cons_zero, Option.some.injEq] at ho
      subst ho
      have e48 : s 48 = (.bool true) := dep hF 48 rfl
      clear hF
      obtain ⟨A, c, e_, l_, C_⟩ := hL_ _ hI
      exact Does.val (v := .slice A _ c) (wanted_of (g := 48) (t := 73) rfl rfl (congrArg some e48)) (by simp only [e_]; first | (go_simp; done) | (go_simp; rfl)) (Below.refl _ _) hI ⟨A, c, rfl, l_, C_⟩
    | 53, _ =>
      refine Step.mk' ?_
      intro o s w ho hI hF
      simp only [List.getElem?_toArray, List.getElem?_cons_succ, List.getElem?_cons_zero, Option.some.injEq] at ho
      subst ho
      obtain ⟨A52, c52, e52, l52, C52⟩ : IsSl (Kd.slice 33 k33) [[x2, xa], [x1, xa], [x1, xb]] (s 52) w := dep hF 52 rfl
      have e48 : s 48 = (.bool true) := dep hF 48 rfl
      clear hF
      obtain ⟨ad, A0, c0, ea, hy, hl, hC⟩ := at_L3 C52 1 (by omega) (by decide)
      subst ea
      exact Does.val (v := .pointer (some (ad.add 1))) (wanted_of (g := 48) (t := 73) rfl rfl (congrArg some e48)) (by simp only [e52, e48]; first | (go_simp; done) | (go_simp; rfl)) (Below.refl _ _) hI ⟨_, A0, c0, rfl, hy, hl, hC⟩
    | 54, _ =>
      refine Step.mk' ?_
      intro o s w ho hI hF
      simp only [List.getElem?_toArray, List.getElem?_cons_succ, List.getElem?_cons_zero, Option.some.injEq] at ho
      subst ho
      obtain ⟨p53, A53, c53, e53, y53, l53, C53⟩ : IsPtrRow [x1, xa] (s 53) w := dep hF 53 rfl
      have e48 : s 48 = (.bool true) := dep hF 48 rfl
      clear hF
      exact Does.val (v := .slice A53 2 c53) (wanted_of (g := 48) (t := 73) rfl rfl (congrArg some e48)) (by simp only [e53, e48]; first | (go_simp; done) | (go_simp; rfl)) (Below.refl _ _) hI ⟨_, _, rfl, l53, C53⟩
    | 55, _ =>
      refine Step.mk' ?_
      intro o s w ho hI hF
      simp only [List.getElem?_toArray, List.getElem?_cons_succ, List.getElem?_cons_zero, Option.some.injEq] at ho
      subst ho
      obtain ⟨A51, c51, e51, l51, C51⟩ : IsSl k33 [x2, xa] (s 51) w := dep hF 51 rfl
      obtain ⟨A54, c54, e54, l54, C54⟩ : IsSl k33 [x1, xa] (s 54) w := dep hF 54 rfl
      have e48 : s 48 = (.bool true) := dep hF 48 rfl
      clear hF
      refine Does.call (f := 12) (args := #[.slice A51 2 c51, .slice A54 2 c54]) (wanted_of (g := 48) (t := 73) rfl rfl (congrArg some e48)) (by simp only [e51, e54, e48]; go_simp) ?_ (fun w' hb => hS _ _ hI hb)
      refine (tuple_Equal.calls k A51 c51 _ A54 c54 _ _ w C51 l51 C54 l54 H.out.e3 (hG_ _ hI)).mono ?_
      rintro e w' ⟨rfl, hb⟩
      exact ⟨_, rfl, hb, rfl⟩
    | 56, _ =>
      refine Step.mk' ?_
      intro o s w ho hI hF
      simp only [List.getElem?_toArray, List.getElem?_cons_succ, List.getElem?_cons_zero, Option.some.injEq] at ho
      subst ho
      have e55 : s 55 = (.bool false) := dep hF 55 rfl
      have e48 : s 48 = (.bool true) := dep hF 48 rfl
      clear hF
      exact Does.val (v := (.bool true)) (wanted_of (g := 48) (t := 73) rfl rfl (congrArg some e48)) (by simp only [e55, e48]; first | (go_simp; done) | (go_simp; rfl)) (Below.refl _ _) hI rfl
    | 57, _ =>
      refine Step.mk' ?_
      intro o s w ho hI hF
      simp only [List.getElem?_toArray, List.getElem?_cons_succ, List.getElem?_cons_zero, Option.some.injEq] at ho
      subst ho
      have e48 : s 48 = (.bool true) := dep hF 48 rfl
      have e56 : s 56 = (.bool true) := dep hF 56 rfl
      clear hF
      exact Does.val (v := (.bool true)) rfl (by simp only [e48, e56]; first | (go_simp; done) | (go_simp; rfl)) (Below.refl _ _) hI rfl
    | 58, _ =>
      refine Step.mk' ?_
      intro o s w ho hI hF
      simp only [List.getElem?_toArray, List.getElem?_cons_succ, List.getElem?_cons_zero, Option.some.injEq] at ho
      subst ho
      have e57 : s 57 = (.bool true) := dep hF 57 rfl
      clear hF
      exact Does.val (v := (.bool true)) rfl (by simp only [e57]; first | (go_simp; done) | (go_simp; rfl)) (Below.refl _ _) hI rfl
    | n + 59, hn => exact absurd hn (by omega)
  case' next4 => intro s wr hI hF
  have F58 : IsV ((.bool true)) (s 58) wr := hF 58 (by decide)
  dsimp only
  have eR : s 58 = .bool true := F58
  rw [eR]
  go_wp2_with fail
  go_ret
  exact ⟨rfl, hE_ _ hI⟩
  --END
end Go.Proofs.YtkifafenmboefaaDoor.X
