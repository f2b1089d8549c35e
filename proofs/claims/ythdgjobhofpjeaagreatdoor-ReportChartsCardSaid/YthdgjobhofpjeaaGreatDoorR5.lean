/- The law on charts: at most 100 periods are drawn as the reference draws them. Plain laws over the printed functions. Conditions: those in each theorem. -/
import Derived.Test.YthdgjobhofpjeaaGreatDoorR2
import Derived.Test.YthdgjobhofpjeaaGreatDoorX33
namespace Go.Proofs.YthdgjobhofpjeaaGreatDoor.X
open Go Go.Proofs Go.RowKit Go.Proofs.YthdgjobhofpjeaaGreatDoorW.PrintWords Go.Proofs.YthdgjobhofpjeaaGreatDoorW.PrintLast Go.Proofs.YthdgjobhofpjeaaGreatDoorW.PrintMore
set_option linter.unusedVariables false
set_option linter.unusedSimpArgs false
def ovl (a p : Per) : Bool := validP a && (validP p && (decide (a.f0 < p.f1) && decide (p.f0 < a.f1)))
theorem ovl_eq (a p : Per) : bitemporalref01_Overlaps.f a.f0 a.f1 p.f0 p.f1 = some (ovl a p) := by
  unfold bitemporalref01_Overlaps.f ovl
  rw [ref01_Valid_eq, Option.bind_some]
  by_cases h1 : validP a = true
  · rw [if_pos h1, ref01_Valid_eq, Option.bind_some, h1, Bool.true_and]
    by_cases h2 : validP p = true
    · rw [if_pos h2, h2, Bool.true_and]
      by_cases h3 : a.f0 < p.f1
      · rw [if_pos h3]; simp [h3]
      · rw [if_neg h3]; simp [h3]
    · rw [if_neg h2]; simp [h2]
  · rw [if_neg h1]; simp [h1]
def subS (a p : Per) : List Per := if validP a = true then (if ovl a p = true then (if a.f0 < p.f0 then [⟨a.f0, p.f0⟩] else []) ++ (if p.f1 < a.f1 then [⟨p.f1, a.f1⟩] else []) else [a]) else []
theorem sub_eq (a p : Per) : bitemporalref01_Subtract.f a.f0 a.f1 p.f0 p.f1 = some (subS a p) := by
  unfold bitemporalref01_Subtract.f subS
  rw [ref01_Valid_eq, Option.bind_some]
  by_cases h1 : validP a = true
  · rw [if_pos h1, if_pos h1, ovl_eq, Option.bind_some]
    by_cases h2 : ovl a p = true
    · rw [if_pos h2, if_pos h2]
      by_cases h3 : a.f0 < p.f0
      · rw [if_pos h3, if_pos h3, if_pos (by decide), Option.bind_some]
        by_cases h4 : p.f1 < a.f1
        · rw [if_pos h4, if_pos h4, if_pos (by simp)]
          rfl
        · rw [if_neg h4, if_neg h4]
          rfl
      · rw [if_neg h3, if_neg h3]
        by_cases h4 : p.f1 < a.f1
        · rw [if_pos h4, if_pos h4, if_pos (by decide)]
        · rw [if_neg h4, if_neg h4]
          rfl
    · rw [if_neg h2, if_neg h2]
  · rw [if_neg h1, if_neg h1]
def lenP (l : List Per) : Int := (l.map fun p => p.f1 - p.f0).sum
theorem lenP_cons (p : Per) (l : List Per) : lenP (p :: l) = (p.f1 - p.f0) + lenP l := by simp [lenP]
theorem lenP_app (l r : List Per) : lenP (l ++ r) = lenP l + lenP r := by simp [lenP, List.sum_append]
def allV (l : List Per) : Prop := ∀ p ∈ l, validP p = true
theorem lenP_ge (l : List Per) (h : allV l) : (l.length : Int) ≤ lenP l := by
  induction l with
  | nil => simp [lenP]
  | cons p l ih =>
    have h1 := (validP_iff p).1 (h p List.mem_cons_self)
    have h2 := ih fun x hx => h x (List.mem_cons_of_mem _ hx)
    rw [lenP_cons, List.length_cons]
    omega
/-- What is left of a valid period. -/
theorem sub_spec (a p : Per) (ha : validP a = true) : allV (subS a p) ∧ lenP (subS a p) ≤ a.f1 - a.f0 ∧ ∀ t, cov (subS a p) t ↔ (a.f0 ≤ t ∧ t < a.f1) ∧ ¬ cov [p] t := by
  have ha2 := (validP_iff a).1 ha
  have hcp : ∀ t, cov [p] t ↔ validP p = true ∧ p.f0 ≤ t ∧ t < p.f1 := by
    intro t
    unfold cov
    constructor
    · rintro ⟨q, hq, h⟩
      obtain rfl := List.mem_singleton.1 hq
      exact h
    · exact fun h => ⟨p, List.mem_singleton.2 rfl, h⟩
  unfold subS
  rw [if_pos ha]
  by_cases ho : ovl a p = true
  · rw [if_pos ho]
    unfold ovl at ho
    simp only [Bool.and_eq_true, decide_eq_true_eq] at ho
    obtain ⟨_, hp, h1, h2⟩ := ho
    have hp2 := (validP_iff p).1 hp
    have key : ∀ (l : List Per), l = (if a.f0 < p.f0 then [⟨a.f0, p.f0⟩] else []) ++ (if p.f1 < a.f1 then [⟨p.f1, a.f1⟩] else []) → ∀ x, x ∈ l ↔ (a.f0 < p.f0 ∧ x = ⟨a.f0, p.f0⟩) ∨ (p.f1 < a.f1 ∧ x = ⟨p.f1, a.f1⟩) := by
      rintro l rfl x
      rw [List.mem_append]
      by_cases c1 : a.f0 < p.f0 <;> by_cases c2 : p.f1 < a.f1 <;> simp [c1, c2]
    refine ⟨fun x hx => ?_, ?_, fun t => ?_⟩
    · rcases (key _ rfl x).1 hx with ⟨h3, rfl⟩ | ⟨h3, rfl⟩
      · exact (validP_iff _).2 ⟨by dsimp only; omega, by dsimp only; omega, by dsimp only; omega⟩
      · exact (validP_iff _).2 ⟨by dsimp only; omega, by dsimp only; omega, by dsimp only; omega⟩
    · rw [lenP_app]
      by_cases c1 : a.f0 < p.f0 <;> by_cases c2 : p.f1 < a.f1 <;> simp [c1, c2, lenP] <;> omega
    · rw [hcp]
      constructor
      · rintro ⟨x, hx, _, h3, h4⟩
        rcases (key _ rfl x).1 hx with ⟨h5, rfl⟩ | ⟨h5, rfl⟩
        · dsimp only at h3 h4
          exact ⟨⟨by omega, by omega⟩, fun h => by omega⟩
        · dsimp only at h3 h4
          exact ⟨⟨by omega, by omega⟩, fun h => by omega⟩
      · rintro ⟨⟨h3, h4⟩, h5⟩
        by_cases h6 : t < p.f0
        · exact ⟨⟨a.f0, p.f0⟩, (key _ rfl _).2 (.inl ⟨by omega, rfl⟩), (validP_iff _).2 ⟨by dsimp only; omega, by dsimp only; omega, by dsimp only; omega⟩, by dsimp only; omega, by dsimp only; omega⟩
        · have h7 : p.f1 ≤ t := by
            by_cases h8 : t < p.f1
            · exact absurd ⟨hp, by omega, h8⟩ h5
            · omega
          exact ⟨⟨p.f1, a.f1⟩, (key _ rfl _).2 (.inr ⟨by omega, rfl⟩), (validP_iff _).2 ⟨by dsimp only; omega, by dsimp only; omega, by dsimp only; omega⟩, by dsimp only; omega, by dsimp only; omega⟩
  · rw [if_neg ho]
    refine ⟨fun x hx => by rw [List.mem_singleton.1 hx]; exact ha, by simp [lenP], fun t => ?_⟩
    rw [hcp]
    have h1 : cov [a] t ↔ a.f0 ≤ t ∧ t < a.f1 := cov_one a.f0 a.f1 t ha
    rw [h1]
    constructor
    · intro h2
      refine ⟨h2, fun h3 => ho ?_⟩
      unfold ovl
      simp only [Bool.and_eq_true, decide_eq_true_eq]
      exact ⟨ha, h3.1, by omega, by omega⟩
    · exact fun h => h.1
def restS (l : List Per) (p : Per) : List Per := l.flatMap fun a => subS a p
theorem cov_app (l r : List Per) (t : Int) : cov (l ++ r) t ↔ cov l t ∨ cov r t := by
  unfold cov
  constructor
  · rintro ⟨p, hp, h⟩
    rcases List.mem_append.1 hp with hp | hp
    · exact .inl ⟨p, hp, h⟩
    · exact .inr ⟨p, hp, h⟩
  · rintro (⟨p, hp, h⟩ | ⟨p, hp, h⟩)
    · exact ⟨p, List.mem_append_left _ hp, h⟩
    · exact ⟨p, List.mem_append_right _ hp, h⟩
theorem rest_spec (l : List Per) (p : Per) (h : allV l) : allV (restS l p) ∧ lenP (restS l p) ≤ lenP l ∧ ∀ t, cov (restS l p) t ↔ cov l t ∧ ¬ cov [p] t := by
  induction l with
  | nil => exact ⟨fun x hx => (by cases hx), Int.le_refl _, fun t => ⟨fun h => absurd h (cov_nil t), fun h => absurd h.1 (cov_nil t)⟩⟩
  | cons a l ih =>
    obtain ⟨i1, i2, i3⟩ := ih fun x hx => h x (List.mem_cons_of_mem _ hx)
    obtain ⟨s1, s2, s3⟩ := sub_spec a p (h a List.mem_cons_self)
    have e : restS (a :: l) p = subS a p ++ restS l p := rfl
    rw [e]
    refine ⟨fun x hx => ?_, ?_, fun t => ?_⟩
    · rcases List.mem_append.1 hx with hx | hx
      · exact s1 x hx
      · exact i1 x hx
    · rw [lenP_app, lenP_cons]; omega
    · rw [cov_app, s3, i3, cov_cons a l]
      have := h a List.mem_cons_self
      constructor
      · rintro (⟨h1, h2⟩ | ⟨h1, h2⟩)
        · exact ⟨.inl ⟨this, h1⟩, h2⟩
        · exact ⟨.inr h1, h2⟩
      · rintro ⟨⟨_, h1⟩ | h1, h2⟩
        · exact .inl ⟨h1, h2⟩
        · exact .inr ⟨h1, h2⟩
theorem rest_loop (l : List Per) (p : Per) (hv : allV l) (hl : lenP l ≤ 1099511627776) : ∀ (d i : Nat), l.length - i = d → i ≤ l.length → Ev (fun k => bitemporalref55_rest.l0 k l (restS (l.take i) p) (i : Int) p.f0 p.f1) (restS l p) := by
  have hle := lenP_ge l hv
  intro d
  induction d with
  | zero =>
    intro i hd hi
    obtain rfl : i = l.length := by omega
    refine Ev.step (f := fun _ => some (restS l p)) (fun k => ?_) (Ev.now _)
    simp only [bitemporalref55_rest.l0]
    rw [if_neg (by omega), List.take_length]
  | succ d ih =>
    intro i hd hi
    have hlt : i < l.length := by omega
    refine Ev.step (fun k => ?_) (ih (i + 1) (by omega) (by omega))
    have e : restS (l.take (i + 1)) p = restS (l.take i) p ++ subS l[i] p := by
      unfold restS
      rw [List.take_succ_eq_append_getElem hlt, List.flatMap_append]
      simp
    have hb := rest_spec (l.take (i + 1)) p fun x hx => hv x (List.mem_of_mem_take hx)
    have hb2 := lenP_ge _ hb.1
    have hb3 : lenP (l.take (i + 1)) ≤ lenP l := by
      have h1 := lenP_app (l.take (i + 1)) (l.drop (i + 1))
      rw [List.take_append_drop] at h1
      have h2 := lenP_ge (l.drop (i + 1)) fun x hx => hv x (List.mem_of_mem_drop hx)
      omega
    have hlen : (restS (l.take i) p).length + (subS l[i] p).length ≤ 1099511627776 := by
      rw [← List.length_append, ← e]
      omega
    simp only [bitemporalref55_rest.l0]
    rw [if_pos (by omega), if_pos (by omega), rdP l i hlt, sub_eq, Option.bind_some, if_pos (by omega), wrapN i l.length hlt (by omega), e]
theorem rest_ev (l : List Per) (p : Per) (hv : allV l) (hl : lenP l ≤ 1099511627776) : Ev (fun k => bitemporalref55_rest.f k l p.f0 p.f1) (restS l p) := rest_loop l p hv hl l.length 0 (by omega) (by omega)
def leftS (l : List Per) (part : Per) : List Per := l.foldl restS [part]
theorem leftS_snoc (l : List Per) (p part : Per) : leftS (l ++ [p]) part = restS (leftS l part) p := by simp [leftS, List.foldl_append]
theorem left_spec (part : Per) (hp : validP part = true) : ∀ (n : Nat) (l : List Per), l.length = n → allV (leftS l part) ∧ lenP (leftS l part) ≤ 1099511627776 ∧ ∀ t, cov (leftS l part) t ↔ cov [part] t ∧ ¬ cov l t := by
  intro n
  induction n with
  | zero =>
    intro l hl
    obtain rfl := List.length_eq_zero_iff.1 hl
    have h2 := (validP_iff part).1 hp
    exact ⟨fun x hx => by rw [List.mem_singleton.1 hx]; exact hp, by simp [leftS, lenP]; omega, fun t => ⟨fun h => ⟨h, cov_nil t⟩, fun h => h.1⟩⟩
  | succ n ih =>
    intro l hl
    obtain ⟨l', p, rfl⟩ : ∃ l' p, l = l' ++ [p] := ⟨l.dropLast, l.getLast (by intro h; rw [h] at hl; cases hl), (List.dropLast_concat_getLast _).symm⟩
    obtain ⟨i1, i2, i3⟩ := ih l' (by simp at hl; omega)
    obtain ⟨r1, r2, r3⟩ := rest_spec (leftS l' part) p i1
    rw [leftS_snoc]
    refine ⟨r1, by omega, fun t => ?_⟩
    rw [r3, i3, cov_app]
    constructor
    · rintro ⟨⟨h1, h2⟩, h3⟩
      exact ⟨h1, fun h => h.elim h2 h3⟩
    · rintro ⟨h1, h2⟩
      exact ⟨⟨h1, fun h => h2 (.inl h)⟩, fun h => h2 (.inr h)⟩
def someS (l : List Per) (part : Per) : Bool := l.any fun p => ovl p part
theorem some_spec (l : List Per) (part : Per) (hp : validP part = true) : someS l part = true ↔ ∃ t, cov l t ∧ cov [part] t := by
  have hp2 := (validP_iff part).1 hp
  have hc : ∀ t, cov [part] t ↔ part.f0 ≤ t ∧ t < part.f1 := fun t => cov_one part.f0 part.f1 t hp
  unfold someS
  rw [List.any_eq_true]
  constructor
  · rintro ⟨p, hm, ho⟩
    unfold ovl at ho
    simp only [Bool.and_eq_true, decide_eq_true_eq] at ho
    obtain ⟨h1, _, h2, h3⟩ := ho
    have h4 := (validP_iff p).1 h1
    refine ⟨max p.f0 part.f0, ⟨p, hm, h1, by omega, by omega⟩, (hc _).2 ⟨by omega, by omega⟩⟩
  · rintro ⟨t, ⟨p, hm, h1, h2, h3⟩, h4⟩
    have h5 := (hc t).1 h4
    refine ⟨p, hm, ?_⟩
    unfold ovl
    simp only [Bool.and_eq_true, decide_eq_true_eq]
    exact ⟨h1, hp, by omega, by omega⟩
def markS (l : List Per) (part : Per) : UInt8 := if leftS l part = [] then 35 else if someS l part = true then 43 else 46
theorem markS_eq (l : List Per) (part : Per) (hp : validP part = true) : markS l part = markOf l part := by
  have hp2 := (validP_iff part).1 hp
  obtain ⟨h1, _, h3⟩ := left_spec part hp l.length l rfl
  have hc : ∀ t, cov [part] t ↔ part.f0 ≤ t ∧ t < part.f1 := fun t => cov_one part.f0 part.f1 t hp
  have hs := some_spec l part hp
  have hnil : leftS l part = [] ↔ ∀ t, cov [part] t → cov l t := by
    constructor
    · intro h t ht
      refine Classical.byContradiction fun hn => ?_
      have := (h3 t).2 ⟨ht, hn⟩
      rw [h] at this
      exact cov_nil t this
    · intro h
      cases hl : leftS l part with
      | nil => rfl
      | cons a r =>
        exfalso
        have ha := h1 a (by rw [hl]; exact List.mem_cons_self)
        have ha2 := (validP_iff a).1 ha
        have := (h3 a.f0).1 ⟨a, by rw [hl]; exact List.mem_cons_self, ha, Int.le_refl _, ha2.2.1⟩
        exact this.2 (h _ this.1)
  unfold markS markOf
  by_cases hn : leftS l part = []
  · have hall := hnil.1 hn
    rw [if_pos hn, if_pos ⟨part.f0, by omega, by omega, hall _ ((hc _).2 ⟨Int.le_refl _, hp2.2.1⟩), (hc _).2 ⟨Int.le_refl _, hp2.2.1⟩⟩, if_pos (fun t _ _ h => hall t h)]
  · rw [if_neg hn]
    by_cases h5 : someS l part = true
    · obtain ⟨t, h6, h7⟩ := hs.1 h5
      have h8 := (hc t).1 h7
      rw [if_pos h5, if_pos ⟨t, by omega, by omega, h6, h7⟩, if_neg]
      intro hall
      refine hn (hnil.2 fun t ht => ?_)
      have := (hc t).1 ht
      exact hall t (by omega) (by omega) ht
    · rw [if_neg h5, if_neg]
      rintro ⟨t, _, _, h6, h7⟩
      exact h5 (hs.2 ⟨t, h6, h7⟩)
theorem mark_loop (l : List Per) (part : Per) (hl : l.length ≤ 100) (hp : validP part = true) : ∀ (d i : Nat), l.length - i = d → i ≤ l.length → Ev (fun k => bitemporalref55_mark.l0 k l (leftS (l.take i) part) (someS (l.take i) part) (i : Int) part.f0 part.f1) ⟨#[markS l part]⟩ := by
  intro d
  induction d with
  | zero =>
    intro i hd hi
    obtain rfl : i = l.length := by omega
    refine Ev.step (f := fun _ => some ⟨#[markS l part]⟩) (fun k => ?_) (Ev.now _)
    simp only [bitemporalref55_mark.l0]
    rw [if_neg (by omega), List.take_length]
    unfold markS
    by_cases h1 : leftS l part = []
    · rw [if_pos (by rw [h1]; rfl), if_pos h1]
    · have h2 : ¬ ((leftS l part).length : Int) = 0 := fun h => h1 (List.length_eq_zero_iff.1 (by omega))
      rw [if_neg h2, if_neg h1]
      by_cases h3 : someS l part = true
      · rw [if_pos h3, if_pos h3]
      · rw [if_neg h3, if_neg h3]
  | succ d ih =>
    intro i hd hi
    have hlt : i < l.length := by omega
    obtain ⟨v1, v2, _⟩ := left_spec part hp (l.take i).length (l.take i) rfl
    obtain ⟨K, hK⟩ := ih (i + 1) (by omega) (by omega)
    obtain ⟨K2, hK2⟩ := rest_ev (leftS (l.take i) part) l[i] v1 v2
    have e1 : leftS (l.take (i + 1)) part = restS (leftS (l.take i) part) l[i] := by rw [List.take_succ_eq_append_getElem hlt, leftS_snoc]
    have e2 : someS (l.take (i + 1)) part = (someS (l.take i) part || ovl l[i] part) := by
      unfold someS
      rw [List.take_succ_eq_append_getElem hlt, List.any_append]
      simp
    refine ⟨K + K2 + 1, fun k hk => ?_⟩
    obtain ⟨j, rfl⟩ : ∃ j, k = j + 1 := ⟨k - 1, by omega⟩
    have h1 := hK j (by omega)
    have h2 : bitemporalref55_rest.f j (leftS (l.take i) part) l[i].f0 l[i].f1 = some (restS (leftS (l.take i) part) l[i]) := hK2 j (by omega)
    show bitemporalref55_mark.l0 (j + 1) _ _ _ _ _ _ = _
    simp only [e1, e2] at h1
    simp only [bitemporalref55_mark.l0]
    rw [if_pos (by omega), rdP l i hlt, wrapN i l.length hlt (by omega)]
    cases hs : someS (l.take i) part with
    | true =>
      rw [hs, Bool.true_or] at h1
      rw [if_pos rfl, if_pos (by omega), h2, Option.bind_some]
      exact h1
    | false =>
      rw [hs, Bool.false_or] at h1
      rw [if_neg (by decide), if_pos (by omega), ovl_eq, Option.bind_some, h2, Option.bind_some]
      exact h1
theorem mark_ev (l : List Per) (part : Per) (hl : l.length ≤ 100) (hp : validP part = true) : Ev (fun k => bitemporalref55_mark.f k l part.f0 part.f1) ⟨#[markOf l part]⟩ := by
  have h := mark_loop l part hl hp l.length 0 (by omega) (by omega)
  rw [markS_eq l part hp] at h
  exact h
theorem refChart_loop (l : List Per) (f t w : Int) (hl : l.length ≤ 100) (hv : validP ⟨f, t⟩ = true) (hw : 0 < w) (hn : w ≤ t - f) (hw2 : w ≤ 200) : ∀ (d i : Nat), w.toNat - i = d → i ≤ w.toNat →
    Ev (fun k => bitemporalref55_Chart.l0 k l (t - f) w ⟨(marksOf l f (t - f) w i).toArray⟩ (i : Int) f t) ⟨(marksOf l f (t - f) w w.toNat ++ [10]).toArray⟩ := by
  have hv2 := (validP_iff _).1 hv
  dsimp only at hv2
  have sz : ∀ i, (⟨(marksOf l f (t - f) w i).toArray⟩ : ByteArray).size = i := fun i => by rw [← bs_len, bs_mk, marksOf_length]
  intro d
  induction d with
  | zero =>
    intro i hd hi
    obtain rfl : i = w.toNat := by omega
    refine Ev.step (f := fun _ => some ⟨(marksOf l f (t - f) w w.toNat ++ [10]).toArray⟩) (fun k => ?_) (Ev.now _)
    simp only [bitemporalref55_Chart.l0]
    rw [if_neg (by omega), if_pos (by rw [sz]; omega)]
    refine congrArg some (bs_inj ?_)
    rw [bs_append, bs_mk, bs_mk]
    rfl
  | succ d ih =>
    intro i hd hi
    have hlt : i < w.toNat := by omega
    obtain ⟨K, hK⟩ := ih (i + 1) (by omega) (by omega)
    have hpv := part_valid f t w i hv hw hn (by omega)
    obtain ⟨K2, hK2⟩ := mark_ev l (partOf f (t - f) w i) hl hpv
    obtain ⟨p1, p2, p3⟩ := part_bd f (t - f) w i hw hn (by omega)
    refine ⟨K + K2 + 1, fun k hk => ?_⟩
    obtain ⟨j, rfl⟩ : ∃ j, k = j + 1 := ⟨k - 1, by omega⟩
    have h1 := hK j (by omega)
    have h2 : bitemporalref55_mark.f j l (f + (i : Int) * (t - f) / w) (f + ((i : Int) + 1) * (t - f) / w) = some ⟨#[markOf l (partOf f (t - f) w i)]⟩ := hK2 j (by omega)
    obtain ⟨m0, m1⟩ := mul_bd i (t - f) (by omega) (by omega) (by omega)
    obtain ⟨m2, m3⟩ := mul_bd (i + 1) (t - f) (by omega) (by omega) (by omega)
    have ek : ((i + 1 : Nat) : Int) = (i : Int) + 1 := by omega
    rw [ek] at m2 m3
    obtain ⟨q0, q1⟩ := quo_bd _ w m0 hw m1
    obtain ⟨q2, q3⟩ := quo_bd _ w m2 hw m3
    show bitemporalref55_Chart.l0 (j + 1) _ _ _ _ _ _ _ = _
    simp only [bitemporalref55_Chart.l0]
    rw [if_pos (by omega), if_neg (by omega), wrapN i w.toNat hlt (by omega), ek]
    rw [w64 (by omega) (by omega : (i : Int) * (t - f) < 9223372036854775808), w64 (by omega) (by omega : ((i : Int) + 1) * (t - f) < 9223372036854775808), Int.tdiv_eq_ediv_of_nonneg m0, Int.tdiv_eq_ediv_of_nonneg m2]
    rw [w64 (by omega) (by omega : (i : Int) * (t - f) / w < 9223372036854775808), w64 (by omega) (by omega : ((i : Int) + 1) * (t - f) / w < 9223372036854775808)]
    rw [w64 (by omega) (by omega : f + (i : Int) * (t - f) / w < 9223372036854775808), w64 (by omega) (by omega : f + ((i : Int) + 1) * (t - f) / w < 9223372036854775808)]
    rw [h2, Option.bind_some, if_pos (by rw [sz, size_lit]; simp; omega)]
    have e : (⟨(marksOf l f (t - f) w i).toArray⟩ : ByteArray) ++ ⟨#[markOf l (partOf f (t - f) w i)]⟩ = ⟨(marksOf l f (t - f) w (i + 1)).toArray⟩ := by
      refine bs_inj ?_
      rw [bs_append, bs_mk, bs_mk, marksOf_succ]
      rfl
    rw [e, ← ek]
    exact h1
theorem refChart_ev (l : List Per) (f t width : Int) (hl : l.length ≤ 100) : ∃ r, report_Chart.f l f t width = some r ∧ Ev (fun k => bitemporalref55_Chart.f k l f t width) r := by
  by_cases hc : validP ⟨f, t⟩ = true ∧ 1 ≤ width ∧ width ≤ 200
  · obtain ⟨hv, hw1, hw2⟩ := hc
    have hv2 := (validP_iff _).1 hv
    dsimp only at hv2
    generalize hm : mn width (t - f) = m
    have hm1 : 0 < m ∧ m ≤ t - f ∧ m ≤ 200 := by rw [← hm]; unfold mn; split <;> omega
    refine ⟨chartS l f t width, by unfold report_Chart.f; rw [if_pos ⟨hv, hw1, hw2⟩, if_pos (by omega)], ?_⟩
    obtain ⟨K, hK⟩ := refChart_loop l f t m hl hv hm1.1 hm1.2.1 hm1.2.2 m.toNat 0 (by omega) (by omega)
    refine ⟨K + 1, fun k hk => ?_⟩
    obtain ⟨j, rfl⟩ : ∃ j, k = j + 1 := ⟨k - 1, by omega⟩
    show bitemporalref55_Chart.f (j + 1) l f t width = _
    have hw : wrap64 (t - f) = t - f := w64 (by omega) (by omega)
    unfold bitemporalref55_Chart.f
    rw [ref01_Valid_eq, Option.bind_some, if_pos hv, if_neg (by omega), decide_eq_false (by omega : ¬ width > 200)]
    simp only [bitemporalref55_Chart.j0]
    rw [if_neg (by decide), hw, hm]
    unfold chartS
    rw [hm]
    exact hK j (by omega)
  · refine ⟨⟨#[]⟩, by unfold report_Chart.f; rw [if_neg hc], ⟨1, fun k hk => ?_⟩⟩
    obtain ⟨j, rfl⟩ : ∃ j, k = j + 1 := ⟨k - 1, by omega⟩
    have hj : ∀ b, b = true → bitemporalref55_Chart.j0 (j + 1) l width b f t = some ⟨#[]⟩ := by
      rintro b rfl
      rw [bitemporalref55_Chart.j0.eq_2, if_pos rfl]
    show bitemporalref55_Chart.f (j + 1) l f t width = _
    unfold bitemporalref55_Chart.f
    rw [ref01_Valid_eq, Option.bind_some]
    by_cases hv : validP ⟨f, t⟩ = true
    · rw [if_pos hv]
      by_cases h2 : width < 1
      · rw [if_pos h2]; exact hj _ rfl
      · rw [if_neg h2]
        refine hj _ (decide_eq_true ?_)
        have : ¬ (1 ≤ width ∧ width ≤ 200) := fun h => hc ⟨hv, h⟩
        omega
    · rw [if_neg hv]; exact hj _ rfl
theorem pure_Charts (l0 : List Per) (a1_0 a1_1 a2 : Int) : ∃ k, bitemporallaw55_ReportCharts.f k l0 a1_0 a1_1 a2 = some true := by
  obtain ⟨K, hK⟩ := awake_ev
  by_cases hl : (l0.length : Int) > 100
  · refine ⟨K, ?_⟩
    unfold bitemporallaw55_ReportCharts.f
    rw [if_pos hl, show bitemporallaw55_awake.f K = some true from hK K (Nat.le_refl _)]
    rfl
  · obtain ⟨r, h1, K2, hK2⟩ := refChart_ev l0 a1_0 a1_1 a2 (by omega)
    refine ⟨K + K2, ?_⟩
    unfold bitemporallaw55_ReportCharts.f
    rw [if_neg hl, h1, Option.bind_some, show bitemporalref55_Chart.f (K + K2) l0 a1_0 a1_1 a2 = some r from hK2 _ (by omega), Option.bind_some, if_pos rfl, show bitemporallaw55_awake.f (K + K2) = some true from hK _ (by omega)]
    rfl
end Go.Proofs.YthdgjobhofpjeaaGreatDoor.X
