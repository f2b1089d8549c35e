/- The stable sort (the module SA's stableSort: insertion blocks of 20, then merges by rotation) gives a sorted permutation. Conditions: those in each lemma. -/
import Derived.Test.YtkifafenmboefaaDoorSA
import Derived.Sort.LotA
namespace Go.Proofs.YtkifafenmboefaaDoor.Sorts
open Go.Sort
set_option linter.unusedVariables false
set_option linter.unusedSimpArgs false
section
variable {α : Type} [Inhabited α]
theorem bsearch_spec (p : Nat → Bool) : ∀ k i j, j - i ≤ k → i ≤ j → (i < bsearch p k i j → p (bsearch p k i j - 1) = true) ∧ (bsearch p k i j < j → p (bsearch p k i j) = false)
  | 0, i, j, hk, hij => by
    have e : bsearch p 0 i j = i := bsearch_stop p 0 i j (by omega)
    rw [e]
    exact ⟨fun h => absurd h (Nat.lt_irrefl _), fun h => by omega⟩
  | k + 1, i, j, hk, hij => by
    by_cases h : i < j
    · have hm1 : i ≤ (i + j) / 2 := by omega
      have hm2 : (i + j) / 2 < j := by omega
      cases hp : p ((i + j) / 2) with
      | true =>
        have e : bsearch p (k + 1) i j = bsearch p k ((i + j) / 2 + 1) j := by rw [bsearch, if_pos h, hp]; rfl
        have hr := bsearch_range p k ((i + j) / 2 + 1) j (by omega)
        obtain ⟨h1, h2⟩ := bsearch_spec p k ((i + j) / 2 + 1) j (by omega) (by omega)
        rw [e]
        refine ⟨fun _ => ?_, h2⟩
        rcases Nat.eq_or_lt_of_le hr.1 with h3 | h3
        · rw [← h3]; simpa using hp
        · exact h1 h3
      | false =>
        have e : bsearch p (k + 1) i j = bsearch p k i ((i + j) / 2) := by rw [bsearch, if_pos h, hp]; rfl
        have hr := bsearch_range p k i ((i + j) / 2) hm1
        obtain ⟨h1, h2⟩ := bsearch_spec p k i ((i + j) / 2) (by omega) hm1
        rw [e]
        refine ⟨h1, fun _ => ?_⟩
        rcases Nat.eq_or_lt_of_le hr.2 with h3 | h3
        · rw [h3]; exact hp
        · exact h2 h3
    · have e : bsearch p (k + 1) i j = i := bsearch_stop p (k + 1) i j h
      rw [e]
      exact ⟨fun h => absurd h (Nat.lt_irrefl _), fun h' => absurd h' h⟩
theorem swp_at (d : Array α) (i j x : Nat) (hi : i < d.size) (hj : j < d.size) : (swp d i j)[x]! = if x = j then d[i]! else if x = i then d[j]! else d[x]! := by
  by_cases hxj : x = j
  · subst hxj; rw [if_pos rfl, swp_right d i x hj]
  · rw [if_neg hxj]
    by_cases hxi : x = i
    · subst hxi; rw [if_pos rfl, swp_left d x j hi hxj]
    · rw [if_neg hxi, swp_other d i j x hxi hxj]
theorem swapRange_at (d : Array α) (a b : Nat) : ∀ n, (a + n ≤ b ∨ b + n ≤ a) → a + n ≤ d.size → b + n ≤ d.size → ∀ x,
    (swapRange d a b n)[x]! = if a ≤ x ∧ x < a + n then d[x - a + b]! else if b ≤ x ∧ x < b + n then d[x - b + a]! else d[x]!
  | 0, _, _, _, x => by rw [if_neg (by omega), if_neg (by omega)]; rfl
  | n + 1, h, ha, hb, x => by
    have ih := swapRange_at d a b n (by omega) (by omega) (by omega)
    have e : swapRange d a b (n + 1) = swp (swapRange d a b n) (a + n) (b + n) := rfl
    rw [e, swp_at _ _ _ _ (by rw [size_swapRange]; omega) (by rw [size_swapRange]; omega)]
    rw [ih (a + n), ih (b + n), ih x]
    by_cases h1 : x = b + n
    · subst h1
      rw [if_pos rfl, if_neg (by omega), if_neg (by omega), if_neg (by omega), if_pos (by omega)]
      congr 1; omega
    · rw [if_neg h1]
      by_cases h2 : x = a + n
      · subst h2
        rw [if_pos rfl, if_neg (by omega), if_neg (by omega), if_pos (by omega)]
        congr 1; omega
      · rw [if_neg h2]
        by_cases h3 : a ≤ x ∧ x < a + n
        · rw [if_pos h3, if_pos (by omega)]
        · rw [if_neg h3]
          by_cases h4 : b ≤ x ∧ x < b + n
          · rw [if_pos h4, if_neg (by omega), if_pos (by omega)]
          · rw [if_neg h4, if_neg (by omega), if_neg (by omega)]
theorem swapRange_perm (d : Array α) (lo hi a b : Nat) : ∀ n, lo ≤ a → lo ≤ b → a + n ≤ hi → b + n ≤ hi → hi ≤ d.size → PermIn lo hi d (swapRange d a b n)
  | 0, _, _, _, _, _ => permIn_refl _ _ _
  | n + 1, h1, h2, h3, h4, h5 => permIn_trans _ _ _ _ _ (swapRange_perm d lo hi a b n h1 h2 (by omega) (by omega) h5) (swp_permIn _ _ _ _ _ (by omega) (by omega) (by omega) (by omega) (by rw [size_swapRange]; exact h5))
theorem rotLoop_at (m : Nat) : ∀ k i j (d : Array α), 1 ≤ i → 1 ≤ j → i + j ≤ k + 2 → i ≤ m → m + j ≤ d.size → ∀ x,
    (rotLoop m k i j d)[x]! = if m - i ≤ x ∧ x < m - i + j then d[x + i]! else if m - i + j ≤ x ∧ x < m + j then d[x - j]! else d[x]!
  | 0, i, j, d, h1, h2, h3, h4, h5, x => by
    obtain rfl : i = 1 := by omega
    obtain rfl : j = 1 := by omega
    have e : rotLoop m 0 1 1 d = swapRange d (m - 1) m 1 := rfl
    rw [e, swapRange_at d (m - 1) m 1 (by omega) (by omega) (by omega)]
    by_cases c1 : m - 1 ≤ x ∧ x < m - 1 + 1
    · rw [if_pos c1, if_pos c1]; congr 1; omega
    · rw [if_neg c1, if_neg c1]
      by_cases c2 : m ≤ x ∧ x < m + 1
      · rw [if_pos c2, if_pos (by omega)]; congr 1; omega
      · rw [if_neg c2, if_neg (by omega)]
  | k + 1, i, j, d, h1, h2, h3, h4, h5, x => by
    by_cases hij : i = j
    · subst hij
      have e : rotLoop m (k + 1) i i d = swapRange d (m - i) m i := by rw [rotLoop, if_pos rfl]
      rw [e, swapRange_at d (m - i) m i (by omega) (by omega) (by omega)]
      by_cases c1 : m - i ≤ x ∧ x < m - i + i
      · rw [if_pos c1, if_pos c1]; congr 1; omega
      · rw [if_neg c1, if_neg c1]
        by_cases c2 : m ≤ x ∧ x < m + i
        · rw [if_pos c2, if_pos (by omega)]; congr 1; omega
        · rw [if_neg c2, if_neg (by omega)]
    · by_cases hji : j < i
      · rw [rotLoop_gt m k i j d hij hji, rotLoop_at m k (i - j) j _ (by omega) h2 (by omega) (by omega) (by rw [size_swapRange]; exact h5)]
        have sw := swapRange_at d (m - i) m j (by omega) (by omega) (by omega)
        rw [sw (x + (i - j)), sw (x - j), sw x]
        by_cases c1 : m - (i - j) ≤ x ∧ x < m - (i - j) + j
        · rw [if_pos c1]
          by_cases c2 : m ≤ x + (i - j)
          · rw [if_neg (by omega), if_pos (by omega), if_neg (by omega), if_pos (by omega)]; congr 1; omega
          · omega
        · rw [if_neg c1]
          by_cases c2 : m - (i - j) + j ≤ x ∧ x < m + j
          · rw [if_pos c2]
            rw [if_neg (by omega), if_neg (by omega), if_neg (by omega), if_pos (by omega)]
          · rw [if_neg c2]
            by_cases c3 : m - i ≤ x ∧ x < m - i + j
            · rw [if_pos c3, if_pos c3]; congr 1; omega
            · rw [if_neg c3, if_neg c3]
              rw [if_neg (by omega), if_neg (by omega)]
      · rw [rotLoop_lt m k i j d hij hji, rotLoop_at m k i (j - i) _ h1 (by omega) (by omega) h4 (by rw [size_swapRange]; omega)]
        have sw := swapRange_at d (m - i) (m + j - i) i (by omega) (by omega) (by omega)
        rw [sw (x + i), sw (x - (j - i)), sw x]
        by_cases c1 : m - i ≤ x ∧ x < m - i + (j - i)
        · rw [if_pos c1]
          rw [if_neg (by omega), if_neg (by omega), if_pos (by omega)]
        · rw [if_neg c1]
          by_cases c2 : m - i + (j - i) ≤ x ∧ x < m + (j - i)
          · rw [if_pos c2, if_pos (by omega), if_pos (by omega)]; congr 1; omega
          · rw [if_neg c2]
            by_cases c3 : m + j - i ≤ x ∧ x < m + j - i + i
            · rw [if_neg (by omega), if_pos c3, if_neg (by omega), if_pos (by omega)]; congr 1; omega
            · rw [if_neg (by omega), if_neg c3, if_neg (by omega), if_neg (by omega)]
theorem rotLoop_perm (m lo hi : Nat) : ∀ k i j (d : Array α), i ≤ m → lo ≤ m - i → m + i ≤ hi ∨ 1 ≤ k ∧ i + j ≤ k + 2 → m + j ≤ hi → 1 ≤ i → 1 ≤ j → i + j ≤ k + 2 → hi ≤ d.size → PermIn lo hi d (rotLoop m k i j d)
  | 0, i, j, d, h1, h2, h3, h4, h5, h6, h7, h8 => by
    obtain rfl : i = 1 := by omega
    obtain rfl : j = 1 := by omega
    exact swapRange_perm d lo hi (m - 1) m 1 h2 (by omega) (by omega) (by omega) h8
  | k + 1, i, j, d, h1, h2, h3, h4, h5, h6, h7, h8 => by
    by_cases hij : i = j
    · subst hij
      have e : rotLoop m (k + 1) i i d = swapRange d (m - i) m i := by rw [rotLoop, if_pos rfl]
      rw [e]
      exact swapRange_perm d lo hi (m - i) m i h2 (by omega) (by omega) (by omega) h8
    · by_cases hji : j < i
      · rw [rotLoop_gt m k i j d hij hji]
        refine permIn_trans _ _ _ _ _ (swapRange_perm d lo hi (m - i) m j h2 (by omega) (by omega) (by omega) h8) (rotLoop_perm m lo hi k (i - j) j _ (by omega) (by omega) ?_ h4 (by omega) h6 (by omega) (by rw [size_swapRange]; exact h8))
        rcases Nat.eq_zero_or_pos k with hk | hk
        · left; omega
        · right; exact ⟨hk, by omega⟩
      · rw [rotLoop_lt m k i j d hij hji]
        refine permIn_trans _ _ _ _ _ (swapRange_perm d lo hi (m - i) (m + j - i) i h2 (by omega) (by omega) (by omega) h8) (rotLoop_perm m lo hi k i (j - i) _ h1 h2 ?_ (by omega) h5 (by omega) (by omega) (by rw [size_swapRange]; exact h8))
        rcases Nat.eq_zero_or_pos k with hk | hk
        · left; omega
        · right; exact ⟨hk, by omega⟩
theorem bubbleUp_at (d : Array α) (a : Nat) : ∀ n, a + n < d.size → ∀ x, (bubbleUp d a n)[x]! = if a ≤ x ∧ x < a + n then d[x + 1]! else if x = a + n then d[a]! else d[x]!
  | 0, h, x => by
    rw [if_neg (by omega)]
    by_cases hx : x = a + 0
    · rw [if_pos hx, hx]; rfl
    · rw [if_neg hx]; rfl
  | n + 1, h, x => by
    have ih := bubbleUp_at d a n (by omega)
    have e : bubbleUp d a (n + 1) = swp (bubbleUp d a n) (a + n) (a + n + 1) := rfl
    rw [e, swp_at _ _ _ _ (by rw [size_bubbleUp]; omega) (by rw [size_bubbleUp]; omega), ih (a + n), ih (a + n + 1), ih x]
    by_cases h1 : x = a + n + 1
    · rw [if_pos h1, if_neg (by omega), if_pos rfl, if_neg (by omega), if_pos (by omega)]
    · rw [if_neg h1]
      by_cases h2 : x = a + n
      · rw [if_pos h2, if_neg (by omega), if_neg (by omega), if_pos (by omega), h2]
      · rw [if_neg h2]
        by_cases h3 : a ≤ x ∧ x < a + n
        · rw [if_pos h3, if_pos (by omega)]
        · rw [if_neg h3, if_neg (by omega), if_neg (by omega), if_neg (by omega)]
theorem bubbleUp_perm (d : Array α) (lo hi a : Nat) : ∀ n, lo ≤ a → a + n < hi → hi ≤ d.size → PermIn lo hi d (bubbleUp d a n)
  | 0, _, _, _ => permIn_refl _ _ _
  | n + 1, h1, h2, h3 => permIn_trans _ _ _ _ _ (bubbleUp_perm d lo hi a n h1 (by omega) h3) (swp_permIn _ _ _ _ _ (by omega) (by omega) (by omega) (by omega) (by rw [size_bubbleUp]; exact h3))
theorem bubbleDown_at (d : Array α) (m : Nat) : ∀ n, n ≤ m → m < d.size → ∀ x, (bubbleDown d m n)[x]! = if m - n < x ∧ x ≤ m then d[x - 1]! else if x = m - n then d[m]! else d[x]!
  | 0, h, hm, x => by
    rw [if_neg (by omega)]
    by_cases hx : x = m - 0
    · rw [if_pos hx, hx]; rfl
    · rw [if_neg hx]; rfl
  | n + 1, h, hm, x => by
    have ih := bubbleDown_at d m n (by omega) hm
    have e : bubbleDown d m (n + 1) = swp (bubbleDown d m n) (m - n) (m - n - 1) := rfl
    rw [e, swp_at _ _ _ _ (by rw [size_bubbleDown]; omega) (by rw [size_bubbleDown]; omega), ih (m - n), ih (m - n - 1), ih x]
    by_cases h1 : x = m - n - 1
    · rw [if_pos h1, if_neg (by omega), if_pos rfl, if_neg (by omega), if_pos (by omega)]
    · rw [if_neg h1]
      by_cases h2 : x = m - n
      · rw [if_pos h2, if_neg (by omega), if_neg (by omega), if_pos (by omega), h2]
      · rw [if_neg h2]
        by_cases h3 : m - n < x ∧ x ≤ m
        · rw [if_pos h3, if_pos (by omega)]
        · rw [if_neg h3, if_neg (by omega), if_neg (by omega), if_neg (by omega)]
theorem bubbleDown_perm (d : Array α) (lo hi m : Nat) : ∀ n, lo + n ≤ m → m < hi → hi ≤ d.size → PermIn lo hi d (bubbleDown d m n)
  | 0, _, _, _ => permIn_refl _ _ _
  | n + 1, h1, h2, h3 => permIn_trans _ _ _ _ _ (bubbleDown_perm d lo hi m n (by omega) h2 h3) (swp_permIn _ _ _ _ _ (by omega) (by omega) (by omega) (by omega) (by rw [size_bubbleDown]; exact h3))

/-- What the rotation leaves, whether it is done or not needed. -/
theorem symRot_at (d : Array α) (a s m e b mid : Nat) (h1 : a ≤ s) (h2 : s ≤ m) (h3 : m ≤ e) (h4 : e ≤ b) (hm : mid + m = s + e) (hb : b ≤ d.size) (x : Nat) :
    (if s < m ∧ m < e then rotate d s m e else d)[x]! = if s ≤ x ∧ x < mid then d[x + (m - s)]! else if mid ≤ x ∧ x < e then d[x - (e - m)]! else d[x]! := by
  by_cases h : s < m ∧ m < e
  · rw [if_pos h]
    unfold rotate
    rw [rotLoop_at m (e - s) (m - s) (e - m) d (by omega) (by omega) (by omega) (by omega) (by omega)]
    by_cases c1 : s ≤ x ∧ x < mid
    · rw [if_pos c1, if_pos (by omega)]
    · rw [if_neg c1, if_neg (by omega)]
      by_cases c2 : mid ≤ x ∧ x < e
      · rw [if_pos c2, if_pos (by omega)]
      · rw [if_neg c2, if_neg (by omega)]
  · rw [if_neg h]
    by_cases c1 : s ≤ x ∧ x < mid
    · rw [if_pos c1]; congr 1; omega
    · rw [if_neg c1]
      by_cases c2 : mid ≤ x ∧ x < e
      · rw [if_pos c2]; congr 1; omega
      · rw [if_neg c2]
theorem symRot_perm (d : Array α) (a s m e b : Nat) (h1 : a ≤ s) (h2 : s ≤ m) (h3 : m ≤ e) (h4 : e ≤ b) (hb : b ≤ d.size) : PermIn a b d (if s < m ∧ m < e then rotate d s m e else d) := by
  by_cases h : s < m ∧ m < e
  · rw [if_pos h]
    unfold rotate
    exact rotLoop_perm m a b (e - s) (m - s) (e - m) d (by omega) (by omega) (.inr ⟨by omega, by omega⟩) (by omega) (by omega) (by omega) (by omega) hb
  · rw [if_neg h]; exact permIn_refl _ _ _
variable {lt : α → α → Bool}
set_option linter.unusedSectionVars false
/-- 'not less' both ways round. -/
theorem nlt_trans (h : SWO lt) {x y z : α} (h1 : lt y x = false) (h2 : lt z y = false) : lt z x = false := h.ntrans z y x h2 h1
theorem lt_nlt (h : SWO lt) {x y : α} (h1 : lt x y = true) : lt y x = false := by
  cases h2 : lt y x with
  | false => rfl
  | true => have := h.trans x y x h1 h2; rw [h.irrefl] at this; cases this
theorem lt_of_lt_nlt (h : SWO lt) {x y z : α} (h1 : lt x y = true) (h2 : lt z y = false) : lt x z = true := by
  cases h3 : lt x z with
  | true => rfl
  | false => have := h.ntrans x z y h3 h2; rw [h1] at this; cases this
theorem lt_of_nlt_lt (h : SWO lt) {x y z : α} (h1 : lt y x = false) (h2 : lt y z = true) : lt x z = true := by
  cases h3 : lt x z with
  | true => rfl
  | false => have := h.ntrans y x z h1 h3; rw [h2] at this; cases this
theorem sorted_le (h : SWO lt) {a b : Nat} {d : Array α} (hs : SortedIn lt a b d) {i j : Nat} (h1 : a ≤ i) (h2 : i ≤ j) (h3 : j < b) : lt d[j]! d[i]! = false := by
  rcases Nat.eq_or_lt_of_le h2 with h4 | h4
  · subst h4; exact h.irrefl _
  · exact hs i j h1 h4 h3
theorem symMerge_ok (hS : SWO lt) : ∀ k (d : Array α) a m b, b - a ≤ k → a < m → m < b → b ≤ d.size → SortedIn lt a m d → SortedIn lt m b d →
    PermIn a b d (symMerge lt k d a m b) ∧ SortedIn lt a b (symMerge lt k d a m b)
  | 0, d, a, m, b, hk, ham, hmb, _, _, _ => by omega
  | k + 1, d, a, m, b, hk, ham, hmb, hb, s1, s2 => by
    by_cases c1 : m - a = 1
    · obtain rfl : m = a + 1 := by omega
      have hr := bsearch_range (fun h => lt d[h]! d[a]!) (b - (a + 1)) (a + 1) b (by omega)
      obtain ⟨p1, p2⟩ := bsearch_spec (fun h => lt d[h]! d[a]!) (b - (a + 1)) (a + 1) b (Nat.le_refl _) (by omega)
      have e : symMerge lt (k + 1) d a (a + 1) b = bubbleUp d a (bsearch (fun h => lt d[h]! d[a]!) (b - (a + 1)) (a + 1) b - 1 - a) := by rw [symMerge, if_pos c1]
      rw [e]
      generalize bsearch (fun h => lt d[h]! d[a]!) (b - (a + 1)) (a + 1) b = h at hr p1 p2 ⊢
      have at_ := bubbleUp_at d a (h - 1 - a) (by omega)
      refine ⟨bubbleUp_perm d a b a _ (Nat.le_refl _) (by omega) hb, fun i j hi hij hj => ?_⟩
      have lo : ∀ x, a + 1 ≤ x → x < h → lt d[x]! d[a]! = true := fun x h1 h2 => lt_of_nlt_lt hS (sorted_le hS s2 h1 (show x ≤ h - 1 by omega) (by omega)) (p1 (by omega))
      have hi' : ∀ x, h ≤ x → x < b → lt d[x]! d[a]! = false := fun x h1 h2 => nlt_trans hS (p2 (by omega)) (sorted_le hS s2 hr.1 h1 h2)
      rw [at_ j, at_ i]
      by_cases q1 : a ≤ j ∧ j < a + (h - 1 - a)
      · rw [if_pos q1, if_pos (by omega)]
        exact s2 (i + 1) (j + 1) (by omega) (by omega) (by omega)
      · rw [if_neg q1]
        by_cases q2 : j = a + (h - 1 - a)
        · rw [if_pos q2, if_pos (by omega)]
          exact lt_nlt hS (lo (i + 1) (by omega) (by omega))
        · rw [if_neg q2]
          by_cases q3 : a ≤ i ∧ i < a + (h - 1 - a)
          · rw [if_pos q3]
            exact sorted_le hS s2 (by omega) (show i + 1 ≤ j by omega) hj
          · rw [if_neg q3]
            by_cases q4 : i = a + (h - 1 - a)
            · rw [if_pos q4]
              exact hi' j (by omega) hj
            · rw [if_neg q4]
              exact s2 i j (by omega) hij hj
    · by_cases c2 : b - m = 1
      · obtain rfl : b = m + 1 := by omega
        have hr := bsearch_range (fun h => !lt d[m]! d[h]!) (m - a) a m (by omega)
        obtain ⟨p1, p2⟩ := bsearch_spec (fun h => !lt d[m]! d[h]!) (m - a) a m (Nat.le_refl _) (by omega)
        have e : symMerge lt (k + 1) d a m (m + 1) = bubbleDown d m (m - bsearch (fun h => !lt d[m]! d[h]!) (m - a) a m) := by rw [symMerge, if_neg c1, if_pos c2]
        rw [e]
        generalize bsearch (fun h => !lt d[m]! d[h]!) (m - a) a m = s at hr p1 p2 ⊢
        have at_ := bubbleDown_at d m (m - s) (by omega) (by omega)
        refine ⟨bubbleDown_perm d a (m + 1) m _ (by omega) (by omega) hb, fun i j hi hij hj => ?_⟩
        have lo : ∀ x, a ≤ x → x < s → lt d[m]! d[x]! = false := fun x h1 h2 => nlt_trans hS (sorted_le hS s1 h1 (show x ≤ s - 1 by omega) (by omega)) (by simpa using p1 (by omega))
        have hi' : ∀ x, s ≤ x → x < m → lt d[m]! d[x]! = true := fun x h1 h2 => lt_of_lt_nlt hS (show lt d[m]! d[s]! = true by simpa using p2 (by omega)) (sorted_le hS s1 hr.1 h1 h2)
        rw [at_ j, at_ i]
        by_cases q1 : m - (m - s) < j ∧ j ≤ m
        · rw [if_pos q1]
          by_cases q2 : m - (m - s) < i ∧ i ≤ m
          · rw [if_pos q2]
            exact s1 (i - 1) (j - 1) (by omega) (by omega) (by omega)
          · rw [if_neg q2]
            by_cases q3 : i = m - (m - s)
            · rw [if_pos q3]
              exact lt_nlt hS (hi' (j - 1) (by omega) (by omega))
            · rw [if_neg q3]
              exact sorted_le hS s1 hi (show i ≤ j - 1 by omega) (by omega)
        · rw [if_neg q1]
          by_cases q2 : j = m - (m - s)
          · rw [if_pos q2, if_neg (by omega), if_neg (by omega)]
            exact lo i hi (by omega)
          · rw [if_neg q2, if_neg (by omega), if_neg (by omega)]
            exact s1 i j hi hij (by omega)
      · -- the two halves
        obtain ⟨mid, hmid⟩ : ∃ mid, mid = (a + b) / 2 := ⟨_, rfl⟩
        obtain ⟨s, hs⟩ : ∃ s, symStart lt d a m b = s := ⟨_, rfl⟩
        rw [symMerge_C lt k d a m b s c1 c2 hs]
        simp only []
        rw [← hmid]
        obtain ⟨e, he⟩ : ∃ e, e = mid + m - s := ⟨_, rfl⟩
        rw [← he]
        -- what the search found
        have found : a ≤ s ∧ s ≤ m ∧ s ≤ mid ∧ mid ≤ e ∧ e ≤ b ∧ m ≤ e ∧ (a < s → e < b → lt d[e]! d[s - 1]! = false) ∧ (s < m → m < e → lt d[e - 1]! d[s]! = true) := by
          unfold symStart at hs
          rw [← hmid] at hs
          by_cases hc : mid < m
          · rw [if_pos hc] at hs
            have hr := bsearch_range (fun c => !lt d[mid + m - 1 - c]! d[c]!) (b - a) (mid + m - b) mid (by omega)
            obtain ⟨p1, p2⟩ := bsearch_spec (fun c => !lt d[mid + m - 1 - c]! d[c]!) (b - a) (mid + m - b) mid (by omega) (by omega)
            rw [hs] at hr p1 p2
            refine ⟨by omega, by omega, by omega, by omega, by omega, by omega, fun h1 h2 => ?_, fun h1 h2 => ?_⟩
            · have := p1 (by omega)
              rw [show mid + m - 1 - (s - 1) = e by omega] at this
              simpa using this
            · have := p2 (by omega)
              rw [show mid + m - 1 - s = e - 1 by omega] at this
              simpa using this
          · rw [if_neg hc] at hs
            have hr := bsearch_range (fun c => !lt d[mid + m - 1 - c]! d[c]!) (b - a) a m (by omega)
            obtain ⟨p1, p2⟩ := bsearch_spec (fun c => !lt d[mid + m - 1 - c]! d[c]!) (b - a) a m (by omega) (by omega)
            rw [hs] at hr p1 p2
            refine ⟨by omega, by omega, by omega, by omega, by omega, by omega, fun h1 h2 => ?_, fun h1 h2 => ?_⟩
            · have := p1 (by omega)
              rw [show mid + m - 1 - (s - 1) = e by omega] at this
              simpa using this
            · have := p2 (by omega)
              rw [show mid + m - 1 - s = e - 1 by omega] at this
              simpa using this
        clear hs
        obtain ⟨f1, f2, f3, f4, f5, f6, g1, g2⟩ := found
        have at1 := symRot_at d a s m e b mid f1 f2 f6 f5 (by omega) hb
        have pm1 := symRot_perm d a s m e b f1 f2 f6 f5 hb
        generalize (if s < m ∧ m < e then rotate d s m e else d) = d1 at at1 pm1 ⊢
        have hd1 : d1.size = d.size := pm1.1
        -- the first half's elements are not greater than the second's
        have cross : ∀ x y, a ≤ x → x < mid → mid ≤ y → y < b → lt d1[y]! d1[x]! = false := by
          intro x y h1 h2 h3 h4
          rw [at1 x, at1 y]
          by_cases q1 : s ≤ x ∧ x < mid
          · rw [if_pos q1, if_neg (by omega)]
            by_cases q2 : mid ≤ y ∧ y < e
            · rw [if_pos q2]
              -- old [m, e) before old [s, m)
              have h5 : lt d[x + (m - s)]! d[y - (e - m)]! = true := by
                have a1 : lt d[e - 1]! d[s]! = true := g2 (by omega) (by omega)
                have a2 := lt_of_nlt_lt hS (sorted_le hS s2 (show m ≤ x + (m - s) by omega) (show x + (m - s) ≤ e - 1 by omega) (by omega)) a1
                exact lt_of_lt_nlt hS a2 (sorted_le hS s1 f1 (show s ≤ y - (e - m) by omega) (by omega))
              exact lt_nlt hS h5
            · rw [if_neg q2]
              exact sorted_le hS s2 (by omega) (show x + (m - s) ≤ y by omega) h4
          · rw [if_neg q1, if_neg (show ¬ (s ≤ y ∧ y < mid) by omega), if_neg (show ¬ (mid ≤ x ∧ x < e) by omega)]
            by_cases q2 : mid ≤ y ∧ y < e
            · rw [if_pos q2]
              exact sorted_le hS s1 h1 (show x ≤ y - (e - m) by omega) (by omega)
            · rw [if_neg q2]
              have a1 : lt d[e]! d[s - 1]! = false := g1 (by omega) (by omega)
              exact nlt_trans hS (nlt_trans hS (sorted_le hS s1 h1 (show x ≤ s - 1 by omega) (by omega)) a1) (sorted_le hS s2 f6 (show e ≤ y by omega) h4)
        have r1 : SortedIn lt a s d1 := fun i j h1 h2 h3 => by
          rw [at1 i, at1 j, if_neg (by omega), if_neg (by omega), if_neg (by omega), if_neg (by omega)]
          exact s1 i j h1 h2 (by omega)
        have r2 : SortedIn lt s mid d1 := fun i j h1 h2 h3 => by
          rw [at1 i, at1 j, if_pos (by omega), if_pos (by omega)]
          exact s2 _ _ (by omega) (by omega) (by omega)
        have r3 : SortedIn lt mid e d1 := fun i j h1 h2 h3 => by
          rw [at1 i, at1 j, if_neg (by omega), if_pos (by omega), if_neg (by omega), if_pos (by omega)]
          exact s1 _ _ (by omega) (by omega) (by omega)
        have r4 : SortedIn lt e b d1 := fun i j h1 h2 h3 => by
          rw [at1 i, at1 j, if_neg (by omega), if_neg (by omega), if_neg (by omega), if_neg (by omega)]
          exact s2 _ _ (by omega) (by omega) (by omega)
        have half1 : PermIn a mid d1 (if a < s ∧ s < mid then symMerge lt k d1 a s mid else d1) ∧ SortedIn lt a mid (if a < s ∧ s < mid then symMerge lt k d1 a s mid else d1) := by
          by_cases q : a < s ∧ s < mid
          · rw [if_pos q]
            exact symMerge_ok hS k d1 a s mid (by omega) q.1 q.2 (by omega) r1 r2
          · rw [if_neg q]
            refine ⟨permIn_refl _ _ _, fun i j h1 h2 h3 => ?_⟩
            rcases Nat.lt_or_ge s mid with h4 | h4
            · exact r2 i j (by omega) h2 h3
            · exact r1 i j h1 h2 (by omega)
        generalize (if a < s ∧ s < mid then symMerge lt k d1 a s mid else d1) = d2 at half1 ⊢
        obtain ⟨pm2, so2⟩ := half1
        have hd2 : d2.size = d.size := pm2.1.trans hd1
        have same2 : ∀ x, mid ≤ x → d2[x]! = d1[x]! := fun x h => pm2.2.1 x (.inr h)
        have half2 : PermIn mid b d2 (if mid < e ∧ e < b then symMerge lt k d2 mid e b else d2) ∧ SortedIn lt mid b (if mid < e ∧ e < b then symMerge lt k d2 mid e b else d2) := by
          have r3' : SortedIn lt mid e d2 := fun i j h1 h2 h3 => by rw [same2 i h1, same2 j (by omega)]; exact r3 i j h1 h2 h3
          have r4' : SortedIn lt e b d2 := fun i j h1 h2 h3 => by rw [same2 i (by omega), same2 j (by omega)]; exact r4 i j h1 h2 h3
          by_cases q : mid < e ∧ e < b
          · rw [if_pos q]
            exact symMerge_ok hS k d2 mid e b (by omega) q.1 q.2 (by omega) r3' r4'
          · rw [if_neg q]
            refine ⟨permIn_refl _ _ _, fun i j h1 h2 h3 => ?_⟩
            rcases Nat.lt_or_ge mid e with h4 | h4
            · exact r3' i j h1 h2 (by omega)
            · exact r4' i j (by omega) h2 h3
        generalize (if mid < e ∧ e < b then symMerge lt k d2 mid e b else d2) = d3 at half2 ⊢
        obtain ⟨pm3, so3⟩ := half2
        have same3 : ∀ x, x < mid → d3[x]! = d2[x]! := fun x h => pm3.2.1 x (.inl h)
        have cr2 : ∀ x, a ≤ x → x < mid → ∀ y, mid ≤ y → y < b → lt d1[y]! d2[x]! = false :=
          permIn_all d1 d2 a mid (fun z => ∀ y, mid ≤ y → y < b → lt d1[y]! z = false) (by omega) pm2 (fun x h1 h2 y h3 h4 => cross x y h1 h2 h3 h4)
        have cr3 : ∀ y, mid ≤ y → y < b → ∀ x, a ≤ x → x < mid → lt d3[y]! d2[x]! = false :=
          permIn_all d2 d3 mid b (fun z => ∀ x, a ≤ x → x < mid → lt z d2[x]! = false) (by omega) pm3 (fun y h1 h2 x h3 h4 => by rw [same2 y h1]; exact cr2 x h3 h4 y h1 h2)
        refine ⟨permIn_trans _ _ _ _ _ pm1 (permIn_trans _ _ _ _ _ (permIn_mono _ _ a mid a b (Nat.le_refl _) (by omega) (by omega) pm2) (permIn_mono _ _ mid b a b (by omega) (Nat.le_refl _) (by omega) pm3)), fun i j h1 h2 h3 => ?_⟩
        by_cases q1 : j < mid
        · rw [same3 i (by omega), same3 j q1]
          exact so2 i j h1 h2 q1
        · by_cases q2 : i < mid
          · rw [same3 i q2]
            exact cr3 j (by omega) h3 i h1 q2
          · exact so3 i j (by omega) h2 h3

/-- Runs of length w, each in order, from the start to n. -/
def Runs (lt : α → α → Bool) (w n : Nat) (d : Array α) : Prop := ∀ p, SortedIn lt (w * p) (min (w * p + w) n) d
theorem sorted_sub {a b a' b' : Nat} {d : Array α} (h : SortedIn lt a b d) (h1 : a ≤ a') (h2 : b' ≤ b) : SortedIn lt a' b' d := fun i j hi hij hj => h i j (by omega) hij (by omega)
theorem sorted_same {a b lo hi : Nat} {d d' : Array α} (h : SortedIn lt a b d) (hp : PermIn lo hi d d') (hd : b ≤ lo ∨ hi ≤ a) : SortedIn lt a b d' := fun i j h1 h2 h3 => by
  rw [hp.2.1 i (by omega), hp.2.1 j (by omega)]
  exact h i j h1 h2 h3
theorem insBlocks_ok (hS : SWO lt) (d : Array α) : ∀ q, 20 * q ≤ d.size → PermIn 0 d.size d (insBlocks lt d q) ∧ ∀ p, p < q → SortedIn lt (20 * p) (20 * p + 20) (insBlocks lt d q)
  | 0, _ => ⟨permIn_refl _ _ _, fun p hp => absurd hp (Nat.not_lt_zero _)⟩
  | q + 1, hq => by
    obtain ⟨h1, h2⟩ := insBlocks_ok hS d q (by omega)
    have e : insBlocks lt d (q + 1) = insertionSort lt (insBlocks lt d q) (20 * q) (20 * q + 20) := rfl
    rw [e]
    obtain ⟨h3, h4⟩ := insertionSort_holds hS (insBlocks lt d q) (20 * q) (20 * q + 20) (by omega) (by rw [h1.1]; omega)
    refine ⟨permIn_trans _ _ _ _ _ h1 (permIn_mono _ _ _ _ _ _ (Nat.zero_le _) (by omega) (by rw [h1.1]; exact Nat.le_refl _) h3), fun p hp => ?_⟩
    rcases Nat.eq_or_lt_of_le (Nat.le_of_lt_succ hp) with hpq | hpq
    · subst hpq; exact h4
    · exact sorted_same (h2 p hpq) h3 (.inl (by omega))
theorem mergePass_ok (hS : SWO lt) (w n : Nat) (hw : 0 < w) (d : Array α) (hn : d.size = n) (hR : Runs lt w n d) : ∀ q, 2 * w * q ≤ n →
    PermIn 0 n d (mergePass lt w d q) ∧ (∀ p, p < q → SortedIn lt (2 * w * p) (2 * w * p + 2 * w) (mergePass lt w d q)) ∧ ∀ i j, 2 * w * q ≤ i → SortedIn lt i j d → SortedIn lt i j (mergePass lt w d q)
  | 0, _ => ⟨permIn_refl _ _ _, fun p hp => absurd hp (Nat.not_lt_zero _), fun i j _ h => h⟩
  | q + 1, hq => by
    have hmul : 2 * w * (q + 1) = 2 * w * q + 2 * w := Nat.mul_succ _ _
    obtain ⟨h1, h2, h3⟩ := mergePass_ok hS w n hw d hn hR q (by omega)
    have e : mergePass lt w d (q + 1) = symMerge lt d.size (mergePass lt w d q) (2 * w * q) (2 * w * q + w) (2 * w * q + 2 * w) := rfl
    rw [e]
    have hs : (mergePass lt w d q).size = n := h1.1.trans hn
    have r1 := hR (2 * q)
    have r2 := hR (2 * q + 1)
    have m1 : w * (2 * q) = 2 * w * q := by rw [Nat.mul_comm 2 w, Nat.mul_assoc]
    have m2 : w * (2 * q + 1) = 2 * w * q + w := by rw [Nat.mul_succ, m1]
    rw [m1] at r1
    rw [m2] at r2
    rw [show min (2 * w * q + w) n = 2 * w * q + w by omega] at r1
    rw [show min (2 * w * q + w + w) n = 2 * w * q + 2 * w by omega] at r2
    obtain ⟨h4, h5⟩ := symMerge_ok hS d.size (mergePass lt w d q) (2 * w * q) (2 * w * q + w) (2 * w * q + 2 * w) (by omega) (by omega) (by omega) (by omega) (h3 _ _ (Nat.le_refl _) r1) (h3 _ _ (by omega) r2)
    refine ⟨permIn_trans _ _ _ _ _ h1 (permIn_mono _ _ _ _ _ _ (Nat.zero_le _) (by omega) (by omega) h4), fun p hp => ?_, fun i j hi hs' => sorted_same (h3 i j (by omega) hs') h4 (.inr (by omega))⟩
    rcases Nat.eq_or_lt_of_le (Nat.le_of_lt_succ hp) with hpq | hpq
    · subst hpq; exact h5
    · refine sorted_same (h2 p hpq) h4 (.inl ?_)
      have := Nat.mul_le_mul_left (2 * w) (show p + 1 ≤ q from hpq)
      rw [Nat.mul_succ] at this
      exact this
theorem mergeAll_ok (hS : SWO lt) (w n : Nat) (hw : 0 < w) (d : Array α) (hn : d.size = n) (hR : Runs lt w n d) : PermIn 0 n d (mergeAll lt w d) ∧ Runs lt (2 * w) n (mergeAll lt w d) := by
  subst hn
  have hq : 2 * w * (d.size / (2 * w)) ≤ d.size := Nat.mul_div_le _ _
  have hq2 : d.size < 2 * w * (d.size / (2 * w)) + 2 * w := by
    have := Nat.lt_mul_div_succ d.size (show 0 < 2 * w by omega)
    rwa [Nat.mul_succ] at this
  obtain ⟨h1, h2, h3⟩ := mergePass_ok hS w d.size hw d rfl hR (d.size / (2 * w)) hq
  unfold mergeAll
  simp only []
  generalize d.size / (2 * w) = q at hq hq2 h1 h2 h3 ⊢
  have r1 := hR (2 * q)
  have r2 := hR (2 * q + 1)
  have m1 : w * (2 * q) = 2 * w * q := by rw [Nat.mul_comm 2 w, Nat.mul_assoc]
  have m2 : w * (2 * q + 1) = 2 * w * q + w := by rw [Nat.mul_succ, m1]
  rw [m1] at r1
  rw [m2] at r2
  have past : ∀ p, q < p → d.size ≤ 2 * w * p := fun p hp => by
    have := Nat.mul_le_mul_left (2 * w) (show q + 1 ≤ p from hp)
    rw [Nat.mul_succ] at this
    omega
  split
  · next hc =>
    rw [show min (2 * w * q + w) d.size = 2 * w * q + w by omega] at r1
    rw [show min (2 * w * q + w + w) d.size = d.size by omega] at r2
    obtain ⟨h4, h5⟩ := symMerge_ok hS d.size (mergePass lt w d q) (2 * w * q) (2 * w * q + w) d.size (by omega) (by omega) hc (by rw [h1.1]; exact Nat.le_refl _) (h3 _ _ (Nat.le_refl _) r1) (h3 _ _ (by omega) r2)
    refine ⟨permIn_trans _ _ _ _ _ h1 (permIn_mono _ _ _ _ _ _ (Nat.zero_le _) (Nat.le_refl _) (by rw [h1.1]; exact Nat.le_refl _) h4), fun p => ?_⟩
    rcases Nat.lt_trichotomy p q with hp | hp | hp
    · refine sorted_sub (sorted_same (h2 p hp) h4 (.inl ?_)) (Nat.le_refl _) (by omega)
      have := Nat.mul_le_mul_left (2 * w) (show p + 1 ≤ q from hp)
      rw [Nat.mul_succ] at this
      exact this
    · subst hp; exact sorted_sub h5 (Nat.le_refl _) (by omega)
    · intro i j hi hij hj
      have := past p hp
      omega
  · next hc =>
    refine ⟨h1, fun p => ?_⟩
    rcases Nat.lt_trichotomy p q with hp | hp | hp
    · exact sorted_sub (h2 p hp) (Nat.le_refl _) (by omega)
    · subst hp; exact sorted_sub (h3 _ _ (Nat.le_refl _) r1) (Nat.le_refl _) (by omega)
    · intro i j hi hij hj
      have := past p hp
      omega
theorem passes_ok (hS : SWO lt) (n : Nat) : ∀ k w (d : Array α), 0 < w → d.size = n → Runs lt w n d → n ≤ w * 2 ^ k → PermIn 0 n d (passes lt k w d) ∧ SortedIn lt 0 n (passes lt k w d)
  | 0, w, d, hw, hn, hR, hk => by
    refine ⟨permIn_refl _ _ _, ?_⟩
    have r := hR 0
    rw [Nat.mul_zero, Nat.zero_add, show min w n = n by omega] at r
    exact r
  | k + 1, w, d, hw, hn, hR, hk => by
    unfold passes
    split
    · obtain ⟨h1, h2⟩ := mergeAll_ok hS w n hw d hn hR
      obtain ⟨h3, h4⟩ := passes_ok hS n k (2 * w) (mergeAll lt w d) (by omega) (h1.1.trans hn) h2 (by rw [Nat.pow_succ] at hk; calc n ≤ w * (2 ^ k * 2) := hk
          _ = 2 * w * 2 ^ k := by rw [Nat.mul_comm (2 ^ k) 2, ← Nat.mul_assoc, Nat.mul_comm w 2])
      exact ⟨permIn_trans _ _ _ _ _ h1 h3, h4⟩
    · refine ⟨permIn_refl _ _ _, ?_⟩
      have r := hR 0
      rw [Nat.mul_zero, Nat.zero_add, show min w n = n by omega] at r
      exact r
theorem stableSort_ok (hS : SWO lt) (d : Array α) : PermIn 0 d.size d (stableSort lt d) ∧ SortedIn lt 0 d.size (stableSort lt d) := by
  unfold stableSort
  obtain ⟨h1, h2⟩ := insBlocks_ok hS d (d.size / 20) (Nat.mul_div_le _ _)
  have hq := Nat.lt_mul_div_succ d.size (show 0 < 20 by omega)
  have hq' := Nat.mul_div_le d.size 20
  generalize d.size / 20 = q at h1 h2 hq hq' ⊢
  rw [Nat.mul_succ] at hq
  obtain ⟨h3, h4⟩ := insertionSort_holds hS (insBlocks lt d q) (20 * q) d.size (by omega) (by rw [h1.1]; exact Nat.le_refl _)
  have hp := permIn_trans _ _ _ _ _ h1 (permIn_mono _ _ _ _ _ _ (Nat.zero_le _) (Nat.le_refl _) (by rw [h1.1]; exact Nat.le_refl _) h3)
  have hR : Runs lt 20 d.size (insertionSort lt (insBlocks lt d q) (20 * q) d.size) := fun p => by
    rcases Nat.lt_trichotomy p q with c | c | c
    · exact sorted_sub (sorted_same (h2 p c) h3 (.inl (by omega))) (Nat.le_refl _) (by omega)
    · subst c; exact sorted_sub h4 (Nat.le_refl _) (by omega)
    · intro i j hi hij hj
      omega
  obtain ⟨h5, h6⟩ := passes_ok hS d.size d.size 20 _ (by omega) hp.1 hR (by
    have : d.size < 2 ^ d.size := Nat.lt_two_pow_self
    omega)
  exact ⟨permIn_trans _ _ _ _ _ hp h5, h6⟩
theorem stableSort_list (hS : SWO lt) (d : Array α) : (stableSort lt d).toList.Perm d.toList ∧ (stableSort lt d).toList.Pairwise (fun x y => lt y x = false) := by
  obtain ⟨h1, h2⟩ := stableSort_ok hS d
  refine ⟨?_, ?_⟩
  · have h3 := h1.2.2
    have e1 : (stableSort lt d).extract 0 d.size = stableSort lt d := by rw [← h1.1]; simp
    have e2 : d.extract 0 d.size = d := by simp
    rwa [e1, e2] at h3
  · rw [List.pairwise_iff_getElem]
    intro i j hi hj hij
    have h3 := h2 i j (Nat.zero_le _) hij (by rw [← h1.1]; simpa using hj)
    rw [getElem!_pos _ i (by simpa using hi), getElem!_pos _ j (by simpa using hj)] at h3
    simpa using h3
end
end Go.Proofs.YtkifafenmboefaaDoor.Sorts
