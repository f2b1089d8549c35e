/- The stable sort of Go's library (slices: swapRangeCmpFunc, rotateCmpFunc, symMergeCmpFunc, stableCmpFunc) over a row of cells: what each computes, as plain Lean functions on arrays, and the proofs that the calls come to that. Conditions: those in each theorem. / slices.insertionSortCmpFunc (Go's library) over a row of cells: the proof that the call comes to 'insertionSort'. Conditions: those in each theorem. / slices.symMergeCmpFunc (Go's library) over a row of cells, one of the two parts of one element: the proof that the call comes to 'symMerge' (the module S1). Conditions: those in each theorem. Written by my generator wip/hand08/gen_S1.py. / slices.symMergeCmpFunc (Go's library) over a row of cells, the middle ahead of the cut: the proof that the call comes to 'symMerge' (the module S1). Conditions: those in each theorem. Written by my generator wip/hand08/gen_S1.py. / slices.symMergeCmpFunc (Go's library) over a row of cells, the middle behind the cut: the proof that the call comes to 'symMerge' (the module S1). Conditions: those in each theorem. Written by my generator wip/hand08/gen_S1.py. / slices.stableCmpFunc and slices.SortStableFunc (Go's library) over a row of cells: the proof that the calls come to 'stableSort' (the module S1). Conditions: those in each theorem. / slices.SortStableFunc (Go's library) at no element: nothing is done. No conditions. -/
import Derived.Shelf.SlSortCmp.Insertion1
import Derived.Lib.QuietBelow
import Derived.Test.YtkifafenmboefaaDoorProg
import Derived.WalkKit
namespace Go.Proofs.YtkifafenmboefaaDoor.Sorts
open Go.Shelf Go.RowKit Go.Lib Go.Sort Go.Proofs
set_option linter.unusedVariables false
set_option linter.unusedSimpArgs false
variable {α : Type} [Inhabited α]

/-- What is asked of 'cmp': in every world that the sort passes through, called with two values, it hands back 'cf x y', and of what was there nothing has turned. -/
def CmpBelow (P : Program) (g : Nat) (cb : Array Value) (enc : α → Value) (cf : α → α → Int) (blk off size : Nat) (w : World) : Prop :=
  ∀ (m : Nat) (os : Array Obj) (dk : Array α), dk.size = size → ∀ x y : α,
    Calls P g (#[enc x, enc y] ++ cb) (sortWorld enc w blk off m dk os) fun e w' => e = .returned (.int .i64 (cf x y)) ∧ Below (sortWorld enc w blk off m dk os).heap.size (sortWorld enc w blk off m dk os) w'
section
variable {P : Program} {enc : α → Value} {w0 W : World} {blk off : Nat} {d0 dk : Array α}
/-- The sort's base world has drawn nothing yet: so any count of draws is one of its worlds'. -/
theorem SW_regrown (hz : w0.drawn = 0) (h : SW enc w0 blk off dk W) (d : Nat) (os : Array Obj) : SW enc w0 blk off dk (grow (redrawn W d) os) := by
  obtain ⟨n, os0, rfl⟩ := h
  refine ⟨d, os0 ++ os, ?_⟩
  have e : redrawn (sortWorld enc w0 blk off n dk os0) d = sortWorld enc w0 blk off d dk os0 := by
    show (⟨_, _, _, _, _⟩ : World) = ⟨_, _, _, _, _⟩
    congr 1
    show d = w0.drawn + d
    omega
  rw [e]
  unfold sortWorld
  rw [grow_grow]
theorem SW_clr (h : SW enc w0 blk off dk W) (R : Row1 enc w0 blk off d0) (hs : dk.size = d0.size) (i : Nat) (hi : i < dk.size) (d : Nat) (os : Array Obj) : (grow (redrawn W d) os).cell? ⟨blk, off + i, none⟩ = some (enc dk[i]!) := cell_regrown (h.c1 R hs i hi) d os
theorem SW_cmpb {g : Nat} {cb : Array Value} {cf : α → α → Int} {size : Nat} (h : SW enc w0 blk off dk W) (hC : CmpBelow P g cb enc cf blk off size w0) (hz : w0.drawn = 0) (hs : dk.size = size) (x y : α) (d : Nat) (os : Array Obj) :
    Calls P g (#[enc x, enc y] ++ cb) (grow (redrawn W d) os) fun e w' => e = .returned (.int .i64 (cf x y)) ∧ Below (grow (redrawn W d) os).heap.size (grow (redrawn W d) os) w' := by
  obtain ⟨m, os0, hw⟩ := SW_regrown hz h d os
  rw [hw]
  exact hC m os0 dk hs x y
end

def swapRange (d : Array α) (a b : Nat) : Nat → Array α
  | 0 => d
  | n + 1 => swp (swapRange d a b n) (a + n) (b + n)
theorem size_swapRange (d : Array α) (a b : Nat) : ∀ n, (swapRange d a b n).size = d.size
  | 0 => rfl
  | n + 1 => by unfold swapRange; rw [size_swp, size_swapRange d a b n]
def rotLoop (m : Nat) : Nat → Nat → Nat → Array α → Array α
  | 0, i, _, d => swapRange d (m - i) m i
  | k + 1, i, j, d => if i = j then swapRange d (m - i) m i else if j < i then rotLoop m k (i - j) j (swapRange d (m - i) m j) else rotLoop m k i (j - i) (swapRange d (m - i) (m + j - i) i)
theorem size_rotLoop (m : Nat) : ∀ k i j (d : Array α), (rotLoop m k i j d).size = d.size
  | 0, i, j, d => size_swapRange _ _ _ _
  | k + 1, i, j, d => by
    unfold rotLoop
    split
    · exact size_swapRange _ _ _ _
    · split
      · rw [size_rotLoop m k, size_swapRange]
      · rw [size_rotLoop m k, size_swapRange]
theorem rotLoop_gt (m k i j : Nat) (d : Array α) (h1 : i ≠ j) (h2 : j < i) : rotLoop m (k + 1) i j d = rotLoop m k (i - j) j (swapRange d (m - i) m j) := by
  rw [rotLoop, if_neg h1, if_pos h2]
theorem rotLoop_lt (m k i j : Nat) (d : Array α) (h1 : i ≠ j) (h2 : ¬ j < i) : rotLoop m (k + 1) i j d = rotLoop m k i (j - i) (swapRange d (m - i) (m + j - i) i) := by
  rw [rotLoop, if_neg h1, if_neg h2]
def rotate (d : Array α) (a m b : Nat) : Array α := rotLoop m (b - a) (m - a) (b - m) d
theorem size_rotate (d : Array α) (a m b : Nat) : (rotate d a m b).size = d.size := size_rotLoop _ _ _ _ _
def bsearch (p : Nat → Bool) : Nat → Nat → Nat → Nat
  | 0, i, _ => i
  | k + 1, i, j => if i < j then (if p ((i + j) / 2) then bsearch p k ((i + j) / 2 + 1) j else bsearch p k i ((i + j) / 2)) else i
theorem bsearch_range (p : Nat → Bool) : ∀ k i j, i ≤ j → i ≤ bsearch p k i j ∧ bsearch p k i j ≤ j
  | 0, i, j, h => ⟨Nat.le_refl _, h⟩
  | k + 1, i, j, h => by
    unfold bsearch
    split
    · split
      · have := bsearch_range p k ((i + j) / 2 + 1) j (by omega); omega
      · have := bsearch_range p k i ((i + j) / 2) (by omega); omega
    · omega
/-- More rounds change nothing. -/
theorem bsearch_stop (p : Nat → Bool) (k i j : Nat) (h : ¬ i < j) : bsearch p k i j = i := by
  cases k with
  | zero => rfl
  | succ k => unfold bsearch; rw [if_neg h]
theorem bsearch_more (p : Nat → Bool) : ∀ k k' i j, j - i ≤ k → j - i ≤ k' → bsearch p k i j = bsearch p k' i j
  | 0, k', i, j, h, h' => by rw [bsearch_stop p k' i j (by omega)]; rfl
  | k + 1, 0, i, j, h, h' => by rw [bsearch_stop p (k + 1) i j (by omega)]; rfl
  | k + 1, k' + 1, i, j, h, h' => by
    unfold bsearch
    split
    · split
      · exact bsearch_more p k k' _ _ (by omega) (by omega)
      · exact bsearch_more p k k' _ _ (by omega) (by omega)
    · rfl
theorem bsearch_up (p : Nat → Bool) (k i j : Nat) (hk : j - i ≤ k) (h : i < j) (hp : p ((i + j) / 2) = true) : bsearch p k i j = bsearch p k ((i + j) / 2 + 1) j := by
  obtain ⟨q, rfl⟩ : ∃ q, k = q + 1 := ⟨k - 1, by omega⟩
  rw [bsearch, if_pos h, hp]
  exact bsearch_more p q (q + 1) _ _ (by omega) (by omega)
theorem bsearch_down (p : Nat → Bool) (k i j : Nat) (hk : j - i ≤ k) (h : i < j) (hp : p ((i + j) / 2) = false) : bsearch p k i j = bsearch p k i ((i + j) / 2) := by
  obtain ⟨q, rfl⟩ : ∃ q, k = q + 1 := ⟨k - 1, by omega⟩
  rw [bsearch, if_pos h, hp]
  exact bsearch_more p q (q + 1) _ _ (by omega) (by omega)
def bubbleUp (d : Array α) (a : Nat) : Nat → Array α
  | 0 => d
  | n + 1 => swp (bubbleUp d a n) (a + n) (a + n + 1)
theorem size_bubbleUp (d : Array α) (a : Nat) : ∀ n, (bubbleUp d a n).size = d.size
  | 0 => rfl
  | n + 1 => by unfold bubbleUp; rw [size_swp, size_bubbleUp d a n]
def bubbleDown (d : Array α) (m : Nat) : Nat → Array α
  | 0 => d
  | n + 1 => swp (bubbleDown d m n) (m - n) (m - n - 1)
theorem size_bubbleDown (d : Array α) (m : Nat) : ∀ n, (bubbleDown d m n).size = d.size
  | 0 => rfl
  | n + 1 => by unfold bubbleDown; rw [size_swp, size_bubbleDown d m n]
def symStart (lt : α → α → Bool) (d : Array α) (a m b : Nat) : Nat :=
  if (a + b) / 2 < m then bsearch (fun c => !lt d[(a + b) / 2 + m - 1 - c]! d[c]!) (b - a) ((a + b) / 2 + m - b) ((a + b) / 2)
  else bsearch (fun c => !lt d[(a + b) / 2 + m - 1 - c]! d[c]!) (b - a) a m
def symRot (lt : α → α → Bool) (d : Array α) (a m b : Nat) : Array α :=
  if symStart lt d a m b < m ∧ m < (a + b) / 2 + m - symStart lt d a m b then rotate d (symStart lt d a m b) m ((a + b) / 2 + m - symStart lt d a m b) else d
def symMerge (lt : α → α → Bool) : Nat → Array α → Nat → Nat → Nat → Array α
  | 0, d, _, _, _ => d
  | k + 1, d, a, m, b =>
    if m - a = 1 then bubbleUp d a (bsearch (fun h => lt d[h]! d[a]!) (b - m) m b - 1 - a)
    else if b - m = 1 then bubbleDown d m (m - bsearch (fun h => !lt d[m]! d[h]!) (m - a) a m)
    else
      let s := symStart lt d a m b
      let e := (a + b) / 2 + m - s
      let d1 := symRot lt d a m b
      let d2 := if a < s ∧ s < (a + b) / 2 then symMerge lt k d1 a s ((a + b) / 2) else d1
      if (a + b) / 2 < e ∧ e < b then symMerge lt k d2 ((a + b) / 2) e b else d2
theorem symMerge_C (lt : α → α → Bool) (k : Nat) (d : Array α) (a m b s : Nat) (h1 : ¬ m - a = 1) (h2 : ¬ b - m = 1) (hs : symStart lt d a m b = s) : symMerge lt (k + 1) d a m b =
    let e := (a + b) / 2 + m - s
    let d1 := if s < m ∧ m < e then rotate d s m e else d
    let d2 := if a < s ∧ s < (a + b) / 2 then symMerge lt k d1 a s ((a + b) / 2) else d1
    if (a + b) / 2 < e ∧ e < b then symMerge lt k d2 ((a + b) / 2) e b else d2 := by
  rw [symMerge, if_neg h1, if_neg h2]
  unfold symRot
  rw [hs]
theorem size_symRot (lt : α → α → Bool) (d : Array α) (a m b : Nat) : (symRot lt d a m b).size = d.size := by
  unfold symRot
  split
  · exact size_rotate _ _ _ _
  · rfl
theorem size_symMerge (lt : α → α → Bool) : ∀ k (d : Array α) a m b, (symMerge lt k d a m b).size = d.size
  | 0, d, a, m, b => rfl
  | k + 1, d, a, m, b => by
    unfold symMerge
    split
    · exact size_bubbleUp _ _ _
    · split
      · exact size_bubbleDown _ _ _
      · simp only []
        split
        · rw [size_symMerge lt k]
          split
          · rw [size_symMerge lt k, size_symRot]
          · exact size_symRot _ _ _ _ _
        · split
          · rw [size_symMerge lt k, size_symRot]
          · exact size_symRot _ _ _ _ _
def insBlocks (lt : α → α → Bool) (d : Array α) : Nat → Array α
  | 0 => d
  | q + 1 => insertionSort lt (insBlocks lt d q) (20 * q) (20 * q + 20)
def mergePass (lt : α → α → Bool) (bs : Nat) (d : Array α) : Nat → Array α
  | 0 => d
  | q + 1 => symMerge lt d.size (mergePass lt bs d q) (2 * bs * q) (2 * bs * q + bs) (2 * bs * q + 2 * bs)
theorem size_mergePass (lt : α → α → Bool) (bs : Nat) (d : Array α) : ∀ q, (mergePass lt bs d q).size = d.size
  | 0 => rfl
  | q + 1 => by unfold mergePass; rw [size_symMerge, size_mergePass lt bs d q]
def mergeAll (lt : α → α → Bool) (bs : Nat) (d : Array α) : Array α :=
  let q := d.size / (2 * bs)
  if 2 * bs * q + bs < d.size then symMerge lt d.size (mergePass lt bs d q) (2 * bs * q) (2 * bs * q + bs) d.size else mergePass lt bs d q
theorem size_mergeAll (lt : α → α → Bool) (bs : Nat) (d : Array α) : (mergeAll lt bs d).size = d.size := by
  unfold mergeAll
  simp only []
  split
  · rw [size_symMerge, size_mergePass]
  · exact size_mergePass _ _ _ _
def passes (lt : α → α → Bool) : Nat → Nat → Array α → Array α
  | 0, _, d => d
  | k + 1, bs, d => if bs < d.size then passes lt k (2 * bs) (mergeAll lt bs d) else d
def stableSort (lt : α → α → Bool) (d : Array α) : Array α :=
  passes lt d.size 20 (insertionSort lt (insBlocks lt d (d.size / 20)) (20 * (d.size / 20)) d.size)

section
variable {enc : α → Value} {w0 w : World} {blk off : Nat} {d0 d : Array α}

set_option maxHeartbeats 16000000 in
set_option maxRecDepth 1000000 in
theorem swapRange_calls (cap a b n : Nat) (fv : Value) (R : Row1 enc w0 blk off d0) (hs : d0.size = d.size) (S : SW enc w0 blk off d w) (ha : a + n ≤ d.size) (hb : b + n ≤ d.size) (hsz : d.size < 4611686018427387904) :
    Calls Tryd.prog 96 #[.slice (some ⟨blk, off, none⟩) d.size cap, .int .i64 a, .int .i64 b, .int .i64 n, fv] w fun e w' => e = .returned (.tuple #[]) ∧ SW enc w0 blk off (swapRange d a b n) w' := by
  have mixed : Tryd.prog.follows .mixedOrders = true := by kernel_rfl
  have hcl0 := R.hO.cells
  simp only [Value.cells] at hcl0
  have hst := R.hO.store Tryd.prog
  have S0 : Aside (SW enc w0 blk off (swapRange d a b 0) w) := S
  clear S
  go_enter Tryd.func96, Tryd.ntmps96
  go_wp2
  go_loopg [10] n (fun g1 vi wr => ∃ (i : Nat), vi = .int .i64 i ∧ i ≤ n ∧ n - i ≤ g1 ∧ Aside (SW enc w0 blk off (swapRange d a b i) wr))
  case atStart => exact ⟨0, rfl, Nat.zero_le _, Nat.le_refl _, S0⟩
  case round =>
    clear S0
    obtain ⟨i, rfl, hin, hg1, S1⟩ := hrel
    by_cases hlt : i < n
    · have hltz : (i : Int) < (n : Int) := by omega
      obtain ⟨dk, hdk⟩ : ∃ x, x = swapRange d a b i := ⟨_, rfl⟩
      have hsk : dk.size = d.size := by rw [hdk, size_swapRange]
      have S2 : Aside (SW enc w0 blk off dk wr) := by rw [hdk]; exact S1
      clear S1
      obtain ⟨iN, hiN⟩ : ∃ q, q = a + i := ⟨_, rfl⟩
      obtain ⟨jN, hjN⟩ : ∃ q, q = b + i := ⟨_, rfl⟩
      have ea : ((a : Int) + (i : Int)).toNat = iN := by omega
      have pa : (0 : Int) ≤ (a : Int) + (i : Int) := by omega
      have ba : (a : Int) + (i : Int) < (d.size : Int) := by omega
      have ra : IntKind.i64.wrap ((a : Int) + (i : Int)) = (a : Int) + (i : Int) := by rw [IntKind.wrap_i64]; omega
      have ec : ((b : Int) + (i : Int)).toNat = jN := by omega
      have pc : (0 : Int) ≤ (b : Int) + (i : Int) := by omega
      have bc : (b : Int) + (i : Int) < (d.size : Int) := by omega
      have rc : IntKind.i64.wrap ((b : Int) + (i : Int)) = (b : Int) + (i : Int) := by rw [IntKind.wrap_i64]; omega
      obtain ⟨x, hx⟩ : ∃ x, x = dk[a + i]! := ⟨_, rfl⟩
      obtain ⟨y, hy⟩ : ∃ x, x = dk[b + i]! := ⟨_, rfl⟩
      have S3 : Aside (SW enc w0 blk off (swp dk (a + i) (b + i)) ((wr.setCell ⟨blk, off + iN, none⟩ (enc y)).setCell ⟨blk, off + jN, none⟩ (enc x)).drew) := by rw [hiN, hjN, hx, hy]; exact S2.out.swapped R (a + i) (b + i) (by omega) (by omega)
      have c1a := S2.out.c1 R (by omega) (a + i) (by omega)
      have c1b := S2.out.c1 R (by omega) (b + i) (by omega)
      have f1a := S2.out.f1 R (by omega) (a + i) (by omega)
      have f1b := S2.out.f1 R (by omega) (b + i) (by omega)
      obtain ⟨u, c1c⟩ := S2.out.c2 R (by omega) (a + i) (b + i) (by omega) (by omega) (enc y)
      rw [← hjN, ← hiN] at c1c
      rw [← hx, ← hiN] at c1a
      rw [← hy, ← hjN] at c1b
      rw [← hiN] at f1a
      rw [← hjN] at f1b
      clear S2 hx hy hiN hjN
      go_wp2_with fail
      go_big_region_o
      clear c1a c1b c1c f1a f1b
      generalize ((wr.setCell ⟨blk, off + iN, none⟩ (enc y)).setCell ⟨blk, off + jN, none⟩ (enc x)).drew = w3 at S3 ⊢
      clear ea ec
      go_wp2
      go_roundg (n - (i + 1))
      case measure => omega
      case rel => exact ⟨i + 1, by go_num, by omega, by omega, by unfold swapRange; rw [← hdk]; exact S3⟩
    · have hltz : ¬ (i : Int) < (n : Int) := by omega
      obtain rfl : i = n := by omega
      go_wp2
      go_end0
      exact ⟨rfl, S1.out⟩
/-- The same, the numbers spelled as the walk has them. -/
theorem swapRange_calls' (cap a b n : Nat) {za zb zn : Int} (ea : za = a) (eb : zb = b) (en : zn = n) {N : Nat} (hN : N = d.size) (fv : Value) (R : Row1 enc w0 blk off d0) (hs : d0.size = d.size) (S : SW enc w0 blk off d w) (ha : a + n ≤ d.size) (hb : b + n ≤ d.size) (hsz : d.size < 4611686018427387904) :
    Calls Tryd.prog 96 #[.slice (some ⟨blk, off, none⟩) N cap, .int .i64 za, .int .i64 zb, .int .i64 zn, fv] w fun e w' => e = .returned (.tuple #[]) ∧ SW enc w0 blk off (swapRange d a b n) w' := by
  subst ea eb en hN
  exact swapRange_calls cap a b n fv R hs S ha hb hsz

set_option maxHeartbeats 16000000 in
set_option maxRecDepth 1000000 in
theorem rotate_calls (cap a m b : Nat) (fv : Value) (R : Row1 enc w0 blk off d0) (hs : d0.size = d.size) (S : SW enc w0 blk off d w) (ham : a < m) (hmb : m < b) (hbs : b ≤ d.size) (hsz : d.size < 4611686018427387904) :
    Calls Tryd.prog 87 #[.slice (some ⟨blk, off, none⟩) d.size cap, .int .i64 a, .int .i64 m, .int .i64 b, fv] w fun e w' => e = .returned (.tuple #[]) ∧ SW enc w0 blk off (rotate d a m b) w' := by
  have S0 : Aside (SW enc w0 blk off d w) := S
  clear S
  have R0 : Aside (Row1 enc w0 blk off d0) := R
  clear R
  have r1 : IntKind.i64.wrap ((m : Int) - (a : Int)) = (m : Int) - (a : Int) := by rw [IntKind.wrap_i64]; omega
  have r2 : IntKind.i64.wrap ((b : Int) - (m : Int)) = (b : Int) - (m : Int) := by rw [IntKind.wrap_i64]; omega
  go_enter Tryd.func87, Tryd.ntmps87
  go_wp2
  go_loopg [10, 11] (b - a) (fun k vi vj wr => ∃ (i j : Nat) (dk : Array α), vi = .int .i64 i ∧ vj = .int .i64 j ∧ 0 < i ∧ 0 < j ∧ i ≤ m - a ∧ j ≤ b - m ∧ i + j ≤ k ∧ dk.size = d.size ∧ Aside (SW enc w0 blk off dk wr) ∧ Hid (rotLoop m k i j dk = rotLoop m (b - a) (m - a) (b - m) d))
  case atStart => exact ⟨m - a, b - m, d, by go_num, by go_num, by omega, by omega, Nat.le_refl _, Nat.le_refl _, by omega, rfl, S0, rfl⟩
  case round =>
    clear S0
    obtain ⟨i, j, dk, rfl, rfl, hi0, hj0, him, hjb, hk, hsk, S1, HO⟩ := hrel
    obtain ⟨k1, rfl⟩ : ∃ k1, gk = k1 + 1 := ⟨gk - 1, by omega⟩
    have r3 : IntKind.i64.wrap ((m : Int) - (i : Int)) = (m : Int) - (i : Int) := by rw [IntKind.wrap_i64]; omega
    by_cases hij : i = j
    · subst hij
      have hne : ((i : Int) != (i : Int)) = false := by simp
      go_wp2_with fail
      refine (swapRange_calls' (d := dk) cap (m - i) m i (by omega) rfl rfl hsk.symm fv R0.out (by omega) S1.out (by omega) (by omega) (by omega)).mono ?_
      rintro e w2 ⟨rfl, S2⟩
      go_wp2
      go_end0
      refine ⟨rfl, ?_⟩
      unfold rotate
      rw [← HO.out]
      unfold rotLoop
      rw [if_pos rfl]
      exact S2
    · have hne : ((i : Int) != (j : Int)) = true := by simp; omega
      by_cases hlt : j < i
      · have hgt : decide ((i : Int) > (j : Int)) = true := decide_eq_true (by omega)
        have hgt' : (j : Int) < (i : Int) := by omega
        have r4 : IntKind.i64.wrap ((i : Int) - (j : Int)) = (i : Int) - (j : Int) := by rw [IntKind.wrap_i64]; omega
        go_wp2_with fail
        refine (swapRange_calls' (d := dk) cap (m - i) m j (by omega) rfl rfl hsk.symm fv R0.out (by omega) S1.out (by omega) (by omega) (by omega)).mono ?_
        rintro e w2 ⟨rfl, S2⟩
        have S3 : Aside (SW enc w0 blk off (swapRange dk (m - i) m j) w2) := S2
        clear S2 S1
        go_wp2
        go_roundg k1
        case measure => omega
        case rel => exact ⟨i - j, j, swapRange dk (m - i) m j, by go_num, rfl, by omega, hj0, by omega, hjb, by omega, by rw [size_swapRange]; exact hsk, S3, (show Hid _ from by rw [← HO.out, rotLoop_gt _ _ _ _ _ hij hlt]; exact rfl)⟩
      · have hgt : decide ((i : Int) > (j : Int)) = false := decide_eq_false (by omega)
        have hgt' : ¬ (j : Int) < (i : Int) := by omega
        have r4 : IntKind.i64.wrap ((j : Int) - (i : Int)) = (j : Int) - (i : Int) := by rw [IntKind.wrap_i64]; omega
        have r5 : IntKind.i64.wrap ((m : Int) + (j : Int)) = (m : Int) + (j : Int) := by rw [IntKind.wrap_i64]; omega
        have r6 : IntKind.i64.wrap ((m : Int) + (j : Int) - (i : Int)) = (m : Int) + (j : Int) - (i : Int) := by rw [IntKind.wrap_i64]; omega
        go_wp2_with fail
        refine (swapRange_calls' (d := dk) cap (m - i) (m + j - i) i (by omega) (by omega) rfl hsk.symm fv R0.out (by omega) S1.out (by omega) (by omega) (by omega)).mono ?_
        rintro e w2 ⟨rfl, S2⟩
        have S3 : Aside (SW enc w0 blk off (swapRange dk (m - i) (m + j - i) i) w2) := S2
        clear S2 S1
        go_wp2
        go_roundg k1
        case measure => omega
        case rel => exact ⟨i, j - i, swapRange dk (m - i) (m + j - i) i, rfl, by go_num, hi0, by omega, him, by omega, by omega, by rw [size_swapRange]; exact hsk, S3, (show Hid _ from by rw [← HO.out, rotLoop_lt _ _ _ _ _ hij hlt]; exact rfl)⟩
theorem rotate_calls' (cap a m b : Nat) {za zm zb : Int} (ea : za = a) (em : zm = m) (eb : zb = b) {N : Nat} (hN : N = d.size) (fv : Value) (R : Row1 enc w0 blk off d0) (hs : d0.size = d.size) (S : SW enc w0 blk off d w) (ham : a < m) (hmb : m < b) (hbs : b ≤ d.size) (hsz : d.size < 4611686018427387904) :
    Calls Tryd.prog 87 #[.slice (some ⟨blk, off, none⟩) N cap, .int .i64 za, .int .i64 zm, .int .i64 zb, fv] w fun e w' => e = .returned (.tuple #[]) ∧ SW enc w0 blk off (rotate d a m b) w' := by
  subst ea em eb hN
  exact rotate_calls cap a m b fv R hs S ham hmb hbs hsz

end
end Go.Proofs.YtkifafenmboefaaDoor.Sorts
namespace Go.Proofs.YtkifafenmboefaaDoor.Sorts
open Go.Shelf Go.RowKit Go.Lib Go.Sort Go.Proofs
set_option linter.unusedVariables false
set_option linter.unusedSimpArgs false
variable {α : Type} [Inhabited α] {enc : α → Value} {w0 w : World} {blk off : Nat} {d0 d : Array α}
theorem size_insInner (lt : α → α → Bool) (a : Nat) : ∀ j (d : Array α), (insInner lt a j d).size = d.size
  | 0, d => by rw [insInner_stop lt a 0 d (Or.inl (Nat.zero_le _))]
  | j + 1, d => by
    by_cases h : a < j + 1
    · cases hl : lt d[j + 1]! d[j + 1 - 1]! with
      | true => rw [insInner_go lt a (j + 1) d h hl]; exact (size_insInner lt a j _).trans (size_swp _ _ _)
      | false => rw [insInner_stop lt a (j + 1) d (Or.inr hl)]
    · rw [insInner_stop lt a (j + 1) d (Or.inl (by omega))]
theorem size_insOuter (lt : α → α → Bool) (a b : Nat) : ∀ (k i : Nat) (d : Array α), b - i ≤ k → (insOuter lt a b i d).size = d.size
  | 0, i, d, h => by rw [insOuter_stop lt a b i d (by omega)]
  | k + 1, i, d, h => by
    by_cases hi : i < b
    · rw [insOuter_go lt a b i d hi, size_insOuter lt a b k _ _ (by omega), size_insInner]
    · rw [insOuter_stop lt a b i d hi]
theorem size_insertionSort (lt : α → α → Bool) (d : Array α) (a b : Nat) : (insertionSort lt d a b).size = d.size := size_insOuter lt a b _ _ _ (Nat.le_refl _)

set_option maxHeartbeats 64000000 in
set_option maxRecDepth 1000000 in
theorem insertion_calls (cf : α → α → Int) (g : Nat) (cb : Array Value) (cap a b : Nat) (d : Array α) (w : World) (eg : ∀ args w, (callFunc g args).run Tryd.prog w = .ok (.enter g args) w) (hcmp : CmpBelow Tryd.prog g cb enc cf blk off d0.size w0) (R : Row1 enc w0 blk off d0) (hs : d0.size = d.size) (S : SW enc w0 blk off d w) (hab : a ≤ b) (hb : b ≤ d.size) (hsz : d.size < 4611686018427387904) (hz : w0.drawn = 0) :
    Calls Tryd.prog 79 #[.slice (some ⟨blk, off, none⟩) d.size cap, .int .i64 a, .int .i64 b, .func (.func g) #[] cb] w fun e w' => e = .returned (.tuple #[]) ∧ SW enc w0 blk off (insertionSort (ltOf cf) d a b) w' := by
  have mixed : Tryd.prog.follows .mixedOrders = true := by kernel_rfl
  have HC : Aside _ := hcmp
  clear hcmp
  have S0 : Aside (SW enc w0 blk off d w) := S
  clear S
  have hcl0 := R.hO.cells
  simp only [Value.cells] at hcl0
  have hst := R.hO.store Tryd.prog
  go_enter Tryd.func79, Tryd.ntmps79
  go_wp2
  go_loopg [8] (b - a) (fun k vi wr => ∃ (i : Nat) (dk : Array α), vi = .int .i64 i ∧ a < i ∧ i ≤ b + 1 ∧ b + 1 - i ≤ k + 1 ∧ dk.size = d.size ∧ Aside (SW enc w0 blk off dk wr) ∧ Hid (insOuter (ltOf cf) a b i dk = insOuter (ltOf cf) a b (a + 1) d))
  case atStart => exact ⟨a + 1, d, by go_num, by omega, by omega, by omega, rfl, S0, rfl⟩
  case round =>
    clear S0
    obtain ⟨i, dk, rfl, hai, hib, hk, hsk, S1, HO⟩ := hrel
    by_cases hlt : i < b
    · have hltz : (i : Int) < (b : Int) := by omega
      go_wp2
      go_loopg [9] i (fun q vj wr2 => ∃ (j : Nat) (dj : Array α), vj = .int .i64 j ∧ a ≤ j ∧ j ≤ i ∧ j ≤ q ∧ dj.size = d.size ∧ Aside (SW enc w0 blk off dj wr2) ∧ Hid (insInner (ltOf cf) a j dj = insInner (ltOf cf) a i dk))
      case atStart => exact ⟨i, dk, rfl, by omega, Nat.le_refl _, Nat.le_refl _, hsk, S1, rfl⟩
      case round =>
        clear S1
        obtain ⟨j, dj, rfl, haj, hji, hq, hsj, S1, HI⟩ := hrel
        have OUT : Aside ((j ≤ a ∨ (ltOf cf) dj[j]! dj[j - 1]! = false) → Hid (insOuter (ltOf cf) a b (i + 1) dj = insOuter (ltOf cf) a b (a + 1) d)) := fun hx => by
          show _ = _
          rw [← HO.out, insOuter_go _ _ _ _ _ hlt, ← HI.out, insInner_stop _ _ _ _ hx]
        by_cases hja : a < j
        · have hjaz : (a : Int) < (j : Int) := by omega
          have hjad : decide ((j : Int) > (a : Int)) = true := decide_eq_true (by omega)
          have hjn : decide (a < j) = true := decide_eq_true hja
          have ea : ((j : Int) - 1).toNat = j - 1 := by omega
          have pa : (1 : Int) ≤ (j : Int) := by omega
          have pa' : (0 : Int) ≤ (j : Int) - 1 := by omega
          have ba : (j : Int) - 1 < (d.size : Int) := by omega
          have ra : IntKind.i64.wrap ((j : Int) - 1) = (j : Int) - 1 := by rw [IntKind.wrap_i64]; omega
          have bb : (j : Int) < (d.size : Int) := by omega
          obtain ⟨x, hx⟩ : ∃ x, x = dj[j]! := ⟨_, rfl⟩
          obtain ⟨y, hy⟩ : ∃ x, x = dj[j - 1]! := ⟨_, rfl⟩
          have la := SW_clr S1.out R (by omega) j (by omega)
          have lb := SW_clr S1.out R (by omega) (j - 1) (by omega)
          rw [← hx] at la
          rw [← hy] at lb
          have hc := SW_cmpb S1.out HC.out hz (by omega) x y
          cases hlv : (ltOf cf) dj[j]! dj[j - 1]! with
          | true =>
            have hv : cf x y < 0 := by rw [hx, hy]; exact of_decide_eq_true hlv
            have hd : decide (cf x y < 0) = true := decide_eq_true hv
            have HX : Aside (x = dj[j]!) := hx
            have HY : Aside (y = dj[j - 1]!) := hy
            clear hx hy
            go_wp2_with fail
            refine wp_region_quiet_below (by assumption) (by kernel_rfl) ?_
            repeat (quiet_step (first | (go_at_fn g; refine Calls.regrown_of (hc _ _))))
            refine wpQuiet_nil ?_
            intro _ hw'
            obtain ⟨⟨nq, osq⟩, hw''⟩ := hw'
            subst hw''
            have S2 : Aside (SW enc w0 blk off dj (grow (redrawn wr nq) osq)) := SW_regrown hz S1.out nq osq
            clear la lb hc S1
            generalize grow (redrawn wr nq) osq = w2 at S2 ⊢
            clear nq osq
            have S3 : Aside (SW enc w0 blk off (swp dj j (j - 1)) ((w2.setCell ⟨blk, off + j, none⟩ (enc y)).setCell ⟨blk, off + (j - 1), none⟩ (enc x)).drew) := by rw [HX.out, HY.out]; exact S2.out.swapped R j (j - 1) (by omega) (by omega)
            have c1a := S2.out.c1 R (by omega) j (by omega)
            have c1b := S2.out.c1 R (by omega) (j - 1) (by omega)
            have f1a := S2.out.f1 R (by omega) j (by omega)
            have f1b := S2.out.f1 R (by omega) (j - 1) (by omega)
            obtain ⟨u, c1c⟩ := S2.out.c2 R (by omega) j (j - 1) (by omega) (by omega) (enc y)
            rw [← HX.out] at c1a
            rw [← HY.out] at c1b
            clear S2
            go_wp2_with fail
            go_big_region_o
            clear c1a c1b c1c f1a f1b
            generalize ((w2.setCell ⟨blk, off + j, none⟩ (enc y)).setCell ⟨blk, off + (j - 1), none⟩ (enc x)).drew = w3 at S3 ⊢
            clear ea
            go_wp2
            go_roundg (j - 1)
            case measure => omega
            case rel => exact ⟨j - 1, swp dj j (j - 1), by first | rfl | go_num | (congr 1; omega), by omega, by omega, Nat.le_refl _, by rw [size_swp]; exact hsj, S3, (show Hid _ from by rw [← HI.out, insInner_go (ltOf cf) a j dj hja hlv]; exact rfl)⟩
          | false =>
            have hv : ¬ cf x y < 0 := by rw [hx, hy]; exact of_decide_eq_false hlv
            have hd : decide (cf x y < 0) = false := decide_eq_false hv
            clear hx hy
            go_wp2_with fail
            refine wp_region_quiet_below (by assumption) (by kernel_rfl) ?_
            repeat (quiet_step (first | (go_at_fn g; refine Calls.regrown_of (hc _ _))))
            refine wpQuiet_nil ?_
            intro _ hw'
            obtain ⟨⟨nq, osq⟩, hw''⟩ := hw'
            subst hw''
            have S2 : Aside (SW enc w0 blk off dj (grow (redrawn wr nq) osq)) := SW_regrown hz S1.out nq osq
            clear la lb hc S1
            generalize grow (redrawn wr nq) osq = w2 at S2 ⊢
            clear nq osq
            go_wp2
            go_roundg (b - (i + 1))
            case measure => omega
            case rel => exact ⟨i + 1, dj, by go_num, by omega, by omega, by omega, hsj, S2, OUT.out (Or.inr hlv)⟩
        · have hjaz : ¬ (a : Int) < (j : Int) := by omega
          have hjaz' : decide ((j : Int) > (a : Int)) = false := decide_eq_false (by omega)
          go_wp2_with fail
          go_big_region_o
          have S2 : Aside (SW enc w0 blk off dj wr.drew) := S1.out.drew
          clear S1
          generalize wr.drew = w2 at S2 ⊢
          go_wp2
          go_roundg (b - (i + 1))
          case measure => omega
          case rel => exact ⟨i + 1, dj, by go_num, by omega, by omega, by omega, hsj, S2, OUT.out (Or.inl (by omega))⟩
    · have hltz : ¬ (i : Int) < (b : Int) := by omega
      go_wp2
      go_end0
      exact ⟨rfl, by unfold insertionSort; rw [← HO.out, insOuter_stop _ _ _ _ _ hlt]; exact S1.out⟩
end Go.Proofs.YtkifafenmboefaaDoor.Sorts
namespace Go.Proofs.YtkifafenmboefaaDoor.Sorts
open Go.Shelf Go.RowKit Go.Lib Go.Sort Go.Proofs
set_option linter.unusedVariables false
set_option linter.unusedSimpArgs false
variable {α : Type} [Inhabited α] {enc : α → Value} {w0 w : World} {blk off : Nat} {d0 d : Array α}

/-- What the recursion is told of itself at k rounds. -/
def SymOk (cf : α → α → Int) (g : Nat) (cb : Array Value) (cap : Nat) (enc : α → Value) (w0 : World) (blk off : Nat) (d0 : Array α) (k : Nat) : Prop :=
  ∀ (d : Array α) (w : World) (a m b : Nat), d0.size = d.size → SW enc w0 blk off d w → a < m → m < b → b ≤ d.size → b - a ≤ k →
    Calls Tryd.prog 80 #[.slice (some ⟨blk, off, none⟩) d.size cap, .int .i64 a, .int .i64 m, .int .i64 b, .func (.func g) #[] cb] w fun e w' => e = .returned (.tuple #[]) ∧ SW enc w0 blk off (symMerge (ltOf cf) k d a m b) w'
theorem SymOk.spelled {cf : α → α → Int} {g : Nat} {cb : Array Value} {cap k : Nat} (h : SymOk cf g cb cap enc w0 blk off d0 k) : ∀ (dk : Array α) (w : World) (a m b : Nat) {za zm zb : Int} {N : Nat}, za = a → zm = m → zb = b → N = dk.size → d0.size = dk.size → SW enc w0 blk off dk w → a < m → m < b → b ≤ dk.size → b - a ≤ k → Calls Tryd.prog 80 #[.slice (some ⟨blk, off, none⟩) N cap, .int .i64 za, .int .i64 zm, .int .i64 zb, .func (.func g) #[] cb] w fun e w' => e = .returned (.tuple #[]) ∧ SW enc w0 blk off (symMerge (ltOf cf) k dk a m b) w' := by
  intro dk w a m b za zm zb N ea em eb eN hs S h1 h2 h3 h4
  subst ea em eb eN
  exact h dk w a m b hs S h1 h2 h3 h4

set_option maxHeartbeats 64000000 in
set_option maxRecDepth 1000000 in
theorem symMerge_A (cf : α → α → Int) (g : Nat) (cb : Array Value) (cap : Nat) (eg : ∀ args w, (callFunc g args).run Tryd.prog w = .ok (.enter g args) w) (hcmp : CmpBelow Tryd.prog g cb enc cf blk off d0.size w0) (R : Row1 enc w0 blk off d0) (hsz : d0.size < 4611686018427387904) (hz : w0.drawn = 0)
    (k : Nat) (ih : SymOk cf g cb cap enc w0 blk off d0 k) (d : Array α) (w : World) (a m b : Nat) (hs : d0.size = d.size) (S : SW enc w0 blk off d w) (ham : a < m) (hmb : m < b) (hbs : b ≤ d.size) (hk : b - a ≤ k + 1) (h1 : m - a = 1) :
    Calls Tryd.prog 80 #[.slice (some ⟨blk, off, none⟩) d.size cap, .int .i64 a, .int .i64 m, .int .i64 b, .func (.func g) #[] cb] w fun e w' => e = .returned (.tuple #[]) ∧ SW enc w0 blk off (symMerge (ltOf cf) (k + 1) d a m b) w' := by
  have mixed : Tryd.prog.follows .mixedOrders = true := by kernel_rfl
  have IH : Aside _ := ih
  clear ih
  have HC : Aside _ := hcmp
  clear hcmp
  have S0 : Aside (SW enc w0 blk off d w) := S
  clear S
  have hcl0 := R.hO.cells
  simp only [Value.cells] at hcl0
  have hst := R.hO.store Tryd.prog
  have r1 : IntKind.i64.wrap ((m : Int) - (a : Int)) = (m : Int) - (a : Int) := by rw [IntKind.wrap_i64]; omega
  have r2 : IntKind.i64.wrap ((b : Int) - (m : Int)) = (b : Int) - (m : Int) := by rw [IntKind.wrap_i64]; omega
  have e1 : ((m : Int) - (a : Int) == 1) = true := by simp; omega
  have e1' : (m : Int) - (a : Int) = 1 := by omega
  go_enter Tryd.func80, Tryd.ntmps80
  go_wp2
  go_loopg [10, 11] (b - m) (fun q vi vj wr => ∃ (i j : Nat), vi = .int .i64 i ∧ vj = .int .i64 j ∧ m ≤ i ∧ i ≤ j ∧ j ≤ b ∧ j - i ≤ q ∧ Aside (SW enc w0 blk off d wr) ∧ Hid (bsearch (fun h => ltOf cf d[h]! d[a]!) (b - m) i j = bsearch (fun h => ltOf cf d[h]! d[a]!) (b - m) m b))
  case atStart => exact ⟨m, b, rfl, rfl, Nat.le_refl _, by omega, Nat.le_refl _, Nat.le_refl _, S0, rfl⟩
  case round =>
    clear S0
    obtain ⟨i, j, rfl, rfl, him, hij, hjb, hq, S1, HO⟩ := hrel
    by_cases hlt : i < j
    · have hltz : (i : Int) < (j : Int) := by omega
      obtain ⟨q, rfl⟩ : ∃ q, gk = q + 1 := ⟨gk - 1, by omega⟩
      have r3 : IntKind.i64.wrap ((i : Int) + (j : Int)) = (i : Int) + (j : Int) := by rw [IntKind.wrap_i64]; omega
      have ea : (((i : Int) + (j : Int)) / 2).toNat = (i + j) / 2 := by omega
      have pa : (0 : Int) ≤ ((i : Int) + (j : Int)) / 2 := by omega
      have ba : ((i : Int) + (j : Int)) / 2 < (d.size : Int) := by omega
      have bb : (a : Int) < (d.size : Int) := by omega
      obtain ⟨x, hx⟩ : ∃ x, x = d[(i + j) / 2]! := ⟨_, rfl⟩
      obtain ⟨y, hy⟩ : ∃ x, x = d[a]! := ⟨_, rfl⟩
      have la := SW_clr S1.out R (by omega) ((i + j) / 2) (by omega)
      have lb := SW_clr S1.out R (by omega) a (by omega)
      rw [← hx] at la
      rw [← hy] at lb
      have hc := SW_cmpb S1.out HC.out hz (by omega) x y
      cases hlv : ltOf cf d[(i + j) / 2]! d[a]! with
      | true =>
        have hv : cf x y < 0 := by rw [hx, hy]; exact of_decide_eq_true hlv
        have hd : decide (cf x y < 0) = true := decide_eq_true hv
        clear hx hy
        go_wp2_with fail
        refine wp_region_quiet_below (by assumption) (by kernel_rfl) ?_
        repeat (quiet_step (first | (go_at_fn g; refine Calls.regrown_of (hc _ _))))
        refine wpQuiet_nil ?_
        intro _ hw'
        obtain ⟨⟨nq, osq⟩, hw''⟩ := hw'
        subst hw''
        have S2 : Aside (SW enc w0 blk off d (grow (redrawn wr nq) osq)) := SW_regrown hz S1.out nq osq
        clear la lb hc S1
        generalize grow (redrawn wr nq) osq = w2 at S2 ⊢
        clear nq osq
        have r4 : IntKind.i64.wrap (((i : Int) + (j : Int)) / 2 + 1) = ((i : Int) + (j : Int)) / 2 + 1 := by rw [IntKind.wrap_i64]; omega
        go_wp2
        go_roundg q
        case measure => omega
        case rel => exact ⟨(i + j) / 2 + 1, j, by go_num, rfl, by omega, by omega, hjb, by omega, S2, (show Hid _ from by rw [← HO.out, bsearch_up (fun h => ltOf cf d[h]! d[a]!) (b - m) i j (by omega) hlt hlv]; exact rfl)⟩
      | false =>
        have hv : ¬ cf x y < 0 := by rw [hx, hy]; exact of_decide_eq_false hlv
        have hd : decide (cf x y < 0) = false := decide_eq_false hv
        clear hx hy
        go_wp2_with fail
        refine wp_region_quiet_below (by assumption) (by kernel_rfl) ?_
        repeat (quiet_step (first | (go_at_fn g; refine Calls.regrown_of (hc _ _))))
        refine wpQuiet_nil ?_
        intro _ hw'
        obtain ⟨⟨nq, osq⟩, hw''⟩ := hw'
        subst hw''
        have S2 : Aside (SW enc w0 blk off d (grow (redrawn wr nq) osq)) := SW_regrown hz S1.out nq osq
        clear la lb hc S1
        generalize grow (redrawn wr nq) osq = w2 at S2 ⊢
        clear nq osq
        go_wp2
        go_roundg q
        case measure => omega
        case rel => exact ⟨i, (i + j) / 2, rfl, by go_num, him, by omega, by omega, by omega, S2, (show Hid _ from by rw [← HO.out, bsearch_down (fun h => ltOf cf d[h]! d[a]!) (b - m) i j (by omega) hlt hlv]; exact rfl)⟩
    · have hltz : ¬ (i : Int) < (j : Int) := by omega
      obtain rfl : i = j := by omega
      have hI : Hid (i = bsearch (fun h => ltOf cf d[h]! d[a]!) (b - m) m b) := by
        show _ = _
        rw [← HO.out, bsearch_stop _ _ _ _ hlt]
      clear HO hij hq
      have r5 : IntKind.i64.wrap ((i : Int) - 1) = (i : Int) - 1 := by rw [IntKind.wrap_i64]; omega
      go_wp2
      go_loopg [13] (i - 1 - a) (fun q vk wr => ∃ (t : Nat), vk = .int .i64 (a + t : Nat) ∧ a + t ≤ i - 1 ∧ i - 1 - a - t ≤ q ∧ Aside (SW enc w0 blk off (bubbleUp d a t) wr))
      case atStart => exact ⟨0, by rw [Nat.add_zero], by omega, by omega, S1⟩
      case round =>
        clear S1
        obtain ⟨t, rfl, hti, hq, S1⟩ := hrel
        obtain ⟨K, hK⟩ : ∃ K, K = a + t := ⟨_, rfl⟩
        rw [← hK] at hti ⊢
        have HK : Aside (K = a + t) := hK
        have eK : i - 1 - a - (t + 1) < i - 1 - a - t ∨ ¬ K < i - 1 := by omega
        by_cases hlt : K < i - 1
        · have hltz : (K : Int) < (i : Int) - 1 := by omega
          obtain ⟨dk, hdk⟩ : ∃ x, x = bubbleUp d a t := ⟨_, rfl⟩
          have hsk : dk.size = d.size := by rw [hdk, size_bubbleUp]
          have S2 : Aside (SW enc w0 blk off dk wr) := by rw [hdk]; exact S1
          clear S1
          have ea : ((K : Int) + 1).toNat = K + 1 := by omega
          have pa : (0 : Int) ≤ (K : Int) + 1 := by omega
          have ba : (K : Int) + 1 < (d.size : Int) := by omega
          have ra : IntKind.i64.wrap ((K : Int) + 1) = (K : Int) + 1 := by rw [IntKind.wrap_i64]; omega
          have bb : (K : Int) < (d.size : Int) := by omega
          obtain ⟨x, hx⟩ : ∃ x, x = dk[K]! := ⟨_, rfl⟩
          obtain ⟨y, hy⟩ : ∃ x, x = dk[K + 1]! := ⟨_, rfl⟩
          have S3 : Aside (SW enc w0 blk off (swp dk K (K + 1)) ((wr.setCell ⟨blk, off + K, none⟩ (enc y)).setCell ⟨blk, off + (K + 1), none⟩ (enc x)).drew) := by rw [hx, hy]; exact S2.out.swapped R K (K + 1) (by omega) (by omega)
          have c1a := S2.out.c1 R (by omega) K (by omega)
          have c1b := S2.out.c1 R (by omega) (K + 1) (by omega)
          have f1a := S2.out.f1 R (by omega) K (by omega)
          have f1b := S2.out.f1 R (by omega) (K + 1) (by omega)
          obtain ⟨u, c1c⟩ := S2.out.c2 R (by omega) K (K + 1) (by omega) (by omega) (enc y)
          rw [← hx] at c1a
          rw [← hy] at c1b
          clear S2 hx hy hK
          go_wp2_with fail
          go_big_region_o
          clear c1a c1b c1c f1a f1b
          have hK := HK.out
          generalize ((wr.setCell ⟨blk, off + K, none⟩ (enc y)).setCell ⟨blk, off + (K + 1), none⟩ (enc x)).drew = w3 at S3 ⊢
          go_wp2
          go_roundg (i - 1 - a - (t + 1))
          case measure => omega
          case rel => exact ⟨t + 1, by rw [show a + (t + 1) = K + 1 by omega]; go_num, by omega, Nat.le_refl _, by unfold bubbleUp; rw [← hdk, ← hK]; exact S3⟩
        · have hltz : ¬ (K : Int) < (i : Int) - 1 := by omega
          have et : t = i - 1 - a := by omega
          clear hK
          go_wp2
          (try simp only [Exit.inBlock, Exit.then])
          refine bodyPost_ret (results_none rfl _ _ _) rfl ?_
          refine ⟨rfl, ?_⟩
          unfold symMerge
          rw [if_pos h1, ← hI.out, ← et]
          exact S1.out

set_option maxHeartbeats 64000000 in
set_option maxRecDepth 1000000 in
theorem symMerge_B (cf : α → α → Int) (g : Nat) (cb : Array Value) (cap : Nat) (eg : ∀ args w, (callFunc g args).run Tryd.prog w = .ok (.enter g args) w) (hcmp : CmpBelow Tryd.prog g cb enc cf blk off d0.size w0) (R : Row1 enc w0 blk off d0) (hsz : d0.size < 4611686018427387904) (hz : w0.drawn = 0)
    (k : Nat) (ih : SymOk cf g cb cap enc w0 blk off d0 k) (d : Array α) (w : World) (a m b : Nat) (hs : d0.size = d.size) (S : SW enc w0 blk off d w) (ham : a < m) (hmb : m < b) (hbs : b ≤ d.size) (hk : b - a ≤ k + 1) (h1 : ¬ m - a = 1) (h2 : b - m = 1) :
    Calls Tryd.prog 80 #[.slice (some ⟨blk, off, none⟩) d.size cap, .int .i64 a, .int .i64 m, .int .i64 b, .func (.func g) #[] cb] w fun e w' => e = .returned (.tuple #[]) ∧ SW enc w0 blk off (symMerge (ltOf cf) (k + 1) d a m b) w' := by
  have mixed : Tryd.prog.follows .mixedOrders = true := by kernel_rfl
  have IH : Aside _ := ih
  clear ih
  have HC : Aside _ := hcmp
  clear hcmp
  have S0 : Aside (SW enc w0 blk off d w) := S
  clear S
  have hcl0 := R.hO.cells
  simp only [Value.cells] at hcl0
  have hst := R.hO.store Tryd.prog
  have r1 : IntKind.i64.wrap ((m : Int) - (a : Int)) = (m : Int) - (a : Int) := by rw [IntKind.wrap_i64]; omega
  have r2 : IntKind.i64.wrap ((b : Int) - (m : Int)) = (b : Int) - (m : Int) := by rw [IntKind.wrap_i64]; omega

  have e1 : ((m : Int) - (a : Int) == 1) = false := by simp; omega
  have e1' : ¬ (m : Int) - (a : Int) = 1 := by omega

  have e2 : ((b : Int) - (m : Int) == 1) = true := by simp; omega
  have e2' : (b : Int) - (m : Int) = 1 := by omega
  go_enter Tryd.func80, Tryd.ntmps80
  go_wp2

  go_loopg [14, 15] (m - a) (fun q vi vj wr => ∃ (i j : Nat), vi = .int .i64 i ∧ vj = .int .i64 j ∧ a ≤ i ∧ i ≤ j ∧ j ≤ m ∧ j - i ≤ q ∧ Aside (SW enc w0 blk off d wr) ∧ Hid (bsearch (fun h => !ltOf cf d[m]! d[h]!) (m - a) i j = bsearch (fun h => !ltOf cf d[m]! d[h]!) (m - a) (a) (m)))
  case atStart => exact ⟨a, m, by first | rfl | go_num, by first | rfl | go_num, Nat.le_refl _, by omega, Nat.le_refl _, by omega, S0, rfl⟩
  case round =>
    clear S0
    obtain ⟨i, j, rfl, rfl, him, hij, hjb, hq, S1, HO⟩ := hrel
    by_cases hlt : i < j
    · have hltz : (i : Int) < (j : Int) := by omega
      obtain ⟨q, rfl⟩ : ∃ q, gk = q + 1 := ⟨gk - 1, by omega⟩
      have r3 : IntKind.i64.wrap ((i : Int) + (j : Int)) = (i : Int) + (j : Int) := by rw [IntKind.wrap_i64]; omega
      have ea : (((i : Int) + (j : Int)) / 2).toNat = (i + j) / 2 := by omega
      have pa : (0 : Int) ≤ ((i : Int) + (j : Int)) / 2 := by omega
      have ba : ((i : Int) + (j : Int)) / 2 < (d.size : Int) := by omega
      have bb : (m : Int) < (d.size : Int) := by omega
      obtain ⟨x, hx⟩ : ∃ x, x = d[m]! := ⟨_, rfl⟩
      obtain ⟨y, hy⟩ : ∃ x, x = d[(i + j) / 2]! := ⟨_, rfl⟩
      have la := SW_clr S1.out R (by omega) (m) (by omega)
      have lb := SW_clr S1.out R (by omega) ((i + j) / 2) (by omega)
      rw [← hx] at la
      rw [← hy] at lb
      have hc := SW_cmpb S1.out HC.out hz (by omega) x y
      cases hlv : (fun h => !ltOf cf d[m]! d[h]!) ((i + j) / 2) with
      | true =>
        have hlv' : ltOf cf d[m]! d[(i + j) / 2]! = false := by simpa using hlv
        have hv : ¬ cf x y < 0 := by rw [hx, hy]; exact of_decide_eq_false hlv'
        have hd : decide (cf x y < 0) = false := decide_eq_false hv
        clear hx hy
        go_wp2_with fail
        refine wp_region_quiet_below (by assumption) (by kernel_rfl) ?_
        repeat (quiet_step (first | (go_at_fn g; refine Calls.regrown_of (hc _ _))))
        refine wpQuiet_nil ?_
        intro _ hw'
        obtain ⟨⟨nq, osq⟩, hw''⟩ := hw'
        subst hw''
        have S2 : Aside (SW enc w0 blk off d (grow (redrawn wr nq) osq)) := SW_regrown hz S1.out nq osq
        clear la lb hc S1
        generalize grow (redrawn wr nq) osq = w2 at S2 ⊢
        clear nq osq
        have r4 : IntKind.i64.wrap (((i : Int) + (j : Int)) / 2 + 1) = ((i : Int) + (j : Int)) / 2 + 1 := by rw [IntKind.wrap_i64]; omega
        go_wp2
        go_roundg q
        case measure => omega
        case rel => exact ⟨(i + j) / 2 + 1, j, by go_num, rfl, by omega, by omega, hjb, by omega, S2, (show Hid _ from by rw [← HO.out, bsearch_up (fun h => !ltOf cf d[m]! d[h]!) (m - a) i j (by omega) hlt hlv]; exact rfl)⟩
      | false =>
        have hlv' : ltOf cf d[m]! d[(i + j) / 2]! = true := by simpa using hlv
        have hv : cf x y < 0 := by rw [hx, hy]; exact of_decide_eq_true hlv'
        have hd : decide (cf x y < 0) = true := decide_eq_true hv
        clear hx hy
        go_wp2_with fail
        refine wp_region_quiet_below (by assumption) (by kernel_rfl) ?_
        repeat (quiet_step (first | (go_at_fn g; refine Calls.regrown_of (hc _ _))))
        refine wpQuiet_nil ?_
        intro _ hw'
        obtain ⟨⟨nq, osq⟩, hw''⟩ := hw'
        subst hw''
        have S2 : Aside (SW enc w0 blk off d (grow (redrawn wr nq) osq)) := SW_regrown hz S1.out nq osq
        clear la lb hc S1
        generalize grow (redrawn wr nq) osq = w2 at S2 ⊢
        clear nq osq
        have r4 : IntKind.i64.wrap (((i : Int) + (j : Int)) / 2 + 1) = ((i : Int) + (j : Int)) / 2 + 1 := by rw [IntKind.wrap_i64]; omega
        go_wp2
        go_roundg q
        case measure => omega
        case rel => exact ⟨i, (i + j) / 2, rfl, by go_num, him, by omega, by omega, by omega, S2, (show Hid _ from by rw [← HO.out, bsearch_down (fun h => !ltOf cf d[m]! d[h]!) (m - a) i j (by omega) hlt hlv]; exact rfl)⟩

    · have hltz : ¬ (i : Int) < (j : Int) := by omega
      obtain rfl : i = j := by omega
      have hI : Hid (i = bsearch (fun h => !ltOf cf d[m]! d[h]!) (m - a) a m) := by
        show _ = _
        rw [← HO.out, bsearch_stop _ _ _ _ hlt]
      clear HO hij hq
      go_wp2
      go_loopg [17] (m - i) (fun q vk wr => ∃ (t K : Nat), vk = .int .i64 K ∧ K = m - t ∧ t ≤ m - i ∧ m - i - t ≤ q ∧ Aside (SW enc w0 blk off (bubbleDown d m t) wr))
      case atStart => exact ⟨0, m, rfl, rfl, Nat.zero_le _, Nat.le_refl _, S1⟩
      case round =>
        clear S1
        obtain ⟨t, K, rfl, hK, hti, hq, S1⟩ := hrel
        have HK : Aside (K = m - t) := hK
        by_cases hlt : i < K
        · have hltz : (i : Int) < (K : Int) := by omega
          obtain ⟨dk, hdk⟩ : ∃ x, x = bubbleDown d m t := ⟨_, rfl⟩
          have hsk : dk.size = d.size := by rw [hdk, size_bubbleDown]
          have S2 : Aside (SW enc w0 blk off dk wr) := by rw [hdk]; exact S1
          clear S1
          have ea : ((K : Int) - 1).toNat = K - 1 := by omega
          have pa : (0 : Int) ≤ (K : Int) - 1 := by omega
          have ba : (K : Int) - 1 < (d.size : Int) := by omega
          have ra : IntKind.i64.wrap ((K : Int) - 1) = (K : Int) - 1 := by rw [IntKind.wrap_i64]; omega
          have bb : (K : Int) < (d.size : Int) := by omega
          obtain ⟨x, hx⟩ : ∃ x, x = dk[K]! := ⟨_, rfl⟩
          obtain ⟨y, hy⟩ : ∃ x, x = dk[K - 1]! := ⟨_, rfl⟩
          have S3 : Aside (SW enc w0 blk off (swp dk K (K - 1)) ((wr.setCell ⟨blk, off + K, none⟩ (enc y)).setCell ⟨blk, off + (K - 1), none⟩ (enc x)).drew) := by rw [hx, hy]; exact S2.out.swapped R K (K - 1) (by omega) (by omega)
          have c1a := S2.out.c1 R (by omega) K (by omega)
          have c1b := S2.out.c1 R (by omega) (K - 1) (by omega)
          have f1a := S2.out.f1 R (by omega) K (by omega)
          have f1b := S2.out.f1 R (by omega) (K - 1) (by omega)
          obtain ⟨u, c1c⟩ := S2.out.c2 R (by omega) K (K - 1) (by omega) (by omega) (enc y)
          rw [← hx] at c1a
          rw [← hy] at c1b
          clear S2 hx hy hK
          go_wp2_with fail
          go_big_region_o
          clear c1a c1b c1c f1a f1b
          have hK := HK.out
          generalize ((wr.setCell ⟨blk, off + K, none⟩ (enc y)).setCell ⟨blk, off + (K - 1), none⟩ (enc x)).drew = w3 at S3 ⊢
          clear ea
          go_wp2
          go_roundg (m - i - (t + 1))
          case measure => omega
          case rel => exact ⟨t + 1, K - 1, by go_num, by omega, by omega, Nat.le_refl _, by unfold bubbleDown; rw [← hdk, ← hK]; exact S3⟩
        · have hltz : ¬ (i : Int) < (K : Int) := by omega
          have et : t = m - i := by omega
          clear hK
          go_wp2
          (try simp only [Exit.inBlock, Exit.then])
          refine bodyPost_ret (results_none rfl _ _ _) rfl ?_
          refine ⟨rfl, ?_⟩
          unfold symMerge
          rw [if_neg h1, if_pos h2, ← hI.out, ← et]
          exact S1.out
end Go.Proofs.YtkifafenmboefaaDoor.Sorts
namespace Go.Proofs.YtkifafenmboefaaDoor.Sorts
open Go.Shelf Go.RowKit Go.Lib Go.Sort Go.Proofs
set_option linter.unusedVariables false
set_option linter.unusedSimpArgs false
variable {α : Type} [Inhabited α] {enc : α → Value} {w0 w : World} {blk off : Nat} {d0 d : Array α}

set_option maxHeartbeats 64000000 in
set_option maxRecDepth 1000000 in
theorem symMerge_CI (cf : α → α → Int) (g : Nat) (cb : Array Value) (cap : Nat) (eg : ∀ args w, (callFunc g args).run Tryd.prog w = .ok (.enter g args) w) (hcmp : CmpBelow Tryd.prog g cb enc cf blk off d0.size w0) (R : Row1 enc w0 blk off d0) (hsz : d0.size < 4611686018427387904) (hz : w0.drawn = 0)
    (k : Nat) (ih : SymOk cf g cb cap enc w0 blk off d0 k) (d : Array α) (w : World) (a m b : Nat) (hs : d0.size = d.size) (S : SW enc w0 blk off d w) (ham : a < m) (hmb : m < b) (hbs : b ≤ d.size) (hk : b - a ≤ k + 1) (h1 : ¬ m - a = 1) (h2 : ¬ b - m = 1) (hcs : (a + b) / 2 < m) :
    Calls Tryd.prog 80 #[.slice (some ⟨blk, off, none⟩) d.size cap, .int .i64 a, .int .i64 m, .int .i64 b, .func (.func g) #[] cb] w fun e w' => e = .returned (.tuple #[]) ∧ SW enc w0 blk off (symMerge (ltOf cf) (k + 1) d a m b) w' := by
  have mixed : Tryd.prog.follows .mixedOrders = true := by kernel_rfl
  have IH : Aside _ := ih
  clear ih
  have HC : Aside _ := hcmp
  clear hcmp
  have S0 : Aside (SW enc w0 blk off d w) := S
  clear S
  have hcl0 := R.hO.cells
  simp only [Value.cells] at hcl0
  have hst := R.hO.store Tryd.prog
  have r1 : IntKind.i64.wrap ((m : Int) - (a : Int)) = (m : Int) - (a : Int) := by rw [IntKind.wrap_i64]; omega
  have r2 : IntKind.i64.wrap ((b : Int) - (m : Int)) = (b : Int) - (m : Int) := by rw [IntKind.wrap_i64]; omega

  have e1 : ((m : Int) - (a : Int) == 1) = false := by simp; omega
  have e1' : ¬ (m : Int) - (a : Int) = 1 := by omega
  have e2 : ((b : Int) - (m : Int) == 1) = false := by simp; omega
  have e2' : ¬ (b : Int) - (m : Int) = 1 := by omega
  have r3 : IntKind.i64.wrap ((a : Int) + (b : Int)) = (a : Int) + (b : Int) := by rw [IntKind.wrap_i64]; omega
  have r4 : IntKind.i64.wrap (((a : Int) + (b : Int)) / 2 + (m : Int)) = ((a : Int) + (b : Int)) / 2 + (m : Int) := by rw [IntKind.wrap_i64]; omega
  have r5 : IntKind.i64.wrap (((a : Int) + (b : Int)) / 2 + (m : Int) - 1) = ((a : Int) + (b : Int)) / 2 + (m : Int) - 1 := by rw [IntKind.wrap_i64]; omega
  have IHA : Aside _ := (SymOk.spelled IH.out)
  clear IH

  have hgt : (((a : Int) + (b : Int)) / 2 < (m : Int)) := by omega
  have r8 : IntKind.i64.wrap (((a : Int) + (b : Int)) / 2 + (m : Int) - (b : Int)) = ((a : Int) + (b : Int)) / 2 + (m : Int) - (b : Int) := by rw [IntKind.wrap_i64]; omega
  go_enter Tryd.func80, Tryd.ntmps80
  go_wp2

  go_loopg [20, 21] (b - a) (fun q vi vj wr => ∃ (i j : Nat), vi = .int .i64 i ∧ vj = .int .i64 j ∧ (a + b) / 2 + m - b ≤ i ∧ i ≤ j ∧ j ≤ (a + b) / 2 ∧ j - i ≤ q ∧ Aside (SW enc w0 blk off d wr) ∧ Hid (bsearch (fun c => !ltOf cf d[(a + b) / 2 + m - 1 - c]! d[c]!) (b - a) i j = bsearch (fun c => !ltOf cf d[(a + b) / 2 + m - 1 - c]! d[c]!) (b - a) ((a + b) / 2 + m - b) ((a + b) / 2)))
  case atStart => exact ⟨(a + b) / 2 + m - b, (a + b) / 2, by first | rfl | go_num, by first | rfl | go_num, Nat.le_refl _, by omega, Nat.le_refl _, by omega, S0, rfl⟩
  case round =>
    clear S0
    obtain ⟨i, j, rfl, rfl, him, hij, hjb, hq, S1, HO⟩ := hrel
    by_cases hlt : i < j
    · have hltz : (i : Int) < (j : Int) := by omega
      obtain ⟨q, rfl⟩ : ∃ q, gk = q + 1 := ⟨gk - 1, by omega⟩
      have r3 : IntKind.i64.wrap ((i : Int) + (j : Int)) = (i : Int) + (j : Int) := by rw [IntKind.wrap_i64]; omega
      have ea : (((i : Int) + (j : Int)) / 2).toNat = (i + j) / 2 := by omega
      have pa : (0 : Int) ≤ ((i : Int) + (j : Int)) / 2 := by omega
      have ba : ((i : Int) + (j : Int)) / 2 < (d.size : Int) := by omega
      have bb0 : ((a : Int) + (b : Int)) / 2 + (m : Int) - 1 - ((i : Int) + (j : Int)) / 2 < (d.size : Int) := by omega
      have bb1 : (0 : Int) ≤ ((a : Int) + (b : Int)) / 2 + (m : Int) - 1 - ((i : Int) + (j : Int)) / 2 := by omega
      have bb2 : (((a : Int) + (b : Int)) / 2 + (m : Int) - 1 - ((i : Int) + (j : Int)) / 2).toNat = (a + b) / 2 + m - 1 - (i + j) / 2 := by omega
      have bb3 : IntKind.i64.wrap (((a : Int) + (b : Int)) / 2 + (m : Int) - 1 - ((i : Int) + (j : Int)) / 2) = ((a : Int) + (b : Int)) / 2 + (m : Int) - 1 - ((i : Int) + (j : Int)) / 2 := by rw [IntKind.wrap_i64]; omega
      have bb4 : ((i : Int) + (j : Int)) / 2 ≤ ((a : Int) + (b : Int)) / 2 + (m : Int) - 1 := by omega
      obtain ⟨x, hx⟩ : ∃ x, x = d[(a + b) / 2 + m - 1 - (i + j) / 2]! := ⟨_, rfl⟩
      obtain ⟨y, hy⟩ : ∃ x, x = d[(i + j) / 2]! := ⟨_, rfl⟩
      have la := SW_clr S1.out R (by omega) ((a + b) / 2 + m - 1 - (i + j) / 2) (by omega)
      have lb := SW_clr S1.out R (by omega) ((i + j) / 2) (by omega)
      rw [← hx] at la
      rw [← hy] at lb
      have hc := SW_cmpb S1.out HC.out hz (by omega) x y
      cases hlv : (fun c => !ltOf cf d[(a + b) / 2 + m - 1 - c]! d[c]!) ((i + j) / 2) with
      | true =>
        have hlv' : ltOf cf d[(a + b) / 2 + m - 1 - (i + j) / 2]! d[(i + j) / 2]! = false := by simpa using hlv
        have hv : ¬ cf x y < 0 := by rw [hx, hy]; exact of_decide_eq_false hlv'
        have hd : decide (cf x y < 0) = false := decide_eq_false hv
        clear hx hy
        go_wp2_with fail
        refine wp_region_quiet_below (by assumption) (by kernel_rfl) ?_
        repeat (quiet_step (first | (go_at_fn g; refine Calls.regrown_of (hc _ _))))
        refine wpQuiet_nil ?_
        intro _ hw'
        obtain ⟨⟨nq, osq⟩, hw''⟩ := hw'
        subst hw''
        have S2 : Aside (SW enc w0 blk off d (grow (redrawn wr nq) osq)) := SW_regrown hz S1.out nq osq
        clear la lb hc S1
        generalize grow (redrawn wr nq) osq = w2 at S2 ⊢
        clear nq osq
        have r4 : IntKind.i64.wrap (((i : Int) + (j : Int)) / 2 + 1) = ((i : Int) + (j : Int)) / 2 + 1 := by rw [IntKind.wrap_i64]; omega
        go_wp2
        go_roundg q
        case measure => omega
        case rel => exact ⟨(i + j) / 2 + 1, j, by go_num, rfl, by omega, by omega, hjb, by omega, S2, (show Hid _ from by rw [← HO.out, bsearch_up (fun c => !ltOf cf d[(a + b) / 2 + m - 1 - c]! d[c]!) (b - a) i j (by omega) hlt hlv]; exact rfl)⟩
      | false =>
        have hlv' : ltOf cf d[(a + b) / 2 + m - 1 - (i + j) / 2]! d[(i + j) / 2]! = true := by simpa using hlv
        have hv : cf x y < 0 := by rw [hx, hy]; exact of_decide_eq_true hlv'
        have hd : decide (cf x y < 0) = true := decide_eq_true hv
        clear hx hy
        go_wp2_with fail
        refine wp_region_quiet_below (by assumption) (by kernel_rfl) ?_
        repeat (quiet_step (first | (go_at_fn g; refine Calls.regrown_of (hc _ _))))
        refine wpQuiet_nil ?_
        intro _ hw'
        obtain ⟨⟨nq, osq⟩, hw''⟩ := hw'
        subst hw''
        have S2 : Aside (SW enc w0 blk off d (grow (redrawn wr nq) osq)) := SW_regrown hz S1.out nq osq
        clear la lb hc S1
        generalize grow (redrawn wr nq) osq = w2 at S2 ⊢
        clear nq osq
        have r4 : IntKind.i64.wrap (((i : Int) + (j : Int)) / 2 + 1) = ((i : Int) + (j : Int)) / 2 + 1 := by rw [IntKind.wrap_i64]; omega
        go_wp2
        go_roundg q
        case measure => omega
        case rel => exact ⟨i, (i + j) / 2, rfl, by go_num, him, by omega, by omega, by omega, S2, (show Hid _ from by rw [← HO.out, bsearch_down (fun c => !ltOf cf d[(a + b) / 2 + m - 1 - c]! d[c]!) (b - a) i j (by omega) hlt hlv]; exact rfl)⟩

    · have hltz : ¬ (i : Int) < (j : Int) := by omega
      obtain rfl : i = j := by omega
      have hI : Hid (symStart (ltOf cf) d a m b = i) := by
        show _ = _
        unfold symStart
        rw [if_pos hcs, ← HO.out, bsearch_stop _ _ _ _ hlt]
      clear HO hij hq
      have r9 : IntKind.i64.wrap (((a : Int) + (b : Int)) / 2 + (m : Int) - (i : Int)) = ((a : Int) + (b : Int)) / 2 + (m : Int) - (i : Int) := by rw [IntKind.wrap_i64]; omega
      by_cases q1 : i < (a + b) / 2
      · by_cases q2 : a < i
        · by_cases q3 : (a + b) / 2 + m - i < b
          · have g0 : (i : Int) < (m : Int) := by omega
            have g1 : (m : Int) < ((a : Int) + (b : Int)) / 2 + (m : Int) - (i : Int) := by omega
            have g2 : (a : Int) < (i : Int) := by omega
            have g3 : (i : Int) < ((a : Int) + (b : Int)) / 2 := by omega
            have g4 : ((a : Int) + (b : Int)) / 2 < ((a : Int) + (b : Int)) / 2 + (m : Int) - (i : Int) := by omega
            have g5 : ((a : Int) + (b : Int)) / 2 + (m : Int) - (i : Int) < (b : Int) := by omega
            go_wp2_with fail
            refine (rotate_calls' (d := d) cap i m ((a + b) / 2 + m - i) rfl rfl (by omega) rfl _ R hs S1.out (by omega) (by omega) (by omega) (by omega)).mono ?_
            rintro e_ w2 ⟨rfl, S2_⟩
            have S2 : Aside _ := S2_
            clear S2_ S1
            go_wp2_with fail
            refine (IHA.out (rotate d i m ((a + b) / 2 + m - i)) _ a i ((a + b) / 2) rfl rfl (by omega) (by rw [size_rotate _ _ _ _]) (by rw [size_rotate _ _ _ _]; exact hs) S2.out (by omega) (by omega) (by rw [size_rotate _ _ _ _]; omega) (by omega)).mono ?_
            rintro e_ w3 ⟨rfl, S3_⟩
            have S3 : Aside _ := S3_
            clear S3_ S2
            go_wp2_with fail
            refine (IHA.out (symMerge (ltOf cf) k (rotate d i m ((a + b) / 2 + m - i)) a i ((a + b) / 2)) _ ((a + b) / 2) ((a + b) / 2 + m - i) b (by omega) (by omega) rfl (by rw [size_symMerge, size_rotate _ _ _ _]) (by rw [size_symMerge, size_rotate _ _ _ _]; exact hs) S3.out (by omega) (by omega) (by rw [size_symMerge, size_rotate _ _ _ _]; omega) (by omega)).mono ?_
            rintro e_ w4 ⟨rfl, S4_⟩
            have S4 : Aside _ := S4_
            clear S4_ S3
            go_wp2
            first | go_end0 | ((try simp only [Exit.inBlock, Exit.then]); refine bodyPost_ret (results_none rfl _ _ _) rfl ?_)
            refine ⟨rfl, ?_⟩
            rw [symMerge_C (ltOf cf) k d a m b i h1 h2 hI.out]
            have f0 := eq_true (show i < m ∧ m < (a + b) / 2 + m - i from ⟨by omega, by omega⟩)
            have f1 := eq_true (show a < i ∧ i < (a + b) / 2 from ⟨by omega, by omega⟩)
            have f2 := eq_true (show (a + b) / 2 < (a + b) / 2 + m - i ∧ (a + b) / 2 + m - i < b from ⟨by omega, by omega⟩)
            simp only [f0, f1, f2, if_true, if_false]
            exact S4.out
          · have g0 : (i : Int) < (m : Int) := by omega
            have g1 : (m : Int) < ((a : Int) + (b : Int)) / 2 + (m : Int) - (i : Int) := by omega
            have g2 : (a : Int) < (i : Int) := by omega
            have g3 : (i : Int) < ((a : Int) + (b : Int)) / 2 := by omega
            have g4 : ((a : Int) + (b : Int)) / 2 < ((a : Int) + (b : Int)) / 2 + (m : Int) - (i : Int) := by omega
            have g5 : ¬ ((a : Int) + (b : Int)) / 2 + (m : Int) - (i : Int) < (b : Int) := by omega
            go_wp2_with fail
            refine (rotate_calls' (d := d) cap i m ((a + b) / 2 + m - i) rfl rfl (by omega) rfl _ R hs S1.out (by omega) (by omega) (by omega) (by omega)).mono ?_
            rintro e_ w2 ⟨rfl, S2_⟩
            have S2 : Aside _ := S2_
            clear S2_ S1
            go_wp2_with fail
            refine (IHA.out (rotate d i m ((a + b) / 2 + m - i)) _ a i ((a + b) / 2) rfl rfl (by omega) (by rw [size_rotate _ _ _ _]) (by rw [size_rotate _ _ _ _]; exact hs) S2.out (by omega) (by omega) (by rw [size_rotate _ _ _ _]; omega) (by omega)).mono ?_
            rintro e_ w3 ⟨rfl, S3_⟩
            have S3 : Aside _ := S3_
            clear S3_ S2
            go_wp2
            first | go_end0 | ((try simp only [Exit.inBlock, Exit.then]); refine bodyPost_ret (results_none rfl _ _ _) rfl ?_)
            refine ⟨rfl, ?_⟩
            rw [symMerge_C (ltOf cf) k d a m b i h1 h2 hI.out]
            have f0 := eq_true (show i < m ∧ m < (a + b) / 2 + m - i from ⟨by omega, by omega⟩)
            have f1 := eq_true (show a < i ∧ i < (a + b) / 2 from ⟨by omega, by omega⟩)
            have f2 := eq_false (show ¬ ((a + b) / 2 < (a + b) / 2 + m - i ∧ (a + b) / 2 + m - i < b) by omega)
            simp only [f0, f1, f2, if_true, if_false]
            exact S3.out
        · by_cases q3 : (a + b) / 2 + m - i < b
          · have g0 : (i : Int) < (m : Int) := by omega
            have g1 : (m : Int) < ((a : Int) + (b : Int)) / 2 + (m : Int) - (i : Int) := by omega
            have g2 : ¬ (a : Int) < (i : Int) := by omega
            have g3 : ((a : Int) + (b : Int)) / 2 < ((a : Int) + (b : Int)) / 2 + (m : Int) - (i : Int) := by omega
            have g4 : ((a : Int) + (b : Int)) / 2 + (m : Int) - (i : Int) < (b : Int) := by omega
            go_wp2_with fail
            refine (rotate_calls' (d := d) cap i m ((a + b) / 2 + m - i) rfl rfl (by omega) rfl _ R hs S1.out (by omega) (by omega) (by omega) (by omega)).mono ?_
            rintro e_ w2 ⟨rfl, S2_⟩
            have S2 : Aside _ := S2_
            clear S2_ S1
            go_wp2_with fail
            refine (IHA.out (rotate d i m ((a + b) / 2 + m - i)) _ ((a + b) / 2) ((a + b) / 2 + m - i) b (by omega) (by omega) rfl (by rw [size_rotate _ _ _ _]) (by rw [size_rotate _ _ _ _]; exact hs) S2.out (by omega) (by omega) (by rw [size_rotate _ _ _ _]; omega) (by omega)).mono ?_
            rintro e_ w4 ⟨rfl, S4_⟩
            have S4 : Aside _ := S4_
            clear S4_ S2
            go_wp2
            first | go_end0 | ((try simp only [Exit.inBlock, Exit.then]); refine bodyPost_ret (results_none rfl _ _ _) rfl ?_)
            refine ⟨rfl, ?_⟩
            rw [symMerge_C (ltOf cf) k d a m b i h1 h2 hI.out]
            have f0 := eq_true (show i < m ∧ m < (a + b) / 2 + m - i from ⟨by omega, by omega⟩)
            have f1 := eq_false (show ¬ (a < i ∧ i < (a + b) / 2) by omega)
            have f2 := eq_true (show (a + b) / 2 < (a + b) / 2 + m - i ∧ (a + b) / 2 + m - i < b from ⟨by omega, by omega⟩)
            simp only [f0, f1, f2, if_true, if_false]
            exact S4.out
          · have g0 : (i : Int) < (m : Int) := by omega
            have g1 : (m : Int) < ((a : Int) + (b : Int)) / 2 + (m : Int) - (i : Int) := by omega
            have g2 : ¬ (a : Int) < (i : Int) := by omega
            have g3 : ((a : Int) + (b : Int)) / 2 < ((a : Int) + (b : Int)) / 2 + (m : Int) - (i : Int) := by omega
            have g4 : ¬ ((a : Int) + (b : Int)) / 2 + (m : Int) - (i : Int) < (b : Int) := by omega
            go_wp2_with fail
            refine (rotate_calls' (d := d) cap i m ((a + b) / 2 + m - i) rfl rfl (by omega) rfl _ R hs S1.out (by omega) (by omega) (by omega) (by omega)).mono ?_
            rintro e_ w2 ⟨rfl, S2_⟩
            have S2 : Aside _ := S2_
            clear S2_ S1
            go_wp2
            first | go_end0 | ((try simp only [Exit.inBlock, Exit.then]); refine bodyPost_ret (results_none rfl _ _ _) rfl ?_)
            refine ⟨rfl, ?_⟩
            rw [symMerge_C (ltOf cf) k d a m b i h1 h2 hI.out]
            have f0 := eq_true (show i < m ∧ m < (a + b) / 2 + m - i from ⟨by omega, by omega⟩)
            have f1 := eq_false (show ¬ (a < i ∧ i < (a + b) / 2) by omega)
            have f2 := eq_false (show ¬ ((a + b) / 2 < (a + b) / 2 + m - i ∧ (a + b) / 2 + m - i < b) by omega)
            simp only [f0, f1, f2, if_true, if_false]
            exact S2.out
      · by_cases q2 : a < i
        · by_cases q3 : (a + b) / 2 + m - i < b
          · have g0 : (i : Int) < (m : Int) := by omega
            have g1 : ¬ (m : Int) < ((a : Int) + (b : Int)) / 2 + (m : Int) - (i : Int) := by omega
            have g2 : (a : Int) < (i : Int) := by omega
            have g3 : ¬ (i : Int) < ((a : Int) + (b : Int)) / 2 := by omega
            have g4 : ((a : Int) + (b : Int)) / 2 < ((a : Int) + (b : Int)) / 2 + (m : Int) - (i : Int) := by omega
            have g5 : ((a : Int) + (b : Int)) / 2 + (m : Int) - (i : Int) < (b : Int) := by omega
            go_wp2_with fail
            refine (IHA.out d _ ((a + b) / 2) ((a + b) / 2 + m - i) b (by omega) (by omega) rfl rfl hs S1.out (by omega) (by omega) (by omega) (by omega)).mono ?_
            rintro e_ w4 ⟨rfl, S4_⟩
            have S4 : Aside _ := S4_
            clear S4_ S1
            go_wp2
            first | go_end0 | ((try simp only [Exit.inBlock, Exit.then]); refine bodyPost_ret (results_none rfl _ _ _) rfl ?_)
            refine ⟨rfl, ?_⟩
            rw [symMerge_C (ltOf cf) k d a m b i h1 h2 hI.out]
            have f0 := eq_false (show ¬ (i < m ∧ m < (a + b) / 2 + m - i) by omega)
            have f1 := eq_false (show ¬ (a < i ∧ i < (a + b) / 2) by omega)
            have f2 := eq_true (show (a + b) / 2 < (a + b) / 2 + m - i ∧ (a + b) / 2 + m - i < b from ⟨by omega, by omega⟩)
            simp only [f0, f1, f2, if_true, if_false]
            exact S4.out
          · have g0 : (i : Int) < (m : Int) := by omega
            have g1 : ¬ (m : Int) < ((a : Int) + (b : Int)) / 2 + (m : Int) - (i : Int) := by omega
            have g2 : (a : Int) < (i : Int) := by omega
            have g3 : ¬ (i : Int) < ((a : Int) + (b : Int)) / 2 := by omega
            have g4 : ((a : Int) + (b : Int)) / 2 < ((a : Int) + (b : Int)) / 2 + (m : Int) - (i : Int) := by omega
            have g5 : ¬ ((a : Int) + (b : Int)) / 2 + (m : Int) - (i : Int) < (b : Int) := by omega
            go_wp2
            first | go_end0 | ((try simp only [Exit.inBlock, Exit.then]); refine bodyPost_ret (results_none rfl _ _ _) rfl ?_)
            refine ⟨rfl, ?_⟩
            rw [symMerge_C (ltOf cf) k d a m b i h1 h2 hI.out]
            have f0 := eq_false (show ¬ (i < m ∧ m < (a + b) / 2 + m - i) by omega)
            have f1 := eq_false (show ¬ (a < i ∧ i < (a + b) / 2) by omega)
            have f2 := eq_false (show ¬ ((a + b) / 2 < (a + b) / 2 + m - i ∧ (a + b) / 2 + m - i < b) by omega)
            simp only [f0, f1, f2, if_true, if_false]
            exact S1.out
        · by_cases q3 : (a + b) / 2 + m - i < b
          · have g0 : (i : Int) < (m : Int) := by omega
            have g1 : ¬ (m : Int) < ((a : Int) + (b : Int)) / 2 + (m : Int) - (i : Int) := by omega
            have g2 : ¬ (a : Int) < (i : Int) := by omega
            have g3 : ((a : Int) + (b : Int)) / 2 < ((a : Int) + (b : Int)) / 2 + (m : Int) - (i : Int) := by omega
            have g4 : ((a : Int) + (b : Int)) / 2 + (m : Int) - (i : Int) < (b : Int) := by omega
            go_wp2_with fail
            refine (IHA.out d _ ((a + b) / 2) ((a + b) / 2 + m - i) b (by omega) (by omega) rfl rfl hs S1.out (by omega) (by omega) (by omega) (by omega)).mono ?_
            rintro e_ w4 ⟨rfl, S4_⟩
            have S4 : Aside _ := S4_
            clear S4_ S1
            go_wp2
            first | go_end0 | ((try simp only [Exit.inBlock, Exit.then]); refine bodyPost_ret (results_none rfl _ _ _) rfl ?_)
            refine ⟨rfl, ?_⟩
            rw [symMerge_C (ltOf cf) k d a m b i h1 h2 hI.out]
            have f0 := eq_false (show ¬ (i < m ∧ m < (a + b) / 2 + m - i) by omega)
            have f1 := eq_false (show ¬ (a < i ∧ i < (a + b) / 2) by omega)
            have f2 := eq_true (show (a + b) / 2 < (a + b) / 2 + m - i ∧ (a + b) / 2 + m - i < b from ⟨by omega, by omega⟩)
            simp only [f0, f1, f2, if_true, if_false]
            exact S4.out
          · have g0 : (i : Int) < (m : Int) := by omega
            have g1 : ¬ (m : Int) < ((a : Int) + (b : Int)) / 2 + (m : Int) - (i : Int) := by omega
            have g2 : ¬ (a : Int) < (i : Int) := by omega
            have g3 : ((a : Int) + (b : Int)) / 2 < ((a : Int) + (b : Int)) / 2 + (m : Int) - (i : Int) := by omega
            have g4 : ¬ ((a : Int) + (b : Int)) / 2 + (m : Int) - (i : Int) < (b : Int) := by omega
            go_wp2
            first | go_end0 | ((try simp only [Exit.inBlock, Exit.then]); refine bodyPost_ret (results_none rfl _ _ _) rfl ?_)
            refine ⟨rfl, ?_⟩
            rw [symMerge_C (ltOf cf) k d a m b i h1 h2 hI.out]
            have f0 := eq_false (show ¬ (i < m ∧ m < (a + b) / 2 + m - i) by omega)
            have f1 := eq_false (show ¬ (a < i ∧ i < (a + b) / 2) by omega)
            have f2 := eq_false (show ¬ ((a + b) / 2 < (a + b) / 2 + m - i ∧ (a + b) / 2 + m - i < b) by omega)
            simp only [f0, f1, f2, if_true, if_false]
            exact S1.out
end Go.Proofs.YtkifafenmboefaaDoor.Sorts
namespace Go.Proofs.YtkifafenmboefaaDoor.Sorts
open Go.Shelf Go.RowKit Go.Lib Go.Sort Go.Proofs
set_option linter.unusedVariables false
set_option linter.unusedSimpArgs false
variable {α : Type} [Inhabited α] {enc : α → Value} {w0 w : World} {blk off : Nat} {d0 d : Array α}

set_option maxHeartbeats 64000000 in
set_option maxRecDepth 1000000 in
theorem symMerge_CII (cf : α → α → Int) (g : Nat) (cb : Array Value) (cap : Nat) (eg : ∀ args w, (callFunc g args).run Tryd.prog w = .ok (.enter g args) w) (hcmp : CmpBelow Tryd.prog g cb enc cf blk off d0.size w0) (R : Row1 enc w0 blk off d0) (hsz : d0.size < 4611686018427387904) (hz : w0.drawn = 0)
    (k : Nat) (ih : SymOk cf g cb cap enc w0 blk off d0 k) (d : Array α) (w : World) (a m b : Nat) (hs : d0.size = d.size) (S : SW enc w0 blk off d w) (ham : a < m) (hmb : m < b) (hbs : b ≤ d.size) (hk : b - a ≤ k + 1) (h1 : ¬ m - a = 1) (h2 : ¬ b - m = 1) (hcs : ¬ (a + b) / 2 < m) :
    Calls Tryd.prog 80 #[.slice (some ⟨blk, off, none⟩) d.size cap, .int .i64 a, .int .i64 m, .int .i64 b, .func (.func g) #[] cb] w fun e w' => e = .returned (.tuple #[]) ∧ SW enc w0 blk off (symMerge (ltOf cf) (k + 1) d a m b) w' := by
  have mixed : Tryd.prog.follows .mixedOrders = true := by kernel_rfl
  have IH : Aside _ := ih
  clear ih
  have HC : Aside _ := hcmp
  clear hcmp
  have S0 : Aside (SW enc w0 blk off d w) := S
  clear S
  have hcl0 := R.hO.cells
  simp only [Value.cells] at hcl0
  have hst := R.hO.store Tryd.prog
  have r1 : IntKind.i64.wrap ((m : Int) - (a : Int)) = (m : Int) - (a : Int) := by rw [IntKind.wrap_i64]; omega
  have r2 : IntKind.i64.wrap ((b : Int) - (m : Int)) = (b : Int) - (m : Int) := by rw [IntKind.wrap_i64]; omega

  have e1 : ((m : Int) - (a : Int) == 1) = false := by simp; omega
  have e1' : ¬ (m : Int) - (a : Int) = 1 := by omega
  have e2 : ((b : Int) - (m : Int) == 1) = false := by simp; omega
  have e2' : ¬ (b : Int) - (m : Int) = 1 := by omega
  have r3 : IntKind.i64.wrap ((a : Int) + (b : Int)) = (a : Int) + (b : Int) := by rw [IntKind.wrap_i64]; omega
  have r4 : IntKind.i64.wrap (((a : Int) + (b : Int)) / 2 + (m : Int)) = ((a : Int) + (b : Int)) / 2 + (m : Int) := by rw [IntKind.wrap_i64]; omega
  have r5 : IntKind.i64.wrap (((a : Int) + (b : Int)) / 2 + (m : Int) - 1) = ((a : Int) + (b : Int)) / 2 + (m : Int) - 1 := by rw [IntKind.wrap_i64]; omega
  have IHA : Aside _ := (SymOk.spelled IH.out)
  clear IH

  have hgt : ¬ (((a : Int) + (b : Int)) / 2 < (m : Int)) := by omega
  have r8 : IntKind.i64.wrap (((a : Int) + (b : Int)) / 2 + (m : Int) - (b : Int)) = ((a : Int) + (b : Int)) / 2 + (m : Int) - (b : Int) := by rw [IntKind.wrap_i64]; omega
  go_enter Tryd.func80, Tryd.ntmps80
  go_wp2

  go_loopg [20, 21] (b - a) (fun q vi vj wr => ∃ (i j : Nat), vi = .int .i64 i ∧ vj = .int .i64 j ∧ a ≤ i ∧ i ≤ j ∧ j ≤ m ∧ j - i ≤ q ∧ Aside (SW enc w0 blk off d wr) ∧ Hid (bsearch (fun c => !ltOf cf d[(a + b) / 2 + m - 1 - c]! d[c]!) (b - a) i j = bsearch (fun c => !ltOf cf d[(a + b) / 2 + m - 1 - c]! d[c]!) (b - a) (a) (m)))
  case atStart => exact ⟨a, m, by first | rfl | go_num, by first | rfl | go_num, Nat.le_refl _, by omega, Nat.le_refl _, by omega, S0, rfl⟩
  case round =>
    clear S0
    obtain ⟨i, j, rfl, rfl, him, hij, hjb, hq, S1, HO⟩ := hrel
    by_cases hlt : i < j
    · have hltz : (i : Int) < (j : Int) := by omega
      obtain ⟨q, rfl⟩ : ∃ q, gk = q + 1 := ⟨gk - 1, by omega⟩
      have r3 : IntKind.i64.wrap ((i : Int) + (j : Int)) = (i : Int) + (j : Int) := by rw [IntKind.wrap_i64]; omega
      have ea : (((i : Int) + (j : Int)) / 2).toNat = (i + j) / 2 := by omega
      have pa : (0 : Int) ≤ ((i : Int) + (j : Int)) / 2 := by omega
      have ba : ((i : Int) + (j : Int)) / 2 < (d.size : Int) := by omega
      have bb0 : ((a : Int) + (b : Int)) / 2 + (m : Int) - 1 - ((i : Int) + (j : Int)) / 2 < (d.size : Int) := by omega
      have bb1 : (0 : Int) ≤ ((a : Int) + (b : Int)) / 2 + (m : Int) - 1 - ((i : Int) + (j : Int)) / 2 := by omega
      have bb2 : (((a : Int) + (b : Int)) / 2 + (m : Int) - 1 - ((i : Int) + (j : Int)) / 2).toNat = (a + b) / 2 + m - 1 - (i + j) / 2 := by omega
      have bb3 : IntKind.i64.wrap (((a : Int) + (b : Int)) / 2 + (m : Int) - 1 - ((i : Int) + (j : Int)) / 2) = ((a : Int) + (b : Int)) / 2 + (m : Int) - 1 - ((i : Int) + (j : Int)) / 2 := by rw [IntKind.wrap_i64]; omega
      have bb4 : ((i : Int) + (j : Int)) / 2 ≤ ((a : Int) + (b : Int)) / 2 + (m : Int) - 1 := by omega
      obtain ⟨x, hx⟩ : ∃ x, x = d[(a + b) / 2 + m - 1 - (i + j) / 2]! := ⟨_, rfl⟩
      obtain ⟨y, hy⟩ : ∃ x, x = d[(i + j) / 2]! := ⟨_, rfl⟩
      have la := SW_clr S1.out R (by omega) ((a + b) / 2 + m - 1 - (i + j) / 2) (by omega)
      have lb := SW_clr S1.out R (by omega) ((i + j) / 2) (by omega)
      rw [← hx] at la
      rw [← hy] at lb
      have hc := SW_cmpb S1.out HC.out hz (by omega) x y
      cases hlv : (fun c => !ltOf cf d[(a + b) / 2 + m - 1 - c]! d[c]!) ((i + j) / 2) with
      | true =>
        have hlv' : ltOf cf d[(a + b) / 2 + m - 1 - (i + j) / 2]! d[(i + j) / 2]! = false := by simpa using hlv
        have hv : ¬ cf x y < 0 := by rw [hx, hy]; exact of_decide_eq_false hlv'
        have hd : decide (cf x y < 0) = false := decide_eq_false hv
        clear hx hy
        go_wp2_with fail
        refine wp_region_quiet_below (by assumption) (by kernel_rfl) ?_
        repeat (quiet_step (first | (go_at_fn g; refine Calls.regrown_of (hc _ _))))
        refine wpQuiet_nil ?_
        intro _ hw'
        obtain ⟨⟨nq, osq⟩, hw''⟩ := hw'
        subst hw''
        have S2 : Aside (SW enc w0 blk off d (grow (redrawn wr nq) osq)) := SW_regrown hz S1.out nq osq
        clear la lb hc S1
        generalize grow (redrawn wr nq) osq = w2 at S2 ⊢
        clear nq osq
        have r4 : IntKind.i64.wrap (((i : Int) + (j : Int)) / 2 + 1) = ((i : Int) + (j : Int)) / 2 + 1 := by rw [IntKind.wrap_i64]; omega
        go_wp2
        go_roundg q
        case measure => omega
        case rel => exact ⟨(i + j) / 2 + 1, j, by go_num, rfl, by omega, by omega, hjb, by omega, S2, (show Hid _ from by rw [← HO.out, bsearch_up (fun c => !ltOf cf d[(a + b) / 2 + m - 1 - c]! d[c]!) (b - a) i j (by omega) hlt hlv]; exact rfl)⟩
      | false =>
        have hlv' : ltOf cf d[(a + b) / 2 + m - 1 - (i + j) / 2]! d[(i + j) / 2]! = true := by simpa using hlv
        have hv : cf x y < 0 := by rw [hx, hy]; exact of_decide_eq_true hlv'
        have hd : decide (cf x y < 0) = true := decide_eq_true hv
        clear hx hy
        go_wp2_with fail
        refine wp_region_quiet_below (by assumption) (by kernel_rfl) ?_
        repeat (quiet_step (first | (go_at_fn g; refine Calls.regrown_of (hc _ _))))
        refine wpQuiet_nil ?_
        intro _ hw'
        obtain ⟨⟨nq, osq⟩, hw''⟩ := hw'
        subst hw''
        have S2 : Aside (SW enc w0 blk off d (grow (redrawn wr nq) osq)) := SW_regrown hz S1.out nq osq
        clear la lb hc S1
        generalize grow (redrawn wr nq) osq = w2 at S2 ⊢
        clear nq osq
        have r4 : IntKind.i64.wrap (((i : Int) + (j : Int)) / 2 + 1) = ((i : Int) + (j : Int)) / 2 + 1 := by rw [IntKind.wrap_i64]; omega
        go_wp2
        go_roundg q
        case measure => omega
        case rel => exact ⟨i, (i + j) / 2, rfl, by go_num, him, by omega, by omega, by omega, S2, (show Hid _ from by rw [← HO.out, bsearch_down (fun c => !ltOf cf d[(a + b) / 2 + m - 1 - c]! d[c]!) (b - a) i j (by omega) hlt hlv]; exact rfl)⟩

    · have hltz : ¬ (i : Int) < (j : Int) := by omega
      obtain rfl : i = j := by omega
      have hI : Hid (symStart (ltOf cf) d a m b = i) := by
        show _ = _
        unfold symStart
        rw [if_neg hcs, ← HO.out, bsearch_stop _ _ _ _ hlt]
      clear HO hij hq
      have r9 : IntKind.i64.wrap (((a : Int) + (b : Int)) / 2 + (m : Int) - (i : Int)) = ((a : Int) + (b : Int)) / 2 + (m : Int) - (i : Int) := by rw [IntKind.wrap_i64]; omega
      by_cases q1 : i < m
      · by_cases q2 : a < i
        · have g0 : (i : Int) < (m : Int) := by omega
          have g1 : (m : Int) < ((a : Int) + (b : Int)) / 2 + (m : Int) - (i : Int) := by omega
          have g2 : (a : Int) < (i : Int) := by omega
          have g3 : (i : Int) < ((a : Int) + (b : Int)) / 2 := by omega
          have g4 : ((a : Int) + (b : Int)) / 2 < ((a : Int) + (b : Int)) / 2 + (m : Int) - (i : Int) := by omega
          have g5 : ((a : Int) + (b : Int)) / 2 + (m : Int) - (i : Int) < (b : Int) := by omega
          go_wp2_with fail
          refine (rotate_calls' (d := d) cap i m ((a + b) / 2 + m - i) rfl rfl (by omega) rfl _ R hs S1.out (by omega) (by omega) (by omega) (by omega)).mono ?_
          rintro e_ w2 ⟨rfl, S2_⟩
          have S2 : Aside _ := S2_
          clear S2_ S1
          go_wp2_with fail
          refine (IHA.out (rotate d i m ((a + b) / 2 + m - i)) _ a i ((a + b) / 2) rfl rfl (by omega) (by rw [size_rotate _ _ _ _]) (by rw [size_rotate _ _ _ _]; exact hs) S2.out (by omega) (by omega) (by rw [size_rotate _ _ _ _]; omega) (by omega)).mono ?_
          rintro e_ w3 ⟨rfl, S3_⟩
          have S3 : Aside _ := S3_
          clear S3_ S2
          go_wp2_with fail
          refine (IHA.out (symMerge (ltOf cf) k (rotate d i m ((a + b) / 2 + m - i)) a i ((a + b) / 2)) _ ((a + b) / 2) ((a + b) / 2 + m - i) b (by omega) (by omega) rfl (by rw [size_symMerge, size_rotate _ _ _ _]) (by rw [size_symMerge, size_rotate _ _ _ _]; exact hs) S3.out (by omega) (by omega) (by rw [size_symMerge, size_rotate _ _ _ _]; omega) (by omega)).mono ?_
          rintro e_ w4 ⟨rfl, S4_⟩
          have S4 : Aside _ := S4_
          clear S4_ S3
          go_wp2
          first | go_end0 | ((try simp only [Exit.inBlock, Exit.then]); refine bodyPost_ret (results_none rfl _ _ _) rfl ?_)
          refine ⟨rfl, ?_⟩
          rw [symMerge_C (ltOf cf) k d a m b i h1 h2 hI.out]
          have f0 := eq_true (show i < m ∧ m < (a + b) / 2 + m - i from ⟨by omega, by omega⟩)
          have f1 := eq_true (show a < i ∧ i < (a + b) / 2 from ⟨by omega, by omega⟩)
          have f2 := eq_true (show (a + b) / 2 < (a + b) / 2 + m - i ∧ (a + b) / 2 + m - i < b from ⟨by omega, by omega⟩)
          simp only [f0, f1, f2, if_true, if_false]
          exact S4.out
        · by_cases q3 : (a + b) / 2 + m - i < b
          · have g0 : (i : Int) < (m : Int) := by omega
            have g1 : (m : Int) < ((a : Int) + (b : Int)) / 2 + (m : Int) - (i : Int) := by omega
            have g2 : ¬ (a : Int) < (i : Int) := by omega
            have g3 : ((a : Int) + (b : Int)) / 2 < ((a : Int) + (b : Int)) / 2 + (m : Int) - (i : Int) := by omega
            have g4 : ((a : Int) + (b : Int)) / 2 + (m : Int) - (i : Int) < (b : Int) := by omega
            go_wp2_with fail
            refine (rotate_calls' (d := d) cap i m ((a + b) / 2 + m - i) rfl rfl (by omega) rfl _ R hs S1.out (by omega) (by omega) (by omega) (by omega)).mono ?_
            rintro e_ w2 ⟨rfl, S2_⟩
            have S2 : Aside _ := S2_
            clear S2_ S1
            go_wp2_with fail
            refine (IHA.out (rotate d i m ((a + b) / 2 + m - i)) _ ((a + b) / 2) ((a + b) / 2 + m - i) b (by omega) (by omega) rfl (by rw [size_rotate _ _ _ _]) (by rw [size_rotate _ _ _ _]; exact hs) S2.out (by omega) (by omega) (by rw [size_rotate _ _ _ _]; omega) (by omega)).mono ?_
            rintro e_ w4 ⟨rfl, S4_⟩
            have S4 : Aside _ := S4_
            clear S4_ S2
            go_wp2
            first | go_end0 | ((try simp only [Exit.inBlock, Exit.then]); refine bodyPost_ret (results_none rfl _ _ _) rfl ?_)
            refine ⟨rfl, ?_⟩
            rw [symMerge_C (ltOf cf) k d a m b i h1 h2 hI.out]
            have f0 := eq_true (show i < m ∧ m < (a + b) / 2 + m - i from ⟨by omega, by omega⟩)
            have f1 := eq_false (show ¬ (a < i ∧ i < (a + b) / 2) by omega)
            have f2 := eq_true (show (a + b) / 2 < (a + b) / 2 + m - i ∧ (a + b) / 2 + m - i < b from ⟨by omega, by omega⟩)
            simp only [f0, f1, f2, if_true, if_false]
            exact S4.out
          · have g0 : (i : Int) < (m : Int) := by omega
            have g1 : (m : Int) < ((a : Int) + (b : Int)) / 2 + (m : Int) - (i : Int) := by omega
            have g2 : ¬ (a : Int) < (i : Int) := by omega
            have g3 : ((a : Int) + (b : Int)) / 2 < ((a : Int) + (b : Int)) / 2 + (m : Int) - (i : Int) := by omega
            have g4 : ¬ ((a : Int) + (b : Int)) / 2 + (m : Int) - (i : Int) < (b : Int) := by omega
            go_wp2_with fail
            refine (rotate_calls' (d := d) cap i m ((a + b) / 2 + m - i) rfl rfl (by omega) rfl _ R hs S1.out (by omega) (by omega) (by omega) (by omega)).mono ?_
            rintro e_ w2 ⟨rfl, S2_⟩
            have S2 : Aside _ := S2_
            clear S2_ S1
            go_wp2
            first | go_end0 | ((try simp only [Exit.inBlock, Exit.then]); refine bodyPost_ret (results_none rfl _ _ _) rfl ?_)
            refine ⟨rfl, ?_⟩
            rw [symMerge_C (ltOf cf) k d a m b i h1 h2 hI.out]
            have f0 := eq_true (show i < m ∧ m < (a + b) / 2 + m - i from ⟨by omega, by omega⟩)
            have f1 := eq_false (show ¬ (a < i ∧ i < (a + b) / 2) by omega)
            have f2 := eq_false (show ¬ ((a + b) / 2 < (a + b) / 2 + m - i ∧ (a + b) / 2 + m - i < b) by omega)
            simp only [f0, f1, f2, if_true, if_false]
            exact S2.out
      · by_cases q2 : m < (a + b) / 2
        · have g0 : ¬ (i : Int) < (m : Int) := by omega
          have g1 : (a : Int) < (i : Int) := by omega
          have g2 : (i : Int) < ((a : Int) + (b : Int)) / 2 := by omega
          have g3 : ¬ ((a : Int) + (b : Int)) / 2 < ((a : Int) + (b : Int)) / 2 + (m : Int) - (i : Int) := by omega
          go_wp2_with fail
          refine (IHA.out d _ a i ((a + b) / 2) rfl rfl (by omega) rfl hs S1.out (by omega) (by omega) (by omega) (by omega)).mono ?_
          rintro e_ w3 ⟨rfl, S3_⟩
          have S3 : Aside _ := S3_
          clear S3_ S1
          go_wp2
          first | go_end0 | ((try simp only [Exit.inBlock, Exit.then]); refine bodyPost_ret (results_none rfl _ _ _) rfl ?_)
          refine ⟨rfl, ?_⟩
          rw [symMerge_C (ltOf cf) k d a m b i h1 h2 hI.out]
          have f0 := eq_false (show ¬ (i < m ∧ m < (a + b) / 2 + m - i) by omega)
          have f1 := eq_true (show a < i ∧ i < (a + b) / 2 from ⟨by omega, by omega⟩)
          have f2 := eq_false (show ¬ ((a + b) / 2 < (a + b) / 2 + m - i ∧ (a + b) / 2 + m - i < b) by omega)
          simp only [f0, f1, f2, if_true, if_false]
          exact S3.out
        · have g0 : ¬ (i : Int) < (m : Int) := by omega
          have g1 : (a : Int) < (i : Int) := by omega
          have g2 : ¬ (i : Int) < ((a : Int) + (b : Int)) / 2 := by omega
          have g3 : ¬ ((a : Int) + (b : Int)) / 2 < ((a : Int) + (b : Int)) / 2 + (m : Int) - (i : Int) := by omega
          go_wp2
          first | go_end0 | ((try simp only [Exit.inBlock, Exit.then]); refine bodyPost_ret (results_none rfl _ _ _) rfl ?_)
          refine ⟨rfl, ?_⟩
          rw [symMerge_C (ltOf cf) k d a m b i h1 h2 hI.out]
          have f0 := eq_false (show ¬ (i < m ∧ m < (a + b) / 2 + m - i) by omega)
          have f1 := eq_false (show ¬ (a < i ∧ i < (a + b) / 2) by omega)
          have f2 := eq_false (show ¬ ((a + b) / 2 < (a + b) / 2 + m - i ∧ (a + b) / 2 + m - i < b) by omega)
          simp only [f0, f1, f2, if_true, if_false]
          exact S1.out
end Go.Proofs.YtkifafenmboefaaDoor.Sorts
namespace Go.Proofs.YtkifafenmboefaaDoor.Sorts
open Go.Shelf Go.RowKit Go.Lib Go.Sort Go.Proofs
set_option linter.unusedVariables false
set_option linter.unusedSimpArgs false
variable {α : Type} [Inhabited α] {enc : α → Value} {w0 w : World} {blk off : Nat} {d0 d : Array α}

theorem symMerge_calls (cf : α → α → Int) (g : Nat) (cb : Array Value) (cap : Nat) (eg : ∀ args w, (callFunc g args).run Tryd.prog w = .ok (.enter g args) w) (hcmp : CmpBelow Tryd.prog g cb enc cf blk off d0.size w0) (R : Row1 enc w0 blk off d0) (hsz : d0.size < 4611686018427387904) (hz : w0.drawn = 0) :
    ∀ k, SymOk cf g cb cap enc w0 blk off d0 k
  | 0 => fun d w a m b _ _ h1 h2 _ h3 => by omega
  | k + 1 => fun d w a m b hs S h1 h2 h3 h4 => by
    have ih := symMerge_calls cf g cb cap eg hcmp R hsz hz k
    by_cases c1 : m - a = 1
    · exact symMerge_A cf g cb cap eg hcmp R hsz hz k ih d w a m b hs S h1 h2 h3 h4 c1
    · by_cases c2 : b - m = 1
      · exact symMerge_B cf g cb cap eg hcmp R hsz hz k ih d w a m b hs S h1 h2 h3 h4 c1 c2
      · by_cases c3 : (a + b) / 2 < m
        · exact symMerge_CI cf g cb cap eg hcmp R hsz hz k ih d w a m b hs S h1 h2 h3 h4 c1 c2 c3
        · exact symMerge_CII cf g cb cap eg hcmp R hsz hz k ih d w a m b hs S h1 h2 h3 h4 c1 c2 c3

theorem ins_calls (cf : α → α → Int) (g : Nat) (cb : Array Value) (cap a b : Nat) (d : Array α) (w : World) {za zb : Int} (ea : za = a) (eb : zb = b) {N : Nat} (hN : N = d.size) (eg : ∀ args w, (callFunc g args).run Tryd.prog w = .ok (.enter g args) w) (hcmp : CmpBelow Tryd.prog g cb enc cf blk off d0.size w0) (R : Row1 enc w0 blk off d0) (hs : d0.size = d.size) (S : SW enc w0 blk off d w) (hab : a ≤ b) (hb : b ≤ d.size) (hsz : d.size < 4611686018427387904) (hz : w0.drawn = 0) :
    Calls Tryd.prog 79 #[.slice (some ⟨blk, off, none⟩) N cap, .int .i64 za, .int .i64 zb, .func (.func g) #[] cb] w fun e w' => e = .returned (.tuple #[]) ∧ SW enc w0 blk off (insertionSort (ltOf cf) d a b) w' := by
  subst ea eb hN
  exact insertion_calls cf g cb cap a b d w eg hcmp R hs S hab hb hsz hz

theorem size_insBlocks (lt : α → α → Bool) (d : Array α) : ∀ q, (insBlocks lt d q).size = d.size
  | 0 => rfl
  | q + 1 => by unfold insBlocks; rw [size_insertionSort, size_insBlocks lt d q]

theorem size_passes (lt : α → α → Bool) : ∀ (k bs : Nat) (d : Array α), (passes lt k bs d).size = d.size
  | 0, _, _ => rfl
  | k + 1, bs, d => by
    unfold passes
    split
    · rw [size_passes lt k, size_mergeAll]
    · rfl
theorem size_stableSort (lt : α → α → Bool) (d : Array α) : (stableSort lt d).size = d.size := by
  unfold stableSort
  rw [size_passes, size_insertionSort, size_insBlocks]

set_option maxHeartbeats 64000000 in
set_option maxRecDepth 1000000 in
theorem stable_calls (cf : α → α → Int) (g : Nat) (cb : Array Value) (cap : Nat) (eg : ∀ args w, (callFunc g args).run Tryd.prog w = .ok (.enter g args) w) (hcmp : CmpBelow Tryd.prog g cb enc cf blk off d0.size w0) (R : Row1 enc w0 blk off d0) (hsz : d0.size < 1125899906842624) (hz : w0.drawn = 0)
    (d : Array α) (w : World) (hs : d0.size = d.size) (S : SW enc w0 blk off d w) :
    Calls Tryd.prog 71 #[.slice (some ⟨blk, off, none⟩) d.size cap, .int .i64 d.size, .func (.func g) #[] cb] w fun e w' => e = .returned (.tuple #[]) ∧ SW enc w0 blk off (stableSort (ltOf cf) d) w' := by
  have SM : Aside (∀ k, SymOk cf g cb cap enc w0 blk off d0 k) := symMerge_calls cf g cb cap eg hcmp R (by omega) hz
  have HC : Aside _ := hcmp
  clear hcmp
  have EG : Aside (∀ args w, (callFunc g args).run Tryd.prog w = .ok (.enter g args) w) := eg
  clear eg
  have RR : Aside (Row1 enc w0 blk off d0) := R
  clear R
  have S0 : Aside (SW enc w0 blk off d w) := S
  clear S
  obtain ⟨n, hn⟩ : ∃ n, n = d.size := ⟨_, rfl⟩
  have HN : Aside (n = d.size) := hn
  rw [← hn] at hs ⊢
  clear hn
  go_enter Tryd.func71, Tryd.ntmps71
  go_wp2
  go_loopg [7, 8] n (fun k va vb wr => ∃ (q A : Nat), va = .int .i64 A ∧ vb = .int .i64 (A + 20 : Nat) ∧ Aside (A = 20 * q) ∧ A ≤ n ∧ n - A ≤ k ∧ Aside (SW enc w0 blk off (insBlocks (ltOf cf) d q) wr))
  case atStart => exact ⟨0, 0, rfl, rfl, rfl, Nat.zero_le _, Nat.le_refl _, S0⟩
  case round =>
    clear S0
    obtain ⟨q, A, rfl, rfl, hA, hAn, hk, S1⟩ := hrel
    by_cases hlt : A + 20 ≤ n
    · have hltz : ((A + 20 : Nat) : Int) ≤ (n : Int) := by omega
      have hltz' : (A : Int) + 20 ≤ (n : Int) := by omega
      have r1 : IntKind.i64.wrap ((A : Int) + 20 + 20) = (A : Int) + 20 + 20 := by rw [IntKind.wrap_i64]; omega
      have r2 : IntKind.i64.wrap (((A + 20 : Nat) : Int) + 20) = ((A + 20 : Nat) : Int) + 20 := by rw [IntKind.wrap_i64]; omega
      go_wp2_with fail
      refine (ins_calls cf g cb cap A (A + 20) (insBlocks (ltOf cf) d q) _ rfl (by first | rfl | go_num) (by rw [size_insBlocks]; exact HN.out) EG.out HC.out RR.out (by rw [size_insBlocks, ← HN.out]; exact hs) S1.out (by omega) (by rw [size_insBlocks, ← HN.out]; exact hlt) (by rw [size_insBlocks, ← HN.out]; omega) hz).mono ?_
      rintro e w2 ⟨rfl, S2_⟩
      have S2 : Aside (SW enc w0 blk off (insBlocks (ltOf cf) d (q + 1)) w2) := by
        show SW enc w0 blk off (insBlocks (ltOf cf) d (q + 1)) w2
        unfold insBlocks
        rw [← hA.out]
        exact S2_
      clear S2_ S1
      go_wp2
      go_roundg (n - (A + 20))
      case measure => omega
      case rel => exact ⟨q + 1, A + 20, by first | rfl | go_num, by first | rfl | go_num, (show A + 20 = 20 * (q + 1) from by have := hA.out; omega), hlt, Nat.le_refl _, S2⟩
    · have hltz : ¬ ((A + 20 : Nat) : Int) ≤ (n : Int) := by omega
      have hltz' : ¬ (A : Int) + 20 ≤ (n : Int) := by omega
      have hq : q = d.size / 20 := by have := hA.out; have := HN.out; omega
      go_wp2_with fail
      refine (ins_calls cf g cb cap A n (insBlocks (ltOf cf) d q) _ rfl rfl (by rw [size_insBlocks]; exact HN.out) EG.out HC.out RR.out (by rw [size_insBlocks, ← HN.out]; exact hs) S1.out (by omega) (by rw [size_insBlocks, ← HN.out]; exact Nat.le_refl _) (by rw [size_insBlocks, ← HN.out]; omega) hz).mono ?_
      rintro e w2 ⟨rfl, S2_⟩
      obtain ⟨d1, hd1⟩ : ∃ x, x = insertionSort (ltOf cf) (insBlocks (ltOf cf) d (d.size / 20)) (20 * (d.size / 20)) d.size := ⟨_, rfl⟩
      have S2 : Aside (SW enc w0 blk off d1 w2) := by
        show SW enc w0 blk off d1 w2
        rw [hd1, ← hq, ← hA.out, ← HN.out]
        exact S2_
      have HS1 : Aside (d1.size = n) := by
        show d1.size = n
        rw [hd1, size_insertionSort, size_insBlocks, ← HN.out]
      have HST : Aside (stableSort (ltOf cf) d = passes (ltOf cf) n 20 d1) := by
        show _ = _
        rw [hd1, HN.out]
        rfl
      clear hd1 S2_ S1 hq hltz hltz' hA
      go_wp2
      go_loopg [6] n (fun k vb wr => ∃ (bs : Nat) (dk : Array α), vb = .int .i64 bs ∧ 20 ≤ bs ∧ bs < 2251799813685248 ∧ n - bs ≤ k ∧ Aside (dk.size = n) ∧ Aside (SW enc w0 blk off dk wr) ∧ Hid (passes (ltOf cf) k bs dk = passes (ltOf cf) n 20 d1))
      case atStart => exact ⟨20, d1, rfl, Nat.le_refl _, by omega, by omega, HS1, S2, rfl⟩
      case round =>
        clear S2 HS1
        obtain ⟨bs, dk, rfl, hb20, hbm, hk, HSK, S1, HO⟩ := hrel
        by_cases hlt : bs < n
        · have hltz : (bs : Int) < (n : Int) := by omega
          obtain ⟨k1, rfl⟩ : ∃ k1, gk = k1 + 1 := ⟨gk - 1, by omega⟩
          have r1 : IntKind.i64.wrap (2 * (bs : Int)) = 2 * (bs : Int) := by rw [IntKind.wrap_i64]; omega
          have r2 : IntKind.i64.wrap ((bs : Int) * 2) = (bs : Int) * 2 := by rw [IntKind.wrap_i64]; omega
          go_wp2
          go_loopg [7, 8] n (fun k va vb wr => ∃ (q A : Nat), va = .int .i64 A ∧ vb = .int .i64 (A + 2 * bs : Nat) ∧ Aside (A = 2 * bs * q) ∧ A ≤ n ∧ n - A ≤ k ∧ Aside (SW enc w0 blk off (mergePass (ltOf cf) bs dk q) wr))
          case atStart => exact ⟨0, 0, rfl, by first | rfl | go_num, rfl, Nat.zero_le _, Nat.le_refl _, S1⟩
          case round =>
            clear S1
            obtain ⟨q, A, rfl, rfl, hA, hAn, hk2, S1⟩ := hrel
            have r3 : IntKind.i64.wrap ((A : Int) + (bs : Int)) = (A : Int) + (bs : Int) := by rw [IntKind.wrap_i64]; omega
            by_cases hlt2 : A + 2 * bs ≤ n
            · have hz1 : (A : Int) + 2 * (bs : Int) ≤ (n : Int) := by omega
              have r4 : IntKind.i64.wrap ((A : Int) + 2 * (bs : Int) + 2 * (bs : Int)) = (A : Int) + 2 * (bs : Int) + 2 * (bs : Int) := by rw [IntKind.wrap_i64]; omega
              go_wp2_with fail
              refine ((SM.out dk.size).spelled (mergePass (ltOf cf) bs dk q) _ A (A + bs) (A + 2 * bs) rfl (by omega) (by omega) (by rw [size_mergePass]; exact HSK.out.symm) (by rw [size_mergePass, HSK.out]; exact hs) S1.out (by omega) (by omega) (by rw [size_mergePass, HSK.out]; exact hlt2) (by rw [HSK.out]; omega)).mono ?_
              rintro e w3 ⟨rfl, S3_⟩
              have S3 : Aside (SW enc w0 blk off (mergePass (ltOf cf) bs dk (q + 1)) w3) := by
                show SW enc w0 blk off (mergePass (ltOf cf) bs dk (q + 1)) w3
                unfold mergePass
                rw [← hA.out]
                exact S3_
              clear S3_ S1
              go_wp2
              go_roundg (n - (A + 2 * bs))
              case measure => omega
              case rel => exact ⟨q + 1, A + 2 * bs, by first | rfl | go_num, by first | rfl | go_num, (show A + 2 * bs = 2 * bs * (q + 1) from by have := hA.out; rw [Nat.mul_succ]; omega), hlt2, Nat.le_refl _, S3⟩
            · have hz1 : ¬ (A : Int) + 2 * (bs : Int) ≤ (n : Int) := by omega
              have hq : q = dk.size / (2 * bs) := by
                have h1 := hA.out
                rw [HSK.out]
                refine (Nat.div_eq_of_lt_le ?_ ?_).symm
                · rw [Nat.mul_comm, ← h1]; exact hAn
                · rw [Nat.succ_mul, Nat.mul_comm q, ← h1]; omega
              have HQ : Aside (q = dk.size / (2 * bs)) := hq
              clear hq
              by_cases hlt3 : A + bs < n
              · have hz2 : (A : Int) + (bs : Int) < (n : Int) := by omega
                go_wp2_with fail
                refine ((SM.out dk.size).spelled (mergePass (ltOf cf) bs dk q) _ A (A + bs) n rfl (by omega) rfl (by rw [size_mergePass]; exact HSK.out.symm) (by rw [size_mergePass, HSK.out]; exact hs) S1.out (by omega) (by omega) (by rw [size_mergePass, HSK.out]; exact Nat.le_refl _) (by rw [HSK.out]; omega)).mono ?_
                rintro e w3 ⟨rfl, S3_⟩
                have S3 : Aside (SW enc w0 blk off (mergeAll (ltOf cf) bs dk) w3) := by
                  show SW enc w0 blk off (mergeAll (ltOf cf) bs dk) w3
                  unfold mergeAll
                  simp only []
                  rw [← HQ.out, ← hA.out, HSK.out, if_pos hlt3, ← HSK.out]
                  rw [← HSK.out] at S3_
                  exact S3_
                clear S3_ S1
                go_wp2
                go_roundg k1
                case measure => omega
                case rel => exact ⟨2 * bs, mergeAll (ltOf cf) bs dk, by first | rfl | go_num | (congr 1; omega), by omega, by omega, by omega, (show _ = _ from by rw [size_mergeAll]; exact HSK.out), S3, (show Hid _ from by rw [← HO.out, passes, HSK.out, if_pos hlt]; exact rfl)⟩
              · have hz2 : ¬ (A : Int) + (bs : Int) < (n : Int) := by omega
                have S3 : Aside (SW enc w0 blk off (mergeAll (ltOf cf) bs dk) wr) := by
                  show SW enc w0 blk off (mergeAll (ltOf cf) bs dk) wr
                  unfold mergeAll
                  simp only []
                  rw [← HQ.out, ← hA.out, HSK.out, if_neg hlt3]
                  exact S1.out
                clear S1
                go_wp2
                go_roundg k1
                case measure => omega
                case rel => exact ⟨2 * bs, mergeAll (ltOf cf) bs dk, by first | rfl | go_num | (congr 1; omega), by omega, by omega, by omega, (show _ = _ from by rw [size_mergeAll]; exact HSK.out), S3, (show Hid _ from by rw [← HO.out, passes, HSK.out, if_pos hlt]; exact rfl)⟩
        · have hltz : ¬ (bs : Int) < (n : Int) := by omega
          go_wp2
          go_end0
          refine ⟨rfl, ?_⟩
          rw [HST.out, ← HO.out]
          cases gk with
          | zero => exact S1.out
          | succ k1 => rw [passes, HSK.out, if_neg hlt]; exact S1.out

theorem sortStable_calls (cf : α → α → Int) (g : Nat) (cb : Array Value) (cap : Nat) (eg : ∀ args w, (callFunc g args).run Tryd.prog w = .ok (.enter g args) w) (hcmp : CmpBelow Tryd.prog g cb enc cf blk off d0.size w0) (R : Row1 enc w0 blk off d0) (hsz : d0.size < 1125899906842624) (hz : w0.drawn = 0)
    (d : Array α) (w : World) (hs : d0.size = d.size) (S : SW enc w0 blk off d w) :
    Calls Tryd.prog 55 #[.slice (some ⟨blk, off, none⟩) d.size cap, .func (.func g) #[] cb] w fun e w' => e = .returned (.tuple #[]) ∧ SW enc w0 blk off (stableSort (ltOf cf) d) w' := by
  have C := stable_calls cf g cb cap eg hcmp R hsz hz d w hs S
  clear hcmp R S eg
  go_enter Tryd.func55, Tryd.ntmps55
  go_wp2_with fail
  refine C.mono ?_
  rintro e w' ⟨rfl, hS⟩
  go_wp2
  go_end0
  exact ⟨rfl, hS⟩
end Go.Proofs.YtkifafenmboefaaDoor.Sorts
namespace Go.Proofs.YtkifafenmboefaaDoor.Sorts
open Go.Shelf Go.RowKit Go.Lib Go.Sort Go.Proofs
set_option linter.unusedVariables false
theorem insertion_none (A : Option Addr) (cap : Nat) (fv : Value) (w : World) : Calls Tryd.prog 79 #[.slice A 0 cap, .int .i64 0, .int .i64 0, fv] w fun e w' => e = .returned (.tuple #[]) ∧ w' = w := by
  go_enter Tryd.func79, Tryd.ntmps79
  go_wp2
  go_loopg [8] 0 (fun k vi wr => vi = .int .i64 1 ∧ wr = w)
  case atStart => exact ⟨rfl, rfl⟩
  case round =>
    obtain ⟨rfl, rfl⟩ := hrel
    go_wp2
    go_end0
    exact ⟨rfl, rfl⟩
theorem stable_none (A : Option Addr) (cap : Nat) (fv : Value) (w : World) : Calls Tryd.prog 71 #[.slice A 0 cap, .int .i64 0, fv] w fun e w' => e = .returned (.tuple #[]) ∧ w' = w := by
  go_enter Tryd.func71, Tryd.ntmps71
  go_wp2
  go_loopg [7, 8] 0 (fun k va vb wr => va = .int .i64 0 ∧ vb = .int .i64 20 ∧ wr = w)
  case atStart => exact ⟨rfl, rfl, rfl⟩
  case round =>
    obtain ⟨rfl, rfl, rfl⟩ := hrel
    go_wp2_with fail
    refine (insertion_none A cap fv _).mono ?_
    rintro e w2 ⟨rfl, rfl⟩
    go_wp2
    go_loopg [6] 0 (fun k vb wr => vb = .int .i64 20 ∧ wr = w2)
    case atStart => exact ⟨rfl, rfl⟩
    case round =>
      obtain ⟨rfl, rfl⟩ := hrel
      go_wp2
      go_end0
      exact ⟨rfl, rfl⟩
theorem sortStable_none (A : Option Addr) (cap : Nat) (fv : Value) (w : World) : Calls Tryd.prog 55 #[.slice A 0 cap, fv] w fun e w' => e = .returned (.tuple #[]) ∧ w' = w := by
  go_enter Tryd.func55, Tryd.ntmps55
  go_wp2_with fail
  refine (stable_none A cap fv _).mono ?_
  rintro e w2 ⟨rfl, rfl⟩
  go_wp2
  go_end0
  exact ⟨rfl, rfl⟩
end Go.Proofs.YtkifafenmboefaaDoor.Sorts
