/- R6 R7 R8 Ra in one text. Conditions: those in each theorem. -/
import Derived.Test.YthdgjobhofpjeaaGreatDoorR1
import Derived.Test.YthdgjobhofpjeaaGreatDoorVC
import Derived.Test.YthdgjobhofpjeaaGreatDoorX15
import Derived.Test.YthdgjobhofpjeaaGreatDoorRb
import Derived.Test.YthdgjobhofpjeaaGreatDoorX16
import Derived.Test.YthdgjobhofpjeaaGreatDoorX32
namespace Go.Proofs.YthdgjobhofpjeaaGreatDoor.X
open Go Go.Proofs Go.RowKit Go.Proofs.YthdgjobhofpjeaaGreatDoorW.PrintWords Go.Proofs.YthdgjobhofpjeaaGreatDoorW.PrintLast Go.Proofs.YthdgjobhofpjeaaGreatDoorW.PrintMore
set_option linter.unusedVariables false
set_option linter.unusedSimpArgs false
theorem blanks_bs (c : UInt8) (n : Nat) : bs (blanks c (n : Int)) = List.replicate n c := by
  unfold blanks
  rw [bs_mk, Int.toNat_natCast]
  induction n with
  | zero => rfl
  | succ n ih => rw [Lib.repeatL, ih, List.replicate_succ]; rfl
theorem blanks_mk (c : UInt8) (n : Nat) : blanks c (n : Int) = ⟨(List.replicate n c).toArray⟩ := bs_inj (by rw [blanks_bs, bs_mk])
theorem repeat_loop (c : UInt8) (n : Nat) (hn : n ≤ 1099511627776) : ∀ (d i : Nat), n - i = d → i ≤ n → Ev (fun k => bitemporalref55_repeat.l0 k ⟨#[c]⟩ (n : Int) (blanks c (i : Int)) (i : Int)) (blanks c (n : Int)) := by
  intro d
  induction d with
  | zero =>
    intro i hd hi
    obtain rfl : i = n := by omega
    refine Ev.step (f := fun _ => some (blanks c (i : Int))) (fun k => ?_) (Ev.now _)
    simp only [bitemporalref55_repeat.l0]
    rw [if_neg (by omega)]
  | succ d ih =>
    intro i hd hi
    have hlt : i < n := by omega
    refine Ev.step (fun k => ?_) (ih (i + 1) (by omega) (by omega))
    simp only [bitemporalref55_repeat.l0]
    have e : blanks c (i : Int) ++ ⟨#[c]⟩ = blanks c ((i + 1 : Nat) : Int) := by
      refine bs_inj ?_
      rw [bs_append, blanks_bs, blanks_bs, List.replicate_succ']
      rfl
    rw [if_pos (by omega), if_pos (by rw [blanks_size, size_lit]; simp; omega), e, wrapN i n hlt (by omega)]
theorem repeat_ev (c : UInt8) (n : Int) (h0 : 0 ≤ n) (hn : n ≤ 1099511627776) : Ev (fun k => bitemporalref55_repeat.f k ⟨#[c]⟩ n) (blanks c n) := by
  obtain ⟨m, rfl⟩ := Int.eq_ofNat_of_zero_le h0
  have h := repeat_loop c m (by omega) m 0 (by omega) (by omega)
  have e : blanks c ((0 : Nat) : Int) = ⟨#[]⟩ := rfl
  rw [e] at h
  exact h
theorem intercalate_snoc (s : List UInt8) : ∀ (l : List (List UInt8)) (x : List UInt8), s.intercalate (l ++ [x]) = if l = [] then x else s.intercalate l ++ s ++ x
  | [], x => by simp
  | [a], x => by simp
  | a :: b :: l, x => by
    have ih := intercalate_snoc s (b :: l) x
    rw [if_neg (by simp)] at ih
    rw [if_neg (by simp)]
    have e1 : s.intercalate (a :: b :: l ++ [x]) = a ++ s ++ s.intercalate (b :: l ++ [x]) := by
      show s.intercalate (a :: b :: (l ++ [x])) = _
      rw [List.intercalate_cons_cons]
      simp
    have e2 : s.intercalate (a :: b :: l) = a ++ s ++ s.intercalate (b :: l) := by
      rw [List.intercalate_cons_cons]
      first | done | simp
    rw [e1, e2, ih]
    simp
theorem joinS_snoc (sep : ByteArray) (l : List ByteArray) (x : ByteArray) : joinS sep (l ++ [x]) = if l = [] then x else joinS sep l ++ sep ++ x := by
  refine bs_inj ?_
  unfold joinS Lib.join
  rw [List.map_append, List.map_cons, List.map_nil, intercalate_snoc]
  by_cases h : l = []
  · subst h
    rw [if_pos (show List.map (fun x : ByteArray => x.data.toList) [] = [] from rfl), bs_mk, if_pos rfl]
    rfl
  · rw [if_neg (by simpa using h), if_neg h, bs_mk, bs_append, bs_append, bs_mk]
    rfl
theorem joinS_mono (sep : ByteArray) (l : List ByteArray) : ∀ (d i : Nat), l.length - i = d → i ≤ l.length → (joinS sep (l.take i)).size ≤ (joinS sep l).size := by
  intro d
  induction d with
  | zero =>
    intro i hd hi
    rw [List.take_of_length_le (by omega)]
    exact Nat.le_refl _
  | succ d ih =>
    intro i hd hi
    have hlt : i < l.length := by omega
    refine Nat.le_trans ?_ (ih (i + 1) (by omega) (by omega))
    rw [List.take_succ_eq_append_getElem hlt, joinS_snoc]
    by_cases h : l.take i = []
    · rw [if_pos h, h]
      exact Nat.zero_le _
    · rw [if_neg h, size_append, size_append]
      omega
theorem rdS (l : List ByteArray) (i : Nat) (h : i < l.length) : rdOf ByteArray.empty l (i : Int) = l[i] := by
  unfold rdOf
  rw [Int.toNat_natCast, List.getD_eq_getElem?_getD, List.getElem?_eq_getElem h]
  rfl
theorem rdI (l : List Int) (i : Nat) : rd l (i : Int) = l.getD i 0 := by
  unfold rd
  rw [Int.toNat_natCast]
def bar : ByteArray := ⟨#[32, 124, 32]⟩
def dash3 : ByteArray := ⟨#[45, 43, 45]⟩
theorem cells_get (ws : List Int) (row : List ByteArray) (i : Nat) (h : i < row.length) : (part (cF ws) row (row.length - 1))[i]'(by rw [part_length]; exact h) = if i < row.length - 1 then cF ws i row[i] else row[i] := by
  simp [part]
theorem refLine_loop (row : List ByteArray) (ws : List Int) (hw : ws.length = row.length) (hn : row.length ≤ 1099511627776) (hsz : (joinS bar (part (cF ws) row (row.length - 1))).size ≤ 35184372088832)
    (hfit : ∀ i (h : i < row.length), ((row[i].size : Nat) : Int) ≤ ws.getD i 0 ∧ ws.getD i 0 ≤ 1099511627776) : ∀ (d i : Nat), row.length - i = d → i ≤ row.length →
    Ev (fun k => bitemporalref55_line.l0 k row ws (joinS bar ((part (cF ws) row (row.length - 1)).take i)) (i : Int)) (rowS ws row) := by
  intro d
  induction d with
  | zero =>
    intro i hd hi
    obtain rfl : i = row.length := by omega
    refine Ev.step (f := fun _ => some (rowS ws row)) (fun k => ?_) (Ev.now _)
    simp only [bitemporalref55_line.l0]
    rw [if_neg (by omega), List.take_of_length_le (by rw [part_length]; exact Nat.le_refl _), if_pos (by omega)]
    rfl
  | succ d ih =>
    intro i hd hi
    have hlt : i < row.length := by omega
    have hltP : i < (part (cF ws) row (row.length - 1)).length := by rw [part_length]; exact hlt
    obtain ⟨K, hK⟩ := ih (i + 1) (by omega) (by omega)
    obtain ⟨f1, f2⟩ := hfit i hlt
    obtain ⟨K2, hK2⟩ := repeat_ev 32 (ws.getD i 0 - (row[i].size : Int)) (by omega) (by omega)
    refine ⟨K + K2 + 1, fun k hk => ?_⟩
    obtain ⟨j, rfl⟩ : ∃ j, k = j + 1 := ⟨k - 1, by omega⟩
    have h1 := hK j (by omega)
    have h2 : bitemporalref55_repeat.f j ⟨#[32]⟩ (ws.getD i 0 - (row[i].size : Int)) = some (blanks 32 (ws.getD i 0 - (row[i].size : Int))) := hK2 j (by omega)
    have hwr : wrap64 (ws.getD i 0 - (row[i].size : Int)) = ws.getD i 0 - (row[i].size : Int) := w64 (by omega) (by omega)
    have hwl : wrap64 ((row.length : Int) - 1) = (row.length : Int) - 1 := w64 (by omega) (by omega)
    have hm1 := joinS_mono bar (part (cF ws) row (row.length - 1)) _ (i + 1) rfl (by omega)
    have hsn := joinS_snoc bar ((part (cF ws) row (row.length - 1)).take i) ((part (cF ws) row (row.length - 1))[i])
    rw [← List.take_succ_eq_append_getElem hltP, cells_get ws row i hlt] at hsn
    dsimp only at h1
    rw [hsn] at h1 hm1
    show bitemporalref55_line.l0 (j + 1) _ _ _ _ = _
    simp only [bitemporalref55_line.l0]
    rw [if_pos (by omega)]
    have hcf : cF ws i row[i] = row[i] ++ blanks 32 (ws.getD i 0 - (row[i].size : Int)) := rfl
    by_cases hi0 : i = 0
    · subst hi0
      have ht : (part (cF ws) row (row.length - 1)).take 0 = [] := rfl
      have hj0 : joinS bar ([] : List ByteArray) = ⟨#[]⟩ := rfl
      rw [if_pos ht] at h1 hm1
      rw [ht, hj0, if_neg (by omega), if_pos (by omega), rdS row 0 hlt, hwl]
      have he : (⟨#[]⟩ : ByteArray) ++ row[0] = row[0] := bs_inj (by rw [bs_append]; rfl)
      by_cases hl : 0 < row.length - 1
      · rw [if_pos hl, hcf, size_append] at hm1
        rw [if_pos hl, hcf] at h1
        rw [if_pos (by rw [size_lit]; simp; omega), if_pos (by omega), if_pos (by omega), rdI, hwr, h2, Option.bind_some, he, if_pos (by omega), wrapN 0 row.length hlt (by omega)]
        exact h1
      · rw [if_neg hl] at h1 hm1
        rw [if_pos (by rw [size_lit]; simp; omega), if_neg (by omega), he, wrapN 0 row.length hlt (by omega)]
        exact h1
    · have ht : ¬ (part (cF ws) row (row.length - 1)).take i = [] := by
        intro h
        have := congrArg List.length h
        rw [List.length_take, part_length, List.length_nil] at this
        omega
      rw [if_neg ht] at h1 hm1
      rw [if_pos (by omega), if_pos (by
        have := joinS_mono bar (part (cF ws) row (row.length - 1)) _ i rfl (by omega)
        omega), if_pos (by omega), rdS row i hlt, hwl]
      have hb3 : bar.size = 3 := rfl
      by_cases hl : i < row.length - 1
      · rw [if_pos hl, hcf, size_append, size_append, size_append] at hm1
        rw [if_pos hl, hcf] at h1
        rw [show (⟨#[32, 124, 32]⟩ : ByteArray) = bar from rfl, if_pos (by rw [size_append]; omega), if_pos (by omega), if_pos (by omega), rdI, hwr, h2, Option.bind_some, if_pos (by rw [size_append, size_append]; omega), wrapN i row.length hlt (by omega)]
        have hassoc : joinS bar ((part (cF ws) row (row.length - 1)).take i) ++ bar ++ row[i] ++ blanks 32 (ws.getD i 0 - (row[i].size : Int)) = joinS bar ((part (cF ws) row (row.length - 1)).take i) ++ bar ++ (row[i] ++ blanks 32 (ws.getD i 0 - (row[i].size : Int))) := ByteArray.append_assoc
        rw [hassoc]
        exact h1
      · rw [if_neg hl, size_append, size_append] at hm1
        rw [if_neg hl] at h1
        rw [show (⟨#[32, 124, 32]⟩ : ByteArray) = bar from rfl, if_pos (by rw [size_append]; omega), if_neg (by omega), wrapN i row.length hlt (by omega)]
        exact h1
theorem refLine_ev (row : List ByteArray) (ws : List Int) (hw : ws.length = row.length) (hn : row.length ≤ 1099511627776) (hsz : (rowS ws row).size ≤ 35184372088832)
    (hfit : ∀ i (h : i < row.length), ((row[i].size : Nat) : Int) ≤ ws.getD i 0 ∧ ws.getD i 0 ≤ 1099511627776) : Ev (fun k => bitemporalref55_line.f k row ws) (rowS ws row) := by
  have h := refLine_loop row ws hw hn (by unfold rowS lineS at hsz; rw [size_append] at hsz; exact Nat.le_trans (Nat.le_add_right _ _) hsz) hfit row.length 0 (by omega) (by omega)
  exact h
end Go.Proofs.YthdgjobhofpjeaaGreatDoor.X
namespace Go.Proofs.YthdgjobhofpjeaaGreatDoor.X
open Go Go.Proofs Go.RowKit Go.Proofs.YthdgjobhofpjeaaGreatDoorW.PrintWords Go.Proofs.YthdgjobhofpjeaaGreatDoorW.PrintLast Go.Proofs.YthdgjobhofpjeaaGreatDoorW.PrintMore
set_option linter.unusedVariables false
set_option linter.unusedSimpArgs false
def stepW (i : Nat) (w : Int) (row : List ByteArray) : Int := mx w ((row.getD i ⟨#[]⟩).size : Int)
theorem widths_get (n : Nat) (rows : List (List ByteArray)) (i : Nat) (hi : i < n) : (widths n rows).getD i 0 = rows.foldl (stepW i) 0 := by
  unfold widths
  have : ∀ (l : List (List ByteArray)) (ws : List Int), ws.length = n → (l.foldl (fun ws row => part (wF row) ws n) ws).getD i 0 = l.foldl (stepW i) (ws.getD i 0) := by
    intro l
    induction l with
    | nil => intro ws _; rfl
    | cons a l ih =>
      intro ws hl
      rw [List.foldl_cons, ih _ (by rw [part_length]; exact hl), List.foldl_cons]
      congr 1
      rw [List.getD_eq_getElem?_getD]
      simp only [part, List.getElem?_mapIdx]
      rw [List.getElem?_eq_getElem (by omega)]
      simp only [Option.map_some, Option.getD_some, if_pos hi]
      rw [List.getD_eq_getElem?_getD, List.getElem?_eq_getElem (by omega)]
      rfl
  rw [this rows _ (by simp)]
  congr 1
  rw [List.getD_eq_getElem?_getD, List.getElem?_replicate, if_pos hi]
  rfl
theorem rdL (rows : List (List ByteArray)) (k : Nat) (h : k < rows.length) : rd_L8 rows (k : Int) = rows[k] := by
  unfold rd_L8
  rw [Int.toNat_natCast, List.getD_eq_getElem?_getD, List.getElem?_eq_getElem h]
  rfl
def dashes (ws : List Int) (n : Nat) : List ByteArray := (List.range n).map fun i => blanks 45 (ws.getD i 0)
theorem marks_dashes (ws : List Int) (row : List ByteArray) : marksS ws row = lineS dash3 (dashes ws row.length) := by
  unfold marksS dash3
  congr 1
  apply List.ext_getElem?
  intro i
  by_cases h : i < row.length
  · simp [part, dashes, List.getElem?_mapIdx, h, dF]
  · rw [List.getElem?_eq_none (by simp [part]; omega), List.getElem?_eq_none (by simp [dashes]; omega)]
theorem dashes_take (ws : List Int) (n i : Nat) (h : i < n) : (dashes ws n).take (i + 1) = (dashes ws n).take i ++ [blanks 45 (ws.getD i 0)] := by
  rw [List.take_succ_eq_append_getElem (by simp [dashes]; exact h)]
  simp [dashes]
section
variable (names : List ByteArray) (rows : List (List ByteArray)) (n : Nat) (ws : List Int)
theorem col_loop (i : Nat) (hi : i < n) (hn : n ≤ 1099511627776) (hrow : ∀ row ∈ rows, row.length = n) (hN : rows.length ≤ 1099511627776) (x5 : List Int) (hx5 : x5.length ≤ 1099511627776) (x6 : ByteArray) (wf : Int) (hw0 : 0 ≤ wf) (hw1 : wf ≤ 1099511627776) (R : ByteArray)
    (hsz : x6.size + 3 + wf.toNat ≤ 35184372088832)
    (hR : Ev (fun k => bitemporalref55_table.l0 k names rows (x5 ++ [wf]) (if i = 0 then x6 ++ blanks 45 wf else x6 ++ dash3 ++ blanks 45 wf) ((i + 1 : Nat) : Int)) R) :
    ∀ (d j : Nat) (w : Int), rows.length - j = d → j ≤ rows.length → (rows.drop j).foldl (stepW i) w = wf → Ev (fun k => bitemporalref55_table.l1 k names rows x5 x6 (i : Int) w (j : Int)) R := by
  intro d
  induction d with
  | zero =>
    intro j w hd hj hf
    obtain rfl : j = rows.length := by omega
    rw [List.drop_length] at hf
    obtain rfl : w = wf := hf
    obtain ⟨K, hK⟩ := hR
    obtain ⟨K2, hK2⟩ := repeat_ev 45 w hw0 hw1
    refine ⟨K + K2 + 1, fun k hk => ?_⟩
    obtain ⟨q, rfl⟩ : ∃ q, k = q + 1 := ⟨k - 1, by omega⟩
    have h1 := hK q (by omega)
    have h2 : bitemporalref55_repeat.f q ⟨#[45]⟩ w = some (blanks 45 w) := hK2 q (by omega)
    show bitemporalref55_table.l1 (q + 1) _ _ _ _ _ _ _ = _
    simp only [bitemporalref55_table.l1]
    rw [if_neg (by omega), if_pos (by omega), Option.bind_some]
    by_cases h0 : i = 0
    · rw [if_pos h0] at h1
      rw [if_neg (by omega), h2, Option.bind_some, if_pos (by rw [blanks_size]; omega)]
      rw [wrapN i (i + 1) (by omega) (by omega)]
      exact h1
    · rw [if_neg h0] at h1
      have hd3 : dash3.size = 3 := rfl
      rw [if_pos (by omega), if_pos (by omega), h2, Option.bind_some, show (⟨#[45, 43, 45]⟩ : ByteArray) = dash3 from rfl, if_pos (by rw [size_append, blanks_size]; omega)]
      rw [wrapN i (i + 1) (by omega) (by omega)]
      exact h1
  | succ d ih =>
    intro j w hd hj hf
    have hlt : j < rows.length := by omega
    have hl : rows[j].length = n := hrow _ (List.getElem_mem hlt)
    rw [List.drop_eq_getElem_cons hlt, List.foldl_cons] at hf
    refine Ev.step (fun k => ?_) (ih (j + 1) (stepW i w rows[j]) (by omega) (by omega) hf)
    simp only [bitemporalref55_table.l1]
    rw [if_pos (by omega), if_pos (by omega), if_pos (by omega), rdL rows j hlt, if_pos (by omega), rdS rows[j] i (by omega), wrapN j rows.length hlt (by omega)]
    congr 1
    unfold stepW
    rw [List.getD_eq_getElem?_getD, List.getElem?_eq_getElem (show i < rows[j].length by omega)]
    rfl
end
theorem upS_succ (ws : List Int) (rows : List (List ByteArray)) (k : Nat) (h : 0 < k) : upS ws rows (k + 1) = upS ws rows k ++ rowS ws (rowOf rows k) := by
  rw [upS, if_neg (by omega), app_empty]
theorem rowOf_cons (a : List ByteArray) (rows : List (List ByteArray)) (k : Nat) (h : k < rows.length) : rowOf (a :: rows) (k + 1) = rows[k] := by
  unfold rowOf
  rw [List.getD_cons_succ, List.getD_eq_getElem?_getD, List.getElem?_eq_getElem h]
  rfl
theorem fit_of_ok {all : List (List ByteArray)} (h : tableOk all) (row : List ByteArray) (hr : row ∈ all) : (∀ i (hi : i < row.length), ((row[i].size : Nat) : Int) ≤ (widths (all.headD []).length all).getD i 0 ∧ (widths (all.headD []).length all).getD i 0 ≤ 1099511627776) ∧ row.length = (all.headD []).length := by
  obtain ⟨_, h5, _⟩ := h
  have hl := (h5 row hr).1
  refine ⟨fun i hi => ⟨?_, ?_⟩, hl⟩
  · have := widths_ge (all.headD []).length all row hr i (by omega)
    rw [List.getD_eq_getElem?_getD, List.getElem?_eq_getElem hi] at this
    exact this
  · exact (widths_bound _ _ 1099511627776 (by omega) (fun row hr s hs => by have := (h5 row hr).2 s hs; omega) i).2
theorem rows_loop (names : List ByteArray) (rows : List (List ByteArray)) (hok : tableOk (names :: rows)) : ∀ (d j : Nat), rows.length - j = d → j ≤ rows.length →
    Ev (fun k => bitemporalref55_table.l2 k rows (widths names.length (names :: rows)) (upS (widths names.length (names :: rows)) (names :: rows) (j + 1)) (j : Int)) (tableS (names :: rows)) := by
  have hN : rows.length + 1 ≤ 1099511627776 := hok.1.2.2.2
  intro d
  induction d with
  | zero =>
    intro j hd hj
    obtain rfl : j = rows.length := by omega
    refine Ev.step (f := fun _ => some (tableS (names :: rows))) (fun k => ?_) (Ev.now _)
    simp only [bitemporalref55_table.l2]
    rw [if_neg (by omega)]
    rfl
  | succ d ih =>
    intro j hd hj
    have hlt : j < rows.length := by omega
    obtain ⟨hf, hl⟩ := fit_of_ok hok rows[j] (List.mem_cons_of_mem _ (List.getElem_mem hlt))
    have h6 := hok.2.2.1 (j + 1) (by simp; omega)
    rw [rowOf_cons names rows j hlt] at h6
    have hlen : (widths names.length (names :: rows)).length = rows[j].length := by rw [widths_length, hl]; rfl
    obtain ⟨K, hK⟩ := ih (j + 1) (by omega) (by omega)
    obtain ⟨K2, hK2⟩ := refLine_ev rows[j] (widths names.length (names :: rows)) hlen (by rw [hl]; exact hok.1.2.2.1) h6.2 hf
    refine ⟨K + K2 + 1, fun k hk => ?_⟩
    obtain ⟨q, rfl⟩ : ∃ q, k = q + 1 := ⟨k - 1, by omega⟩
    have h1 := hK q (by omega)
    have h2 : bitemporalref55_line.f q rows[j] (widths names.length (names :: rows)) = some (rowS (widths names.length (names :: rows)) rows[j]) := hK2 q (by omega)
    dsimp only at h1
    rw [upS_succ _ _ (j + 1) (by omega), rowOf_cons names rows j hlt] at h1
    show bitemporalref55_table.l2 (q + 1) _ _ _ _ = _
    simp only [bitemporalref55_table.l2]
    have h61 := h6.1
    have h62 := h6.2
    have e9 : (names :: rows).headD [] = names := rfl
    rw [e9] at h61 h62
    rw [if_pos (by omega), if_pos (by omega), rdL rows j hlt, h2, Option.bind_some, if_pos (by omega), wrapN j rows.length hlt (by omega)]
    exact h1
theorem cols_loop (names : List ByteArray) (rows : List (List ByteArray)) (hok : tableOk (names :: rows)) : ∀ (d i : Nat), names.length - i = d → i ≤ names.length →
    Ev (fun k => bitemporalref55_table.l0 k names rows ((widths names.length (names :: rows)).take i) (joinS dash3 ((dashes (widths names.length (names :: rows)) names.length).take i)) (i : Int)) (tableS (names :: rows)) := by
  have hN : rows.length + 1 ≤ 1099511627776 := hok.1.2.2.2
  have hn : names.length ≤ 1099511627776 := hok.1.2.2.1
  have hmk : (marksS (widths names.length (names :: rows)) names).size ≤ 35184372088832 := hok.2.2.2
  have hmk2 := hmk
  rw [marks_dashes, lineS, size_append] at hmk2
  have hone : (⟨#[10]⟩ : ByteArray).size = 1 := rfl
  have hdl : (dashes (widths names.length (names :: rows)) names.length).length = names.length := by simp [dashes]
  intro d
  induction d with
  | zero =>
    intro i hd hi
    obtain rfl : i = names.length := by omega
    obtain ⟨hf, _⟩ := fit_of_ok hok names List.mem_cons_self
    have h60 := hok.2.2.1 0 (by simp)
    obtain ⟨K, hK⟩ := rows_loop names rows hok rows.length 0 (by omega) (by omega)
    obtain ⟨K2, hK2⟩ := refLine_ev names (widths names.length (names :: rows)) (widths_length _ _) hn h60.2 hf
    refine ⟨K + K2 + 1, fun k hk => ?_⟩
    obtain ⟨q, rfl⟩ : ∃ q, k = q + 1 := ⟨k - 1, by omega⟩
    have h1 := hK q (by omega)
    have h2 : bitemporalref55_line.f q names (widths names.length (names :: rows)) = some (rowS (widths names.length (names :: rows)) names) := hK2 q (by omega)
    have hrs : (rowS (widths names.length (names :: rows)) names).size ≤ 35184372088832 := h60.2
    have hup : upS (widths names.length (names :: rows)) (names :: rows) (0 + 1) = rowS (widths names.length (names :: rows)) names ++ joinS dash3 (dashes (widths names.length (names :: rows)) names.length) ++ ⟨#[10]⟩ := by
      rw [upS_one]
      have e0 : upS (widths names.length (names :: rows)) (names :: rows) 0 = ⟨#[]⟩ := rfl
      have e1 : rowOf (names :: rows) 0 = names := rfl
      have e2 : ∀ x : ByteArray, (⟨#[]⟩ : ByteArray) ++ x = x := fun x => bs_inj (by rw [bs_append]; rfl)
      rw [e0, e1, e2, marks_dashes, lineS, ByteArray.append_assoc]
    dsimp only at h1
    rw [hup] at h1
    show bitemporalref55_table.l0 (q + 1) _ _ _ _ _ = _
    simp only [bitemporalref55_table.l0]
    rw [if_neg (by omega), List.take_of_length_le (by rw [widths_length]; exact Nat.le_refl _), List.take_of_length_le (by rw [hdl]; exact Nat.le_refl _), h2, Option.bind_some, if_pos (by omega), if_pos (by rw [size_append]; omega)]
    exact h1
  | succ d ih =>
    intro i hd hi
    have hlt : i < names.length := by omega
    have hih := ih (i + 1) (by omega) (by omega)
    have hwl : i < (widths names.length (names :: rows)).length := by rw [widths_length]; exact hlt
    have hwg : (widths names.length (names :: rows))[i] = (widths names.length (names :: rows)).getD i 0 := by rw [List.getD_eq_getElem?_getD, List.getElem?_eq_getElem hwl]; rfl
    have htk : (widths names.length (names :: rows)).take (i + 1) = (widths names.length (names :: rows)).take i ++ [(widths names.length (names :: rows)).getD i 0] := by rw [List.take_succ_eq_append_getElem hwl, hwg]
    have hb := widths_bound names.length (names :: rows) 1099511627776 (by omega) (fun row hr s hs => by have := (hok.2.1 row hr).2 s hs; omega) i
    have hjs := joinS_snoc dash3 ((dashes (widths names.length (names :: rows)) names.length).take i) (blanks 45 ((widths names.length (names :: rows)).getD i 0))
    rw [← dashes_take _ _ _ hlt] at hjs
    have hmono := joinS_mono dash3 (dashes (widths names.length (names :: rows)) names.length) _ (i + 1) rfl (by omega)
    have hd3 : dash3.size = 3 := rfl
    have hE : (if i = 0 then joinS dash3 ((dashes (widths names.length (names :: rows)) names.length).take i) ++ blanks 45 ((widths names.length (names :: rows)).getD i 0) else joinS dash3 ((dashes (widths names.length (names :: rows)) names.length).take i) ++ dash3 ++ blanks 45 ((widths names.length (names :: rows)).getD i 0)) = joinS dash3 ((dashes (widths names.length (names :: rows)) names.length).take (i + 1)) := by
      rw [hjs]
      by_cases h0 : i = 0
      · subst h0
        rw [if_pos rfl, if_pos (by rfl)]
        exact bs_inj (by rw [bs_append]; rfl)
      · rw [if_neg h0, if_neg]
        intro h
        have := congrArg List.length h
        rw [List.length_take, hdl, List.length_nil] at this
        omega
    have hszx : (joinS dash3 ((dashes (widths names.length (names :: rows)) names.length).take i)).size + 3 + ((widths names.length (names :: rows)).getD i 0).toNat ≤ 35184372088832 := by
      by_cases h0 : i = 0
      · subst h0
        have : (joinS dash3 ((dashes (widths names.length (names :: rows)) names.length).take 0)).size = 0 := rfl
        omega
      · have h9 := congrArg ByteArray.size hE
        rw [if_neg h0, size_append, size_append, blanks_size] at h9
        omega
    rw [htk, ← hE] at hih
    have hcol := col_loop names rows names.length i hlt hn (fun row hr => (hok.2.1 row (List.mem_cons_of_mem _ hr)).1) (by omega) ((widths names.length (names :: rows)).take i) (by simp; omega) (joinS dash3 ((dashes (widths names.length (names :: rows)) names.length).take i)) ((widths names.length (names :: rows)).getD i 0) hb.1 hb.2 (tableS (names :: rows)) hszx hih rows.length 0 ((names[i].size : Nat) : Int) (by omega) (by omega) (by
      rw [List.drop_zero, widths_get _ _ _ hlt, List.foldl_cons]
      congr 1
      unfold stepW mx
      rw [List.getD_eq_getElem?_getD, List.getElem?_eq_getElem hlt]
      show ((names[i].size : Nat) : Int) = if (0 : Int) < ((names[i].size : Nat) : Int) then ((names[i].size : Nat) : Int) else 0
      split <;> omega)
    refine Ev.step (fun k => ?_) hcol
    simp only [bitemporalref55_table.l0]
    rw [if_pos (by omega), if_pos (by omega), rdS names i hlt]
    rfl
theorem refTable_ev (names : List ByteArray) (rows : List (List ByteArray)) (hok : tableOk (names :: rows)) : Ev (fun k => bitemporalref55_table.f k names rows) (tableS (names :: rows)) := cols_loop names rows hok names.length 0 (by omega) (by omega)
end Go.Proofs.YthdgjobhofpjeaaGreatDoor.X
namespace Go.Proofs.YthdgjobhofpjeaaGreatDoor.X
open Go Go.Proofs Go.RowKit Go.Proofs.YthdgjobhofpjeaaGreatDoorW.PrintWords Go.Proofs.YthdgjobhofpjeaaGreatDoorW.PrintLast Go.Proofs.YthdgjobhofpjeaaGreatDoorW.PrintMore
set_option linter.unusedVariables false
set_option linter.unusedSimpArgs false
/-! ### Sizes -/
theorem joinS_le (sep : ByteArray) (B : Nat) (l : List ByteArray) (h : ∀ s ∈ l, s.size ≤ B) : ∀ i, i ≤ l.length → (joinS sep (l.take i)).size ≤ i * (B + sep.size) := by
  intro i
  induction i with
  | zero =>
    intro _
    exact Nat.zero_le _
  | succ i ih =>
    intro hi
    have h1 := ih (by omega)
    have h2 := h l[i] (List.getElem_mem (by omega))
    rw [List.take_succ_eq_append_getElem (by omega), joinS_snoc, Nat.succ_mul]
    split
    · omega
    · rw [size_append, size_append]
      omega
theorem joinS_le_all (sep : ByteArray) (B : Nat) (l : List ByteArray) (h : ∀ s ∈ l, s.size ≤ B) : (joinS sep l).size ≤ l.length * (B + sep.size) := by
  have := joinS_le sep B l h l.length (Nat.le_refl _)
  rwa [List.take_of_length_le (Nat.le_refl _)] at this
theorem part_mem {α : Type} (F : Nat → α → α) (l : List α) (j : Nat) (s : α) (h : s ∈ part F l j) : ∃ i, ∃ hi : i < l.length, s = F i l[i] ∨ s = l[i] := by
  unfold part at h
  obtain ⟨i, hi, e⟩ := List.mem_mapIdx.1 h
  refine ⟨i, hi, ?_⟩
  by_cases hj : i < j
  · rw [if_pos hj] at e
    exact .inl e.symm
  · rw [if_neg hj] at e
    exact .inr e.symm
theorem cF_size (ws : List Int) (B : Nat) (i : Nat) (s : ByteArray) (hw : ws.getD i 0 ≤ (B : Int)) (hs : s.size ≤ B) : (cF ws i s).size ≤ B := by
  unfold cF
  rw [size_append, blanks_size]
  omega
theorem rowS_le (ws : List Int) (B : Nat) (row : List ByteArray) (hw : ∀ i, ws.getD i 0 ≤ (B : Int)) (h : ∀ s ∈ row, s.size ≤ B) : (rowS ws row).size ≤ row.length * (B + 3) + 1 := by
  unfold rowS lineS
  have h1 := joinS_le_all ⟨#[32, 124, 32]⟩ B (part (cF ws) row (row.length - 1)) (fun s hs => by
    obtain ⟨i, hi, rfl | rfl⟩ := part_mem _ _ _ _ hs
    · exact cF_size ws B i _ (hw i) (h _ (List.getElem_mem hi))
    · exact h _ (List.getElem_mem hi))
  have z1 : (⟨#[32, 124, 32]⟩ : ByteArray).size = 3 := rfl
  have z2 : (⟨#[10]⟩ : ByteArray).size = 1 := rfl
  rw [part_length, z1] at h1
  rw [size_append, z2]
  omega
theorem marksS_le (ws : List Int) (B : Nat) (row : List ByteArray) (hw : ∀ i, ws.getD i 0 ≤ (B : Int)) : (marksS ws row).size ≤ row.length * (B + 3) + 1 := by
  rw [marks_dashes]
  unfold lineS
  have h1 := joinS_le_all dash3 B (dashes ws row.length) (fun s hs => by
    unfold dashes at hs
    obtain ⟨i, _, rfl⟩ := List.mem_map.1 hs
    rw [blanks_size]
    have := hw i
    omega)
  have z1 : dash3.size = 3 := rfl
  have z2 : (⟨#[10]⟩ : ByteArray).size = 1 := rfl
  have z3 : (dashes ws row.length).length = row.length := by simp [dashes]
  rw [z1, z3] at h1
  rw [size_append, z2]
  omega
theorem rowOf_mem (rows : List (List ByteArray)) (k : Nat) (h : k < rows.length) : rowOf rows k ∈ rows := by
  unfold rowOf
  rw [List.getD_eq_getElem?_getD, List.getElem?_eq_getElem h]
  exact List.getElem_mem h
theorem upS_le (ws : List Int) (B n : Nat) (rows : List (List ByteArray)) (hw : ∀ i, ws.getD i 0 ≤ (B : Int)) (h : ∀ row ∈ rows, row.length = n ∧ ∀ s ∈ row, s.size ≤ B) : ∀ k, k ≤ rows.length → (upS ws rows k).size ≤ k * (2 * (n * (B + 3)) + 2) := by
  intro k
  induction k with
  | zero =>
    intro _
    exact Nat.zero_le _
  | succ k ih =>
    intro hk
    have h1 := ih (by omega)
    obtain ⟨e, h2⟩ := h _ (rowOf_mem rows k (by omega))
    have h3 := rowS_le ws B _ hw h2
    have h4 := marksS_le ws B (rowOf rows k) hw
    rw [e] at h3 h4
    rw [upS, size_append, size_append, Nat.succ_mul]
    split
    · omega
    · have z : (⟨#[]⟩ : ByteArray).size = 0 := rfl
      omega
theorem tableOk_of (rows : List (List ByteArray)) (n : Nat) (h0 : rows ≠ []) (hn : 1 ≤ n) (hn2 : n ≤ 4000) (hM : rows.length ≤ 4000) (h : ∀ row ∈ rows, row.length = n ∧ ∀ s ∈ row, s.size ≤ 4000) : tableOk rows ∧ (tableS rows).size ≤ 35184372088832 := by
  have hh : (rows.headD []).length = n := by
    cases rows with
    | nil => exact absurd rfl h0
    | cons a l => exact (h a List.mem_cons_self).1
  have hw : ∀ i, (widths (rows.headD []).length rows).getD i 0 ≤ ((4000 : Nat) : Int) := fun i => (widths_bound _ rows 4000 (by omega) (fun row hr s hs => by have := (h row hr).2 s hs; omega) i).2
  have hm : n * (4000 + 3) ≤ 4000 * (4000 + 3) := Nat.mul_le_mul_right _ hn2
  have hu : ∀ k, k ≤ rows.length → (upS (widths (rows.headD []).length rows) rows k).size ≤ 35184372088832 := by
    intro k hk
    have h1 := upS_le _ 4000 n rows hw h k hk
    have h2 : k * (2 * (n * (4000 + 3)) + 2) ≤ 4000 * (2 * (4000 * (4000 + 3)) + 2) := Nat.mul_le_mul (by omega) (by omega)
    omega
  have hpos : 0 < rows.length := List.length_pos_iff.2 h0
  refine ⟨⟨⟨h0, by omega, by omega, by omega⟩, fun row hr => ⟨by rw [hh]; exact (h row hr).1, fun s hs => by have := (h row hr).2 s hs; omega⟩, fun k hk => ⟨hu k (by omega), ?_⟩, ?_⟩, hu _ (Nat.le_refl _)⟩
  · obtain ⟨e, h2⟩ := h _ (rowOf_mem rows k hk)
    have h3 := rowS_le _ 4000 _ hw h2
    rw [e] at h3
    omega
  · have h4 := marksS_le _ 4000 (rowOf rows 0) hw
    rw [(h _ (rowOf_mem rows 0 hpos)).1] at h4
    omega
/-! ### The reference's result -/
theorem rdC (l : List Col) (i : Nat) (h : i < l.length) : rd_T49 l (i : Int) = l[i] := by
  unfold rd_T49
  rw [Int.toNat_natCast, List.getD_eq_getElem?_getD, List.getElem?_eq_getElem h]
  rfl
theorem rdF (l : List Fct) (i : Nat) (h : i < l.length) : rd_T45 l (i : Int) = l[i] := by
  unfold rd_T45
  rw [Int.toNat_natCast, List.getD_eq_getElem?_getD, List.getElem?_eq_getElem h]
  rfl
theorem rdV (l : List Val) (i : Nat) (h : i < l.length) : rd_T54 l (i : Int) = l[i] := by
  unfold rd_T54
  rw [Int.toNat_natCast, List.getD_eq_getElem?_getD, List.getElem?_eq_getElem h]
  rfl
theorem refNames_loop (l : List Col) (hl : l.length ≤ 1099511627776) : ∀ (d i : Nat), l.length - i = d → i ≤ l.length → Ev (fun k => bitemporalref55_names.l0 k l ((l.take i).map (·.f0)) (i : Int)) (l.map (·.f0)) := by
  intro d
  induction d with
  | zero =>
    intro i hd hi
    obtain rfl : i = l.length := by omega
    refine Ev.step (f := fun _ => some (l.map (·.f0))) (fun k => ?_) (Ev.now _)
    simp only [bitemporalref55_names.l0]
    rw [if_neg (by omega), List.take_of_length_le (Nat.le_refl _)]
  | succ d ih =>
    intro i hd hi
    have hlt : i < l.length := by omega
    refine Ev.step (fun k => ?_) (ih (i + 1) (by omega) (by omega))
    simp only [bitemporalref55_names.l0]
    rw [if_pos (by omega), if_pos (by omega), if_pos (by simp; omega), rdC l i hlt, wrapN i l.length hlt (by omega), List.take_succ_eq_append_getElem hlt, List.map_append]
    rfl
theorem refNames_ev (l : List Col) (hl : l.length ≤ 1099511627776) : Ev (fun k => bitemporalref55_names.f k l) (l.map (·.f0)) := refNames_loop l hl l.length 0 (by omega) (by omega)
theorem refCells_loop (row : List Val) (n : Nat) (hn : n ≤ 1099511627776) : ∀ (d i : Nat), n - i = d → i ≤ n → Ev (fun k => bitemporalref55_cells.l0 k row (n : Int) ((valuesS row n).take i) (i : Int)) (valuesS row n) := by
  have hlen : (valuesS row n).length = n := by simp [valuesS]
  intro d
  induction d with
  | zero =>
    intro i hd hi
    obtain rfl : i = n := by omega
    refine Ev.step (f := fun _ => some (valuesS row i)) (fun k => ?_) (Ev.now _)
    simp only [bitemporalref55_cells.l0]
    rw [if_neg (by omega), List.take_of_length_le (by omega)]
  | succ d ih =>
    intro i hd hi
    have hlt : i < n := by omega
    obtain ⟨K, hK⟩ := ih (i + 1) (by omega) (by omega)
    refine ⟨K + 300, fun k hk => ?_⟩
    obtain ⟨j, rfl⟩ : ∃ j, k = j + 1 := ⟨k - 1, by omega⟩
    have h1 := hK j (by omega)
    dsimp only at h1
    have hget : (valuesS row n)[i]'(by omega) = cellV row i := by simp [valuesS]
    rw [List.take_succ_eq_append_getElem (by omega), hget] at h1
    show bitemporalref55_cells.l0 (j + 1) _ _ _ _ = _
    simp only [bitemporalref55_cells.l0]
    rw [if_pos (by omega)]
    by_cases hr : i < row.length
    · have hc : cellV row i = ⟨(litS row[i].f0 row[i].f1 row[i].f2).toArray⟩ := by
        unfold cellV
        rw [dif_pos hr]
        rfl
      rw [hc] at h1
      rw [if_pos (by omega), if_pos (by omega), rdV row i hr, lit_eq' j (by omega), Option.bind_some, if_pos (by rw [List.length_take]; omega), wrapN i n hlt (by omega)]
      exact h1
    · have hc : cellV row i = ⟨#[]⟩ := by
        unfold cellV
        rw [dif_neg hr]
      rw [hc] at h1
      rw [if_neg (by omega), if_pos (by rw [List.length_take]; omega), wrapN i n hlt (by omega)]
      exact h1
theorem refCells_ev (row : List Val) (n : Nat) (hn : n ≤ 1099511627776) : Ev (fun k => bitemporalref55_cells.f k row (n : Int)) (valuesS row n) := refCells_loop row n hn n 0 (by omega) (by omega)
theorem rows_ev (cols : List Col) (facts : List Fct) (t : Bool) (c tm : Int) (hc : cols.length ≤ 1048576) (hf : facts.length ≤ 1048576) (head : List ByteArray) (hT : tableOk (head :: facts.map (rowR cols.length t))) (hTs : (tableS (head :: facts.map (rowR cols.length t))).size ≤ 35184372088832) :
    ∀ (d i : Nat), facts.length - i = d → i ≤ facts.length → Ev (fun k => bitemporalref55_Result.l1 k t head ((facts.take i).map (rowR cols.length t)) (i : Int) cols facts c tm) (tableS (head :: facts.map (rowR cols.length t)) ++ countS facts.length) := by
  intro d
  induction d with
  | zero =>
    intro i hd hi
    obtain rfl : i = facts.length := by omega
    obtain ⟨K, hK⟩ := refTable_ev head (facts.map (rowR cols.length t)) hT
    refine ⟨K + 40, fun k hk => ?_⟩
    obtain ⟨j, rfl⟩ : ∃ j, k = j + 1 := ⟨k - 1, by omega⟩
    have h1 : bitemporalref55_table.f j head (facts.map (rowR cols.length t)) = some (tableS (head :: facts.map (rowR cols.length t))) := hK j (by omega)
    show bitemporalref55_Result.l1 (j + 1) _ _ _ _ _ _ _ _ = _
    simp only [bitemporalref55_Result.l1]
    have hi25 : (⟨(Lib.itoa (facts.length : Int)).toArray⟩ : ByteArray).size ≤ 25 := by
      rw [size_mk]
      exact itoa_len (facts.length : Int) (by omega) (by omega)
    have hcn : countS facts.length = (⟨(Lib.itoa (facts.length : Int)).toArray⟩ : ByteArray) ++ (if facts.length = 1 then ⟨#[32, 114, 111, 119, 10]⟩ else ⟨#[32, 114, 111, 119, 115, 10]⟩) := by
      unfold countS lineS wordS
      rw [joinS_two]
      refine bs_inj ?_
      split <;> (simp only [bs_append]; simp [bs, itoaB])
    rw [if_neg (by omega), List.take_of_length_le (Nat.le_refl _), List.length_map]
    by_cases h1m : facts.length = 1
    · rw [if_pos (by omega), h1, Option.bind_some, num07_eq j (by omega) _ (by omega) (by omega), Option.bind_some, if_pos (by omega), if_pos (by rw [size_append]; omega), hcn, if_pos h1m]
      refine congrArg some (bs_inj ?_)
      simp only [bs_append, List.append_assoc]
    · rw [if_neg (by omega), h1, Option.bind_some, num07_eq j (by omega) _ (by omega) (by omega), Option.bind_some, if_pos (by omega), if_pos (by rw [size_append]; omega), hcn, if_neg h1m]
      refine congrArg some (bs_inj ?_)
      simp only [bs_append, List.append_assoc]
  | succ d ih =>
    intro i hd hi
    have hlt : i < facts.length := by omega
    obtain ⟨K, hK⟩ := ih (i + 1) (by omega) (by omega)
    obtain ⟨K2, hK2⟩ := refCells_ev facts[i].f0 cols.length (by omega)
    refine ⟨K + K2 + 40, fun k hk => ?_⟩
    obtain ⟨j, rfl⟩ : ∃ j, k = j + 1 := ⟨k - 1, by omega⟩
    have h1 := hK j (by omega)
    have h2 : bitemporalref55_cells.f j facts[i].f0 (cols.length : Int) = some (valuesS facts[i].f0 cols.length) := hK2 j (by omega)
    dsimp only at h1
    rw [List.take_succ_eq_append_getElem hlt, List.map_append, List.map_cons, List.map_nil] at h1
    have hvl : (valuesS facts[i].f0 cols.length).length = cols.length := by simp [valuesS]
    have hal : ((facts.take i).map (rowR cols.length t)).length < 5864062014805 := by rw [List.length_map, List.length_take]; omega
    show bitemporalref55_Result.l1 (j + 1) _ _ _ _ _ _ _ _ = _
    simp only [bitemporalref55_Result.l1]
    rw [if_pos (by omega), if_pos (by omega), rdF facts i hlt, h2, Option.bind_some]
    cases t with
    | true =>
      rw [if_pos rfl, refPer_eq j (by omega), Option.bind_some, if_pos (by omega), if_pos hal, wrapN i facts.length hlt (by omega)]
      exact h1
    | false =>
      rw [if_neg (by decide), if_pos hal, wrapN i facts.length hlt (by omega)]
      exact h1
theorem timed_loop (cols : List Col) (facts : List Fct) (c tm : Int) (r : ByteArray) (hc : cols.length ≤ 1048576) (hf : facts.length ≤ 1048576)
    (hR : Ev (fun k => bitemporalref55_Result.l1 k (facts.any timedF) (headS cols (facts.any timedF)) [] 0 cols facts c tm) r) : ∀ (d i : Nat) (t : Bool), facts.length - i = d → i ≤ facts.length → (t || (facts.drop i).any timedF) = facts.any timedF →
    Ev (fun k => bitemporalref55_Result.l0 k t (i : Int) cols facts c tm) r := by
  intro d
  induction d with
  | zero =>
    intro i t hd hi ht
    obtain rfl : i = facts.length := by omega
    rw [List.drop_length, List.any_nil, Bool.or_false] at ht
    subst ht
    obtain ⟨K, hK⟩ := hR
    obtain ⟨K2, hK2⟩ := refNames_ev cols (by omega)
    refine ⟨K + K2 + 2, fun k hk => ?_⟩
    obtain ⟨j, rfl⟩ : ∃ j, k = j + 2 := ⟨k - 2, by omega⟩
    have h1 := hK j (by omega)
    have h2 : bitemporalref55_names.f (j + 1) cols = some (cols.map (·.f0)) := hK2 (j + 1) (by omega)
    dsimp only at h1
    show bitemporalref55_Result.l0 (j + 1 + 1) _ _ _ _ _ _ = _
    simp only [bitemporalref55_Result.l0]
    rw [if_neg (by omega), h2, Option.bind_some]
    cases hb : facts.any timedF with
    | true =>
      rw [hb] at h1
      rw [if_pos rfl, if_pos (by simp; omega)]
      simp only [bitemporalref55_Result.j1]
      exact h1
    | false =>
      rw [hb] at h1
      rw [if_neg (by decide)]
      simp only [bitemporalref55_Result.j1]
      exact h1
  | succ d ih =>
    intro i t hd hi ht
    have hlt : i < facts.length := by omega
    rw [List.drop_eq_getElem_cons hlt, List.any_cons] at ht
    cases t with
    | true =>
      refine Ev.step (fun k => ?_) (ih (i + 1) true (by omega) (by omega) (by simpa using ht))
      simp only [bitemporalref55_Result.l0]
      rw [if_pos (by omega), if_pos trivial, wrapN i facts.length hlt (by omega)]
    | false =>
      refine Ev.step (fun k => ?_) (ih (i + 1) (timedF facts[i]) (by omega) (by omega) (by simpa using ht))
      simp only [bitemporalref55_Result.l0]
      rw [if_pos (by omega), if_neg (by decide), if_pos (by omega), rdF facts i hlt, wrapN i facts.length hlt (by omega)]
      rfl
theorem refResult_ev (cols : List Col) (facts : List Fct) (c tm : Int) (h0 : cols ≠ []) (hc : cols.length ≤ 1048576) (hf : facts.length ≤ 1048576) (hT : tableOk (rowsR cols facts)) (hTs : (tableS (rowsR cols facts)).size ≤ 35184372088832) :
    Ev (fun k => bitemporalref55_Result.f k cols facts c tm) (resultS cols facts) := by
  have h := timed_loop cols facts c tm (resultS cols facts) hc hf (rows_ev cols facts (facts.any timedF) c tm hc hf (headS cols (facts.any timedF)) hT hTs facts.length 0 (by omega) (by omega)) facts.length 0 false (by omega) (by omega) (by simp)
  obtain ⟨K, hK⟩ := h
  refine ⟨K, fun k hk => ?_⟩
  show bitemporalref55_Result.f k cols facts c tm = _
  unfold bitemporalref55_Result.f
  have hne : ¬ (cols.length : Int) = 0 := by
    intro h
    exact h0 (List.length_eq_zero_iff.1 (by omega))
  rw [if_neg hne]
  exact hK k hk
end Go.Proofs.YthdgjobhofpjeaaGreatDoor.X
namespace Go.Proofs.YthdgjobhofpjeaaGreatDoor.X
open Go Go.Proofs Go.RowKit Go.Proofs.YthdgjobhofpjeaaGreatDoorW.PrintWords Go.Proofs.YthdgjobhofpjeaaGreatDoorW.PrintLast Go.Proofs.YthdgjobhofpjeaaGreatDoorW.PrintMore
set_option linter.unusedVariables false
set_option linter.unusedSimpArgs false
def sumF : List Fct → Int
  | [] => 0
  | f :: l => (f.f0.length : Int) + sumF l
def sumC : List Col → Int
  | [] => 0
  | c :: l => mn (c.f0.size : Int) 10000 + sumC l
theorem mn_b (n : Nat) : 0 ≤ mn (n : Int) 10000 ∧ mn (n : Int) 10000 ≤ 10000 ∧ (mn (n : Int) 10000 ≤ 3000 → n ≤ 3000) := by
  unfold mn
  split <;> omega
theorem sumF_nn : ∀ l, 0 ≤ sumF l
  | [] => by simp [sumF]
  | f :: l => by
    have := sumF_nn l
    rw [sumF]
    omega
theorem sumC_nn : ∀ l, 0 ≤ sumC l
  | [] => by simp [sumC]
  | c :: l => by
    have := sumC_nn l
    have := mn_b c.f0.size
    rw [sumC]
    omega
theorem sumC_mem : ∀ (l : List Col) (c : Col), c ∈ l → sumC l ≤ 3000 → c.f0.size ≤ 3000
  | [], c, h, _ => by cases h
  | d :: l, c, h, hs => by
    have h1 := mn_b d.f0.size
    have h2 := sumC_nn l
    rw [sumC] at hs
    rcases List.mem_cons.1 h with rfl | h
    · exact h1.2.2 (by omega)
    · exact sumC_mem l c h (by omega)
theorem tame1_loop (cols : List Col) (facts : List Fct) (c tm : Int) (hf : facts.length ≤ 1048576) (hr : ∀ f ∈ facts, f.f0.length ≤ 1048576) : ∀ (d i : Nat) (x : Int), facts.length - i = d → i ≤ facts.length → 0 ≤ x → x + 1048576 * d ≤ 4611686018427387904 →
    Ev (fun k => bitemporalref55_Tame.l1 k x (i : Int) cols facts c tm) (decide (x + sumF (facts.drop i) ≤ 3000)) := by
  intro d
  induction d with
  | zero =>
    intro i x hd hi h0 hx
    obtain rfl : i = facts.length := by omega
    rw [List.drop_length]
    refine Ev.step (f := fun _ => some (decide (x + sumF [] ≤ 3000))) (fun k => ?_) (Ev.now _)
    simp only [bitemporalref55_Tame.l1]
    rw [if_neg (by omega), sumF, Int.add_zero]
  | succ d ih =>
    intro i x hd hi h0 hx
    have hlt : i < facts.length := by omega
    have hl := hr facts[i] (List.getElem_mem hlt)
    rw [List.drop_eq_getElem_cons hlt, sumF, ← Int.add_assoc]
    refine Ev.step (fun k => ?_) (ih (i + 1) (x + (facts[i].f0.length : Int)) (by omega) (by omega) (by omega) (by omega))
    simp only [bitemporalref55_Tame.l1]
    rw [if_pos (by omega), if_pos (by omega), rdF facts i hlt, w64 (n := x + (facts[i].f0.length : Int)) (by omega) (by omega), wrapN i facts.length hlt (by omega)]
theorem tame0_loop (cols : List Col) (facts : List Fct) (c tm : Int) (hc : cols.length ≤ 1048576) (hf : facts.length ≤ 1048576) (hr : ∀ f ∈ facts, f.f0.length ≤ 1048576) : ∀ (d i : Nat) (x : Int), cols.length - i = d → i ≤ cols.length → 0 ≤ x → x + 10000 * d ≤ 2305843009213693952 →
    Ev (fun k => bitemporalref55_Tame.l0 k x (i : Int) cols facts c tm) (decide (x + sumC (cols.drop i) + sumF facts ≤ 3000)) := by
  intro d
  induction d with
  | zero =>
    intro i x hd hi h0 hx
    obtain rfl : i = cols.length := by omega
    have h := tame1_loop cols facts c tm hf hr facts.length 0 x (by omega) (by omega) h0 (by omega)
    rw [List.drop_zero] at h
    rw [List.drop_length, sumC, Int.add_zero]
    refine Ev.step (fun k => ?_) h
    simp only [bitemporalref55_Tame.l0]
    rw [if_neg (by omega)]
    rfl
  | succ d ih =>
    intro i x hd hi h0 hx
    have hlt : i < cols.length := by omega
    have hm := mn_b cols[i].f0.size
    rw [List.drop_eq_getElem_cons hlt, sumC, ← Int.add_assoc]
    refine Ev.step (fun k => ?_) (ih (i + 1) (x + mn (cols[i].f0.size : Int) 10000) (by omega) (by omega) (by omega) (by omega))
    simp only [bitemporalref55_Tame.l0]
    rw [if_pos (by omega), if_pos (by omega), rdC cols i hlt, w64 (n := x + mn (cols[i].f0.size : Int) 10000) (by omega) (by omega), wrapN i cols.length hlt (by omega)]
theorem Tame_ev (cols : List Col) (facts : List Fct) (c tm : Int) (hc : cols.length ≤ 1048576) (hf : facts.length ≤ 1048576) (hr : ∀ f ∈ facts, f.f0.length ≤ 1048576) :
    Ev (fun k => bitemporalref55_Tame.f k cols facts c tm) (decide (((facts.length * (cols.length + 1) + cols.length : Nat) : Int) + sumC cols + sumF facts ≤ 3000)) := by
  have hm : facts.length * (cols.length + 1) ≤ 1048576 * (1048576 + 1) := Nat.mul_le_mul hf (by omega)
  have h := tame0_loop cols facts c tm hc hf hr cols.length 0 ((facts.length * (cols.length + 1) + cols.length : Nat) : Int) (by omega) (by omega) (by omega) (by omega)
  obtain ⟨K, hK⟩ := h
  refine ⟨K, fun k hk => ?_⟩
  show bitemporalref55_Tame.f k cols facts c tm = _
  unfold bitemporalref55_Tame.f
  have e1 : wrap64 ((cols.length : Int) + 1) = ((cols.length + 1 : Nat) : Int) := w64 (by omega) (by omega)
  have e2 : wrap64 ((facts.length : Int) * ((cols.length + 1 : Nat) : Int)) = ((facts.length * (cols.length + 1) : Nat) : Int) := by
    rw [← Int.natCast_mul]
    exact w64 (by omega) (by omega)
  have e3 : wrap64 (((facts.length * (cols.length + 1) : Nat) : Int) + (cols.length : Int)) = ((facts.length * (cols.length + 1) + cols.length : Nat) : Int) := by
    rw [← Int.natCast_add]
    exact w64 (by omega) (by omega)
  rw [e1, e2, e3]
  exact hK k hk
theorem tame_loop (l : List Int) (hl : l.length ≤ 1048576) : ∀ (d i : Nat), l.length - i = d → i ≤ l.length → ∃ b, Ev (fun k => bitemporallaw55_tame.l0 k l (l.length : Int) (i : Int)) b := by
  intro d
  induction d with
  | zero =>
    intro i hd hi
    obtain rfl : i = l.length := by omega
    refine ⟨true, Ev.step (f := fun _ => some true) (fun k => ?_) (Ev.now _)⟩
    simp only [bitemporallaw55_tame.l0]
    rw [if_neg (by omega)]
  | succ d ih =>
    intro i hd hi
    have hlt : i < l.length := by omega
    by_cases c1 : rd l (i : Int) < -1152921504606846976
    · refine ⟨false, Ev.step (f := fun _ => some false) (fun k => ?_) (Ev.now _)⟩
      simp only [bitemporallaw55_tame.l0]
      rw [if_pos (by omega), if_pos (by omega), if_pos (by omega), if_pos c1]
    by_cases c2 : rd l (i : Int) > 1152921504606846976
    · refine ⟨false, Ev.step (f := fun _ => some false) (fun k => ?_) (Ev.now _)⟩
      simp only [bitemporallaw55_tame.l0]
      rw [if_pos (by omega), if_pos (by omega), if_pos (by omega), if_neg c1, if_pos c2]
    obtain ⟨b, hb⟩ := ih (i + 1) (by omega) (by omega)
    refine ⟨b, Ev.step (fun k => ?_) hb⟩
    simp only [bitemporallaw55_tame.l0]
    rw [if_pos (by omega), if_pos (by omega), if_pos (by omega), if_neg c1, if_neg c2, wrapN i l.length hlt (by omega)]
theorem tame_ev (l : List Int) (hl : l.length ≤ 1048576) : ∃ b, Ev (fun k => bitemporallaw55_tame.f k l) b := tame_loop l hl l.length 0 (by omega) (by omega)
/-! ### A done text -/
def tOk : ByteArray := ⟨#[111, 107]⟩
def tCount : ByteArray := ⟨#[99, 111, 117, 110, 116, 32]⟩
def tTime : ByteArray := ⟨#[116, 105, 109, 101, 32]⟩
def comma : ByteArray := ⟨#[44, 32]⟩
def doneL (c tm : Int) : List ByteArray := if c = 0 then (if tm = 0 then [tOk] else [tOk, tTime ++ itoaB tm]) else (if tm = 0 then [tOk, tCount ++ itoaB c] else [tOk, tCount ++ itoaB c, tTime ++ itoaB tm])
def doneS (c tm : Int) : ByteArray := lineS comma (doneL c tm)
theorem doneL_line (c tm : Int) (c0 : -9223372036854775808 ≤ c) (c1 : c ≤ 9223372036854775807) (t0 : -9223372036854775808 ≤ tm) (t1 : tm ≤ 9223372036854775807) : report_line.f comma (doneL c tm) = some (doneS c tm) := by
  have s1 := itoaB_size c c0 c1
  have s2 := itoaB_size tm t0 t1
  have z1 : tOk.size = 2 := rfl
  have z2 : tCount.size = 6 := rfl
  have z3 : tTime.size = 5 := rfl
  have z4 : comma.size = 2 := rfl
  have z5 : (⟨#[10]⟩ : ByteArray).size = 1 := rfl
  have hlen : (doneL c tm).length ≤ 3 := by
    unfold doneL
    split <;> split <;> simp
  have hj := joinS_le_all comma 40 (doneL c tm) (fun s hs => by
    unfold doneL at hs
    split at hs <;> split at hs <;> simp only [List.mem_cons, List.not_mem_nil, or_false] at hs
    · subst hs; omega
    · rcases hs with rfl | rfl
      · omega
      · rw [size_append]; omega
    · rcases hs with rfl | rfl
      · omega
      · rw [size_append]; omega
    · rcases hs with rfl | rfl | rfl
      · omega
      · rw [size_append]; omega
      · rw [size_append]; omega)
  have hm : (doneL c tm).length * (40 + comma.size) ≤ 3 * (40 + comma.size) := Nat.mul_le_mul_right _ hlen
  refine line_ok _ _ (by omega) ?_
  unfold lineS
  rw [size_append]
  omega
theorem done_report (facts : List Fct) (c tm : Int) (c0 : -9223372036854775808 ≤ c) (c1 : c ≤ 9223372036854775807) (t0 : -9223372036854775808 ≤ tm) (t1 : tm ≤ 9223372036854775807) (k : Nat) (hk : 2 ≤ k) : report_Result.f k [] facts c tm = some (doneS c tm) := by
  obtain ⟨j, rfl⟩ : ∃ j, k = j + 1 := ⟨k - 1, by omega⟩
  have hl := doneL_line c tm c0 c1 t0 t1
  have s1 := itoaB_size c c0 c1
  have s2 := itoaB_size tm t0 t1
  unfold doneL at hl
  unfold report_Result.f
  rw [if_pos (by simp), Option.bind_some]
  by_cases hc : c = 0
  · rw [if_pos hc] at hl
    rw [if_pos hc]
    simp only [report_Result.j0]
    by_cases ht : tm = 0
    · rw [if_pos ht] at hl
      rw [if_pos ht]
      exact (congrArg (Option.bind · _) hl).trans rfl
    · rw [if_neg ht] at hl
      rw [if_neg ht, itoa_eq _ t0 t1, Option.bind_some, if_pos (by omega), if_pos (by simp)]
      exact (congrArg (Option.bind · _) hl).trans rfl
  · rw [if_neg hc] at hl
    rw [if_neg hc, itoa_eq _ c0 c1, Option.bind_some, if_pos (by omega), if_pos (by simp)]
    simp only [report_Result.j0]
    by_cases ht : tm = 0
    · rw [if_pos ht] at hl
      rw [if_pos ht]
      exact (congrArg (Option.bind · _) hl).trans rfl
    · rw [if_neg ht] at hl
      rw [if_neg ht, itoa_eq _ t0 t1, Option.bind_some, if_pos (by omega), if_pos (by simp)]
      exact (congrArg (Option.bind · _) hl).trans rfl
theorem done_ref (facts : List Fct) (c tm : Int) (c0 : -9223372036854775808 ≤ c) (c1 : c ≤ 9223372036854775807) (t0 : -9223372036854775808 ≤ tm) (t1 : tm ≤ 9223372036854775807) (k : Nat) (hk : 31 ≤ k) : bitemporalref55_Result.f k [] facts c tm = some (doneS c tm) := by
  have s1 : (⟨(Lib.itoa c).toArray⟩ : ByteArray).size ≤ 25 := itoaB_size c c0 c1
  have s2 : (⟨(Lib.itoa tm).toArray⟩ : ByteArray).size ≤ 25 := itoaB_size tm t0 t1
  have z1 : (⟨#[111, 107]⟩ : ByteArray).size = 2 := rfl
  have z2 : (⟨#[44, 32, 116, 105, 109, 101, 32]⟩ : ByteArray).size = 7 := rfl
  have z3 : (⟨#[44, 32, 99, 111, 117, 110, 116, 32]⟩ : ByteArray).size = 8 := rfl
  unfold bitemporalref55_Result.f bitemporalref55_done.f
  rw [if_pos (by simp)]
  by_cases hc : c = 0
  · by_cases ht : tm = 0
    · subst hc ht
      rfl
    · rw [if_pos hc, if_neg ht, if_pos (by omega), num07_eq k hk _ t0 (by omega), Option.bind_some, if_pos (by simp only [size_append]; omega), if_pos (by simp only [size_append]; omega), Option.bind_some]
      refine congrArg some (bs_inj ?_)
      unfold doneS doneL lineS
      rw [if_pos hc, if_neg ht, joinS_two]
      simp only [bs_append]
      simp [bs, itoaB, tOk, tTime, comma]
  · by_cases ht : tm = 0
    · rw [if_neg hc, if_pos (by omega), num07_eq k hk _ c0 (by omega), Option.bind_some, if_pos (by simp only [size_append]; omega), if_pos ht, if_pos (by simp only [size_append]; omega), Option.bind_some]
      refine congrArg some (bs_inj ?_)
      unfold doneS doneL lineS
      rw [if_neg hc, if_pos ht, joinS_two]
      simp only [bs_append]
      simp [bs, itoaB, tOk, tCount, comma]
    · rw [if_neg hc, if_pos (by omega), num07_eq k hk _ c0 (by omega), Option.bind_some, if_pos (by simp only [size_append]; omega), if_neg ht, if_pos (by simp only [size_append]; omega), num07_eq k hk _ t0 (by omega), Option.bind_some, if_pos (by simp only [size_append]; omega), if_pos (by simp only [size_append]; omega), Option.bind_some]
      refine congrArg some (bs_inj ?_)
      unfold doneS doneL lineS
      rw [if_neg hc, if_neg ht]
      have e3 : joinS comma [tOk, tCount ++ itoaB c, tTime ++ itoaB tm] = tOk ++ comma ++ (tCount ++ itoaB c) ++ comma ++ (tTime ++ itoaB tm) := by
        have := joinS_snoc comma [tOk, tCount ++ itoaB c] (tTime ++ itoaB tm)
        rw [if_neg (by simp), joinS_two] at this
        exact this
      rw [e3]
      simp only [bs_append]
      simp [bs, itoaB, tOk, tCount, tTime, comma]
/-! ### The law -/
theorem cellV_size (row : List Val) (i : Nat) : (cellV row i).size ≤ 402 := by
  unfold cellV
  split
  · next h =>
    have := litV_len row[i]
    unfold litB
    rw [size_mk]
    exact this
  · exact Nat.zero_le _
theorem valuesS_size (row : List Val) (n : Nat) : ∀ s ∈ valuesS row n, s.size ≤ 402 := by
  intro s hs
  unfold valuesS at hs
  obtain ⟨i, _, rfl⟩ := List.mem_map.1 hs
  exact cellV_size row i
theorem rows_ok (cols : List Col) (facts : List Fct) (h0 : cols ≠ []) (hc : cols.length ≤ 3000) (hf : facts.length ≤ 3000) (hn : ∀ c ∈ cols, c.f0.size ≤ 3000) : tableOk (rowsR cols facts) ∧ (tableS (rowsR cols facts)).size ≤ 35184372088832 := by
  have hp : 0 < cols.length := List.length_pos_iff.2 h0
  have hv : ∀ f : Fct, (valuesS f.f0 cols.length).length = cols.length := fun f => by simp [valuesS]
  have hnm : ∀ s ∈ cols.map (·.f0), s.size ≤ 4000 := fun s hs => by
    obtain ⟨c, hc, rfl⟩ := List.mem_map.1 hs
    have := hn c hc
    omega
  have z5 : bValid.size = 5 := rfl
  unfold rowsR
  cases facts.any timedF with
  | true =>
    refine tableOk_of _ (cols.length + 1) (by simp) (by omega) (by omega) (by simp; omega) fun row hr => ?_
    rcases List.mem_cons.1 hr with rfl | hr
    · refine ⟨by simp [headS], fun s hs => ?_⟩
      unfold headS at hs
      rw [if_pos rfl] at hs
      rcases List.mem_append.1 hs with hs | hs
      · exact hnm s hs
      · rw [List.mem_singleton.1 hs]
        omega
    · obtain ⟨f, _, rfl⟩ := List.mem_map.1 hr
      unfold rowR
      rw [if_pos rfl]
      refine ⟨by rw [List.length_append, hv]; rfl, fun s hs => ?_⟩
      rcases List.mem_append.1 hs with hs | hs
      · have := valuesS_size _ _ s hs
        omega
      · rw [List.mem_singleton.1 hs]
        have := perS_size f.f1.f0 f.f1.f1
        omega
  | false =>
    refine tableOk_of _ cols.length (by simp) (by omega) (by omega) (by simp; omega) fun row hr => ?_
    rcases List.mem_cons.1 hr with rfl | hr
    · refine ⟨by simp [headS], fun s hs => ?_⟩
      unfold headS at hs
      rw [if_neg (by decide)] at hs
      exact hnm s hs
    · obtain ⟨f, _, rfl⟩ := List.mem_map.1 hr
      unfold rowR
      rw [if_neg (by decide)]
      refine ⟨hv f, fun s hs => ?_⟩
      have := valuesS_size _ _ s hs
      omega
theorem pure_Results (cols : List Col) (facts : List Fct) (c tm : Int) (hc : cols.length ≤ 1048576) (hf : facts.length ≤ 1048576) (hr : ∀ f ∈ facts, f.f0.length ≤ 1048576)
    (c0 : -9223372036854775808 ≤ c) (c1 : c ≤ 9223372036854775807) (t0 : -9223372036854775808 ≤ tm) (t1 : tm ≤ 9223372036854775807) : ∃ k, bitemporallaw55_ReportResults.f k cols facts c tm = some true := by
  obtain ⟨K, hK⟩ := awake_ev
  obtain ⟨K1, hK1⟩ := Tame_ev cols facts c tm hc hf hr
  obtain ⟨b, K2, hK2⟩ := tame_ev [c, tm] (by simp)
  have hT : ∀ k, K + K1 + K2 + 1 ≤ k → bitemporallaw55_ReportResults.j0 k true cols facts c tm = some true := by
    intro k hk
    obtain ⟨j, rfl⟩ : ∃ j, k = j + 1 := ⟨k - 1, by omega⟩
    simp only [bitemporallaw55_ReportResults.j0]
    rw [if_pos trivial, show bitemporallaw55_awake.f j = some true from hK j (by omega)]
    rfl
  have hF : decide (((facts.length * (cols.length + 1) + cols.length : Nat) : Int) + sumC cols + sumF facts ≤ 3000) = true → ∃ K3, ∀ k, K3 ≤ k → bitemporallaw55_ReportResults.j0 k false cols facts c tm = some true := by
    intro ht
    have ht := of_decide_eq_true ht
    have n1 := sumC_nn cols
    have n2 := sumF_nn facts
    have hres : ∃ r, ∃ K4, ∀ k, K4 ≤ k → report_Result.f k cols facts c tm = some r ∧ bitemporalref55_Result.f k cols facts c tm = some r := by
      by_cases h0 : cols = []
      · subst h0
        exact ⟨doneS c tm, 31, fun k hk => ⟨done_report facts c tm c0 c1 t0 t1 k (by omega), done_ref facts c tm c0 c1 t0 t1 k hk⟩⟩
      · have hp : 0 < cols.length := List.length_pos_iff.2 h0
        have hm : facts.length * 1 ≤ facts.length * (cols.length + 1) := Nat.mul_le_mul_left _ (by omega)
        obtain ⟨q1, q2⟩ := rows_ok cols facts h0 (by omega) (by omega) (fun d hd => sumC_mem cols d hd (by omega))
        obtain ⟨k1, e1⟩ := result_ev cols facts c tm h0 (by omega) (by omega) q1 (by omega)
        obtain ⟨k2, e2⟩ := refResult_ev cols facts c tm h0 hc hf q1 q2
        exact ⟨resultS cols facts, k1 + k2, fun k hk => ⟨e1 k (by omega), e2 k (by omega)⟩⟩
    obtain ⟨r, K4, hr⟩ := hres
    refine ⟨K + K4 + 1, fun k hk => ?_⟩
    obtain ⟨j, rfl⟩ : ∃ j, k = j + 1 := ⟨k - 1, by omega⟩
    obtain ⟨e1, e2⟩ := hr j (by omega)
    simp only [bitemporallaw55_ReportResults.j0]
    rw [if_neg (by simp), e1, Option.bind_some, e2, Option.bind_some, if_pos rfl, show bitemporallaw55_awake.f j = some true from hK j (by omega)]
    rfl
  cases hd : decide (((facts.length * (cols.length + 1) + cols.length : Nat) : Int) + sumC cols + sumF facts ≤ 3000) with
  | false =>
    refine ⟨K + K1 + K2 + 1, ?_⟩
    have e1 : bitemporalref55_Tame.f (K + K1 + K2 + 1) cols facts c tm = some false := by rw [← hd]; exact hK1 _ (by omega)
    unfold bitemporallaw55_ReportResults.f
    rw [e1, Option.bind_some, if_neg (by decide)]
    exact hT _ (by omega)
  | true =>
    obtain ⟨K3, hK3⟩ := hF hd
    refine ⟨K + K1 + K2 + 1 + K3, ?_⟩
    have e1 : bitemporalref55_Tame.f (K + K1 + K2 + 1 + K3) cols facts c tm = some true := by rw [← hd]; exact hK1 _ (by omega)
    have e2 : bitemporallaw55_tame.f (K + K1 + K2 + 1 + K3) [c, tm] = some b := hK2 _ (by omega)
    unfold bitemporallaw55_ReportResults.f
    rw [e1, Option.bind_some, if_pos rfl, e2, Option.bind_some]
    cases b with
    | false => exact hT _ (by omega)
    | true => exact hK3 _ (by omega)
end Go.Proofs.YthdgjobhofpjeaaGreatDoor.X
