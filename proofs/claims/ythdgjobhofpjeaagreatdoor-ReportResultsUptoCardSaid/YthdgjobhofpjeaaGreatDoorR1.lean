/- What report.Result writes, as a plain function; and that the printed function comes to it. Conditions: those in each theorem. -/
import Derived.Test.YthdgjobhofpjeaaGreatDoorVA
import Derived.Test.YthdgjobhofpjeaaGreatDoorX25
namespace Go.Proofs.YthdgjobhofpjeaaGreatDoor.X
open Go Go.Proofs Go.RowKit Go.Proofs.YthdgjobhofpjeaaGreatDoorW.PrintWords Go.Proofs.YthdgjobhofpjeaaGreatDoorW.PrintLast Go.Proofs.YthdgjobhofpjeaaGreatDoorW.PrintMore
set_option linter.unusedVariables false
set_option linter.unusedSimpArgs false

abbrev Col := S49
abbrev Val := S54
abbrev Fct := S45
def litB (v : Val) : ByteArray := ⟨(litS v.f0 v.f1 v.f2).toArray⟩
def cellV (row : List Val) (i : Nat) : ByteArray := if h : i < row.length then litB row[i] else ⟨#[]⟩
def valuesS (row : List Val) (n : Nat) : List ByteArray := (List.range n).map (cellV row)
def itoaB (n : Int) : ByteArray := ⟨(Lib.itoa n).toArray⟩
def validQ (a b : Int) : Bool := decide (0 ≤ a) && (decide (a < b) && decide (b ≤ 1099511627776))
theorem period_Valid_eqQ (a b : Int) : period_Valid.f a b = some (validQ a b) := by
  unfold period_Valid.f validQ
  by_cases h1 : a ≥ 0
  · rw [if_pos h1]
    by_cases h2 : a < b
    · rw [if_pos h2]; simp [h2, show 0 ≤ a from h1]
    · rw [if_neg h2]; simp [h2]
  · rw [if_neg h1]; simp [show ¬ 0 ≤ a from h1]
def perS (a b : Int) : ByteArray := if validQ a b = true then ⟨([91] ++ Lib.itoa a ++ [44, 32] ++ (if b = 1099511627776 then [102, 111, 114, 101, 118, 101, 114] else Lib.itoa b) ++ [41]).toArray⟩ else ⟨#[]⟩
theorem itoa_eq (a : Int) (h0 : -9223372036854775808 ≤ a) (h1 : a ≤ 9223372036854775807) : strconv_Itoa.f a = some (itoaB a) := by
  unfold strconv_Itoa.f
  rw [if_pos h0, if_pos h1]
  rfl
theorem itoaB_size (a : Int) (h0 : -9223372036854775808 ≤ a) (h1 : a ≤ 9223372036854775807) : (itoaB a).size ≤ 25 := by
  have := itoa_len a h0 (by omega)
  unfold itoaB
  rw [← bs_len, bs_mk]
  exact this
theorem perText_eq (a b : Int) : period_Text.f a b = some (perS a b) := by
  unfold period_Text.f perS
  rw [period_Valid_eqQ, Option.bind_some]
  by_cases hv : validQ a b = true
  · rw [if_pos hv, if_pos hv]
    have hv2 := hv
    unfold validQ at hv2
    simp only [Bool.and_eq_true, decide_eq_true_eq] at hv2
    have s1 := itoaB_size a (by omega) (by omega)
    have s2 := itoaB_size b (by omega) (by omega)
    by_cases hb : b = 1099511627776
    · rw [if_pos hb, if_pos hb, itoa_eq a (by omega) (by omega), Option.bind_some]
      rw [if_pos (by omega), if_pos (by simp only [size_append, size_lit, List.size_toArray, List.length_cons, List.length_nil]; omega), if_pos (by simp only [size_append, size_lit, List.size_toArray, List.length_cons, List.length_nil]; omega), if_pos (by simp only [size_append, size_lit, List.size_toArray, List.length_cons, List.length_nil]; omega)]
      refine congrArg some (bs_inj ?_)
      simp [bs, itoaB, ByteArray.data_append]
    · rw [if_neg hb, if_neg hb, itoa_eq b (by omega) (by omega), Option.bind_some, itoa_eq a (by omega) (by omega), Option.bind_some]
      rw [if_pos (by omega), if_pos (by simp only [size_append, size_lit, List.size_toArray, List.length_cons, List.length_nil]; omega), if_pos (by simp only [size_append, size_lit, List.size_toArray, List.length_cons, List.length_nil]; omega), if_pos (by simp only [size_append, size_lit, List.size_toArray, List.length_cons, List.length_nil]; omega)]
      refine congrArg some (bs_inj ?_)
      simp [bs, itoaB, ByteArray.data_append]
  · rw [if_neg hv, if_neg hv]

theorem wrapN (i n : Nat) (h : i < n) (hn : n ≤ 8796093022208) : wrap64 ((i : Int) + 1) = ((i + 1 : Nat) : Int) := by
  unfold wrap64
  omega
theorem names_loop (l : List Col) (hl : l.length ≤ 1099511627776) : ∀ (d i : Nat), l.length - i = d → i ≤ l.length → Ev (fun k => report_names.l0 k ((l.take i).map (·.f0)) l (l.length : Int) (i : Int)) (l.map (·.f0)) := by
  intro d
  induction d with
  | zero =>
    intro i hd hi
    obtain rfl : i = l.length := by omega
    refine Ev.step (f := fun _ => some (l.map (·.f0))) (fun k => ?_) (Ev.now _)
    simp only [report_names.l0]
    rw [if_neg (by omega), List.take_length]
  | succ d ih =>
    intro i hd hi
    have hlt : i < l.length := by omega
    refine Ev.step (fun k => ?_) (ih (i + 1) (by omega) (by omega))
    simp only [report_names.l0]
    have e : rd_T49 l (i : Int) = l[i] := by
      unfold rd_T49
      rw [Int.toNat_natCast, List.getD_eq_getElem?_getD, List.getElem?_eq_getElem hlt]
      rfl
    rw [if_pos (by omega), if_pos (by omega), if_pos (by omega), if_pos (by simp; omega), e, wrapN i l.length hlt (by omega), List.take_succ_eq_append_getElem hlt, List.map_append]
    rfl
theorem names_ev (l : List Col) (hl : l.length ≤ 1099511627776) : Ev (fun k => report_names.f k l) (l.map (·.f0)) := names_loop l hl l.length 0 (by omega) (by omega)

def upTo (row : List Val) (n i : Nat) : List ByteArray := (List.range n).map fun j => if j < i then cellV row j else ⟨#[]⟩
theorem upTo_length (row : List Val) (n i : Nat) : (upTo row n i).length = n := by simp [upTo]
theorem upTo_get (row : List Val) (n i j : Nat) (h : j < n) : (upTo row n i)[j]? = some (if j < i then cellV row j else ⟨#[]⟩) := by
  unfold upTo
  rw [List.getElem?_map, List.getElem?_range h]
  rfl
theorem upTo_zero (row : List Val) (n : Nat) : upTo row n 0 = List.replicate n ⟨#[]⟩ := by
  apply List.ext_getElem?
  intro j
  by_cases h : j < n
  · rw [upTo_get _ _ _ _ h, List.getElem?_replicate, if_pos h, if_neg (by omega)]
  · rw [List.getElem?_eq_none (by rw [upTo_length]; omega), List.getElem?_eq_none (by simp; omega)]
theorem upTo_full (row : List Val) (n : Nat) : upTo row n n = valuesS row n := by
  unfold upTo valuesS
  refine List.map_congr_left fun j hj => if_pos (List.mem_range.1 hj)
theorem upTo_set (row : List Val) (n i : Nat) (h : i < n) : (upTo row n i).set i (cellV row i) = upTo row n (i + 1) := by
  apply List.ext_getElem?
  intro j
  rw [List.getElem?_set, upTo_length]
  by_cases hj : j < n
  · rw [upTo_get _ _ (i + 1) _ hj]
    by_cases he : i = j
    · subst he
      rw [if_pos rfl, if_pos h, if_pos (by omega)]
    · rw [if_neg he, upTo_get _ _ _ _ hj]
      by_cases h2 : j < i
      · rw [if_pos h2, if_pos (by omega)]
      · rw [if_neg h2, if_neg (by omega)]
  · rw [if_neg (by omega), List.getElem?_eq_none (by rw [upTo_length]; omega), List.getElem?_eq_none (by rw [upTo_length]; omega)]
theorem upTo_skip (row : List Val) (n i : Nat) (h : row.length ≤ i) : upTo row n i = upTo row n (i + 1) := by
  unfold upTo
  refine List.map_congr_left fun j _ => ?_
  by_cases h2 : j < i
  · rw [if_pos h2, if_pos (by omega)]
  · rw [if_neg h2]
    by_cases h3 : j < i + 1
    · rw [if_pos h3, cellV, dif_neg (by omega)]
    · rw [if_neg h3]
theorem values_loop (row : List Val) (n : Nat) (hn : n ≤ 1099511627776) : ∀ (d i : Nat), n - i = d → i ≤ n → Ev (fun k => report_values.l0 k row (upTo row n i) (n : Int) (i : Int)) (valuesS row n) := by
  intro d
  induction d with
  | zero =>
    intro i hd hi
    obtain rfl : i = n := by omega
    refine Ev.step (f := fun _ => some (valuesS row i)) (fun k => ?_) (Ev.now _)
    simp only [report_values.l0]
    rw [if_neg (by omega), upTo_full]
  | succ d ih =>
    intro i hd hi
    have hlt : i < n := by omega
    obtain ⟨K, hK⟩ := ih (i + 1) (by omega) (by omega)
    refine ⟨K + 202, fun k hk => ?_⟩
    obtain ⟨j, rfl⟩ : ∃ j, k = j + 1 := ⟨k - 1, by omega⟩
    show report_values.l0 (j + 1) _ _ _ _ = _
    simp only [report_values.l0]
    rw [if_pos (by omega)]
    by_cases hr : i < row.length
    · have e : rd_T54 row (i : Int) = row[i] := by
        unfold rd_T54
        rw [Int.toNat_natCast, List.getD_eq_getElem?_getD, List.getElem?_eq_getElem hr]
        rfl
      have e2 : cellV row i = ⟨(litS row[i].f0 row[i].f1 row[i].f2).toArray⟩ := by rw [cellV, dif_pos hr]; rfl
      rw [if_pos (by omega), if_pos (by omega), e, lit_eq j (by omega), Option.bind_some, if_pos (by rw [upTo_length]; omega), Int.toNat_natCast, ← e2, upTo_set row n i hlt, wrapN i n hlt (by omega)]
      exact hK j (by omega)
    · rw [if_neg (by omega), upTo_skip row n i (by omega), wrapN i n hlt (by omega)]
      exact hK j (by omega)
theorem values_ev (row : List Val) (n : Nat) (hn : n ≤ 1099511627776) : Ev (fun k => report_values.f k row (n : Int)) (valuesS row n) := by
  obtain ⟨K, hK⟩ := values_loop row n hn n 0 (by omega) (by omega)
  refine ⟨K, fun k hk => ?_⟩
  show report_values.f k row (n : Int) = _
  unfold report_values.f
  rw [if_pos (by omega), if_pos (by omega), Option.bind_some, Int.toNat_natCast, List.length_replicate, ← upTo_zero row n]
  exact hK k hk

def timedF (f : Fct) : Bool := !(f.f1.f0 == 0) || (!(f.f1.f1 == 0))
theorem index_loop (l : List Fct) (hl : l.length ≤ 1099511627776) : ∀ (d i : Nat), l.length - i = d → i ≤ l.length → ∃ r : Int, Ev (fun k => slices_IndexFunc_report_Result_1.l0 k l (l.length : Int) (i : Int)) r ∧ (0 ≤ r ↔ (l.drop i).any timedF = true) := by
  intro d
  induction d with
  | zero =>
    intro i hd hi
    obtain rfl : i = l.length := by omega
    refine ⟨-1, Ev.step (f := fun _ => some (-1)) (fun k => ?_) (Ev.now _), by simp⟩
    simp only [slices_IndexFunc_report_Result_1.l0]
    rw [if_neg (by omega)]
  | succ d ih =>
    intro i hd hi
    have hlt : i < l.length := by omega
    have e : rd_T45 l (i : Int) = l[i] := by
      unfold rd_T45
      rw [Int.toNat_natCast, List.getD_eq_getElem?_getD, List.getElem?_eq_getElem hlt]
      rfl
    obtain ⟨r, ⟨K, hK⟩, hiff⟩ := ih (i + 1) (by omega) (by omega)
    by_cases ht : timedF l[i] = true
    · refine ⟨(i : Int), ⟨1, fun k hk => ?_⟩, ?_⟩
      · obtain ⟨j, rfl⟩ : ∃ j, k = j + 1 := ⟨k - 1, by omega⟩
        show slices_IndexFunc_report_Result_1.l0 (j + 1) _ _ _ = _
        simp only [slices_IndexFunc_report_Result_1.l0]
        rw [if_pos (by omega), if_pos (by omega), if_pos (by omega), e]
        unfold report_Result_1.f
        rw [Option.bind_some, if_pos (show (!(l[i].f1.f0 == 0) || !(l[i].f1.f1 == 0)) = true from ht)]
      · rw [List.drop_eq_getElem_cons hlt, List.any_cons, ht]
        simp
    · refine ⟨r, ⟨K + 1, fun k hk => ?_⟩, ?_⟩
      · obtain ⟨j, rfl⟩ : ∃ j, k = j + 1 := ⟨k - 1, by omega⟩
        show slices_IndexFunc_report_Result_1.l0 (j + 1) _ _ _ = _
        simp only [slices_IndexFunc_report_Result_1.l0]
        rw [if_pos (by omega), if_pos (by omega), if_pos (by omega), e]
        unfold report_Result_1.f
        rw [Option.bind_some, if_neg (show ¬ (!(l[i].f1.f0 == 0) || !(l[i].f1.f1 == 0)) = true from ht), wrapN i l.length hlt (by omega)]
        exact hK j (by omega)
      · rw [hiff, List.drop_eq_getElem_cons hlt, List.any_cons]
        simp [ht]
theorem timed_ev (l : List Fct) (hl : l.length ≤ 1099511627776) : Ev (fun k => slices_ContainsFunc_report_Result_1.f k l) (l.any timedF) := by
  obtain ⟨r, ⟨K, hK⟩, hiff⟩ := index_loop l hl l.length 0 (by omega) (by omega)
  refine ⟨K, fun k hk => ?_⟩
  show slices_ContainsFunc_report_Result_1.f k l = _
  unfold slices_ContainsFunc_report_Result_1.f slices_IndexFunc_report_Result_1.f
  rw [show slices_IndexFunc_report_Result_1.l0 k l (l.length : Int) 0 = some r from hK k hk, Option.bind_some]
  refine congrArg some ?_
  rw [List.drop_zero] at hiff
  by_cases h : 0 ≤ r
  · rw [hiff.1 h]; simp [h]
  · have : l.any timedF = false := by
      cases hx : l.any timedF with
      | false => rfl
      | true => exact absurd (hiff.2 hx) h
    rw [this]
    simp [h]

def bValid : ByteArray := ⟨#[118, 97, 108, 105, 100]⟩
def headS (cols : List Col) (t : Bool) : List ByteArray := if t = true then cols.map (·.f0) ++ [bValid] else cols.map (·.f0)
def rowR (n : Nat) (t : Bool) (f : Fct) : List ByteArray := if t = true then valuesS f.f0 n ++ [perS f.f1.f0 f.f1.f1] else valuesS f.f0 n
def rowsR (cols : List Col) (facts : List Fct) : List (List ByteArray) := headS cols (facts.any timedF) :: facts.map (rowR cols.length (facts.any timedF))
def wordS (n : Nat) : ByteArray := if n = 1 then ⟨#[114, 111, 119]⟩ else ⟨#[114, 111, 119, 115]⟩
def countS (n : Nat) : ByteArray := lineS ⟨#[32]⟩ [itoaB n, wordS n]
def resultS (cols : List Col) (facts : List Fct) : ByteArray := tableS (rowsR cols facts) ++ countS facts.length
theorem joinS_two (sep a b : ByteArray) : joinS sep [a, b] = a ++ sep ++ b := by
  apply bs_inj
  simp [joinS, Lib.join, bs_append, bs]
theorem line_ok (sep : ByteArray) (l : List ByteArray) (h1 : l.length ≤ 1099511627776) (h2 : (lineS sep l).size ≤ 35184372088832) : report_line.f sep l = some (lineS sep l) := line_some sep l h1 h2
theorem countS_size (n : Nat) (h : n ≤ 1099511627776) : (countS n).size ≤ 40 := by
  have := itoaB_size n (by omega) (by omega)
  unfold countS lineS wordS
  rw [joinS_two]
  simp only [size_append, size_lit]
  split <;> simp [size_lit] <;> omega
theorem result_loop (cols : List Col) (facts : List Fct) (t : Bool) (head : List ByteArray) (c tm : Int) (hc : cols.length ≤ 1099511627776) (hf : facts.length ≤ 1099511627776)
    (hT : tableOk (head :: facts.map (rowR cols.length t))) (hTs : (tableS (head :: facts.map (rowR cols.length t))).size ≤ 4611686018427387904) :
    ∀ (d i : Nat), facts.length - i = d → i ≤ facts.length → Ev (fun k => report_Result.l0 k t (head :: (facts.take i).map (rowR cols.length t)) facts (facts.length : Int) (i : Int) cols facts c tm) (tableS (head :: facts.map (rowR cols.length t)) ++ countS facts.length) := by
  intro d
  induction d with
  | zero =>
    intro i hd hi
    obtain rfl : i = facts.length := by omega
    refine Ev.step (f := fun _ => some (tableS (head :: facts.map (rowR cols.length t)) ++ countS facts.length)) (fun k => ?_) (Ev.now _)
    simp only [report_Result.l0]
    have hcs := countS_size facts.length hf
    have ht : report_table.f (head :: facts.map (rowR cols.length t)) = some (tableS (head :: facts.map (rowR cols.length t))) := by unfold report_table.f; rw [if_pos hT]
    have hl : report_line.f (⟨#[32]⟩ : ByteArray) [itoaB facts.length, wordS facts.length] = some (countS facts.length) := line_ok _ _ (by simp) (Nat.le_trans hcs (by decide))
    rw [if_neg (by omega), List.take_length, ht, Option.bind_some, itoa_eq _ (by omega) (by omega), Option.bind_some, Option.bind_some, Option.bind_some]
    by_cases h1 : facts.length = 1
    · have e : wordS facts.length = ⟨#[114, 111, 119]⟩ := by unfold wordS; rw [if_pos h1]
      rw [e] at hl
      rw [if_pos (by omega), hl, Option.bind_some, if_pos (by omega)]
    · have e : wordS facts.length = ⟨#[114, 111, 119, 115]⟩ := by unfold wordS; rw [if_neg h1]
      rw [e] at hl
      rw [if_neg (by omega), hl, Option.bind_some, if_pos (by omega)]
  | succ d ih =>
    intro i hd hi
    have hlt : i < facts.length := by omega
    have e : rd_T45 facts (i : Int) = facts[i] := by
      unfold rd_T45
      rw [Int.toNat_natCast, List.getD_eq_getElem?_getD, List.getElem?_eq_getElem hlt]
      rfl
    obtain ⟨K, hK⟩ := ih (i + 1) (by omega) (by omega)
    obtain ⟨K2, hK2⟩ := values_ev facts[i].f0 cols.length hc
    refine ⟨K + K2 + 1, fun k hk => ?_⟩
    obtain ⟨j, rfl⟩ : ∃ j, k = j + 1 := ⟨k - 1, by omega⟩
    have h1 := hK j (by omega)
    have h2 : report_values.f j facts[i].f0 (cols.length : Int) = some (valuesS facts[i].f0 cols.length) := hK2 j (by omega)
    show report_Result.l0 (j + 1) _ _ _ _ _ _ _ _ _ = _
    simp only [report_Result.l0]
    rw [if_pos (by omega), if_pos (by omega), if_pos (by omega), e, h2, Option.bind_some, wrapN i facts.length hlt (by omega)]
    have hlen : (head :: (facts.take i).map (rowR cols.length t)).length < 5864062014805 := by simp; omega
    have hlv : (valuesS facts[i].f0 cols.length).length < 8796093022208 := by simp [valuesS]; omega
    have hap : head :: (facts.take (i + 1)).map (rowR cols.length t) = (head :: (facts.take i).map (rowR cols.length t)) ++ [rowR cols.length t facts[i]] := by rw [List.take_succ_eq_append_getElem hlt, List.map_append]; rfl
    have h1' : report_Result.l0 j t ((head :: (facts.take i).map (rowR cols.length t)) ++ [rowR cols.length t facts[i]]) facts (facts.length : Int) ((i + 1 : Nat) : Int) cols facts c tm = some (tableS (head :: facts.map (rowR cols.length t)) ++ countS facts.length) := by rw [← hap]; exact h1
    cases t with
    | true =>
      rw [if_pos rfl, perText_eq, Option.bind_some, if_pos hlv, if_pos hlen]
      exact h1'
    | false =>
      rw [if_neg (by decide), if_pos hlen]
      exact h1'
theorem result_ev (cols : List Col) (facts : List Fct) (c tm : Int) (h0 : cols ≠ []) (hc : cols.length ≤ 1099511627776) (hf : facts.length ≤ 1099511627776) (hT : tableOk (rowsR cols facts)) (hTs : (tableS (rowsR cols facts)).size ≤ 4611686018427387904) :
    Ev (fun k => report_Result.f k cols facts c tm) (resultS cols facts) := by
  obtain ⟨K, hK⟩ := result_loop cols facts (facts.any timedF) (headS cols (facts.any timedF)) c tm hc hf hT hTs facts.length 0 (by omega) (by omega)
  obtain ⟨K2, hK2⟩ := timed_ev facts hf
  obtain ⟨K3, hK3⟩ := names_ev cols hc
  refine ⟨K + K2 + K3 + 1, fun k hk => ?_⟩
  obtain ⟨j, rfl⟩ : ∃ j, k = j + 1 := ⟨k - 1, by omega⟩
  show report_Result.f (j + 1) cols facts c tm = _
  unfold report_Result.f
  have hne : ¬ (cols.length : Int) = 0 := by
    intro h
    exact h0 (List.length_eq_zero_iff.1 (by omega))
  have h2 : slices_ContainsFunc_report_Result_1.f (j + 1) facts = some (facts.any timedF) := hK2 (j + 1) (by omega)
  have h3 : report_names.f (j + 1) cols = some (cols.map (·.f0)) := hK3 (j + 1) (by omega)
  have h4 := hK j (by omega)
  rw [if_neg hne, h2, Option.bind_some, h3, Option.bind_some]
  cases ht : facts.any timedF with
  | true =>
    rw [if_pos rfl, if_pos (by simp; omega)]
    simp only [report_Result.j1]
    rw [ht] at h4
    unfold resultS rowsR
    rw [ht]
    exact h4
  | false =>
    rw [if_neg (by decide)]
    simp only [report_Result.j1]
    rw [ht] at h4
    unfold resultS rowsR
    rw [ht]
    exact h4
end Go.Proofs.YthdgjobhofpjeaaGreatDoor.X
