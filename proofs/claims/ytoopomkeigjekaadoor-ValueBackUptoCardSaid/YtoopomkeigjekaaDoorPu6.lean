/- Plain lemmas about what the walked Go functions compute (numbers and lists of bytes alone). Conditions: those in each lemma. -/
import Derived.Test.YtoopomkeigjekaaDoorX14
import Derived.Test.YtoopomkeigjekaaDoorPu0
import Derived.Lib.CountLaws
import Derived.Lib.Replace
namespace Go.Proofs.YtoopomkeigjekaaDoor.X
open Go.RowKit Go.Proofs.YtoopomkeigjekaaDoorW.PrintWords Go.Proofs.YtoopomkeigjekaaDoorW.PrintLast Go.Proofs.YtoopomkeigjekaaDoorW.PrintMore
set_option linter.unusedVariables false
set_option linter.unusedSimpArgs false
theorem pure_Back (a b : Int) (s t : ByteArray) (ht : t.size < 4294967281) : ∃ k, bitemporallaw07_ValueBack.f k a b s t = some true := by
  refine ⟨t.size + 1000, ?_⟩
  unfold bitemporallaw07_ValueBack.f
  rw [valid_eq _ (by omega)]
  simp only [Option.bind_some]
  have hj : bitemporallaw07_ValueBack.j0 (t.size + 1000) t = some true := by
    rw [show t.size + 1000 = (t.size + 999) + 1 from rfl, bitemporallaw07_ValueBack.j0, parse_eq _ t ht (by omega)]
    simp only [Option.bind_some, valid_eq (t.size + 999) (by omega), lit_eq (t.size + 999) (by omega), null_eq, awake_eq (t.size + 999) (by omega)]
    by_cases h0 : (parS (bs t)).2.2.2 = 0
    · obtain ⟨g1, g2⟩ := back2 (bs t) h0
      rw [if_pos h0, g1, if_pos rfl, toList_bs, toList_bs, bs_mk, g2, if_pos rfl]
    · rw [if_neg h0]
      obtain ⟨e, he⟩ := parS_bad (bs t) h0
      rw [he]
      simp [er]
  cases hv : vl a b s with
  | false => simp only [Bool.false_eq_true, if_false]; exact hj
  | true =>
    simp only [if_true]
    have hlen : (litS a b s).length ≤ 500 := by
      unfold litS
      rw [hv]
      simp only [if_true]
      split
      · rename_i h1; subst h1
        obtain ⟨_, h0, h1⟩ := vl_int hv
        have := itoa_len b (by omega) (by omega)
        omega
      · split
        · rename_i h2; subst h2
          obtain ⟨_, hz, _⟩ := vl_text hv
          have := flat_len (bs s)
          rw [bs_len] at this
          simp only [quo, List.length_cons, List.length_append, List.length_nil]
          omega
        · split
          · split <;> decide
          · decide
    rw [lit_eq _ (by omega)]
    simp only [Option.bind_some]
    rw [parse_eq _ _ (by rw [size_mk]; omega) (by rw [size_mk]; omega), bs_mk, back1 hv]
    simp only [Option.bind_some, if_true, beq_self_eq_true, Bool.not_true, Bool.or_self, Bool.false_eq_true, if_false]
    exact hj
end Go.Proofs.YtoopomkeigjekaaDoor.X
