-- What this claim does not use was left out by prune.py, a program of this session.
import Derived.Test.YteknbadjfojmbaaPureClkG
namespace Go.Proofs.Yteknbadjfojmbaa.QA
open Go.RowKit Go.Proofs.YteknbadjfojmbaaW.PrintWords Go.Proofs.YteknbadjfojmbaaW.PrintLast Go.Proofs.YteknbadjfojmbaaW.PrintMore
attribute [local go_sem] max2_int min2_int max_two min_two max_three min_three max_four min_four
set_option linter.unusedVariables false
set_option linter.unusedSimpArgs false
theorem begun_tr (a0 a1 : Int) (h0 : 0 ≤ a0 ∧ a0 ≤ 4294967295) (h1 : 0 ≤ a1 ∧ a1 ≤ 4294967295) (ls : List S105) :
    ∃ value rate, quietuslaw14_begun.f a0 a1 ls = some (0, value, rate, []) ∧ Tr rate 0 value [] ∧ value ≤ 15000000000 := by
  have e0 : wrap64 a0 = a0 := w64 (by omega) (by omega)
  have e1 : wrap64 a1 = a1 := w64 (by omega) (by omega)
  refine ⟨a1 % 100000 * 1000000 / 7, a0 % 100001, ?_, ?_, by omega⟩
  · unfold quietuslaw14_begun.f
    rw [e0, e1, Int.tmod_eq_emod_of_nonneg h0.1, Int.tmod_eq_emod_of_nonneg h1.1, w64 (n := a1 % 100000 * 1000000) (by omega) (by omega), Int.tdiv_eq_ediv_of_nonneg (by omega), w64 (by omega) (by omega)]
  · exact ⟨⟨by omega, by simp, by simp, by simp⟩, Int.le_refl _, by omega, by simp⟩
theorem wf_s {s : S105} (h : ((Lit.int .u16 s.f0).wf = true) ∧ ((Lit.int .i32 s.f1).wf = true) ∧ ((Lit.int .u8 s.f2).wf = true) ∧ ((Lit.int .u8 s.f3).wf = true) ∧ ((Lit.int .u8 s.f4).wf = true)) : wfS s := by
  obtain ⟨a, b, c, d, e⟩ := h
  simp only [Lit.wf, Bool.and_eq_true, decide_eq_true_eq] at a b c d e
  exact ⟨⟨a.1, a.2⟩, ⟨b.1, b.2⟩, ⟨c.1, c.2⟩, ⟨d.1, d.2⟩, ⟨e.1, e.2⟩⟩
end Go.Proofs.Yteknbadjfojmbaa.QA
