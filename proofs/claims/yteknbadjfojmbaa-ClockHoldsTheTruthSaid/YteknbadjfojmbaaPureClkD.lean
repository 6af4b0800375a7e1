-- What this claim does not use was left out by prune.py, a program of this session.
import Derived.Test.YteknbadjfojmbaaPureClkC
namespace Go.Proofs.Yteknbadjfojmbaa.QA
open Go.RowKit Go.Proofs.YteknbadjfojmbaaW.PrintWords Go.Proofs.YteknbadjfojmbaaW.PrintLast Go.Proofs.YteknbadjfojmbaaW.PrintMore
attribute [local go_sem] max2_int min2_int max_two min_two max_three min_three max_four min_four
set_option linter.unusedVariables false
set_option linter.unusedSimpArgs false
theorem wn_eq {rate lc : Int} {r : RT} : (r.f0 < lc → clock_bounds.wn rate lc r = ⟨r.f1.f0 + loP rate (lc - r.f0), r.f1.f1 + hiP rate (lc - r.f0)⟩) ∧ (lc < r.f0 → clock_bounds.wn rate lc r = ⟨r.f1.f0 - hiP rate (r.f0 - lc), r.f1.f1 - loP rate (r.f0 - lc)⟩) ∧ (lc = r.f0 → clock_bounds.wn rate lc r = ⟨r.f1.f0 - hiP rate 0, r.f1.f1 + hiP rate 0⟩) := by
  unfold clock_bounds.wn clock_bounds.shown
  refine ⟨fun h => ?_, fun h => ?_, fun h => ?_⟩
  · rw [if_neg (show ¬ lc - r.f0 < r.f0 - lc by omega), if_neg (by omega), if_neg (by omega)]
  · rw [if_pos (show lc - r.f0 < r.f0 - lc by omega), if_neg (by omega), if_pos h]
  · rw [if_neg (show ¬ lc - r.f0 < r.f0 - lc by omega), if_pos h, show lc - r.f0 = 0 by omega]
end Go.Proofs.Yteknbadjfojmbaa.QA
