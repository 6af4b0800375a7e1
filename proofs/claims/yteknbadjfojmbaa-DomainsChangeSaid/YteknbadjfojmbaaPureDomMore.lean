-- What this claim does not use was left out by prune.py, a program of this session.
import Derived.Test.YteknbadjfojmbaaPureDom
namespace Go.Proofs.Yteknbadjfojmbaa.QA
open Go.RowKit Go.Proofs.YteknbadjfojmbaaW.PrintWords Go.Proofs.YteknbadjfojmbaaW.PrintLast Go.Proofs.YteknbadjfojmbaaW.PrintMore
attribute [local go_sem] max2_int min2_int max_two min_two max_three min_three max_four min_four
set_option linter.unusedVariables false
set_option linter.unusedSimpArgs false
theorem of_ok {D : List Int} {R : List RackT} {H : List Int} {O : Int} (h : OkD D R H O) {lv i : Int} (h0 : 0 ≤ lv) (h3 : lv ≤ 3) (hi : 0 ≤ i ∧ i < D.length) : ofN D R H O lv i = atN D R H lv i := by
  unfold ofN
  exact if_pos ⟨chkD_of h, h0, h3, hi.1, hi.2⟩
end Go.Proofs.Yteknbadjfojmbaa.QA
