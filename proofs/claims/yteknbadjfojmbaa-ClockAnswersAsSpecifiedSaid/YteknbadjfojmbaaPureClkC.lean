-- What this claim does not use was left out by prune.py, a program of this session.
import Derived.Test.YteknbadjfojmbaaQA24
import Derived.Test.YteknbadjfojmbaaQA25
import Derived.Test.YteknbadjfojmbaaQA26
import Derived.Test.YteknbadjfojmbaaQA29
import Derived.Test.YteknbadjfojmbaaQA30
import Derived.Test.YteknbadjfojmbaaPureClkB
namespace Go.Proofs.Yteknbadjfojmbaa.QA
open Go.RowKit Go.Proofs.YteknbadjfojmbaaW.PrintWords Go.Proofs.YteknbadjfojmbaaW.PrintLast Go.Proofs.YteknbadjfojmbaaW.PrintMore
attribute [local go_sem] max2_int min2_int max_two min_two max_three min_three max_four min_four
set_option linter.unusedVariables false
set_option linter.unusedSimpArgs false
theorem sanity14 : quietuslaw14_sanity.f = some true := rfl
theorem few14 (rate : Int) (l : List RT) : quietuslaw14_few.f rate l = some (decide ((l.length : Int) ≤ 20)) := rfl
end Go.Proofs.Yteknbadjfojmbaa.QA
