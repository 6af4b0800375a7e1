-- What this claim does not use was left out by prune.py, a program of this session.
import Derived.Test.YtgfnllaajaoljaaDoorQA0
import Derived.Test.YtgfnllaajaoljaaDoorQA2
import Derived.Test.YtgfnllaajaoljaaDoorQA3
namespace Go.Proofs.YtgfnllaajaoljaaDoor.QA
open Go.RowKit Go.Proofs.YtgfnllaajaoljaaDoorW.PrintWords Go.Proofs.YtgfnllaajaoljaaDoorW.PrintLast Go.Proofs.YtgfnllaajaoljaaDoorW.PrintMore
attribute [local go_sem] max2_int min2_int max_two min_two max_three min_three max_four min_four
set_option linter.unusedVariables false
set_option linter.unusedSimpArgs false
end Go.Proofs.YtgfnllaajaoljaaDoor.QA
