-- What this claim does not use was left out by prune.py, a program of this session.
import Derived.Test.YteknbadjfojmbaaQA0
import Derived.Test.YteknbadjfojmbaaQA4
namespace Go.Proofs.Yteknbadjfojmbaa.QA
open Go.RowKit Go.Proofs.YteknbadjfojmbaaW.PrintWords Go.Proofs.YteknbadjfojmbaaW.PrintLast Go.Proofs.YteknbadjfojmbaaW.PrintMore
attribute [local go_sem] max2_int min2_int max_two min_two max_three min_three max_four min_four
set_option linter.unusedVariables false
set_option linter.unusedSimpArgs false
theorem domain_Check.run_store_func {P : Program} {w : World} {a : Addr} {m : Mode} (f : Fn) (ts : Array Value) (cap : Array Value) : (store a (.func f ts cap) m).run P w = stored P w a (.func f ts cap) m := run_store P w a _ m rfl
attribute [local go_sem] domain_Check.run_store_func
end Go.Proofs.Yteknbadjfojmbaa.QA
