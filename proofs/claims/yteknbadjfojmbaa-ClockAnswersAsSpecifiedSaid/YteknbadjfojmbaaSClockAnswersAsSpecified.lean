-- What this claim does not use was left out by prune.py, a program of this session.
import Derived.Test.YteknbadjfojmbaaQA33
namespace Go.Proofs.Yteknbadjfojmbaa.QA
open Go.RowKit Go.Proofs.YteknbadjfojmbaaW.PrintWords Go.Proofs.YteknbadjfojmbaaW.PrintLast Go.Proofs.YteknbadjfojmbaaW.PrintMore
def ClockAnswersAsSpecified.Pure : Prop := ∀ (a0_0 : Int) (l0_1 : List (S58)) (a1_0 : Int) (a1_1 : Int) (a2_0 : Int) (a2_1 : Int) (a2_2 : Int) (a2_3 : Int), (((Lit.int .i64 a0_0).wf = true) ∧ ((l0_1.length * 24 ≤ 140737488351232 ∧ ∀ x1_ ∈ l0_1, (((Lit.int .i64 x1_.f0).wf = true) ∧ ((((Lit.int .i64 x1_.f1.f0).wf = true) ∧ ((Lit.int .i64 x1_.f1.f1).wf = true))))))) → (((Lit.int .i64 a1_0).wf = true) ∧ ((Lit.int .i64 a1_1).wf = true)) → (((((Lit.int .i64 a2_0).wf = true) ∧ ((Lit.int .i64 a2_1).wf = true))) ∧ ((((Lit.int .i64 a2_2).wf = true) ∧ ((Lit.int .i64 a2_3).wf = true)))) → ∃ k, quietuslaw14_ClockAnswersAsSpecified.f k a0_0 l0_1 a1_0 a1_1 a2_0 a2_1 a2_2 a2_3 = some true
end Go.Proofs.Yteknbadjfojmbaa.QA
