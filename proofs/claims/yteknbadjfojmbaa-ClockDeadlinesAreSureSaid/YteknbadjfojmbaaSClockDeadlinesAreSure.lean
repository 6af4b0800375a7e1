-- What this claim does not use was left out by prune.py, a program of this session.
import Derived.Test.YteknbadjfojmbaaQA38
namespace Go.Proofs.Yteknbadjfojmbaa.QA
open Go.RowKit Go.Proofs.YteknbadjfojmbaaW.PrintWords Go.Proofs.YteknbadjfojmbaaW.PrintLast Go.Proofs.YteknbadjfojmbaaW.PrintMore
def ClockDeadlinesAreSure.Pure : Prop := ∀ (a0_0 : Int) (a0_1 : Int) (l0_2 : List (S105)) (l1 : List Int), (((Lit.int .u32 a0_0).wf = true) ∧ ((Lit.int .u32 a0_1).wf = true) ∧ ((l0_2.length * 12 ≤ 140737488351232 ∧ ∀ x1_ ∈ l0_2, (((Lit.int .u16 x1_.f0).wf = true) ∧ ((Lit.int .i32 x1_.f1).wf = true) ∧ ((Lit.int .u8 x1_.f2).wf = true) ∧ ((Lit.int .u8 x1_.f3).wf = true) ∧ ((Lit.int .u8 x1_.f4).wf = true))))) → (l1.length * 2 ≤ 140737488351232 ∧ ∀ x1_ ∈ l1, (Lit.int .i16 x1_).wf = true) → ∃ k, quietuslaw14_ClockDeadlinesAreSure.f k a0_0 a0_1 l0_2 l1 = some true
end Go.Proofs.Yteknbadjfojmbaa.QA
