-- What this claim does not use was left out by prune.py, a program of this session.
import Derived.Test.YteknbadjfojmbaaQA20
namespace Go.Proofs.Yteknbadjfojmbaa.QA
open Go.RowKit Go.Proofs.YteknbadjfojmbaaW.PrintWords Go.Proofs.YteknbadjfojmbaaW.PrintLast Go.Proofs.YteknbadjfojmbaaW.PrintMore
def DomainsChange.Pure : Prop := ∀ (l0_0 : List Int) (l0_1 : List (S117)) (l0_2 : List Int) (a0_3 : Int) (a1_0 : Int) (a1_1 : Int), (((l0_0.length * 8 ≤ 140737488351232 ∧ ∀ x1_ ∈ l0_0, (Lit.int .i64 x1_).wf = true)) ∧ ((l0_1.length * 16 ≤ 140737488351232 ∧ ∀ x1_ ∈ l0_1, (((Lit.int .i64 x1_.f0).wf = true) ∧ (True)))) ∧ ((l0_2.length * 8 ≤ 140737488351232 ∧ ∀ x1_ ∈ l0_2, (Lit.int .i64 x1_).wf = true)) ∧ ((Lit.int .i64 a0_3).wf = true)) → (((Lit.int .i64 a1_0).wf = true) ∧ ((Lit.int .i64 a1_1).wf = true)) → ∃ k, quietuslaw10_DomainsChange.f k l0_0 l0_1 l0_2 a0_3 a1_0 a1_1 = some true
end Go.Proofs.Yteknbadjfojmbaa.QA
