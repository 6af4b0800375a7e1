-- WRITTEN BY qprint.py, a program of this session (the kit's print, driven with contracts proved by hand): Lean checks it.
import Derived.Test.YteknbadjfojmbaaQA16
namespace Go.Proofs.Yteknbadjfojmbaa.QA
open Go.RowKit Go.Proofs.YteknbadjfojmbaaW.PrintWords Go.Proofs.YteknbadjfojmbaaW.PrintLast Go.Proofs.YteknbadjfojmbaaW.PrintMore
/-- The one pure statement of quietuslaw10_DomainsFailTogether. -/
def DomainsFailTogether.Pure : Prop := ∀ (l0_0 : List Int) (l0_1 : List (S117)) (l0_2 : List Int) (a0_3 : Int) (l1 : List Int) (l2_0 : List Int) (l2_1 : List Int) (a3_0 : Int) (a3_1 : Int), (((l0_0.length * 8 ≤ 140737488351232 ∧ ∀ x1_ ∈ l0_0, (Lit.int .i64 x1_).wf = true)) ∧ ((l0_1.length * 16 ≤ 140737488351232 ∧ ∀ x1_ ∈ l0_1, (((Lit.int .i64 x1_.f0).wf = true) ∧ (True)))) ∧ ((l0_2.length * 8 ≤ 140737488351232 ∧ ∀ x1_ ∈ l0_2, (Lit.int .i64 x1_).wf = true)) ∧ ((Lit.int .i64 a0_3).wf = true)) → (l1.length * 8 ≤ 140737488351232 ∧ ∀ x1_ ∈ l1, (Lit.int .i64 x1_).wf = true) → (((l2_0.length * 8 ≤ 140737488351232 ∧ ∀ x1_ ∈ l2_0, (Lit.int .i64 x1_).wf = true)) ∧ ((l2_1.length * 8 ≤ 140737488351232 ∧ ∀ x1_ ∈ l2_1, (Lit.int .i64 x1_).wf = true))) → (((Lit.int .u8 a3_0).wf = true) ∧ ((Lit.int .u8 a3_1).wf = true)) → ∃ k, quietuslaw10_DomainsFailTogether.f k l0_0 l0_1 l0_2 a0_3 l1 l2_0 l2_1 a3_0 a3_1 = some true
end Go.Proofs.Yteknbadjfojmbaa.QA
