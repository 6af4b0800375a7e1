-- WRITTEN BY qprint.py, a program of this session (the kit's print, driven with contracts proved by hand): Lean checks it.
import Derived.Test.YteknbadjfojmbaaQA14
namespace Go.Proofs.Yteknbadjfojmbaa.QA
open Go.RowKit Go.Proofs.YteknbadjfojmbaaW.PrintWords Go.Proofs.YteknbadjfojmbaaW.PrintLast Go.Proofs.YteknbadjfojmbaaW.PrintMore
/-- The one pure statement of quietuslaw10_DomainsAreNested. -/
def DomainsAreNested.Pure : Prop := ∀ (l0_0 : List Int) (l0_1 : List (S117)) (l0_2 : List Int) (a0_3 : Int) (a1_0 : Int) (a1_1 : Int) (a1_2 : Int), (((l0_0.length * 8 ≤ 140737488351232 ∧ ∀ x1_ ∈ l0_0, (Lit.int .i64 x1_).wf = true)) ∧ ((l0_1.length * 16 ≤ 140737488351232 ∧ ∀ x1_ ∈ l0_1, (((Lit.int .i64 x1_.f0).wf = true) ∧ (True)))) ∧ ((l0_2.length * 8 ≤ 140737488351232 ∧ ∀ x1_ ∈ l0_2, (Lit.int .i64 x1_).wf = true)) ∧ ((Lit.int .i64 a0_3).wf = true)) → (((Lit.int .u8 a1_0).wf = true) ∧ ((Lit.int .u8 a1_1).wf = true) ∧ ((Lit.int .u8 a1_2).wf = true)) → ∃ k, quietuslaw10_DomainsAreNested.f k l0_0 l0_1 l0_2 a0_3 a1_0 a1_1 a1_2 = some true
end Go.Proofs.Yteknbadjfojmbaa.QA
