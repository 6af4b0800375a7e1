-- What this claim does not use was left out by prune.py, a program of this session.
import Derived.Test.YtgfnllaajaoljaaDoorQA9
namespace Go.Proofs.YtgfnllaajaoljaaDoor.QA
open Go.RowKit Go.Proofs.YtgfnllaajaoljaaDoorW.PrintWords Go.Proofs.YtgfnllaajaoljaaDoorW.PrintLast Go.Proofs.YtgfnllaajaoljaaDoorW.PrintMore
def FieldCombinesLinearly.Pure : Prop := ∀ (l0 : List (S48)) (l1_0 : List ByteArray) (l1_1 : List ByteArray) (a2 : Int), (l0.length * 2 ≤ 140737488351232 ∧ ∀ x1_ ∈ l0, (((Lit.int .u8 x1_.f0).wf = true) ∧ ((Lit.int .u8 x1_.f1).wf = true))) → (((l1_0.length * 16 ≤ 140737488351232 ∧ ∀ x1_ ∈ l1_0, x1_.size ≤ 140737488351232)) ∧ ((l1_1.length * 16 ≤ 140737488351232 ∧ ∀ x1_ ∈ l1_1, x1_.size ≤ 140737488351232))) → (Lit.int .u8 a2).wf = true → ∃ k, quietuslaw04_FieldCombinesLinearly.f k l0 l1_0 l1_1 a2 = some true
end Go.Proofs.YtgfnllaajaoljaaDoor.QA
