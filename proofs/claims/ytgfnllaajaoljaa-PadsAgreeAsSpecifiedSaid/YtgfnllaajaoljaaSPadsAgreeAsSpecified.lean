-- WRITTEN BY qprint.py, a program of this session (the kit's print, driven with contracts proved by hand): Lean checks it.
import Derived.Test.YtgfnllaajaoljaaQA10
namespace Go.Proofs.Ytgfnllaajaoljaa.QA
open Go.RowKit Go.Proofs.YtgfnllaajaoljaaW.PrintWords Go.Proofs.YtgfnllaajaoljaaW.PrintLast Go.Proofs.YtgfnllaajaoljaaW.PrintMore
/-- The one pure statement of quietuslaw25_PadsAgreeAsSpecified. -/
def PadsAgreeAsSpecified.Pure : Prop := ∀ (l0 : List ByteArray) (l1 : List ByteArray) (l2 : List Int), (l0.length * 16 ≤ 140737488351232 ∧ ∀ x1_ ∈ l0, x1_.size ≤ 140737488351232) → (l1.length * 16 ≤ 140737488351232 ∧ ∀ x1_ ∈ l1, x1_.size ≤ 140737488351232) → (l2.length * 8 ≤ 140737488351232 ∧ ∀ x1_ ∈ l2, (Lit.int .i64 x1_).wf = true) → ∃ k, quietuslaw25_PadsAgreeAsSpecified.f k l0 l1 l2 = some true
end Go.Proofs.Ytgfnllaajaoljaa.QA
