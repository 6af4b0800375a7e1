-- WRITTEN BY qprint.py, a program of this session (the kit's print, driven with contracts proved by hand): Lean checks it.
import Derived.Test.YtgfnllaajaoljaaQA11
namespace Go.Proofs.Ytgfnllaajaoljaa.QA
open Go.RowKit Go.Proofs.YtgfnllaajaoljaaW.PrintWords Go.Proofs.YtgfnllaajaoljaaW.PrintLast Go.Proofs.YtgfnllaajaoljaaW.PrintMore
/-- The one pure statement of quietuslaw25_PadsAreForgotten. -/
def PadsAreForgotten.Pure : Prop := ∀ (a0_0 : Int) (a0_1 : Int) (l0_2 : List ByteArray) (a1 : Int) (a2 : ByteArray) (a3 : ByteArray), (((Lit.int .i64 a0_0).wf = true) ∧ ((Lit.int .i64 a0_1).wf = true) ∧ ((l0_2.length * 16 ≤ 140737488351232 ∧ ∀ x1_ ∈ l0_2, x1_.size ≤ 140737488351232))) → (Lit.int .u8 a1).wf = true → a2.size ≤ 140737488351232 → a3.size ≤ 140737488351232 → ∃ k, quietuslaw25_PadsAreForgotten.f k a0_0 a0_1 l0_2 a1 a2 a3 = some true
end Go.Proofs.Ytgfnllaajaoljaa.QA
