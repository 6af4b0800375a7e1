-- WRITTEN BY qprint.py, a program of this session (the kit's print, driven with contracts proved by hand): Lean checks it.
import Derived.Test.YtgfnllaajaoljaaDoorQA9
namespace Go.Proofs.YtgfnllaajaoljaaDoor.QA
open Go.RowKit Go.Proofs.YtgfnllaajaoljaaDoorW.PrintWords Go.Proofs.YtgfnllaajaoljaaDoorW.PrintLast Go.Proofs.YtgfnllaajaoljaaDoorW.PrintMore
/-- The one pure statement of quietuslaw04_FieldVectorsMatchSpec. -/
def FieldVectorsMatchSpec.Pure : Prop := ∀ (a0 : ByteArray) (a1 : ByteArray) (l2 : List Int) (l3 : List ByteArray), a0.size ≤ 140737488351232 → a1.size ≤ 140737488351232 → (l2.length * 1 ≤ 140737488351232 ∧ ∀ x1_ ∈ l2, (Lit.int .u8 x1_).wf = true) → (l3.length * 16 ≤ 140737488351232 ∧ ∀ x1_ ∈ l3, x1_.size ≤ 140737488351232) → ∃ k, quietuslaw04_FieldVectorsMatchSpec.f k a0 a1 l2 l3 = some true
end Go.Proofs.YtgfnllaajaoljaaDoor.QA
