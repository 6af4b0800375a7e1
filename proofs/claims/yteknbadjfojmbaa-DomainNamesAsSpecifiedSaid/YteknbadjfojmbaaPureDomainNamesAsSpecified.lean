/- Proved here: the pure statement of the law DomainNamesAsSpecified (QA.DomainNamesAsSpecified.Pure): what the Go function computes, told as a Lean function, is true for every input in the stated bounds. -/
import Derived.Test.YteknbadjfojmbaaSDomainNamesAsSpecified
import Derived.Test.YteknbadjfojmbaaPureDomRef
namespace Go.Proofs.Yteknbadjfojmbaa.QA
open Go.RowKit Go.Proofs.YteknbadjfojmbaaW.PrintWords Go.Proofs.YteknbadjfojmbaaW.PrintLast Go.Proofs.YteknbadjfojmbaaW.PrintMore
attribute [local go_sem] max2_int min2_int max_two min_two max_three min_three max_four min_four
set_option linter.unusedVariables false
set_option linter.unusedSimpArgs false
theorem PureDomainNamesAsSpecified.proof : DomainNamesAsSpecified.Pure := by
  intro D R H O level a b ⟨⟨hD, _⟩, _⟩ _
  refine Ev.rounds ?_
  unfold quietuslaw10_DomainNamesAsSpecified.f
  have hf : ∃ c, quietusref10_Few.f D R H O 80 = some c := by
    unfold quietusref10_Few.f
    split
    · split <;> exact ⟨_, rfl⟩
    · exact ⟨_, rfl⟩
  obtain ⟨c, hc⟩ := hf
  refine Ev.known_ hc ?_
  by_cases h : c = true
  · have hD' : D.length ≤ 17592186040320 := by have := few_le hc h; omega
    refine Ev.pos_ h (Ev.known_ (size_some D R H O level) (Ev.bind (rSize_ev D R H O level) (Ev.pos_ rfl (Ev.bind (of_ev D R H O level a) (Ev.bind (rOf_ev D R H O level a) (Ev.pos_ rfl (Ev.known_ (members_some D R H O level b hD') (Ev.bind (rMem_ev D R H O level b hD') (Ev.bind (sameL_ev _ (Nat.le_trans (members_len D R H O level b) hD')) ?_)))))))))
    refine Ev.step (fun k => by rw [quietuslaw10_DomainNamesAsSpecified.j0]) (Ev.known_ sanity10 (Ev.pos_ rfl (Ev.known_ (chk_some D R H O) (Ev.bind (rChk_ev D R H O) (Ev.pos_ rfl (Ev.pos_ rfl (Ev.bind (rel_ev D R H O a b) (Ev.bind (rRel_ev D R H O a b) ?_))))))))
    exact Ev.eq_ (Ev.now _) (by simp)
  · exact Ev.neg_ h (Ev.known_ sanity10 (Ev.now _))

end Go.Proofs.Yteknbadjfojmbaa.QA
