-- What this claim does not use was left out by prune.py, a program of this session.
import Derived.Test.YteknbadjfojmbaaSClockDeadlinesAsSpecified
import Derived.Test.YteknbadjfojmbaaPureClkE
namespace Go.Proofs.Yteknbadjfojmbaa.QA
open Go.RowKit Go.Proofs.YteknbadjfojmbaaW.PrintWords Go.Proofs.YteknbadjfojmbaaW.PrintLast Go.Proofs.YteknbadjfojmbaaW.PrintMore
attribute [local go_sem] max2_int min2_int max_two min_two max_three min_three max_four min_four
set_option linter.unusedVariables false
set_option linter.unusedSimpArgs false
theorem PureClockDeadlinesAsSpecified.proof : ClockDeadlinesAsSpecified.Pure := by
  intro rate l due _ _
  refine Ev.rounds ?_
  unfold quietuslaw14_ClockDeadlinesAsSpecified.f
  refine Ev.known_ (few14 _ _) ?_
  by_cases h : (l.length : Int) ≤ 20
  · exact Ev.pos_ (by simpa using h) (Ev.bind (lat_ev _ _ _) (Ev.bind (ear_ev _ _ _) (Ev.bind (rLat_ev _ _ _) (Ev.bind (rEar_ev _ _ _) (Ev.known_ sanity14 (Ev.pos_ rfl (Ev.pos_ rfl (Ev.pos_ rfl (Ev.pos_ rfl (Ev.const_ (by simp)))))))))))
  · exact Ev.neg_ (by simpa using h) (Ev.known_ sanity14 (Ev.now _))
end Go.Proofs.Yteknbadjfojmbaa.QA
