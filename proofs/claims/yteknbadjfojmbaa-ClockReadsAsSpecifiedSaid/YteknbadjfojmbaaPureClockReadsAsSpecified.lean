-- What this claim does not use was left out by prune.py, a program of this session.
import Derived.Test.YteknbadjfojmbaaSClockReadsAsSpecified
import Derived.Test.YteknbadjfojmbaaPureClkC
namespace Go.Proofs.Yteknbadjfojmbaa.QA
open Go.RowKit Go.Proofs.YteknbadjfojmbaaW.PrintWords Go.Proofs.YteknbadjfojmbaaW.PrintLast Go.Proofs.YteknbadjfojmbaaW.PrintMore
attribute [local go_sem] max2_int min2_int max_two min_two max_three min_three max_four min_four
set_option linter.unusedVariables false
set_option linter.unusedSimpArgs false
theorem PureClockReadsAsSpecified.proof : ClockReadsAsSpecified.Pure := by
  intro rate l n0 n1 r0 r1 r2 _ _ _
  refine Ev.rounds ?_
  unfold quietuslaw14_ClockReadsAsSpecified.f
  refine Ev.known_ (few14 _ _) ?_
  by_cases h : (l.length : Int) ≤ 20
  · refine Ev.pos_ (by simpa using h) (Ev.known_ (pasd_some _ _) (Ev.bind (rPasd_ev _ _) (Ev.bind (now_ev _ _ _) (Ev.bind (rNow_ev _ _ _) (Ev.bind (sync_ev _ _ _ _ _) (Ev.bind (rSync_ev _ _ _ _ _) (Ev.bind (chk_ev _ _) (Ev.bind (rChk_ev _ _) (Ev.pos_ rfl (Ev.pos_ rfl (Ev.pos_ rfl ?_)))))))))))
    refine Ev.step (fun k => by rw [quietuslaw14_ClockReadsAsSpecified.j0]) ?_
    refine Ev.neg_ (by simp) (Ev.known_ sanity14 (Ev.pos_ rfl (Ev.pos_ (by simp) (Ev.pos_ rfl (Ev.pos_ rfl ?_)))))
    exact Ev.bind (same_ev _ _ (sync_len _ _ _ _ _ (by omega))) (Ev.now _)
  · exact Ev.neg_ (by simpa using h) (Ev.known_ sanity14 (Ev.now _))
end Go.Proofs.Yteknbadjfojmbaa.QA
