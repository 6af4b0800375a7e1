/- Proved here: the pure statement of the law FieldMatchesSpec (QA.FieldMatchesSpec.Pure): what the Go function computes, told as a Lean function, is true for every input in the stated bounds. -/
import Derived.Test.YtgfnllaajaoljaaDoorSFieldMatchesSpec
import Derived.Test.YtgfnllaajaoljaaDoorPureGf
namespace Go.Proofs.YtgfnllaajaoljaaDoor.QA
open Go.RowKit Go.Proofs.YtgfnllaajaoljaaDoorW.PrintWords Go.Proofs.YtgfnllaajaoljaaDoorW.PrintLast Go.Proofs.YtgfnllaajaoljaaDoorW.PrintMore
attribute [local go_sem] max2_int min2_int max_two min_two max_three min_three max_four min_four
set_option linter.unusedVariables false
set_option linter.unusedSimpArgs false
namespace PureFieldMatchesSpec
theorem proof : FieldMatchesSpec.Pure := by
  intro a b n wa wb hn
  obtain ⟨a, rfl, ha⟩ := wf_u8 wa
  obtain ⟨b, rfl, hb⟩ := wf_u8 wb
  refine Ev.rounds ?_
  unfold quietuslaw04_FieldMatchesSpec.f
  rcases Nat.eq_zero_or_pos a with rfl | hp
  · refine Ev.bind inv_zero (Ev.bind log_zero (Ev.pos_ rfl (Ev.bind sane04 (Ev.pos_ rfl ?_))))
    refine Ev.known_ (mulW_some 0 b (by omega) hb) ?_
    rw [zero_gmul]
    refine Ev.pos_ rfl (Ev.pos_ rfl (Ev.pos_ rfl (Ev.pos_ rfl (Ev.pos_ rfl ?_))))
    refine Ev.bind (pow_ev 0 n (by omega)) (Ev.bind (rPow_ev 0 n (by omega)) (Ev.pos_ rfl ?_))
    exact Ev.bind (exp_ev n) (Ev.bind (rExp_ev n) (Ev.eq_ (Ev.now _) (by simp)))
  · obtain ⟨j, hj, he⟩ := E2_surj a hp ha
    refine Ev.bind (inv_ev a hp ha) (Ev.bind (log_ev a j hj he) (Ev.neg_ (by omega) (Ev.bind sane04 (Ev.pos_ rfl ?_))))
    refine Ev.known_ (mulW_some a b ha hb) (Ev.bind (rMul_ev a b ha hb) (Ev.pos_ rfl ?_))
    refine Ev.bind (rInv_ev a hp ha) (Ev.pos_ rfl (Ev.pos_ rfl ?_))
    refine Ev.bind (rLog_ev a j hj he) (Ev.pos_ rfl (Ev.pos_ rfl ?_))
    refine Ev.bind (pow_ev a n ha) (Ev.bind (rPow_ev a n ha) (Ev.pos_ rfl ?_))
    exact Ev.bind (exp_ev n) (Ev.bind (rExp_ev n) (Ev.eq_ (Ev.now _) (by simp)))
end PureFieldMatchesSpec

end Go.Proofs.YtgfnllaajaoljaaDoor.QA
