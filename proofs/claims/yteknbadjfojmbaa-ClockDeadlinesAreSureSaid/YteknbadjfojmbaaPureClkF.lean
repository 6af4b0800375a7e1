-- What this claim does not use was left out by prune.py, a program of this session.
import Derived.Test.YteknbadjfojmbaaPureClkE
namespace Go.Proofs.Yteknbadjfojmbaa.QA
open Go.RowKit Go.Proofs.YteknbadjfojmbaaW.PrintWords Go.Proofs.YteknbadjfojmbaaW.PrintLast Go.Proofs.YteknbadjfojmbaaW.PrintMore
attribute [local go_sem] max2_int min2_int max_two min_two max_three min_three max_four min_four
set_option linter.unusedVariables false
set_option linter.unusedSimpArgs false
def answerC (rate : Int) (l : List RT) (a b c d : Int) : Int × Int × Int × Int :=
  if chk rate l = 0 then (if ((0 ≤ a ∧ a ≤ b) ∧ b ≤ 3600000000) ∧ V c d then (b, c, mn 3600000000 (d + hiP rate (b - a)), 0) else (0, 0, 0, 3)) else (0, 0, 0, chk rate l)
theorem answer_ev (rate : Int) (l : List RT) (a b c d : Int) : Ev (fun k => clock_Answer.f k rate l a b c d) (answerC rate l a b c d) := by
  unfold clock_Answer.f
  refine Ev.bind (chk_ev rate l) ?_
  by_cases h : chk rate l = 0
  · have ok := chk_ok.1 h
    refine Ev.pos_ h (Ev.known_ (inst2 _ _) ?_)
    by_cases h1 : (0 ≤ a ∧ a ≤ b) ∧ b ≤ 3600000000
    · refine Ev.pos_ (decide_eq_true (by omega)) (Ev.neg_ (by omega) (Ev.known_ (valid_ _ _) ?_))
      by_cases h2 : V c d
      · have hw : wrap64 (b - a) = b - a := w64 (by omega) (by omega)
        have hb := hi_bd ok.rate (show 0 ≤ b - a ∧ b - a ≤ 3600000000 by omega)
        have e : answerC rate l a b c d = (b, c, mn 3600000000 (d + hiP rate (b - a)), 0) := by unfold answerC; rw [if_pos h, if_pos ⟨h1, h2⟩]
        rw [e, hw]
        refine Ev.pos_ (by simpa using h2) (Ev.known_ (passed_ ok.rate (show 0 ≤ b - a ∧ b - a ≤ 3600000000 by omega)) ?_)
        have hw2 : wrap64 (d + hiP rate (b - a)) = d + hiP rate (b - a) := by unfold V at h2; exact w64 (by omega) (by omega)
        exact Ev.const_ (by simp only [hw2])
      · have e : answerC rate l a b c d = (0, 0, 0, 3) := by unfold answerC; rw [if_pos h, if_neg (fun h' => h2 h'.2)]
        rw [e]; exact Ev.neg_ (by simpa using h2) (Ev.now _)
    · have e : answerC rate l a b c d = (0, 0, 0, 3) := by unfold answerC; rw [if_pos h, if_neg (fun h' => h1 h'.1)]
      rw [e]
      by_cases h3 : 0 ≤ a ∧ a ≤ 3600000000 ∧ 0 ≤ b ∧ b ≤ 3600000000
      · exact Ev.pos_ (decide_eq_true h3) (Ev.pos_ (by omega) (Ev.now _))
      · exact Ev.neg_ (by simpa using h3) (Ev.now _)
  · have e : answerC rate l a b c d = (0, 0, 0, chk rate l) := by unfold answerC; rw [if_neg h]
    rw [e]; exact Ev.neg_ h (Ev.now _)
end Go.Proofs.Yteknbadjfojmbaa.QA
