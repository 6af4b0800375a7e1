-- What this claim does not use was left out by prune.py, a program of this session.
import Derived.Test.YteknbadjfojmbaaQA23
import Derived.Test.YteknbadjfojmbaaQA28
import Derived.Test.YteknbadjfojmbaaPureClk
namespace Go.Proofs.Yteknbadjfojmbaa.QA
open Go.RowKit Go.Proofs.YteknbadjfojmbaaW.PrintWords Go.Proofs.YteknbadjfojmbaaW.PrintLast Go.Proofs.YteknbadjfojmbaaW.PrintMore
attribute [local go_sem] max2_int min2_int max_two min_two max_three min_three max_four min_four
set_option linter.unusedVariables false
set_option linter.unusedSimpArgs false
def joinC (a b c d : Int) : Int × Int × Int := if V a b ∧ V c d then (if mx a c > mn b d then (0, 0, 24) else (mx a c, mn b d, 0)) else (0, 0, 3)
theorem join_ev (a b c d : Int) : Ev (fun k => clock_Join.f k a b c d) (joinC a b c d) := by
  unfold clock_Join.f
  by_cases h : V a b
  · refine Ev.known_ (valid_ _ _) (Ev.pos_ (by simpa using h) (Ev.known_ (valid_ _ _) (Ev.step (fun k => by rw [clock_Join.j0]) ?_)))
    by_cases h2 : V c d
    · refine Ev.neg_ (by simpa using h2) ?_
      by_cases h3 : mx a c > mn b d
      · have e : joinC a b c d = (0, 0, 24) := by unfold joinC; rw [if_pos ⟨h, h2⟩, if_pos h3]
        rw [e]; exact Ev.pos_ h3 (Ev.now _)
      · have e : joinC a b c d = (mx a c, mn b d, 0) := by unfold joinC; rw [if_pos ⟨h, h2⟩, if_neg h3]
        rw [e]; exact Ev.neg_ h3 (Ev.now _)
    · have e : joinC a b c d = (0, 0, 3) := by unfold joinC; rw [if_neg (fun h' => h2 h'.2)]
      rw [e]; exact Ev.pos_ (by simpa using h2) (Ev.now _)
  · have e : joinC a b c d = (0, 0, 3) := by unfold joinC; rw [if_neg (fun h' => h h'.1)]
    rw [e]
    exact Ev.known_ (valid_ _ _) (Ev.neg_ (by simpa using h) (Ev.step (fun k => by rw [clock_Join.j0]) (Ev.pos_ rfl (Ev.now _))))
theorem rJoin_ev (a b c d : Int) : Ev (fun k => quietusref14_Join.f k a b c d) (joinC a b c d) := by
  unfold quietusref14_Join.f
  by_cases h : V a b
  · refine Ev.known_ (rValid _ _) (Ev.known_ (rValid _ _) (Ev.pos_ (by simpa using h) (Ev.step (fun k => by rw [quietusref14_Join.j0]) ?_)))
    by_cases h2 : V c d
    · refine Ev.neg_ (by simpa using h2) ?_
      by_cases h3 : mx a c > mn b d
      · have e : joinC a b c d = (0, 0, 24) := by unfold joinC; rw [if_pos ⟨h, h2⟩, if_pos h3]
        rw [e]; exact Ev.pos_ h3 (Ev.now _)
      · have e : joinC a b c d = (mx a c, mn b d, 0) := by unfold joinC; rw [if_pos ⟨h, h2⟩, if_neg h3]
        rw [e]; exact Ev.neg_ h3 (Ev.now _)
    · have e : joinC a b c d = (0, 0, 3) := by unfold joinC; rw [if_neg (fun h' => h2 h'.2)]
      rw [e]; exact Ev.pos_ (by simpa using h2) (Ev.now _)
  · have e : joinC a b c d = (0, 0, 3) := by unfold joinC; rw [if_neg (fun h' => h h'.1)]
    rw [e]
    exact Ev.known_ (rValid _ _) (Ev.known_ (rValid _ _) (Ev.neg_ (by simpa using h) (Ev.step (fun k => by rw [quietusref14_Join.j0]) (Ev.pos_ rfl (Ev.now _)))))
end Go.Proofs.Yteknbadjfojmbaa.QA
