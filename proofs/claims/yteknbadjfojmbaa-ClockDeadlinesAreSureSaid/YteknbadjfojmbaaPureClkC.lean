-- What this claim does not use was left out by prune.py, a program of this session.
import Derived.Test.YteknbadjfojmbaaQA24
import Derived.Test.YteknbadjfojmbaaQA25
import Derived.Test.YteknbadjfojmbaaQA26
import Derived.Test.YteknbadjfojmbaaQA29
import Derived.Test.YteknbadjfojmbaaQA30
import Derived.Test.YteknbadjfojmbaaPureClkB
namespace Go.Proofs.Yteknbadjfojmbaa.QA
open Go.RowKit Go.Proofs.YteknbadjfojmbaaW.PrintWords Go.Proofs.YteknbadjfojmbaaW.PrintLast Go.Proofs.YteknbadjfojmbaaW.PrintMore
attribute [local go_sem] max2_int min2_int max_two min_two max_three min_three max_four min_four
set_option linter.unusedVariables false
set_option linter.unusedSimpArgs false
def lastL (l : List RT) : Int := (rd_T58 l ((l.length : Int) - 1)).f0
def syncC (rate : Int) (l : List RT) (a b c : Int) : Int × List RT × Int :=
  if chk rate l = 0 then
    (if (0 ≤ a ∧ a ≤ 3600000000) ∧ V b c then
      (if 0 < l.length ∧ a ≤ lastL l then (0, [], 15) else
        (if (nowC rate l a).2.2 = 0 then
          (if (joinC b c (nowC rate l a).1 (nowC rate l a).2.1).2.2 = 0 then
            (rate, (l ++ ([⟨a, ⟨(joinC b c (nowC rate l a).1 (nowC rate l a).2.1).1, (joinC b c (nowC rate l a).1 (nowC rate l a).2.1).2.1⟩⟩] : List RT)).drop (l.length + 1 - 16), 0)
          else (0, [], (joinC b c (nowC rate l a).1 (nowC rate l a).2.1).2.2))
        else (0, [], (nowC rate l a).2.2)))
    else (0, [], 3))
  else (0, [], chk rate l)
theorem sync_ev (rate : Int) (l : List RT) (a b c : Int) : Ev (fun k => clock_Sync.f k rate l a b c) (syncC rate l a b c) := by
  unfold clock_Sync.f
  refine Ev.bind (chk_ev rate l) ?_
  by_cases h : chk rate l = 0
  · refine Ev.pos_ h (Ev.known_ (inst1 _) ?_)
    by_cases h1 : 0 ≤ a ∧ a ≤ 3600000000
    · refine Ev.pos_ (by simpa using h1) (Ev.known_ (valid_ _ _) ?_)
      by_cases h2 : V b c
      · refine Ev.pos_ (by simpa using h2) ?_
        by_cases h3 : 0 < l.length ∧ a ≤ lastL l
        · have e : syncC rate l a b c = (0, [], 15) := by unfold syncC; rw [if_pos h, if_pos ⟨h1, h2⟩, if_pos h3]
          rw [e]; exact Ev.pos_ h3 (Ev.now _)
        · refine Ev.neg_ h3 (Ev.bind (now_ev rate l a) ?_)
          by_cases h4 : (nowC rate l a).2.2 = 0
          · refine Ev.pos_ h4 (Ev.bind (join_ev _ _ _ _) ?_)
            by_cases h5 : (joinC b c (nowC rate l a).1 (nowC rate l a).2.1).2.2 = 0
            · have e : syncC rate l a b c = (rate, (l ++ ([⟨a, ⟨(joinC b c (nowC rate l a).1 (nowC rate l a).2.1).1, (joinC b c (nowC rate l a).1 (nowC rate l a).2.1).2.1⟩⟩] : List RT)).drop (l.length + 1 - 16), 0) := by unfold syncC; rw [if_pos h, if_pos ⟨h1, h2⟩, if_neg h3, if_pos h4, if_pos h5]
              rw [e]; exact Ev.pos_ h5 (Ev.pos_ (chk_ok.1 h).len (Ev.now _))
            · have e : syncC rate l a b c = (0, [], (joinC b c (nowC rate l a).1 (nowC rate l a).2.1).2.2) := by unfold syncC; rw [if_pos h, if_pos ⟨h1, h2⟩, if_neg h3, if_pos h4, if_neg h5]
              rw [e]; exact Ev.neg_ h5 (Ev.now _)
          · have e : syncC rate l a b c = (0, [], (nowC rate l a).2.2) := by unfold syncC; rw [if_pos h, if_pos ⟨h1, h2⟩, if_neg h3, if_neg h4]
            rw [e]; exact Ev.neg_ h4 (Ev.now _)
      · have e : syncC rate l a b c = (0, [], 3) := by unfold syncC; rw [if_pos h, if_neg (fun h' => h2 h'.2)]
        rw [e]; exact Ev.neg_ (by simpa using h2) (Ev.now _)
    · have e : syncC rate l a b c = (0, [], 3) := by unfold syncC; rw [if_pos h, if_neg (fun h' => h1 h'.1)]
      rw [e]; exact Ev.neg_ (by simpa using h1) (Ev.now _)
  · have e : syncC rate l a b c = (0, [], chk rate l) := by unfold syncC; rw [if_neg h]
    rw [e]; exact Ev.neg_ h (Ev.now _)
end Go.Proofs.Yteknbadjfojmbaa.QA
