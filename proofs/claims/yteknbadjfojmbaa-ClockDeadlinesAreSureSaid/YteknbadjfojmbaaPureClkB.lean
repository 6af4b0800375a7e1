-- What this claim does not use was left out by prune.py, a program of this session.
import Derived.Test.YteknbadjfojmbaaQA23
import Derived.Test.YteknbadjfojmbaaQA28
import Derived.Test.YteknbadjfojmbaaPureClk
namespace Go.Proofs.Yteknbadjfojmbaa.QA
open Go.RowKit Go.Proofs.YteknbadjfojmbaaW.PrintWords Go.Proofs.YteknbadjfojmbaaW.PrintLast Go.Proofs.YteknbadjfojmbaaW.PrintMore
attribute [local go_sem] max2_int min2_int max_two min_two max_three min_three max_four min_four
set_option linter.unusedVariables false
set_option linter.unusedSimpArgs false
def loB (rate : Int) (l : List RT) (lc : Int) : Int := (l.map fun r => (clock_bounds.wn rate lc r).f0).foldl mx 0
def hiB (rate : Int) (l : List RT) (lc : Int) : Int := (l.map fun r => (clock_bounds.wn rate lc r).f1).foldl mn 3600000000
theorem bok {rate : Int} {l : List RT} (h : OkC rate l) {lc : Int} (hlc : 0 ≤ lc ∧ lc ≤ 3600000000) : clock_bounds.ok rate lc l := by
  refine ⟨h.rate.1, h.rate.2, hlc.1, hlc.2, by have := h.len; omega, List.all_eq_true.2 fun r hr => ?_⟩
  have := h.rd r hr
  unfold okR V at this
  unfold clock_bounds.rok
  exact decide_eq_true (by omega)
theorem bounds_some {rate : Int} {l : List RT} (h : OkC rate l) {lc : Int} (hlc : 0 ≤ lc ∧ lc ≤ 3600000000) : clock_bounds.f rate l lc = some (loB rate l lc, hiB rate l lc) := by
  unfold clock_bounds.f
  rw [if_pos (bok h hlc)]
  rfl
def nowC (rate : Int) (l : List RT) (lc : Int) : Int × Int × Int :=
  if chk rate l = 0 then (if 0 ≤ lc ∧ lc ≤ 3600000000 then (if loB rate l lc > hiB rate l lc then (0, 0, 24) else (loB rate l lc, hiB rate l lc, 0)) else (0, 0, 3)) else (0, 0, chk rate l)
theorem now_ev (rate : Int) (l : List RT) (lc : Int) : Ev (fun k => clock_Now.f k rate l lc) (nowC rate l lc) := by
  unfold clock_Now.f
  refine Ev.bind (chk_ev rate l) ?_
  by_cases h : chk rate l = 0
  · refine Ev.pos_ h (Ev.known_ (inst1 _) ?_)
    by_cases h2 : 0 ≤ lc ∧ lc ≤ 3600000000
    · refine Ev.pos_ (by simpa using h2) (Ev.known_ (bounds_some (chk_ok.1 h) h2) ?_)
      by_cases h3 : loB rate l lc > hiB rate l lc
      · have e : nowC rate l lc = (0, 0, 24) := by unfold nowC; rw [if_pos h, if_pos h2, if_pos h3]
        rw [e]; exact Ev.pos_ h3 (Ev.now _)
      · have e : nowC rate l lc = (loB rate l lc, hiB rate l lc, 0) := by unfold nowC; rw [if_pos h, if_pos h2, if_neg h3]
        rw [e]; exact Ev.neg_ h3 (Ev.now _)
    · have e : nowC rate l lc = (0, 0, 3) := by unfold nowC; rw [if_pos h, if_neg h2]
      rw [e]
      exact Ev.neg_ (by simpa using h2) (Ev.now _)
  · have e : nowC rate l lc = (0, 0, chk rate l) := by unfold nowC; rw [if_neg h]
    rw [e]; exact Ev.neg_ h (Ev.now _)
def joinC (a b c d : Int) : Int × Int × Int := if V a b ∧ V c d then (if mx a c > mn b d then (0, 0, 24) else (mx a c, mn b d, 0)) else (0, 0, 3)
theorem join_ev (a b c d : Int) : Ev (fun k => clock_Join.f k a b c d) (joinC a b c d) := by
  unfold clock_Join.f
  by_cases h : V a b
  · refine Ev.known_ (valid_ _ _) (Ev.pos_ (by simpa using h) (Ev.known_ (valid_ _ _) (Ev.step (fun k => by rw [clock_Join.j0]) ?_)))
    by_cases h2 : V c d
    · refine Ev.neg_ (by simpa using h2) ?_
      by_cases h3 : mx a c > mn b d
      · have e : joinC a b c d = (0, 0, 24) := by unfold joinC; rw [if_pos ⟨h, h2⟩, if_pos h3]
        rw [e]; exact Ev.pos_ h3 (Ev.now _)
      · have e : joinC a b c d = (mx a c, mn b d, 0) := by unfold joinC; rw [if_pos ⟨h, h2⟩, if_neg h3]
        rw [e]; exact Ev.neg_ h3 (Ev.now _)
    · have e : joinC a b c d = (0, 0, 3) := by unfold joinC; rw [if_neg (fun h' => h2 h'.2)]
      rw [e]; exact Ev.pos_ (by simpa using h2) (Ev.now _)
  · have e : joinC a b c d = (0, 0, 3) := by unfold joinC; rw [if_neg (fun h' => h h'.1)]
    rw [e]
    exact Ev.known_ (valid_ _ _) (Ev.neg_ (by simpa using h) (Ev.step (fun k => by rw [clock_Join.j0]) (Ev.pos_ rfl (Ev.now _))))
end Go.Proofs.Yteknbadjfojmbaa.QA
