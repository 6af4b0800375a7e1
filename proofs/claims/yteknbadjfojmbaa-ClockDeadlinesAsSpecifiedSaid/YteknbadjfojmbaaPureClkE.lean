-- What this claim does not use was left out by prune.py, a program of this session.
import Derived.Test.YteknbadjfojmbaaQA34
import Derived.Test.YteknbadjfojmbaaQA34
import Derived.Test.YteknbadjfojmbaaPureClkD
namespace Go.Proofs.Yteknbadjfojmbaa.QA
open Go.RowKit Go.Proofs.YteknbadjfojmbaaW.PrintWords Go.Proofs.YteknbadjfojmbaaW.PrintLast Go.Proofs.YteknbadjfojmbaaW.PrintMore
attribute [local go_sem] max2_int min2_int max_two min_two max_three min_three max_four min_four
set_option linter.unusedVariables false
set_option linter.unusedSimpArgs false
theorem wrong_ev (rate : Int) (l : List RT) (due : Int) : Ev (fun k => quietusref14_wrong.f k rate l due) (if chk rate l = 0 then (if 0 ≤ due ∧ due ≤ 3600000000 then 0 else 3) else chk rate l) := by
  by_cases h : chk rate l = 0
  · rw [if_pos h]
    by_cases h2 : 0 ≤ due ∧ due ≤ 3600000000
    · rw [if_pos h2]
      unfold quietusref14_wrong.f
      exact Ev.bind (rChk_ev rate l) (Ev.pos_ h (Ev.known_ (rInst _) (Ev.pos_ (by simpa using h2) (Ev.now _))))
    · rw [if_neg h2]
      unfold quietusref14_wrong.f
      exact Ev.bind (rChk_ev rate l) (Ev.pos_ h (Ev.known_ (rInst _) (Ev.neg_ (by simpa using h2) (Ev.now _))))
  · rw [if_neg h]
    unfold quietusref14_wrong.f
    exact Ev.bind (rChk_ev rate l) (Ev.neg_ h (Ev.now _))
theorem rLat_loop {rate : Int} {l : List RT} (h : OkC rate l) (due : Int) : ∀ (n : Nat) (lo hi : Int), (hi - lo).toNat ≤ n → 0 ≤ lo → lo ≤ hi → hi ≤ 3600000000 → lo < (sL rate l due : Int) → (sL rate l due : Int) ≤ hi + 1 → Ev (fun k => quietusref14_Latest.l0 k due lo hi rate l) ((sL rate l due : Int) - 1, 0)
  | n, lo, hi, hn, h0, hlh, hM, h1, h2 => by
    refine Ev.step (fun k => by rw [quietusref14_Latest.l0]) ?_
    by_cases hlt : lo < hi
    · refine Ev.pos_ hlt ?_
      have e : wrap64 (Int.tdiv (wrap64 (wrap64 (lo + hi) + 1)) 2) = (lo + hi + 1) / 2 := by
        rw [w64 (n := lo + hi) (by omega) (by omega), w64 (n := lo + hi + 1) (by omega) (by omega), Int.tdiv_eq_ediv_of_nonneg (by omega), w64 (by omega) (by omega)]
      have e2 : wrap64 ((lo + hi + 1) / 2 - 1) = (lo + hi + 1) / 2 - 1 := w64 (by omega) (by omega)
      simp only [e, e2]
      have hs := (sL_spec h due).2 ((lo + hi + 1) / 2) (by omega) (by omega)
      refine Ev.bind (rBnd_ev h (show 0 ≤ (lo + hi + 1) / 2 ∧ (lo + hi + 1) / 2 ≤ 3600000000 by omega)) ?_
      cases n with
      | zero => omega
      | succ n =>
        by_cases hc : hiB rate l ((lo + hi + 1) / 2) ≤ due
        · exact Ev.pos_ hc (rLat_loop h due n _ hi (by omega) (by omega) (by omega) hM (hs.2 hc) h2)
        · have : ¬ (lo + hi + 1) / 2 < (sL rate l due : Int) := fun hh => hc (hs.1 hh)
          exact Ev.neg_ hc (rLat_loop h due n lo _ (by omega) h0 (by omega) (by omega) h1 (by omega))
    · refine Ev.neg_ hlt (Ev.const_ ?_)
      have : lo = (sL rate l due : Int) - 1 := by omega
      rw [this]
theorem rEar_loop {rate : Int} {l : List RT} (h : OkC rate l) (due : Int) : ∀ (n : Nat) (lo hi : Int), (hi - lo).toNat ≤ n → 0 ≤ lo → lo ≤ hi → hi ≤ 3600000000 → lo ≤ (sE rate l due : Int) → (sE rate l due : Int) ≤ hi → Ev (fun k => quietusref14_Earliest.l0 k due lo hi rate l) ((sE rate l due : Int), 0)
  | n, lo, hi, hn, h0, hlh, hM, h1, h2 => by
    refine Ev.step (fun k => by rw [quietusref14_Earliest.l0]) ?_
    by_cases hlt : lo < hi
    · refine Ev.pos_ hlt ?_
      have e : wrap64 (Int.tdiv (wrap64 (lo + hi)) 2) = (lo + hi) / 2 := by
        rw [w64 (n := lo + hi) (by omega) (by omega), Int.tdiv_eq_ediv_of_nonneg (by omega), w64 (by omega) (by omega)]
      have e2 : wrap64 ((lo + hi) / 2 + 1) = (lo + hi) / 2 + 1 := w64 (by omega) (by omega)
      simp only [e, e2]
      have hs := (sE_spec h due).2 ((lo + hi) / 2) (by omega) (by omega)
      refine Ev.bind (rBnd_ev h (show 0 ≤ (lo + hi) / 2 ∧ (lo + hi) / 2 ≤ 3600000000 by omega)) ?_
      cases n with
      | zero => omega
      | succ n =>
        by_cases hc : loB rate l ((lo + hi) / 2) ≥ due
        · have : ¬ (lo + hi) / 2 < (sE rate l due : Int) := fun hh => by have := hs.1 hh; omega
          exact Ev.pos_ hc (rEar_loop h due n lo _ (by omega) h0 (by omega) (by omega) h1 (by omega))
        · have : (lo + hi) / 2 < (sE rate l due : Int) := hs.2 (by omega)
          exact Ev.neg_ hc (rEar_loop h due n _ hi (by omega) (by omega) (by omega) hM (by omega) h2)
    · refine Ev.neg_ hlt (Ev.const_ ?_)
      have : lo = (sE rate l due : Int) := by omega
      rw [this]
theorem rLat_ev (rate : Int) (l : List RT) (due : Int) : Ev (fun k => quietusref14_Latest.f k rate l due) (latC rate l due) := by
  unfold quietusref14_Latest.f
  by_cases h : chk rate l = 0
  · have ok := chk_ok.1 h
    by_cases h2 : 0 ≤ due ∧ due ≤ 3600000000
    · obtain ⟨s1, s2⟩ := sL_spec ok due
      have s0 := s2 0 (by omega) (by omega)
      refine Ev.bind (Ev.eq_ (wrong_ev rate l due) (r' := 0) (by rw [if_pos h, if_pos h2])) (Ev.pos_ rfl (Ev.bind (rBnd_ev ok (show (0 : Int) ≤ 0 ∧ (0 : Int) ≤ 3600000000 by omega)) ?_))
      by_cases h3 : hiB rate l 0 > due
      · have h4 : (sL rate l due : Int) = 0 := by
          have : ¬ (0 : Int) < (sL rate l due : Int) := fun hh => by have := s0.1 hh; omega
          omega
        have e : latC rate l due = (0, 8) := by unfold latC; rw [if_pos h, if_pos h2, if_pos h4]
        rw [e]; exact Ev.pos_ h3 (Ev.now _)
      · have h4 : (0 : Int) < (sL rate l due : Int) := s0.2 (by omega)
        have e : latC rate l due = ((sL rate l due : Int) - 1, 0) := by unfold latC; rw [if_pos h, if_pos h2, if_neg (by omega)]
        rw [e]; exact Ev.neg_ h3 (rLat_loop ok due _ 0 3600000000 (Nat.le_refl _) (by omega) (by omega) (by omega) h4 (by omega))
    · have e : latC rate l due = (0, 3) := by unfold latC; rw [if_pos h, if_neg h2]
      rw [e]
      exact Ev.bind (Ev.eq_ (wrong_ev rate l due) (r' := 3) (by rw [if_pos h, if_neg h2])) (Ev.neg_ (by decide) (Ev.now _))
  · have e : latC rate l due = (0, chk rate l) := by unfold latC; rw [if_neg h]
    rw [e]
    exact Ev.bind (Ev.eq_ (wrong_ev rate l due) (r' := chk rate l) (by rw [if_neg h])) (Ev.neg_ h (Ev.now _))
theorem rEar_ev (rate : Int) (l : List RT) (due : Int) : Ev (fun k => quietusref14_Earliest.f k rate l due) (earC rate l due) := by
  unfold quietusref14_Earliest.f
  by_cases h : chk rate l = 0
  · have ok := chk_ok.1 h
    by_cases h2 : 0 ≤ due ∧ due ≤ 3600000000
    · obtain ⟨s1, s2⟩ := sE_spec ok due
      have s0 := s2 3600000000 (by omega) (by omega)
      refine Ev.bind (Ev.eq_ (wrong_ev rate l due) (r' := 0) (by rw [if_pos h, if_pos h2])) (Ev.pos_ rfl (Ev.bind (rBnd_ev ok (show (0 : Int) ≤ 3600000000 ∧ (3600000000 : Int) ≤ 3600000000 by omega)) ?_))
      by_cases h3 : loB rate l 3600000000 < due
      · have h4 : (3600000000 : Int) < (sE rate l due : Int) := s0.2 h3
        have e : earC rate l due = (0, 8) := by unfold earC; rw [if_pos h, if_pos h2, if_pos h4]
        rw [e]; exact Ev.pos_ h3 (Ev.now _)
      · have h4 : ¬ (3600000000 : Int) < (sE rate l due : Int) := fun hh => h3 (s0.1 hh)
        have e : earC rate l due = ((sE rate l due : Int), 0) := by unfold earC; rw [if_pos h, if_pos h2, if_neg h4]
        rw [e]; exact Ev.neg_ h3 (rEar_loop ok due _ 0 3600000000 (Nat.le_refl _) (by omega) (by omega) (by omega) (by omega) (by omega))
    · have e : earC rate l due = (0, 3) := by unfold earC; rw [if_pos h, if_neg h2]
      rw [e]
      exact Ev.bind (Ev.eq_ (wrong_ev rate l due) (r' := 3) (by rw [if_pos h, if_neg h2])) (Ev.neg_ (by decide) (Ev.now _))
  · have e : earC rate l due = (0, chk rate l) := by unfold earC; rw [if_neg h]
    rw [e]
    exact Ev.bind (Ev.eq_ (wrong_ev rate l due) (r' := chk rate l) (by rw [if_neg h])) (Ev.neg_ h (Ev.now _))
end Go.Proofs.Yteknbadjfojmbaa.QA
