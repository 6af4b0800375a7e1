-- What this claim does not use was left out by prune.py, a program of this session.
import Derived.Test.YteknbadjfojmbaaPureClkB
import Derived.Test.YteknbadjfojmbaaQA23
import Derived.Test.YteknbadjfojmbaaQA25
import Derived.Test.YteknbadjfojmbaaQA28
import Derived.Test.YteknbadjfojmbaaQA29
namespace Go.Proofs.Yteknbadjfojmbaa.QA
open Go.RowKit Go.Proofs.YteknbadjfojmbaaW.PrintWords Go.Proofs.YteknbadjfojmbaaW.PrintLast Go.Proofs.YteknbadjfojmbaaW.PrintMore
attribute [local go_sem] max2_int min2_int max_two min_two max_three min_three max_four min_four
set_option linter.unusedVariables false
set_option linter.unusedSimpArgs false
def lastL (l : List RT) : Int := (rd_T58 l ((l.length : Int) - 1)).f0
def syncC (rate : Int) (l : List RT) (a b c : Int) : Int × List RT × Int :=
  if chk rate l = 0 then
    (if (0 ≤ a ∧ a ≤ 3600000000) ∧ V b c then
      (if 0 < l.length ∧ a ≤ lastL l then (0, [], 15) else
        (if (nowC rate l a).2.2 = 0 then
          (if (joinC b c (nowC rate l a).1 (nowC rate l a).2.1).2.2 = 0 then
            (rate, (l ++ ([⟨a, ⟨(joinC b c (nowC rate l a).1 (nowC rate l a).2.1).1, (joinC b c (nowC rate l a).1 (nowC rate l a).2.1).2.1⟩⟩] : List RT)).drop (l.length + 1 - 16), 0)
          else (0, [], (joinC b c (nowC rate l a).1 (nowC rate l a).2.1).2.2))
        else (0, [], (nowC rate l a).2.2)))
    else (0, [], 3))
  else (0, [], chk rate l)
theorem sync_ev (rate : Int) (l : List RT) (a b c : Int) : Ev (fun k => clock_Sync.f k rate l a b c) (syncC rate l a b c) := by
  unfold clock_Sync.f
  refine Ev.bind (chk_ev rate l) ?_
  by_cases h : chk rate l = 0
  · refine Ev.pos_ h (Ev.known_ (inst1 _) ?_)
    by_cases h1 : 0 ≤ a ∧ a ≤ 3600000000
    · refine Ev.pos_ (by simpa using h1) (Ev.known_ (valid_ _ _) ?_)
      by_cases h2 : V b c
      · refine Ev.pos_ (by simpa using h2) ?_
        by_cases h3 : 0 < l.length ∧ a ≤ lastL l
        · have e : syncC rate l a b c = (0, [], 15) := by unfold syncC; rw [if_pos h, if_pos ⟨h1, h2⟩, if_pos h3]
          rw [e]; exact Ev.pos_ h3 (Ev.now _)
        · refine Ev.neg_ h3 (Ev.bind (now_ev rate l a) ?_)
          by_cases h4 : (nowC rate l a).2.2 = 0
          · refine Ev.pos_ h4 (Ev.bind (join_ev _ _ _ _) ?_)
            by_cases h5 : (joinC b c (nowC rate l a).1 (nowC rate l a).2.1).2.2 = 0
            · have e : syncC rate l a b c = (rate, (l ++ ([⟨a, ⟨(joinC b c (nowC rate l a).1 (nowC rate l a).2.1).1, (joinC b c (nowC rate l a).1 (nowC rate l a).2.1).2.1⟩⟩] : List RT)).drop (l.length + 1 - 16), 0) := by unfold syncC; rw [if_pos h, if_pos ⟨h1, h2⟩, if_neg h3, if_pos h4, if_pos h5]
              rw [e]; exact Ev.pos_ h5 (Ev.pos_ (chk_ok.1 h).len (Ev.now _))
            · have e : syncC rate l a b c = (0, [], (joinC b c (nowC rate l a).1 (nowC rate l a).2.1).2.2) := by unfold syncC; rw [if_pos h, if_pos ⟨h1, h2⟩, if_neg h3, if_pos h4, if_neg h5]
              rw [e]; exact Ev.neg_ h5 (Ev.now _)
          · have e : syncC rate l a b c = (0, [], (nowC rate l a).2.2) := by unfold syncC; rw [if_pos h, if_pos ⟨h1, h2⟩, if_neg h3, if_neg h4]
            rw [e]; exact Ev.neg_ h4 (Ev.now _)
      · have e : syncC rate l a b c = (0, [], 3) := by unfold syncC; rw [if_pos h, if_neg (fun h' => h2 h'.2)]
        rw [e]; exact Ev.neg_ (by simpa using h2) (Ev.now _)
    · have e : syncC rate l a b c = (0, [], 3) := by unfold syncC; rw [if_pos h, if_neg (fun h' => h1 h'.1)]
      rw [e]; exact Ev.neg_ (by simpa using h1) (Ev.now _)
  · have e : syncC rate l a b c = (0, [], chk rate l) := by unfold syncC; rw [if_neg h]
    rw [e]; exact Ev.neg_ h (Ev.now _)
theorem rSync_ev (rate : Int) (l : List RT) (a b c : Int) : Ev (fun k => quietusref14_Sync.f k rate l a b c) (syncC rate l a b c) := by
  unfold quietusref14_Sync.f
  refine Ev.bind (rChk_ev rate l) ?_
  by_cases h : chk rate l = 0
  · have hl := (chk_ok.1 h).len
    refine Ev.pos_ h (Ev.known_ (rRead ⟨a, ⟨b, c⟩⟩) ?_)
    by_cases h1 : (0 ≤ a ∧ a ≤ 3600000000) ∧ V b c
    · have hk : okR ⟨a, ⟨b, c⟩⟩ := ⟨h1.1.1, h1.1.2, h1.2⟩
      refine Ev.pos_ (by simpa using hk) ?_
      have main : ∀ x : Bool, (x = true ↔ 0 < l.length ∧ a ≤ lastL l) → Ev (fun k => quietusref14_Sync.j0 k (l.length : Int) x rate l a b c) (syncC rate l a b c) := by
        intro x hx
        refine Ev.step (fun k => by rw [quietusref14_Sync.j0]) ?_
        by_cases h3 : 0 < l.length ∧ a ≤ lastL l
        · have e : syncC rate l a b c = (0, [], 15) := by unfold syncC; rw [if_pos h, if_pos h1, if_pos h3]
          rw [e]; exact Ev.pos_ (hx.2 h3) (Ev.now _)
        · refine Ev.neg_ (fun hh => h3 (hx.1 hh)) (Ev.bind (rNow_ev rate l a) ?_)
          by_cases h4 : (nowC rate l a).2.2 = 0
          · refine Ev.pos_ h4 (Ev.bind (rJoin_ev _ _ _ _) ?_)
            by_cases h5 : (joinC b c (nowC rate l a).1 (nowC rate l a).2.1).2.2 = 0
            · have e : syncC rate l a b c = (rate, (l ++ ([⟨a, ⟨(joinC b c (nowC rate l a).1 (nowC rate l a).2.1).1, (joinC b c (nowC rate l a).1 (nowC rate l a).2.1).2.1⟩⟩] : List RT)).drop (l.length + 1 - 16), 0) := by unfold syncC; rw [if_pos h, if_pos h1, if_neg h3, if_pos h4, if_pos h5]
              rw [e]
              refine Ev.pos_ h5 (Ev.known_ rfl (Ev.pos_ (by simp; omega) (Ev.known_ rfl ?_)))
              by_cases h6 : l.length = 16
              · refine Ev.pos_ (by omega) (Ev.known_ rfl (Ev.pos_ (by omega) (Ev.known_ rfl (Ev.pos_ (by simp; omega) (Ev.known_ rfl (Ev.pos_ (by simp; omega) (Ev.const_ ?_)))))))
                rw [h6, List.drop_append_of_le_length (by omega)]
                simp
              · refine Ev.neg_ (by omega) (Ev.pos_ (by simp; omega) (Ev.const_ ?_))
                rw [show l.length + 1 - 16 = 0 by omega]
                simp
            · have e : syncC rate l a b c = (0, [], (joinC b c (nowC rate l a).1 (nowC rate l a).2.1).2.2) := by unfold syncC; rw [if_pos h, if_pos h1, if_neg h3, if_pos h4, if_neg h5]
              rw [e]; exact Ev.neg_ h5 (Ev.now _)
          · have e : syncC rate l a b c = (0, [], (nowC rate l a).2.2) := by unfold syncC; rw [if_pos h, if_pos h1, if_neg h3, if_neg h4]
            rw [e]; exact Ev.neg_ h4 (Ev.now _)
      by_cases h0 : 0 < l.length
      · have hw : wrap64 ((l.length : Int) - 1) = (l.length : Int) - 1 := w64 (by omega) (by omega)
        rw [hw]
        refine Ev.pos_ (by omega) (Ev.pos_ (by omega) (Ev.pos_ (by omega) (main _ ?_)))
        rw [decide_eq_true_eq]
        exact ⟨fun h' => ⟨h0, h'⟩, fun h' => h'.2⟩
      · exact Ev.neg_ (by omega) (main _ ⟨fun h' => absurd h' (by decide), fun h' => absurd h'.1 h0⟩)
    · have hk : ¬ okR ⟨a, ⟨b, c⟩⟩ := fun hh => h1 ⟨⟨hh.1, hh.2.1⟩, hh.2.2⟩
      have e : syncC rate l a b c = (0, [], 3) := by unfold syncC; rw [if_pos h, if_neg h1]
      rw [e]; exact Ev.neg_ (by simpa using hk) (Ev.now _)
  · have e : syncC rate l a b c = (0, [], chk rate l) := by unfold syncC; rw [if_neg h]
    rw [e]; exact Ev.neg_ h (Ev.now _)
theorem same_loop (rate : Int) (l : List RT) (hl : l.length ≤ 1000) : ∀ (n i : Nat), l.length - i = n → i ≤ l.length → Ev (fun k => quietusref14_Same.l0 k (i : Int) rate l rate l) true
  | 0, i, hn, hi => Ev.step (fun k => by rw [quietusref14_Same.l0]) (Ev.neg_ (by omega) (Ev.now _))
  | n + 1, i, hn, hi => by
    have hw : wrap64 ((i : Int) + 1) = ((i + 1 : Nat) : Int) := by rw [w64 (by omega) (by omega)]; omega
    refine Ev.step (fun k => by rw [quietusref14_Same.l0]) (Ev.pos_ (by omega) (Ev.pos_ (by omega) (Ev.pos_ (by omega) (Ev.neg_ (by simp) ?_))))
    rw [hw]
    exact same_loop rate l hl n (i + 1) (by omega) (by omega)
theorem same_ev (rate : Int) (l : List RT) (hl : l.length ≤ 1000) : Ev (fun k => quietusref14_Same.f k rate l rate l) true := by
  unfold quietusref14_Same.f
  refine Ev.pos_ rfl (Ev.step (fun k => by rw [quietusref14_Same.j0]) ?_)
  refine Ev.neg_ (by simp) ?_
  exact same_loop rate l hl _ 0 rfl (by omega)
theorem sync_len (rate : Int) (l : List RT) (a b c : Int) (hl : l.length ≤ 20) : (syncC rate l a b c).2.1.length ≤ 1000 := by
  unfold syncC
  repeat' split
  all_goals first | (simp; done) | (simp; omega)
theorem sanity14 : quietuslaw14_sanity.f = some true := rfl
theorem few14 (rate : Int) (l : List RT) : quietuslaw14_few.f rate l = some (decide ((l.length : Int) ≤ 20)) := rfl
end Go.Proofs.Yteknbadjfojmbaa.QA
