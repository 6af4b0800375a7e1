-- What this claim does not use was left out by prune.py, a program of this session.
import Derived.Test.YteknbadjfojmbaaSClockIsMonotone
import Derived.Test.YteknbadjfojmbaaPureClkE
namespace Go.Proofs.Yteknbadjfojmbaa.QA
open Go.RowKit Go.Proofs.YteknbadjfojmbaaW.PrintWords Go.Proofs.YteknbadjfojmbaaW.PrintLast Go.Proofs.YteknbadjfojmbaaW.PrintMore
attribute [local go_sem] max2_int min2_int max_two min_two max_three min_three max_four min_four
set_option linter.unusedVariables false
set_option linter.unusedSimpArgs false
theorem Ev.ite_ {α : Type} {c : Prop} [Decidable c] {A B : Nat → Option α} {r : α} (h1 : c → Ev A r) (h2 : ¬ c → Ev B r) : Ev (fun n => if c then A n else B n) r := by
  by_cases h : c
  · exact Ev.pos_ h (h1 h)
  · exact Ev.neg_ h (h2 h)
theorem now_ok {rate : Int} {l : List RT} {lc : Int} (h : (nowC rate l lc).2.2 = 0) : OkC rate l ∧ (0 ≤ lc ∧ lc ≤ 3600000000) ∧ nowC rate l lc = (loB rate l lc, hiB rate l lc, 0) := by
  unfold nowC at h ⊢
  by_cases h1 : chk rate l = 0
  · rw [if_pos h1] at h ⊢
    by_cases h2 : 0 ≤ lc ∧ lc ≤ 3600000000
    · rw [if_pos h2] at h ⊢
      by_cases h3 : loB rate l lc > hiB rate l lc
      · rw [if_pos h3] at h; exact absurd h (by decide)
      · rw [if_neg h3]; exact ⟨chk_ok.1 h1, h2, rfl⟩
    · rw [if_neg h2] at h; exact absurd h (by decide)
  · rw [if_neg h1] at h; exact absurd h h1
theorem sync_ok {rate : Int} {l : List RT} {a b c : Int} (h : (syncC rate l a b c).2.2 = 0) : OkC rate l ∧ ((0 ≤ a ∧ a ≤ 3600000000) ∧ V b c) ∧ ¬ (0 < l.length ∧ a ≤ lastL l) ∧ (nowC rate l a).2.2 = 0 ∧ (joinC b c (nowC rate l a).1 (nowC rate l a).2.1).2.2 = 0 ∧ syncC rate l a b c = (rate, (l ++ ([⟨a, ⟨(joinC b c (nowC rate l a).1 (nowC rate l a).2.1).1, (joinC b c (nowC rate l a).1 (nowC rate l a).2.1).2.1⟩⟩] : List RT)).drop (l.length + 1 - 16), 0) := by
  unfold syncC at h ⊢
  by_cases h1 : chk rate l = 0
  · rw [if_pos h1] at h ⊢
    by_cases h2 : (0 ≤ a ∧ a ≤ 3600000000) ∧ V b c
    · rw [if_pos h2] at h ⊢
      by_cases h3 : 0 < l.length ∧ a ≤ lastL l
      · rw [if_pos h3] at h; exact absurd h (by decide)
      · rw [if_neg h3] at h ⊢
        by_cases h4 : (nowC rate l a).2.2 = 0
        · rw [if_pos h4] at h ⊢
          by_cases h5 : (joinC b c (nowC rate l a).1 (nowC rate l a).2.1).2.2 = 0
          · rw [if_pos h5]; exact ⟨chk_ok.1 h1, h2, h3, h4, h5, rfl⟩
          · rw [if_neg h5] at h; exact absurd h h5
        · rw [if_neg h4] at h; exact absurd h h4
    · rw [if_neg h2] at h; exact absurd h (by decide)
  · rw [if_neg h1] at h; exact absurd h h1
theorem mx_left (a b : Int) : a ≤ mx a b := by unfold mx; split <;> omega
theorem mn_left (a b : Int) : mn a b ≤ a := by unfold mn; split <;> omega
theorem loB_more (rate : Int) (l : List RT) (r : RT) (lc : Int) : loB rate l lc ≤ loB rate (l ++ [r]) lc := by
  unfold loB
  rw [List.map_append, List.foldl_append]
  exact mx_left _ _
theorem hiB_more (rate : Int) (l : List RT) (r : RT) (lc : Int) : hiB rate (l ++ [r]) lc ≤ hiB rate l lc := by
  unfold hiB
  rw [List.map_append, List.foldl_append]
  exact mn_left _ _
theorem lat_spec {rate : Int} {l : List RT} {due : Int} (ok : OkC rate l) (h : (latC rate l due).2 = 0) : ∀ i : Int, 0 ≤ i → i ≤ 3600000000 → (i ≤ (latC rate l due).1 ↔ hiB rate l i ≤ due) := by
  obtain ⟨s1, s2⟩ := sL_spec ok due
  unfold latC at h ⊢
  rw [if_pos (chk_ok.2 ok)] at h ⊢
  by_cases h2 : 0 ≤ due ∧ due ≤ 3600000000
  · rw [if_pos h2] at h ⊢
    by_cases h3 : (sL rate l due : Int) = 0
    · rw [if_pos h3] at h; exact absurd h (by decide)
    · rw [if_neg h3]
      intro i h0 h1
      rw [← s2 i h0 h1]
      show i ≤ (sL rate l due : Int) - 1 ↔ _
      omega
  · rw [if_neg h2] at h; exact absurd h (by decide)
theorem ear_spec {rate : Int} {l : List RT} {due : Int} (ok : OkC rate l) (h : (earC rate l due).2 = 0) : ∀ i : Int, 0 ≤ i → i ≤ 3600000000 → (i < (earC rate l due).1 ↔ loB rate l i < due) := by
  obtain ⟨s1, s2⟩ := sE_spec ok due
  unfold earC at h ⊢
  rw [if_pos (chk_ok.2 ok)] at h ⊢
  by_cases h2 : 0 ≤ due ∧ due ≤ 3600000000
  · rw [if_pos h2] at h ⊢
    by_cases h3 : 3600000000 < (sE rate l due : Int)
    · rw [if_pos h3] at h; exact absurd h (by decide)
    · rw [if_neg h3]
      intro i h0 h1
      exact s2 i h0 h1
  · rw [if_neg h2] at h; exact absurd h (by decide)
theorem mono_j4 (rate : Int) (l : List RT) (a : Int) (x164 : Bool) (s1 : Int) (s2 : List RT) (h : x164 = false → (nowC rate l a).2.2 = 0 → (nowC s1 s2 a).2.2 = 0 → (nowC rate l a).1 ≤ (nowC s1 s2 a).1 ∧ (nowC s1 s2 a).2.1 ≤ (nowC rate l a).2.1) :
    Ev (fun k => quietuslaw14_ClockIsMonotone.j4 k a (nowC rate l a).2.2 x164 (nowC rate l a).1 (nowC rate l a).2.1 s1 s2) true := by
  refine Ev.step (fun k => by rw [quietuslaw14_ClockIsMonotone.j4]) ?_
  refine Ev.ite_ (fun _ => Ev.known_ sanity14 (Ev.now _)) (fun hx => Ev.bind (now_ev _ _ _) (Ev.known_ sanity14 (Ev.pos_ rfl ?_)))
  have hx' : x164 = false := by cases x164 with | true => exact absurd rfl hx | false => rfl
  refine Ev.ite_ (fun h1 => Ev.ite_ (fun h2 => ?_) (fun _ => Ev.now _)) (fun _ => Ev.now _)
  obtain ⟨q1, q2⟩ := h hx' h1 h2
  exact Ev.pos_ q1 (Ev.const_ (by rw [decide_eq_true q2]))
theorem mono_j3 (rate : Int) (l : List RT) (a : Int) (x150 : Bool) (c d e : Int) (h : x150 = false) :
    Ev (fun k => quietuslaw14_ClockIsMonotone.j3 k a (nowC rate l a).2.2 x150 rate l c d e (nowC rate l a).1 (nowC rate l a).2.1) true := by
  refine Ev.step (fun k => by rw [quietuslaw14_ClockIsMonotone.j3]) ?_
  refine Ev.neg_ (by rw [h]; decide) (Ev.bind (sync_ev _ _ _ _ _) (Ev.ite_ (fun h1 => ?_) (fun h1 => ?_)))
  · refine mono_j4 rate l a _ _ _ (fun hx h2 h3 => ?_)
    obtain ⟨ok, _, _, _, _, hs⟩ := sync_ok h1
    have hlen : ¬ 16 ≤ l.length := by
      intro h4
      rw [decide_eq_false_iff_not] at hx
      omega
    rw [show l.length + 1 - 16 = 0 by omega, List.drop_zero] at hs
    rw [hs] at h3 ⊢
    obtain ⟨_, _, ex⟩ := now_ok h2
    obtain ⟨_, _, ez⟩ := now_ok h3
    rw [ex, ez]
    exact ⟨loB_more _ _ _ _, hiB_more _ _ _ _⟩
  · exact mono_j4 rate l a true _ _ (fun hx => by cases hx)
theorem mono_j2 (rate : Int) (l : List RT) (a b due : Int) (x118 : Bool) (c d e : Int) (h : x118 = false)
    (F4 : (earC rate l due).2 = 0 → (nowC rate l a).2.2 = 0 → (earC rate l due).1 ≤ a → due ≤ (nowC rate l a).1)
    (F5 : (earC rate l due).2 = 0 → (nowC rate l b).2.2 = 0 → b < (earC rate l due).1 → (nowC rate l b).1 < due) :
    Ev (fun k => quietuslaw14_ClockIsMonotone.j2 k a b due (nowC rate l a).2.2 (nowC rate l b).2.2 (earC rate l due).1 (earC rate l due).2 x118 rate l c d e (nowC rate l a).1 (nowC rate l a).2.1 (nowC rate l b).1 (nowC rate l b).2.1) true := by
  refine Ev.step (fun k => by rw [quietuslaw14_ClockIsMonotone.j2]) ?_
  refine Ev.neg_ (by rw [h]; decide) ?_
  refine Ev.ite_ (fun hg => ?_) (fun hg => mono_j3 rate l a _ c d e rfl)
  have G : Ev (fun k => if (nowC rate l b).2.2 = 0 then (if b < (earC rate l due).1 then quietuslaw14_ClockIsMonotone.j3 k a (nowC rate l a).2.2 (decide ((nowC rate l b).1 ≥ due)) rate l c d e (nowC rate l a).1 (nowC rate l a).2.1 else quietuslaw14_ClockIsMonotone.j3 k a (nowC rate l a).2.2 false rate l c d e (nowC rate l a).1 (nowC rate l a).2.1) else quietuslaw14_ClockIsMonotone.j3 k a (nowC rate l a).2.2 false rate l c d e (nowC rate l a).1 (nowC rate l a).2.1) true := by
    refine Ev.ite_ (fun h1 => Ev.ite_ (fun h2 => mono_j3 rate l a _ c d e ?_) (fun _ => mono_j3 rate l a _ c d e rfl)) (fun _ => mono_j3 rate l a _ c d e rfl)
    have := F5 hg h1 h2
    rw [decide_eq_false_iff_not]; omega
  refine Ev.ite_ (fun h1 => Ev.ite_ (fun h2 => Ev.neg_ ?_ G) (fun _ => G)) (fun _ => G)
  have := F4 hg h1 h2
  omega
theorem mono_j1 (rate : Int) (l : List RT) (a b due : Int) (x74 : Bool) (c d e : Int) (h : x74 = false)
    (F2 : (latC rate l due).2 = 0 → (nowC rate l a).2.2 = 0 → a ≤ (latC rate l due).1 → (nowC rate l a).2.1 ≤ due)
    (F3 : (latC rate l due).2 = 0 → (nowC rate l b).2.2 = 0 → (latC rate l due).1 < b → due < (nowC rate l b).2.1)
    (F4 : (earC rate l due).2 = 0 → (nowC rate l a).2.2 = 0 → (earC rate l due).1 ≤ a → due ≤ (nowC rate l a).1)
    (F5 : (earC rate l due).2 = 0 → (nowC rate l b).2.2 = 0 → b < (earC rate l due).1 → (nowC rate l b).1 < due) :
    Ev (fun k => quietuslaw14_ClockIsMonotone.j1 k a b due (nowC rate l a).2.2 (nowC rate l b).2.2 x74 rate l c d e (nowC rate l a).1 (nowC rate l a).2.1 (nowC rate l b).1 (nowC rate l b).2.1) true := by
  refine Ev.step (fun k => by rw [quietuslaw14_ClockIsMonotone.j1]) ?_
  refine Ev.neg_ (by rw [h]; decide) (Ev.bind (lat_ev _ _ _) (Ev.bind (ear_ev _ _ _) ?_))
  have J := fun (x : Bool) (hx : x = false) => mono_j2 rate l a b due x c d e hx F4 F5
  refine Ev.ite_ (fun hg => ?_) (fun hg => J _ rfl)
  have G : Ev (fun k => if (nowC rate l b).2.2 = 0 then (if b > (latC rate l due).1 then quietuslaw14_ClockIsMonotone.j2 k a b due (nowC rate l a).2.2 (nowC rate l b).2.2 (earC rate l due).1 (earC rate l due).2 (decide ((nowC rate l b).2.1 ≤ due)) rate l c d e (nowC rate l a).1 (nowC rate l a).2.1 (nowC rate l b).1 (nowC rate l b).2.1 else quietuslaw14_ClockIsMonotone.j2 k a b due (nowC rate l a).2.2 (nowC rate l b).2.2 (earC rate l due).1 (earC rate l due).2 false rate l c d e (nowC rate l a).1 (nowC rate l a).2.1 (nowC rate l b).1 (nowC rate l b).2.1) else quietuslaw14_ClockIsMonotone.j2 k a b due (nowC rate l a).2.2 (nowC rate l b).2.2 (earC rate l due).1 (earC rate l due).2 false rate l c d e (nowC rate l a).1 (nowC rate l a).2.1 (nowC rate l b).1 (nowC rate l b).2.1) true := by
    refine Ev.ite_ (fun h1 => Ev.ite_ (fun h2 => J _ ?_) (fun _ => J _ rfl)) (fun _ => J _ rfl)
    have := F3 hg h1 h2
    rw [decide_eq_false_iff_not]; omega
  refine Ev.ite_ (fun h1 => Ev.ite_ (fun h2 => Ev.neg_ ?_ G) (fun _ => G)) (fun _ => G)
  have := F2 hg h1 h2
  omega
theorem PureClockIsMonotone.proof : ClockIsMonotone.Pure := by
  intro rate l n0 n1 due c d e _ _ _
  refine Ev.rounds ?_
  unfold quietuslaw14_ClockIsMonotone.f
  refine Ev.known_ (few14 _ _) ?_
  have skip : Ev (fun k => quietuslaw14_ClockIsMonotone.j0 k true rate l n0 n1 due c d e) true := Ev.step (fun k => by rw [quietuslaw14_ClockIsMonotone.j0]) (Ev.pos_ rfl (Ev.known_ sanity14 (Ev.now _)))
  refine Ev.ite_ (fun _ => Ev.bind (rChk_ev _ _) ?_) (fun _ => skip)
  by_cases hc : chk rate l = 0
  · have ok := chk_ok.1 hc
    have hb : (chk rate l != 0) = false := by rw [hc]; rfl
    rw [hb]
    refine Ev.step (fun k => by rw [quietuslaw14_ClockIsMonotone.j0]) ?_
    refine Ev.neg_ (by decide) (Ev.bind (now_ev _ _ _) (Ev.bind (now_ev _ _ _) ?_))
    have hab : mn n0 n1 ≤ mx n0 n1 := by unfold mn mx; split <;> split <;> omega
    generalize mn n0 n1 = a at *
    generalize mx n0 n1 = b at *
    have F1 : (nowC rate l a).2.2 = 0 → (nowC rate l b).2.2 = 0 → (nowC rate l a).1 ≤ (nowC rate l b).1 ∧ (nowC rate l a).2.1 ≤ (nowC rate l b).2.1 := by
      intro h1 h2
      obtain ⟨_, ha, ea⟩ := now_ok h1
      obtain ⟨_, hb, eb⟩ := now_ok h2
      rw [ea, eb]
      exact ⟨loB_mono ok ha.1 hab hb.2, hiB_mono ok ha.1 hab hb.2⟩
    have J := fun (x : Bool) (hx : x = false) => mono_j1 rate l a b due x c d e hx
      (fun hg h1 h2 => by
        obtain ⟨_, ha, ea⟩ := now_ok h1
        rw [ea]; exact (lat_spec ok hg a ha.1 ha.2).1 h2)
      (fun hg h1 h2 => by
        obtain ⟨_, ha, ea⟩ := now_ok h1
        rw [ea]
        have := lat_spec ok hg b ha.1 ha.2
        show due < hiB rate l b
        apply Int.lt_of_not_ge
        intro h3
        have := this.2 h3
        omega)
      (fun hg h1 h2 => by
        obtain ⟨_, ha, ea⟩ := now_ok h1
        rw [ea]
        have := ear_spec ok hg a ha.1 ha.2
        show due ≤ loB rate l a
        apply Int.le_of_not_gt
        intro h3
        have := this.2 h3
        omega)
      (fun hg h1 h2 => by
        obtain ⟨_, ha, ea⟩ := now_ok h1
        rw [ea]; exact (ear_spec ok hg b ha.1 ha.2).1 h2)
    refine Ev.ite_ (fun h1 => Ev.ite_ (fun h2 => Ev.neg_ ?_ (J _ ?_)) (fun _ => J _ rfl)) (fun _ => J _ rfl)
    · have := F1 h1 h2; omega
    · have := F1 h1 h2; rw [decide_eq_false_iff_not]; omega
  · have hb : (chk rate l != 0) = true := by simpa using hc
    rw [hb]
    exact skip
end Go.Proofs.Yteknbadjfojmbaa.QA
