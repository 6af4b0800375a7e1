-- What this claim does not use was left out by prune.py, a program of this session.
import Derived.Test.YteknbadjfojmbaaSClockDeadlinesAreSure
import Derived.Test.YteknbadjfojmbaaPureClkH
namespace Go.Proofs.Yteknbadjfojmbaa.QA
open Go.RowKit Go.Proofs.YteknbadjfojmbaaW.PrintWords Go.Proofs.YteknbadjfojmbaaW.PrintLast Go.Proofs.YteknbadjfojmbaaW.PrintMore
attribute [local go_sem] max2_int min2_int max_two min_two max_three min_three max_four min_four
set_option linter.unusedVariables false
set_option linter.unusedSimpArgs false
theorem lat_at {rate : Int} {l : List RT} {due : Int} (ok : OkC rate l) (h : (latC rate l due).2 = 0) : ∀ i : Int, 0 ≤ i → i ≤ 3600000000 → (i ≤ (latC rate l due).1 ↔ hiB rate l i ≤ due) := by
  obtain ⟨s1, s2⟩ := sL_spec ok due
  unfold latC at h ⊢
  rw [if_pos (chk_ok.2 ok)] at h ⊢
  by_cases h2 : 0 ≤ due ∧ due ≤ 3600000000
  · rw [if_pos h2] at h ⊢
    by_cases h3 : (sL rate l due : Int) = 0
    · rw [if_pos h3] at h; exact absurd h (by decide)
    · rw [if_neg h3]
      intro i h0 h1
      rw [← s2 i h0 h1]
      show i ≤ (sL rate l due : Int) - 1 ↔ _
      omega
  · rw [if_neg h2] at h; exact absurd h (by decide)
theorem ear_at {rate : Int} {l : List RT} {due : Int} (ok : OkC rate l) (h : (earC rate l due).2 = 0) : ∀ i : Int, 0 ≤ i → i ≤ 3600000000 → (i < (earC rate l due).1 ↔ loB rate l i < due) := by
  obtain ⟨s1, s2⟩ := sE_spec ok due
  unfold earC at h ⊢
  rw [if_pos (chk_ok.2 ok)] at h ⊢
  by_cases h2 : 0 ≤ due ∧ due ≤ 3600000000
  · rw [if_pos h2] at h ⊢
    by_cases h3 : 3600000000 < (sE rate l due : Int)
    · rw [if_pos h3] at h; exact absurd h (by decide)
    · rw [if_neg h3]
      intro i h0 h1
      exact s2 i h0 h1
  · rw [if_neg h2] at h; exact absurd h (by decide)
theorem ask_ev {rate now value : Int} {rs : List RT} (h : Tr rate now value rs) (hn : now ≤ 100000) (hv : value ≤ 3600000000000000) (x : Int) (hx : -32768 ≤ x ∧ x ≤ 32767) : Ev (fun k => sure.ask k now value rate rs x) true := by
  unfold sure.ask
  have n0 := h.now0
  have v0 := h.val0
  by_cases hd : now + x < 0
  · exact Ev.pos_ hd (Ev.now _)
  · obtain ⟨⟨b1, b2⟩, b3, b4⟩ := bnd_in h (by omega)
    have hl : (latC rate rs (now + x)).2 = 0 ∨ (latC rate rs (now + x)).2 = 8 := by
      unfold latC
      rw [if_pos (chk_ok.2 h.ok), if_pos (by omega)]
      split
      · right; rfl
      · left; rfl
    have he : (earC rate rs (now + x)).2 = 0 ∨ (earC rate rs (now + x)).2 = 8 := by
      unfold earC
      rw [if_pos (chk_ok.2 h.ok), if_pos (by omega)]
      split
      · right; rfl
      · left; rfl
    refine Ev.neg_ hd (Ev.bind (lat_ev rate rs (now + x)) (Ev.bind (ear_ev rate rs (now + x)) (Ev.pos_ ⟨hl, he, fun h1 h2 => ?_, fun h1 h2 => ?_⟩ (Ev.now _))))
    · have := (lat_at h.ok h1 (value / 1000000) (by omega) (by omega)).1 h2
      omega
    · have hs := ear_at h.ok h1 (value / 1000000) (by omega) (by omega)
      have : ¬ loB rate rs (value / 1000000) < now + x := fun hh => by have := hs.2 hh; omega
      omega
theorem sure_ev (rate : Int) : ∀ (ss : List S105) (now value : Int) (rs : List RT) (xs : List Int), Tr rate now value rs → (∀ s ∈ ss, wfS s) → (∀ x ∈ xs, -32768 ≤ x ∧ x ≤ 32767) → now + 499 * (ss.length : Int) ≤ 100000 → value + 548900000 * (ss.length : Int) ≤ 100000000000000 → Ev (fun k => sure.run k now value rate rs ss xs) true
  | [], now, value, rs, xs, _, _, _, _, _ => Ev.now _
  | s :: ss, now, value, rs, xs, h, hs, hxs, hn, hv => by
    simp only [List.length_cons] at hn hv
    have w := hs s List.mem_cons_self
    obtain ⟨rs', ht, hb, hg⟩ := goOn_ev h s w (by omega) (by omega)
    have f0 := w.1
    have v0 := ht.val0
    have n0 := ht.now0
    have hask : Ev (fun k => match xs with | [] => some true | x :: _ => if -32768 ≤ x ∧ x ≤ 32767 then sure.ask k (now + s.f0 % 500) (goOn.val value rate s.f0 s.f1) rate rs' x else none) true := by
      cases xs with
      | nil => exact Ev.now _
      | cons x xs =>
        have hx := hxs x List.mem_cons_self
        exact Ev.pos_ hx (ask_ev ht (by omega) (by omega) x hx)
    refine Ev.bind hg (Ev.pos_ ⟨rfl, ⟨v0, by show goOn.val value rate s.f0 s.f1 ≤ 1000000000000000; omega⟩, n0, by show now + s.f0 % 500 ≤ 1000000000; omega⟩ (Ev.bind hask ?_))
    exact sure_ev rate ss (now + s.f0 % 500) (goOn.val value rate s.f0 s.f1) rs' (xs.drop 1) ht (fun x hx => hs x (List.mem_cons_of_mem _ hx)) (fun x hx => hxs x (List.mem_of_mem_drop hx)) (by omega) (by omega)
theorem PureClockDeadlinesAreSure.proof : ClockDeadlinesAreSure.Pure := by
  intro a0 a1 ls xs ⟨h0, h1, hl⟩ hx
  refine Ev.rounds ?_
  unfold quietuslaw14_ClockDeadlinesAreSure.f
  by_cases hc : 30 < ls.length
  · exact Ev.pos_ hc (Ev.now _)
  · simp only [Lit.wf, Bool.and_eq_true, decide_eq_true_eq] at h0 h1
    obtain ⟨value, rate, hb, ht, hv⟩ := begun_tr a0 a1 ⟨h0.1, h0.2⟩ ⟨h1.1, h1.2⟩ ls
    refine Ev.neg_ hc (Ev.known_ hb (sure_ev rate ls 0 value [] xs ht (fun s hs => wf_s (hl.2 s hs)) (fun x hxx => ?_) (by omega) (by omega)))
    have := hx.2 x hxx
    simp only [Lit.wf, Bool.and_eq_true, decide_eq_true_eq] at this
    exact ⟨this.1, this.2⟩
end Go.Proofs.Yteknbadjfojmbaa.QA
