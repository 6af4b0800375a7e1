-- What this claim does not use was left out by prune.py, a program of this session.
import Derived.Test.YteknbadjfojmbaaSClockHoldsTheTruth
import Derived.Test.YteknbadjfojmbaaPureClkH
namespace Go.Proofs.Yteknbadjfojmbaa.QA
open Go.RowKit Go.Proofs.YteknbadjfojmbaaW.PrintWords Go.Proofs.YteknbadjfojmbaaW.PrintLast Go.Proofs.YteknbadjfojmbaaW.PrintMore
attribute [local go_sem] max2_int min2_int max_two min_two max_three min_three max_four min_four
set_option linter.unusedVariables false
set_option linter.unusedSimpArgs false
theorem holds_ev (rate : Int) : ∀ (ss : List S105) (now value : Int) (rs : List RT), Tr rate now value rs → (∀ s ∈ ss, wfS s) → now + 499 * (ss.length : Int) ≤ 100000 → value + 548900000 * (ss.length : Int) ≤ 100000000000000 → Ev (fun k => holds.run k now value rate rs ss) true
  | [], now, value, rs, _, _, _, _ => Ev.now _
  | s :: ss, now, value, rs, h, hs, hn, hv => by
    simp only [List.length_cons] at hn hv
    have w := hs s List.mem_cons_self
    obtain ⟨rs', ht, hb, hg⟩ := goOn_ev h s w (by omega) (by omega)
    have f0 := w.1
    have v0 := ht.val0
    obtain ⟨⟨b1, b2⟩, b3, b4⟩ := bnd_in ht (by omega)
    refine Ev.bind hg (Ev.pos_ ⟨rfl, v0, by show goOn.val value rate s.f0 s.f1 ≤ 1000000000000000; omega⟩ (Ev.bind (Ev.eq_ (rChk_ev rate rs') (chk_ok.2 ht.ok)) (Ev.pos_ rfl (Ev.bind (Ev.eq_ (now_ev rate rs' (goOn.val value rate s.f0 s.f1 / 1000000)) (now_true ht (by omega) (by omega))) (Ev.pos_ ⟨rfl, b2, b3⟩ ?_)))))
    exact holds_ev rate ss (now + s.f0 % 500) (goOn.val value rate s.f0 s.f1) rs' ht (fun x hx => hs x (List.mem_cons_of_mem _ hx)) (by omega) (by omega)
theorem PureClockHoldsTheTruth.proof : ClockHoldsTheTruth.Pure := by
  intro a0 a1 ls ⟨h0, h1, hl⟩
  refine Ev.rounds ?_
  unfold quietuslaw14_ClockHoldsTheTruth.f
  by_cases hc : 30 < ls.length
  · exact Ev.pos_ hc (Ev.now _)
  · simp only [Lit.wf, Bool.and_eq_true, decide_eq_true_eq] at h0 h1
    obtain ⟨value, rate, hb, ht, hv⟩ := begun_tr a0 a1 ⟨h0.1, h0.2⟩ ⟨h1.1, h1.2⟩ ls
    exact Ev.neg_ hc (Ev.known_ hb (holds_ev rate ls 0 value [] ht (fun s hs => wf_s (hl.2 s hs)) (by omega) (by omega)))
end Go.Proofs.Yteknbadjfojmbaa.QA
