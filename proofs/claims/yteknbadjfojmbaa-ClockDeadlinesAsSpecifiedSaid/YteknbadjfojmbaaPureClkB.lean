-- What this claim does not use was left out by prune.py, a program of this session.
import Derived.Test.YteknbadjfojmbaaQA23
import Derived.Test.YteknbadjfojmbaaQA28
import Derived.Test.YteknbadjfojmbaaPureClk
namespace Go.Proofs.Yteknbadjfojmbaa.QA
open Go.RowKit Go.Proofs.YteknbadjfojmbaaW.PrintWords Go.Proofs.YteknbadjfojmbaaW.PrintLast Go.Proofs.YteknbadjfojmbaaW.PrintMore
attribute [local go_sem] max2_int min2_int max_two min_two max_three min_three max_four min_four
set_option linter.unusedVariables false
set_option linter.unusedSimpArgs false
def loB (rate : Int) (l : List RT) (lc : Int) : Int := (l.map fun r => (clock_bounds.wn rate lc r).f0).foldl mx 0
def hiB (rate : Int) (l : List RT) (lc : Int) : Int := (l.map fun r => (clock_bounds.wn rate lc r).f1).foldl mn 3600000000
theorem bok {rate : Int} {l : List RT} (h : OkC rate l) {lc : Int} (hlc : 0 ≤ lc ∧ lc ≤ 3600000000) : clock_bounds.ok rate lc l := by
  refine ⟨h.rate.1, h.rate.2, hlc.1, hlc.2, by have := h.len; omega, List.all_eq_true.2 fun r hr => ?_⟩
  have := h.rd r hr
  unfold okR V at this
  unfold clock_bounds.rok
  exact decide_eq_true (by omega)
theorem bounds_some {rate : Int} {l : List RT} (h : OkC rate l) {lc : Int} (hlc : 0 ≤ lc ∧ lc ≤ 3600000000) : clock_bounds.f rate l lc = some (loB rate l lc, hiB rate l lc) := by
  unfold clock_bounds.f
  rw [if_pos (bok h hlc)]
  rfl
theorem shown_bd {r : RT} {lc : Int} (hr : okR r) (hlc : 0 ≤ lc ∧ lc ≤ 3600000000) : 0 ≤ clock_bounds.shown lc r ∧ clock_bounds.shown lc r ≤ 3600000000 := by
  unfold okR at hr
  unfold clock_bounds.shown
  split <;> omega
theorem allowed_ev {rate : Int} {r : RT} {lc : Int} (h : 0 ≤ rate ∧ rate ≤ 100000) (hr : okR r) (hlc : 0 ≤ lc ∧ lc ≤ 3600000000) : Ev (fun k => quietusref14_allowed.f k rate r.f0 r.f1.f0 r.f1.f1 lc) ((clock_bounds.wn rate lc r).f0, (clock_bounds.wn rate lc r).f1) := by
  have hs := shown_bd hr hlc
  have b1 := hi_bd h hs
  have b2 := lo_bd h hs
  have hr0 := hr.1
  have hr1 := hr.2.1
  have hv := hr.2.2
  unfold V at hv
  unfold quietusref14_allowed.f
  have e1 : wrap64 (lc - r.f0) = lc - r.f0 := w64 (by omega) (by omega)
  have e2 : quietusref14_size.f (lc - r.f0) = some (clock_bounds.shown lc r) := by
    unfold quietusref14_size.f clock_bounds.shown
    rw [w64 (n := -(lc - r.f0)) (by omega) (by omega)]
    split
    · rw [if_pos (by omega)]; congr 1; omega
    · split
      · congr 1; omega
      · rfl
  rw [e1]
  have ep : pasd rate (clock_bounds.shown lc r) = (loP rate (clock_bounds.shown lc r), hiP rate (clock_bounds.shown lc r), 0) := if_pos ⟨h, hs⟩
  refine Ev.known_ e2 (Ev.bind (Ev.eq_ (rPasd_ev _ _) ep) ?_)
  have ew : clock_bounds.wn rate lc r = if lc = r.f0 then ⟨r.f1.f0 - hiP rate (clock_bounds.shown lc r), r.f1.f1 + hiP rate (clock_bounds.shown lc r)⟩ else if lc < r.f0 then ⟨r.f1.f0 - hiP rate (clock_bounds.shown lc r), r.f1.f1 - loP rate (clock_bounds.shown lc r)⟩ else ⟨r.f1.f0 + loP rate (clock_bounds.shown lc r), r.f1.f1 + hiP rate (clock_bounds.shown lc r)⟩ := rfl
  rcases Int.lt_trichotomy r.f0 lc with h1 | h1 | h1
  · rw [if_neg (show ¬ lc = r.f0 by omega), if_neg (show ¬ lc < r.f0 by omega)] at ew
    rw [ew]
    refine Ev.pos_ h1 (Ev.const_ ?_)
    show some (wrap64 (r.f1.f0 + loP rate (clock_bounds.shown lc r)), wrap64 (r.f1.f1 + hiP rate (clock_bounds.shown lc r))) = _
    rw [w64 (by omega) (by omega), w64 (by omega) (by omega)]
  · rw [if_pos h1.symm] at ew
    rw [ew]
    refine Ev.neg_ (by omega) (Ev.neg_ (by omega) (Ev.const_ ?_))
    show some (wrap64 (r.f1.f0 - hiP rate (clock_bounds.shown lc r)), wrap64 (r.f1.f1 + hiP rate (clock_bounds.shown lc r))) = _
    rw [w64 (by omega) (by omega), w64 (by omega) (by omega)]
  · rw [if_neg (show ¬ lc = r.f0 by omega), if_pos h1] at ew
    rw [ew]
    refine Ev.neg_ (by omega) (Ev.pos_ h1 (Ev.const_ ?_))
    show some (wrap64 (r.f1.f0 - hiP rate (clock_bounds.shown lc r)), wrap64 (r.f1.f1 - loP rate (clock_bounds.shown lc r))) = _
    rw [w64 (by omega) (by omega), w64 (by omega) (by omega)]
theorem rBnd_loop {rate : Int} {l : List RT} (h : OkC rate l) {lc : Int} (hlc : 0 ≤ lc ∧ lc ≤ 3600000000) : ∀ (n i : Nat) (a b : Int), l.length - i = n → i ≤ l.length → Ev (fun k => quietusref14_Bounds.l0 k lc (i : Int) rate l a b) (((l.drop i).map fun r => (clock_bounds.wn rate lc r).f0).foldl mx a, ((l.drop i).map fun r => (clock_bounds.wn rate lc r).f1).foldl mn b)
  | 0, i, a, b, hn, hi => by
    refine Ev.step (fun k => by rw [quietusref14_Bounds.l0]) (Ev.neg_ (by omega) ?_)
    rw [List.drop_eq_nil_of_le (by omega)]
    exact Ev.now _
  | n + 1, i, a, b, hn, hi => by
    have hlt : i < l.length := by omega
    have hl := h.len
    have hw : wrap64 ((i : Int) + 1) = ((i + 1 : Nat) : Int) := by rw [w64 (by omega) (by omega)]; omega
    refine Ev.step (fun k => by rw [quietusref14_Bounds.l0]) (Ev.pos_ (by omega) (Ev.pos_ (by omega) ?_))
    rw [rdR l i hlt, List.drop_eq_getElem_cons hlt, hw]
    refine Ev.bind (allowed_ev h.rate (h.rd _ (List.getElem_mem hlt)) hlc) ?_
    exact rBnd_loop h hlc n (i + 1) _ _ (by omega) (by omega)
theorem rBnd_ev {rate : Int} {l : List RT} (h : OkC rate l) {lc : Int} (hlc : 0 ≤ lc ∧ lc ≤ 3600000000) : Ev (fun k => quietusref14_Bounds.f k rate l lc) (loB rate l lc, hiB rate l lc) := by
  unfold quietusref14_Bounds.f
  exact rBnd_loop h hlc _ 0 0 3600000000 rfl (by omega)
end Go.Proofs.Yteknbadjfojmbaa.QA
