-- What this claim does not use was left out by prune.py, a program of this session.
import Derived.Test.YteknbadjfojmbaaQA11
import Derived.Test.YteknbadjfojmbaaQA12
import Derived.Test.YteknbadjfojmbaaQA13
import Derived.Test.YteknbadjfojmbaaQA4
import Derived.Test.YteknbadjfojmbaaQA6
import Derived.Test.YteknbadjfojmbaaPureDomMore
namespace Go.Proofs.Yteknbadjfojmbaa.QA
open Go.RowKit Go.Proofs.YteknbadjfojmbaaW.PrintWords Go.Proofs.YteknbadjfojmbaaW.PrintLast Go.Proofs.YteknbadjfojmbaaW.PrintMore
attribute [local go_sem] max2_int min2_int max_two min_two max_three min_three max_four min_four
set_option linter.unusedVariables false
set_option linter.unusedSimpArgs false
section
variable (D : List Int) (R : List RackT) (H : List Int) (O : Int)
theorem rChk_l2 (hH : H.length ≤ 12) : ∀ (d i : Nat), i + d = H.length → Ev (fun k => quietusref10_Check.l2 k (i : Int) D R H O) (if (H.drop i).any (domain_Check.out O) = true then 1 else 0) := by
  intro d
  induction d with
  | zero =>
    intro i hi
    refine Ev.step (fun k => by rw [quietusref10_Check.l2]) ?_
    refine Ev.neg_ (by omega) (Ev.eq_ (Ev.now _) ?_)
    rw [List.drop_of_length_le (by omega)]
    rfl
  | succ d ih =>
    intro i hi
    refine Ev.step (fun k => by rw [quietusref10_Check.l2]) ?_
    refine Ev.pos_ (by omega) (Ev.pos_ (by omega) ?_)
    rw [rd_nat H i (by omega), List.drop_eq_getElem_cons (by omega : i < H.length), List.any_cons]
    by_cases h1 : H[i] < 0
    · refine Ev.pos_ h1 (Ev.eq_ (Ev.now _) ?_)
      have : domain_Check.out O H[i] = true := by unfold domain_Check.out; rw [decide_eq_true h1]; rfl
      rw [this]
      rfl
    · refine Ev.neg_ h1 ?_
      by_cases h2 : H[i] ≥ O
      · refine Ev.pos_ h2 (Ev.eq_ (Ev.now _) ?_)
        have : domain_Check.out O H[i] = true := by unfold domain_Check.out; rw [decide_eq_true (show O ≤ H[i] from h2)]; simp
        rw [this]
        rfl
      · refine Ev.neg_ h2 ?_
        have : domain_Check.out O H[i] = false := by unfold domain_Check.out; rw [decide_eq_false h1, decide_eq_false (show ¬ O ≤ H[i] from h2)]; rfl
        rw [this, Bool.false_or, w64 (by omega) (by omega)]
        exact ih (i + 1) (by omega)
theorem rChk_l1 (hR : R.length ≤ 24) (hH : H.length ≤ 12) : ∀ (d i : Nat), i + d = R.length → Ev (fun k => quietusref10_Check.l1 k (i : Int) D R H O) (if (R.drop i).any (fun r => domain_Check.out H.length r.f0) = true then 1 else if H.any (domain_Check.out O) = true then 1 else 0) := by
  intro d
  induction d with
  | zero =>
    intro i hi
    refine Ev.step (fun k => by rw [quietusref10_Check.l1]) ?_
    refine Ev.neg_ (by omega) (Ev.eq_ (rChk_l2 D R H O hH H.length 0 (by omega)) ?_)
    rw [List.drop_zero, List.drop_of_length_le (show R.length ≤ i by omega)]
    rfl
  | succ d ih =>
    intro i hi
    refine Ev.step (fun k => by rw [quietusref10_Check.l1]) ?_
    refine Ev.pos_ (by omega) (Ev.pos_ (by omega) ?_)
    rw [rdT_nat R i (by omega), List.drop_eq_getElem_cons (by omega : i < R.length), List.any_cons]
    by_cases h1 : R[i].f0 < 0
    · refine Ev.pos_ h1 (Ev.eq_ (Ev.now _) ?_)
      have : domain_Check.out H.length R[i].f0 = true := by unfold domain_Check.out; rw [decide_eq_true h1]; rfl
      rw [this]
      rfl
    · refine Ev.neg_ h1 ?_
      by_cases h2 : R[i].f0 ≥ H.length
      · refine Ev.pos_ h2 (Ev.eq_ (Ev.now _) ?_)
        have : domain_Check.out H.length R[i].f0 = true := by unfold domain_Check.out; rw [decide_eq_true (show (H.length : Int) ≤ R[i].f0 from h2)]; simp
        rw [this]
        rfl
      · refine Ev.neg_ h2 ?_
        have : domain_Check.out H.length R[i].f0 = false := by unfold domain_Check.out; rw [decide_eq_false h1, decide_eq_false (show ¬ (H.length : Int) ≤ R[i].f0 from h2)]; rfl
        rw [this, Bool.false_or, w64 (by omega) (by omega)]
        exact ih (i + 1) (by omega)
theorem rChk_l0 (hD : D.length ≤ 64) (hR : R.length ≤ 24) (hH : H.length ≤ 12) : ∀ (d i : Nat), i + d = D.length → Ev (fun k => quietusref10_Check.l0 k (i : Int) D R H O) (if (D.drop i).any (domain_Check.out R.length) = true then 1 else if R.any (fun r => domain_Check.out H.length r.f0) = true then 1 else if H.any (domain_Check.out O) = true then 1 else 0) := by
  intro d
  induction d with
  | zero =>
    intro i hi
    refine Ev.step (fun k => by rw [quietusref10_Check.l0]) ?_
    refine Ev.neg_ (by omega) (Ev.eq_ (rChk_l1 D R H O hR hH R.length 0 (by omega)) ?_)
    rw [List.drop_zero, List.drop_of_length_le (show D.length ≤ i by omega)]
    rfl
  | succ d ih =>
    intro i hi
    refine Ev.step (fun k => by rw [quietusref10_Check.l0]) ?_
    refine Ev.pos_ (by omega) (Ev.pos_ (by omega) ?_)
    rw [rd_nat D i (by omega), List.drop_eq_getElem_cons (by omega : i < D.length), List.any_cons]
    by_cases h1 : D[i] < 0
    · refine Ev.pos_ h1 (Ev.eq_ (Ev.now _) ?_)
      have : domain_Check.out R.length D[i] = true := by unfold domain_Check.out; rw [decide_eq_true h1]; rfl
      rw [this]
      rfl
    · refine Ev.neg_ h1 ?_
      by_cases h2 : D[i] ≥ R.length
      · refine Ev.pos_ h2 (Ev.eq_ (Ev.now _) ?_)
        have : domain_Check.out R.length D[i] = true := by unfold domain_Check.out; rw [decide_eq_true (show (R.length : Int) ≤ D[i] from h2)]; simp
        rw [this]
        rfl
      · refine Ev.neg_ h2 ?_
        have : domain_Check.out R.length D[i] = false := by unfold domain_Check.out; rw [decide_eq_false h1, decide_eq_false (show ¬ (R.length : Int) ≤ D[i] from h2)]; rfl
        rw [this, Bool.false_or, w64 (by omega) (by omega)]
        exact ih (i + 1) (by omega)
theorem rChk_ev : Ev (fun k => quietusref10_Check.f k D R H O) (chkD D R H O) := by
  have hbad : (64 < D.length ∨ 24 < R.length ∨ 12 < H.length ∨ O < 0 ∨ 8 < O) → Ev (fun k => quietusref10_Check.j0 k true D R H O) (chkD D R H O) := by
    intro h
    refine Ev.step (fun k => by rw [quietusref10_Check.j0]) ?_
    refine Ev.pos_ rfl (Ev.eq_ (Ev.now _) ?_)
    unfold chkD
    rw [if_pos h]
  unfold quietusref10_Check.f
  by_cases h1 : (D.length : Int) > 64
  · exact Ev.pos_ h1 (hbad (by omega))
  refine Ev.neg_ h1 ?_
  by_cases h2 : (R.length : Int) > 24
  · exact Ev.pos_ h2 (hbad (by omega))
  refine Ev.neg_ h2 ?_
  by_cases h3 : (H.length : Int) > 12
  · exact Ev.pos_ h3 (hbad (by omega))
  refine Ev.neg_ h3 ?_
  by_cases h4 : O < 0
  · exact Ev.pos_ h4 (hbad (by omega))
  refine Ev.neg_ h4 ?_
  by_cases h5 : O > 8
  · rw [decide_eq_true h5]
    exact hbad (by omega)
  rw [decide_eq_false h5]
  refine Ev.step (fun k => by rw [quietusref10_Check.j0]) ?_
  refine Ev.neg_ (by decide) (Ev.eq_ (rChk_l0 D R H O (by omega) (by omega) (by omega) D.length 0 (by omega)) ?_)
  unfold chkD
  rw [List.drop_zero, if_neg (show ¬ (64 < D.length ∨ 24 < R.length ∨ 12 < H.length ∨ O < 0 ∨ 8 < O) by omega)]
  split
  · rfl
  · split
    · split <;> rfl
    · rfl
end
theorem sameL_l (l : List Int) (hl : l.length ≤ 17592186040320) : ∀ (d i : Nat), i + d = l.length → Ev (fun k => quietusref10_SameList.l0 k l l (i : Int)) true := by
  intro d
  induction d with
  | zero =>
    intro i hi
    exact Ev.step (fun k => by rw [quietusref10_SameList.l0]) (Ev.neg_ (by omega) (Ev.now _))
  | succ d ih =>
    intro i hi
    refine Ev.step (fun k => by rw [quietusref10_SameList.l0]) ?_
    refine Ev.pos_ (by omega) (Ev.pos_ (by omega) (Ev.pos_ (by omega) (Ev.pos_ rfl ?_)))
    rw [w64 (by omega) (by omega)]
    exact ih (i + 1) (by omega)
theorem sameL_ev (l : List Int) (hl : l.length ≤ 17592186040320) : Ev (fun k => quietusref10_SameList.f k l l) true := by
  unfold quietusref10_SameList.f
  exact Ev.pos_ rfl (sameL_l l hl l.length 0 (by omega))
theorem few_le {D : List Int} {R : List RackT} {H : List Int} {O : Int} {c : Bool} (h : quietusref10_Few.f D R H O 80 = some c) (hc : c = true) : D.length ≤ 80 ∧ R.length ≤ 80 ∧ H.length ≤ 80 := by
  unfold quietusref10_Few.f at h
  split at h
  · split at h
    · have := Option.some.inj h
      rw [hc] at this
      have := of_decide_eq_true this
      omega
    · have := Option.some.inj h
      rw [hc] at this
      cases this
  · have := Option.some.inj h
    rw [hc] at this
    cases this
end Go.Proofs.Yteknbadjfojmbaa.QA
