/- Lemmas in plain Lean. -/
import Derived.Test.YteknbadjfojmbaaQA11
import Derived.Test.YteknbadjfojmbaaQA12
import Derived.Test.YteknbadjfojmbaaPureDom
namespace Go.Proofs.Yteknbadjfojmbaa.QA
open Go.RowKit Go.Proofs.YteknbadjfojmbaaW.PrintWords Go.Proofs.YteknbadjfojmbaaW.PrintLast Go.Proofs.YteknbadjfojmbaaW.PrintMore
attribute [local go_sem] max2_int min2_int max_two min_two max_three min_three max_four min_four
set_option linter.unusedVariables false
set_option linter.unusedSimpArgs false
/-! The specification's functions on domains. -/
section
variable (D : List Int) (R : List RackT) (H : List Int) (O : Int)
theorem rChk_l2 (hH : H.length ≤ 12) : ∀ (d i : Nat), i + d = H.length → Ev (fun k => quietusref10_Check.l2 k (i : Int) D R H O) (if (H.drop i).any (domain_Check.out O) = true then 1 else 0) := by
  intro d
  induction d with
  | zero =>
    intro i hi
    refine Ev.step (fun k => by rw [quietusref10_Check.l2]) ?_
    refine Ev.neg_ (by omega) (Ev.eq_ (Ev.now _) ?_)
    rw [List.drop_of_length_le (by omega)]
    rfl
  | succ d ih =>
    intro i hi
    refine Ev.step (fun k => by rw [quietusref10_Check.l2]) ?_
    refine Ev.pos_ (by omega) (Ev.pos_ (by omega) ?_)
    rw [rd_nat H i (by omega), List.drop_eq_getElem_cons (by omega : i < H.length), List.any_cons]
    by_cases h1 : H[i] < 0
    · refine Ev.pos_ h1 (Ev.eq_ (Ev.now _) ?_)
      have : domain_Check.out O H[i] = true := by unfold domain_Check.out; rw [decide_eq_true h1]; rfl
      rw [this]
      rfl
    · refine Ev.neg_ h1 ?_
      by_cases h2 : H[i] ≥ O
      · refine Ev.pos_ h2 (Ev.eq_ (Ev.now _) ?_)
        have : domain_Check.out O H[i] = true := by unfold domain_Check.out; rw [decide_eq_true (show O ≤ H[i] from h2)]; simp
        rw [this]
        rfl
      · refine Ev.neg_ h2 ?_
        have : domain_Check.out O H[i] = false := by unfold domain_Check.out; rw [decide_eq_false h1, decide_eq_false (show ¬ O ≤ H[i] from h2)]; rfl
        rw [this, Bool.false_or, w64 (by omega) (by omega)]
        exact ih (i + 1) (by omega)
theorem rChk_l1 (hR : R.length ≤ 24) (hH : H.length ≤ 12) : ∀ (d i : Nat), i + d = R.length → Ev (fun k => quietusref10_Check.l1 k (i : Int) D R H O) (if (R.drop i).any (fun r => domain_Check.out H.length r.f0) = true then 1 else if H.any (domain_Check.out O) = true then 1 else 0) := by
  intro d
  induction d with
  | zero =>
    intro i hi
    refine Ev.step (fun k => by rw [quietusref10_Check.l1]) ?_
    refine Ev.neg_ (by omega) (Ev.eq_ (rChk_l2 D R H O hH H.length 0 (by omega)) ?_)
    rw [List.drop_zero, List.drop_of_length_le (show R.length ≤ i by omega)]
    rfl
  | succ d ih =>
    intro i hi
    refine Ev.step (fun k => by rw [quietusref10_Check.l1]) ?_
    refine Ev.pos_ (by omega) (Ev.pos_ (by omega) ?_)
    rw [rdT_nat R i (by omega), List.drop_eq_getElem_cons (by omega : i < R.length), List.any_cons]
    by_cases h1 : R[i].f0 < 0
    · refine Ev.pos_ h1 (Ev.eq_ (Ev.now _) ?_)
      have : domain_Check.out H.length R[i].f0 = true := by unfold domain_Check.out; rw [decide_eq_true h1]; rfl
      rw [this]
      rfl
    · refine Ev.neg_ h1 ?_
      by_cases h2 : R[i].f0 ≥ H.length
      · refine Ev.pos_ h2 (Ev.eq_ (Ev.now _) ?_)
        have : domain_Check.out H.length R[i].f0 = true := by unfold domain_Check.out; rw [decide_eq_true (show (H.length : Int) ≤ R[i].f0 from h2)]; simp
        rw [this]
        rfl
      · refine Ev.neg_ h2 ?_
        have : domain_Check.out H.length R[i].f0 = false := by unfold domain_Check.out; rw [decide_eq_false h1, decide_eq_false (show ¬ (H.length : Int) ≤ R[i].f0 from h2)]; rfl
        rw [this, Bool.false_or, w64 (by omega) (by omega)]
        exact ih (i + 1) (by omega)
theorem rChk_l0 (hD : D.length ≤ 64) (hR : R.length ≤ 24) (hH : H.length ≤ 12) : ∀ (d i : Nat), i + d = D.length → Ev (fun k => quietusref10_Check.l0 k (i : Int) D R H O) (if (D.drop i).any (domain_Check.out R.length) = true then 1 else if R.any (fun r => domain_Check.out H.length r.f0) = true then 1 else if H.any (domain_Check.out O) = true then 1 else 0) := by
  intro d
  induction d with
  | zero =>
    intro i hi
    refine Ev.step (fun k => by rw [quietusref10_Check.l0]) ?_
    refine Ev.neg_ (by omega) (Ev.eq_ (rChk_l1 D R H O hR hH R.length 0 (by omega)) ?_)
    rw [List.drop_zero, List.drop_of_length_le (show D.length ≤ i by omega)]
    rfl
  | succ d ih =>
    intro i hi
    refine Ev.step (fun k => by rw [quietusref10_Check.l0]) ?_
    refine Ev.pos_ (by omega) (Ev.pos_ (by omega) ?_)
    rw [rd_nat D i (by omega), List.drop_eq_getElem_cons (by omega : i < D.length), List.any_cons]
    by_cases h1 : D[i] < 0
    · refine Ev.pos_ h1 (Ev.eq_ (Ev.now _) ?_)
      have : domain_Check.out R.length D[i] = true := by unfold domain_Check.out; rw [decide_eq_true h1]; rfl
      rw [this]
      rfl
    · refine Ev.neg_ h1 ?_
      by_cases h2 : D[i] ≥ R.length
      · refine Ev.pos_ h2 (Ev.eq_ (Ev.now _) ?_)
        have : domain_Check.out R.length D[i] = true := by unfold domain_Check.out; rw [decide_eq_true (show (R.length : Int) ≤ D[i] from h2)]; simp
        rw [this]
        rfl
      · refine Ev.neg_ h2 ?_
        have : domain_Check.out R.length D[i] = false := by unfold domain_Check.out; rw [decide_eq_false h1, decide_eq_false (show ¬ (R.length : Int) ≤ D[i] from h2)]; rfl
        rw [this, Bool.false_or, w64 (by omega) (by omega)]
        exact ih (i + 1) (by omega)
theorem rChk_ev : Ev (fun k => quietusref10_Check.f k D R H O) (chkD D R H O) := by
  have hbad : (64 < D.length ∨ 24 < R.length ∨ 12 < H.length ∨ O < 0 ∨ 8 < O) → Ev (fun k => quietusref10_Check.j0 k true D R H O) (chkD D R H O) := by
    intro h
    refine Ev.step (fun k => by rw [quietusref10_Check.j0]) ?_
    refine Ev.pos_ rfl (Ev.eq_ (Ev.now _) ?_)
    unfold chkD
    rw [if_pos h]
  unfold quietusref10_Check.f
  by_cases h1 : (D.length : Int) > 64
  · exact Ev.pos_ h1 (hbad (by omega))
  refine Ev.neg_ h1 ?_
  by_cases h2 : (R.length : Int) > 24
  · exact Ev.pos_ h2 (hbad (by omega))
  refine Ev.neg_ h2 ?_
  by_cases h3 : (H.length : Int) > 12
  · exact Ev.pos_ h3 (hbad (by omega))
  refine Ev.neg_ h3 ?_
  by_cases h4 : O < 0
  · exact Ev.pos_ h4 (hbad (by omega))
  refine Ev.neg_ h4 ?_
  by_cases h5 : O > 8
  · rw [decide_eq_true h5]
    exact hbad (by omega)
  rw [decide_eq_false h5]
  refine Ev.step (fun k => by rw [quietusref10_Check.j0]) ?_
  refine Ev.neg_ (by decide) (Ev.eq_ (rChk_l0 D R H O (by omega) (by omega) (by omega) D.length 0 (by omega)) ?_)
  unfold chkD
  rw [List.drop_zero, if_neg (show ¬ (64 < D.length ∨ 24 < R.length ∨ 12 < H.length ∨ O < 0 ∨ 8 < O) by omega)]
  split
  · rfl
  · split
    · split <;> rfl
    · rfl
theorem rSize_ev (level : Int) : Ev (fun k => quietusref10_Size.f k D R H O level) (sizeN D R H O level) := by
  have h1 : ∀ c : Int, c = chkD D R H O → (if c = 0 then (if level = 0 then some (D.length : Int) else if level = 1 then some (R.length : Int) else if level = 2 then some (H.length : Int) else if level = 3 then some O else some 0) else some 0) = some (sizeN D R H O level) := by
    intro c hc
    subst hc
    unfold sizeN
    split
    · split
      · rfl
      · split
        · rfl
        · split
          · rfl
          · split <;> rfl
    · rfl
  unfold quietusref10_Size.f
  exact Ev.bind (rChk_ev D R H O) (Ev.const_ (h1 _ rfl))
theorem rOf_ev (level i : Int) : Ev (fun k => quietusref10_Of.f k D R H O level i) (ofN D R H O level i) := by
  have hbad : ¬ (chkD D R H O = 0 ∧ 0 ≤ level ∧ level ≤ 3 ∧ 0 ≤ i ∧ i < D.length) → Ev (fun k => quietusref10_Of.j0 k level i true D R H O) (ofN D R H O level i) := by
    intro h
    refine Ev.step (fun k => by rw [quietusref10_Of.j0]) ?_
    refine Ev.pos_ rfl (Ev.eq_ (Ev.now _) ?_)
    unfold ofN
    rw [if_neg h]
  unfold quietusref10_Of.f
  refine Ev.bind (rChk_ev D R H O) ?_
  by_cases hc : chkD D R H O = 0
  · refine Ev.pos_ hc ?_
    by_cases h1 : level < 0
    · exact Ev.pos_ h1 (hbad (by omega))
    refine Ev.neg_ h1 ?_
    by_cases h2 : level > 3
    · exact Ev.pos_ h2 (hbad (by omega))
    refine Ev.neg_ h2 ?_
    by_cases h3 : i < 0
    · exact Ev.pos_ h3 (hbad (by omega))
    refine Ev.neg_ h3 ?_
    by_cases h4 : i ≥ (D.length : Int)
    · rw [decide_eq_true h4]
      exact hbad (by omega)
    rw [decide_eq_false h4]
    have ok := okD_of hc
    have hr := rack_in ok (i := i) (by omega) (by omega)
    have hh := house_in ok (i := i) (by omega) (by omega)
    unfold rackN at hr
    unfold houseN at hh
    refine Ev.step (fun k => by rw [quietusref10_Of.j0]) ?_
    refine Ev.neg_ (by simp) (Ev.pos_ (by omega) (Ev.pos_ (by omega) (Ev.pos_ hr.1 (Ev.pos_ hr.2 ?_))))
    have he : ofN D R H O level i = atN D R H level i := by
      unfold ofN
      exact if_pos ⟨hc, by omega, by omega, by omega, by omega⟩
    rw [he]
    have ha : ∀ x : Int, atN D R H level i = x → Ev (fun _ : Nat => some x) (atN D R H level i) := fun x h => Ev.eq_ (Ev.now _) h.symm
    by_cases e0 : level = 0
    · exact Ev.pos_ e0 (ha _ (by unfold atN; rw [if_pos e0]))
    refine Ev.neg_ e0 ?_
    by_cases e1 : level = 1
    · exact Ev.pos_ e1 (ha _ (by unfold atN; rw [if_neg e0, if_pos e1]; rfl))
    refine Ev.neg_ e1 ?_
    by_cases e2 : level = 2
    · exact Ev.pos_ e2 (ha _ (by unfold atN; rw [if_neg e0, if_neg e1, if_pos e2]; rfl))
    refine Ev.neg_ e2 (Ev.pos_ hh.1 (Ev.pos_ hh.2 (ha _ (by unfold atN; rw [if_neg e0, if_neg e1, if_neg e2]; rfl))))
  · exact Ev.neg_ hc (hbad (by omega))
theorem rRel_step (a b lv : Int) (r : Int) (hlv : lv < 4) (h0 : 0 ≤ lv) (h1 : sameB D R H O lv a b = true → r = lv) (h2 : ¬ sameB D R H O lv a b = true → Ev (fun k => quietusref10_Relate.l0 k a b (lv + 1) D R H O) r) :
    Ev (fun k => quietusref10_Relate.l0 k a b lv D R H O) r := by
  refine Ev.step (fun k => by rw [quietusref10_Relate.l0]) ?_
  refine Ev.pos_ hlv (Ev.bind (rOf_ev D R H O lv a) (Ev.bind (rOf_ev D R H O lv b) ?_))
  by_cases hb : sameB D R H O lv a b = true
  · obtain ⟨e1, e2⟩ := sameB_true hb
    exact Ev.pos_ e1 (Ev.pos_ e2 (Ev.eq_ (Ev.now _) (h1 hb).symm))
  · have h3 := h2 hb
    rw [w64 (by omega) (by omega)]
    by_cases e1 : ofN D R H O lv a ≥ 0
    · refine Ev.pos_ e1 (Ev.neg_ ?_ h3)
      intro e2
      apply hb
      unfold sameB
      rw [decide_eq_true (show (0 : Int) ≤ ofN D R H O lv a from e1)]
      simpa using e2
    · exact Ev.neg_ e1 h3
theorem rRel_ev (a b : Int) : Ev (fun k => quietusref10_Relate.f k D R H O a b) (relN D R H O a b) := by
  unfold quietusref10_Relate.f relN
  refine rRel_step D R H O a b 0 _ (by omega) (by omega) (fun h => if_pos h) (fun h => ?_)
  rw [if_neg h]
  refine rRel_step D R H O a b 1 _ (by omega) (by omega) (fun h => if_pos h) (fun h => ?_)
  rw [if_neg h]
  refine rRel_step D R H O a b 2 _ (by omega) (by omega) (fun h => if_pos h) (fun h => ?_)
  rw [if_neg h]
  refine rRel_step D R H O a b 3 _ (by omega) (by omega) (fun h => if_pos h) (fun h => ?_)
  rw [if_neg h]
  refine Ev.step (fun k => by rw [quietusref10_Relate.l0]) ?_
  exact Ev.neg_ (by omega) (Ev.now _)
def uptoN (level n : Int) (k : Nat) : List Int := ((List.range k).filter (hitN D R H O level n)).map fun i : Nat => (i : Int)
theorem rMem_l (level n : Int) (hn : 0 ≤ n) (hD : D.length ≤ 17592186040320) : ∀ (d i : Nat), i + d = D.length →
    Ev (fun k => quietusref10_Members.l0 k level n (uptoN D R H O level n i) (i : Int) D R H O) (membersN D R H O level n) := by
  intro d
  induction d with
  | zero =>
    intro i hi
    refine Ev.step (fun k => by rw [quietusref10_Members.l0]) ?_
    refine Ev.neg_ (by omega) ?_
    refine Ev.step (fun k => by rw [quietusref10_Members.j1]) ?_
    refine Ev.neg_ (by simp) (Ev.eq_ (Ev.now _) ?_)
    unfold uptoN membersN
    rw [show i = D.length by omega]
  | succ d ih =>
    intro i hi
    refine Ev.step (fun k => by rw [quietusref10_Members.l0]) ?_
    refine Ev.pos_ (by omega) ?_
    rw [decide_eq_true (show n ≥ 0 from hn)]
    refine Ev.step (fun k => by rw [quietusref10_Members.j1]) ?_
    refine Ev.pos_ rfl (Ev.bind (rOf_ev D R H O level (i : Int)) ?_)
    have hnext := ih (i + 1) (by omega)
    have hu : uptoN D R H O level n (i + 1) = if ofN D R H O level (i : Int) = n then uptoN D R H O level n i ++ [(i : Int)] else uptoN D R H O level n i := by
      unfold uptoN
      rw [List.range_succ, List.filter_append]
      by_cases h : ofN D R H O level (i : Int) = n
      · rw [if_pos h, List.filter_cons, if_pos (by unfold hitN; rw [decide_eq_true hn]; simpa using h), List.map_append]
        rfl
      · rw [if_neg h, List.filter_cons, if_neg (by unfold hitN; rw [decide_eq_true hn]; simpa using h), List.filter_nil, List.append_nil]
    rw [w64 (by omega) (by omega)]
    by_cases h : ofN D R H O level (i : Int) = n
    · rw [if_pos h] at hu
      rw [hu] at hnext
      refine Ev.pos_ h (Ev.pos_ ?_ hnext)
      have : (uptoN D R H O level n i).length ≤ i := by
        unfold uptoN
        rw [List.length_map]
        exact Nat.le_trans (List.length_filter_le _ _) (by simp)
      omega
    · rw [if_neg h] at hu
      rw [hu] at hnext
      exact Ev.neg_ h hnext
theorem rMem_ev (level n : Int) (hD : D.length ≤ 17592186040320) : Ev (fun k => quietusref10_Members.f k D R H O level n) (membersN D R H O level n) := by
  unfold quietusref10_Members.f
  by_cases hn : 0 ≤ n
  · exact rMem_l D R H O level n hn hD D.length 0 (by omega)
  · have he : membersN D R H O level n = [] := by
      unfold membersN
      rw [List.filter_eq_nil_iff.2 (fun i _ => by unfold hitN; rw [decide_eq_false hn]; simp)]
      rfl
    rw [he]
    refine Ev.step (fun k => by rw [quietusref10_Members.l0]) ?_
    rw [decide_eq_false (show ¬ n ≥ 0 from hn)]
    have hj : Ev (fun k => quietusref10_Members.j1 k level n ([] : List Int) 0 false D R H O) [] := Ev.step (fun k => by rw [quietusref10_Members.j1]) (Ev.neg_ (by simp) (Ev.now _))
    by_cases h0 : (0 : Int) < D.length
    · exact Ev.pos_ h0 hj
    · exact Ev.neg_ h0 hj
end
theorem sameL_l (l : List Int) (hl : l.length ≤ 17592186040320) : ∀ (d i : Nat), i + d = l.length → Ev (fun k => quietusref10_SameList.l0 k l l (i : Int)) true := by
  intro d
  induction d with
  | zero =>
    intro i hi
    exact Ev.step (fun k => by rw [quietusref10_SameList.l0]) (Ev.neg_ (by omega) (Ev.now _))
  | succ d ih =>
    intro i hi
    refine Ev.step (fun k => by rw [quietusref10_SameList.l0]) ?_
    refine Ev.pos_ (by omega) (Ev.pos_ (by omega) (Ev.pos_ (by omega) (Ev.pos_ rfl ?_)))
    rw [w64 (by omega) (by omega)]
    exact ih (i + 1) (by omega)
theorem sameL_ev (l : List Int) (hl : l.length ≤ 17592186040320) : Ev (fun k => quietusref10_SameList.f k l l) true := by
  unfold quietusref10_SameList.f
  exact Ev.pos_ rfl (sameL_l l hl l.length 0 (by omega))
theorem members_len (D : List Int) (R : List RackT) (H : List Int) (O level n : Int) : (membersN D R H O level n).length ≤ D.length := by
  unfold membersN
  rw [List.length_map]
  exact Nat.le_trans (List.length_filter_le _ _) (by simp)
theorem few_le {D : List Int} {R : List RackT} {H : List Int} {O : Int} {c : Bool} (h : quietusref10_Few.f D R H O 80 = some c) (hc : c = true) : D.length ≤ 80 ∧ R.length ≤ 80 ∧ H.length ≤ 80 := by
  unfold quietusref10_Few.f at h
  split at h
  · split at h
    · have := Option.some.inj h
      rw [hc] at this
      have := of_decide_eq_true this
      omega
    · have := Option.some.inj h
      rw [hc] at this
      cases this
  · have := Option.some.inj h
    rw [hc] at this
    cases this
theorem of_ok {D : List Int} {R : List RackT} {H : List Int} {O : Int} (h : OkD D R H O) {lv i : Int} (h0 : 0 ≤ lv) (h3 : lv ≤ 3) (hi : 0 ≤ i ∧ i < D.length) : ofN D R H O lv i = atN D R H lv i := by
  unfold ofN
  exact if_pos ⟨chkD_of h, h0, h3, hi.1, hi.2⟩
theorem at_in {D : List Int} {R : List RackT} {H : List Int} {O : Int} (h : OkD D R H O) {lv i : Int} (h0 : 0 ≤ lv) (h3 : lv ≤ 3) (hi : 0 ≤ i ∧ i < D.length) : 0 ≤ atN D R H lv i ∧ atN D R H lv i < sizeN D R H O lv := by
  have hs : sizeN D R H O lv = if lv = 0 then (D.length : Int) else if lv = 1 then (R.length : Int) else if lv = 2 then (H.length : Int) else if lv = 3 then O else 0 := by
    unfold sizeN
    exact if_pos (chkD_of h)
  rw [hs]
  have : lv = 0 ∨ lv = 1 ∨ lv = 2 ∨ lv = 3 := by omega
  rcases this with rfl | rfl | rfl | rfl
  · exact hi
  · exact rack_in h hi.1 hi.2
  · exact house_in h hi.1 hi.2
  · exact owner_in h hi.1 hi.2
theorem u8_wf {a : Int} (h : (Lit.int .u8 a).wf = true) : 0 ≤ a ∧ a < 256 := by
  simp only [Lit.wf, Bool.and_eq_true, decide_eq_true_eq] at h
  have h1 : (0 : Int) ≤ a := h.1
  have h2 : a ≤ 255 := h.2
  omega

end Go.Proofs.Yteknbadjfojmbaa.QA
