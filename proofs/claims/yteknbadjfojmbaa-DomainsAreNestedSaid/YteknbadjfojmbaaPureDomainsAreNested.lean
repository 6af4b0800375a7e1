/- Proved here: the pure statement of the law DomainsAreNested (QA.DomainsAreNested.Pure): what the Go function computes, told as a Lean function, is true for every input in the stated bounds. -/
import Derived.Test.YteknbadjfojmbaaSDomainsAreNested
import Derived.Test.YteknbadjfojmbaaPureDomRef
namespace Go.Proofs.Yteknbadjfojmbaa.QA
open Go.RowKit Go.Proofs.YteknbadjfojmbaaW.PrintWords Go.Proofs.YteknbadjfojmbaaW.PrintLast Go.Proofs.YteknbadjfojmbaaW.PrintMore
attribute [local go_sem] max2_int min2_int max_two min_two max_three min_three max_four min_four
set_option linter.unusedVariables false
set_option linter.unusedSimpArgs false
theorem sameB_iff {D : List Int} {R : List RackT} {H : List Int} {O : Int} (h : OkD D R H O) {lv a b : Int} (h0 : 0 ≤ lv) (h3 : lv ≤ 3) (ha : 0 ≤ a ∧ a < D.length) (hb : 0 ≤ b ∧ b < D.length) : sameB D R H O lv a b = true ↔ atN D R H lv a = atN D R H lv b := by
  unfold sameB
  rw [of_ok h h0 h3 ha, of_ok h h0 h3 hb]
  have := (at_in h h0 h3 ha).1
  simp [this]
theorem at_up {D : List Int} {R : List RackT} {H : List Int} {lv a b : Int} (h0 : 0 ≤ lv) (h3 : lv < 3) (he : atN D R H lv a = atN D R H lv b) : atN D R H (lv + 1) a = atN D R H (lv + 1) b := by
  have : lv = 0 ∨ lv = 1 ∨ lv = 2 := by omega
  rcases this with rfl | rfl | rfl
  · have e : a = b := he
    rw [e]
  · have e : rackN D a = rackN D b := he
    show houseN D R a = houseN D R b
    unfold rackN at e
    unfold houseN
    rw [e]
  · have e : houseN D R a = houseN D R b := he
    show ownerN D R H a = ownerN D R H b
    unfold ownerN
    rw [e]
theorem rel_le {D : List Int} {R : List RackT} {H : List Int} {O : Int} (h : OkD D R H O) {a b : Int} (ha : 0 ≤ a ∧ a < D.length) (hb : 0 ≤ b ∧ b < D.length) (lv : Int) (h0 : 0 ≤ lv) (h3 : lv ≤ 3) :
    relN D R H O a b ≤ lv ↔ atN D R H lv a = atN D R H lv b := by
  have u0 := at_up (D := D) (R := R) (H := H) (lv := 0) (a := a) (b := b) (by omega) (by omega)
  have u1 := at_up (D := D) (R := R) (H := H) (lv := 1) (a := a) (b := b) (by omega) (by omega)
  have u2 := at_up (D := D) (R := R) (H := H) (lv := 2) (a := a) (b := b) (by omega) (by omega)
  have s0 := sameB_iff h (lv := 0) (by omega) (by omega) ha hb
  have s1 := sameB_iff h (lv := 1) (by omega) (by omega) ha hb
  have s2 := sameB_iff h (lv := 2) (by omega) (by omega) ha hb
  have s3 := sameB_iff h (lv := 3) (by omega) (by omega) ha hb
  simp only [Int.zero_add, Int.reduceAdd] at u0 u1 u2
  have hl : lv = 0 ∨ lv = 1 ∨ lv = 2 ∨ lv = 3 := by omega
  unfold relN
  by_cases t0 : sameB D R H O 0 a b = true
  · rw [if_pos t0]
    have e0 := s0.1 t0
    rcases hl with rfl | rfl | rfl | rfl
    · exact ⟨fun _ => e0, fun _ => by omega⟩
    · exact ⟨fun _ => u0 e0, fun _ => by omega⟩
    · exact ⟨fun _ => u1 (u0 e0), fun _ => by omega⟩
    · exact ⟨fun _ => u2 (u1 (u0 e0)), fun _ => by omega⟩
  rw [if_neg t0]
  by_cases t1 : sameB D R H O 1 a b = true
  · rw [if_pos t1]
    have e1 := s1.1 t1
    rcases hl with rfl | rfl | rfl | rfl
    · exact ⟨fun h => by omega, fun h => absurd (s0.2 h) t0⟩
    · exact ⟨fun _ => e1, fun _ => by omega⟩
    · exact ⟨fun _ => u1 e1, fun _ => by omega⟩
    · exact ⟨fun _ => u2 (u1 e1), fun _ => by omega⟩
  rw [if_neg t1]
  by_cases t2 : sameB D R H O 2 a b = true
  · rw [if_pos t2]
    have e2 := s2.1 t2
    rcases hl with rfl | rfl | rfl | rfl
    · exact ⟨fun h => by omega, fun h => absurd (s0.2 h) t0⟩
    · exact ⟨fun h => by omega, fun h => absurd (s1.2 h) t1⟩
    · exact ⟨fun _ => e2, fun _ => by omega⟩
    · exact ⟨fun _ => u2 e2, fun _ => by omega⟩
  rw [if_neg t2]
  by_cases t3 : sameB D R H O 3 a b = true
  · rw [if_pos t3]
    have e3 := s3.1 t3
    rcases hl with rfl | rfl | rfl | rfl
    · exact ⟨fun h => by omega, fun h => absurd (s0.2 h) t0⟩
    · exact ⟨fun h => by omega, fun h => absurd (s1.2 h) t1⟩
    · exact ⟨fun h => by omega, fun h => absurd (s2.2 h) t2⟩
    · exact ⟨fun _ => e3, fun _ => by omega⟩
  rw [if_neg t3]
  rcases hl with rfl | rfl | rfl | rfl
  · exact ⟨fun h => by omega, fun h => absurd (s0.2 h) t0⟩
  · exact ⟨fun h => by omega, fun h => absurd (s1.2 h) t1⟩
  · exact ⟨fun h => by omega, fun h => absurd (s2.2 h) t2⟩
  · exact ⟨fun h => by omega, fun h => absurd (s3.2 h) t3⟩
theorem rel_rng (D : List Int) (R : List RackT) (H : List Int) (O a b : Int) : 0 ≤ relN D R H O a b ∧ relN D R H O a b ≤ 4 := by
  unfold relN
  split
  · omega
  · split
    · omega
    · split
      · omega
      · split <;> omega
theorem rel_tri {D : List Int} {R : List RackT} {H : List Int} {O : Int} (h : OkD D R H O) {a b c : Int} (ha : 0 ≤ a ∧ a < D.length) (hb : 0 ≤ b ∧ b < D.length) (hc : 0 ≤ c ∧ c < D.length) (m : Int)
    (h1 : relN D R H O a b ≤ m) (h2 : relN D R H O b c ≤ m) : relN D R H O a c ≤ m := by
  have r1 := rel_rng D R H O a b
  have r3 := rel_rng D R H O a c
  by_cases hm : m ≤ 3
  · exact (rel_le h ha hc m (by omega) hm).2 (((rel_le h ha hb m (by omega) hm).1 h1).trans ((rel_le h hb hc m (by omega) hm).1 h2))
  · omega
theorem rel_sym {D : List Int} {R : List RackT} {H : List Int} {O : Int} (h : OkD D R H O) {a b : Int} (ha : 0 ≤ a ∧ a < D.length) (hb : 0 ≤ b ∧ b < D.length) : relN D R H O a b ≤ relN D R H O b a := by
  have r1 := rel_rng D R H O a b
  have r3 := rel_rng D R H O b a
  by_cases hm : relN D R H O b a ≤ 3
  · exact (rel_le h ha hb _ (by omega) hm).2 ((rel_le h hb ha _ (by omega) hm).1 (Int.le_refl _)).symm
  · omega
theorem upto_count (D : List Int) (R : List RackT) (H : List Int) (O lv : Int) (k : Nat) (l : List Nat) :
    ((l.filter (fun i : Nat => decide (0 ≤ ofN D R H O lv (i : Int) ∧ ofN D R H O lv (i : Int) < ((k + 1 : Nat) : Int)))).length : Int) = (l.filter (fun i : Nat => decide (0 ≤ ofN D R H O lv (i : Int) ∧ ofN D R H O lv (i : Int) < (k : Int)))).length + (l.filter (hitN D R H O lv (k : Int))).length := by
  induction l with
  | nil => rfl
  | cons i l ih =>
    have hh : hitN D R H O lv (k : Int) i = decide (ofN D R H O lv i = (k : Int)) := by
      unfold hitN
      rw [decide_eq_true (by omega : (0 : Int) ≤ (k : Int)), Bool.true_and]
      rw [Bool.eq_iff_iff]
      simp
    rw [List.filter_cons, List.filter_cons, List.filter_cons, hh]
    by_cases h1 : ofN D R H O lv i = (k : Int)
    · rw [decide_eq_true h1, decide_eq_true (by omega), decide_eq_false (by omega)]
      simp only [if_true, List.length_cons, Bool.false_eq_true, if_false]
      omega
    · rw [decide_eq_false h1]
      by_cases h2 : 0 ≤ ofN D R H O lv i ∧ ofN D R H O lv i < (k : Int)
      · rw [decide_eq_true h2, decide_eq_true (by omega)]
        simp only [if_true, List.length_cons, Bool.false_eq_true, if_false]
        omega
      · rw [decide_eq_false h2, decide_eq_false (by omega)]
        simp only [Bool.false_eq_true, if_false]
        omega
/-- How many disks are in the first k domains of a level. -/
def belowN (D : List Int) (R : List RackT) (H : List Int) (O lv : Int) (k : Nat) : Int := ((List.range D.length).filter (fun i : Nat => decide (0 ≤ ofN D R H O lv (i : Int) ∧ ofN D R H O lv (i : Int) < (k : Int)))).length
theorem below_zero (D : List Int) (R : List RackT) (H : List Int) (O lv : Int) : belowN D R H O lv 0 = 0 := by
  unfold belowN
  rw [List.filter_eq_nil_iff.2 (fun i _ => by simp)]
  rfl
theorem below_succ (D : List Int) (R : List RackT) (H : List Int) (O lv : Int) (k : Nat) : belowN D R H O lv (k + 1) = belowN D R H O lv k + (membersN D R H O lv (k : Int)).length := by
  unfold belowN membersN
  rw [upto_count, List.length_map]
theorem below_all {D : List Int} {R : List RackT} {H : List Int} {O : Int} (h : OkD D R H O) {lv : Int} (h0 : 0 ≤ lv) (h3 : lv ≤ 3) (k : Nat) (hk : (k : Int) = sizeN D R H O lv) : belowN D R H O lv k = D.length := by
  unfold belowN
  rw [List.filter_eq_self.2 (fun i hi => by
    have hi := List.mem_range.1 hi
    rw [of_ok h h0 h3 ⟨by omega, by omega⟩]
    have := at_in h h0 h3 (i := (i : Int)) ⟨by omega, by omega⟩
    exact decide_eq_true (by omega))]
  simp
theorem mem_at {D : List Int} {R : List RackT} {H : List Int} {O lv n : Int} (t : Nat) (ht : t < (membersN D R H O lv n).length) :
    0 ≤ (membersN D R H O lv n)[t] ∧ (membersN D R H O lv n)[t] < D.length ∧ ofN D R H O lv (membersN D R H O lv n)[t] = n := by
  have hm := List.getElem_mem ht
  unfold membersN at hm
  obtain ⟨i, hi, he⟩ := List.mem_map.1 hm
  obtain ⟨h1, h2⟩ := List.mem_filter.1 hi
  have h1 := List.mem_range.1 h1
  unfold hitN at h2
  simp only [Bool.and_eq_true, decide_eq_true_eq, beq_iff_eq] at h2
  have he' : (membersN D R H O lv n)[t] = (i : Int) := he.symm
  rw [he']
  exact ⟨by omega, by omega, h2.2⟩
theorem mem_asc {D : List Int} {R : List RackT} {H : List Int} {O lv n : Int} (s t : Nat) (hs : s < t) (ht : t < (membersN D R H O lv n).length) : (membersN D R H O lv n)[s] < (membersN D R H O lv n)[t] := by
  have hp : (membersN D R H O lv n).Pairwise (· < ·) := by
    unfold membersN
    rw [List.pairwise_map]
    exact (List.Pairwise.filter _ List.pairwise_lt_range).imp (by intro a b h; exact Int.ofNat_lt.2 h)
  exact List.pairwise_iff_getElem.1 hp s t (by omega) ht hs
section
variable {D : List Int} {R : List RackT} {H : List Int} {O : Int} (ok : OkD D R H O) (a b x : Int) (ha : 0 ≤ a ∧ a < D.length) (hb : 0 ≤ b ∧ b < D.length) (hx : x = relN D R H O a b)
include ok
theorem nest_l2 (lv : Int) (h0 : 0 ≤ lv) (h3 : lv ≤ 3) (j : Nat) (N : Int) (r : Bool)
    (hnext : Ev (fun k => quietuslaw10_DomainsAreNested.l1 k (D.length : Int) a b x lv (belowN D R H O lv (j + 1)) lv N ((j : Int) + 1) D R H O) r) (hj : (j : Int) < 64) :
    ∀ (d t : Nat), t + d = (membersN D R H O lv (j : Int)).length →
    Ev (fun k => quietuslaw10_DomainsAreNested.l2 k (D.length : Int) a b x lv (belowN D R H O lv j + (t : Int)) (j : Int) lv N (j : Int) (membersN D R H O lv (j : Int)) ((membersN D R H O lv (j : Int)).length : Int) (t : Int) D R H O) r := by
  have hD := ok.d
  have hm := members_len D R H O lv (j : Int)
  have hbl : 0 ≤ belowN D R H O lv j ∧ belowN D R H O lv j ≤ D.length := by
    unfold belowN
    have := List.length_filter_le (fun i : Nat => decide (0 ≤ ofN D R H O lv (i : Int) ∧ ofN D R H O lv (i : Int) < (j : Int))) (List.range D.length)
    simp only [List.length_range] at this
    omega
  intro d
  induction d with
  | zero =>
    intro t ht
    refine Ev.step (fun k => by rw [quietuslaw10_DomainsAreNested.l2]) ?_
    refine Ev.neg_ (by omega) ?_
    rw [w64 (by omega) (by omega)]
    rw [below_succ] at hnext
    rw [show (t : Int) = ((membersN D R H O lv (j : Int)).length : Int) by omega]
    exact hnext
  | succ d ih =>
    intro t ht
    have hme := mem_at (D := D) (R := R) (H := H) (O := O) (lv := lv) (n := (j : Int)) t (by omega)
    refine Ev.step (fun k => by rw [quietuslaw10_DomainsAreNested.l2]) ?_
    refine Ev.pos_ (by omega) (Ev.pos_ (by omega) (Ev.pos_ (by omega) ?_))
    rw [rd_nat _ t (by omega)]
    refine Ev.bind (of_ev D R H O lv _) (Ev.pos_ hme.2.2 ?_)
    have hn := ih (t + 1) (by omega)
    rw [w64 (n := belowN D R H O lv j + (t : Int) + 1) (by omega) (by omega), w64 (n := (t : Int) + 1) (by omega) (by omega)]
    rw [show belowN D R H O lv j + (t : Int) + 1 = belowN D R H O lv j + ((t + 1 : Nat) : Int) by omega]
    by_cases h1 : (t : Int) > 0
    · refine Ev.pos_ h1 (Ev.known_ (members_some D R H O lv (j : Int) (by omega)) ?_)
      rw [w64 (by omega) (by omega), show (t : Int) - 1 = ((t - 1 : Nat) : Int) by omega]
      refine Ev.pos_ (by omega) (Ev.pos_ (by omega) ?_)
      rw [rd_nat _ (t - 1) (by omega)]
      have := mem_asc (D := D) (R := R) (H := H) (O := O) (lv := lv) (n := (j : Int)) (t - 1) t (by omega) (by omega)
      exact Ev.neg_ (by omega) hn
    · exact Ev.neg_ h1 hn
theorem nest_l1 (lv : Int) (h0 : 0 ≤ lv) (h3 : lv ≤ 3) (N : Nat) (hN : (N : Int) = sizeN D R H O lv) (hN64 : N ≤ 64) (r : Bool)
    (hnext : Ev (fun k => quietuslaw10_DomainsAreNested.l0 k (D.length : Int) a b x (lv + 1) D R H O) r) :
    ∀ (d j : Nat), j + d = N → Ev (fun k => quietuslaw10_DomainsAreNested.l1 k (D.length : Int) a b x lv (belowN D R H O lv j) lv (N : Int) (j : Int) D R H O) r := by
  intro d
  induction d with
  | zero =>
    intro j hj
    refine Ev.step (fun k => by rw [quietuslaw10_DomainsAreNested.l1]) ?_
    refine Ev.neg_ (by omega) (Ev.pos_ (below_all ok h0 h3 j (by omega)) ?_)
    rw [w64 (by omega) (by omega)]
    exact hnext
  | succ d ih =>
    intro j hj
    refine Ev.step (fun k => by rw [quietuslaw10_DomainsAreNested.l1]) ?_
    have hD := ok.d
    refine Ev.pos_ (by omega) (Ev.known_ (members_some D R H O lv (j : Int) (by omega)) ?_)
    have h := nest_l2 ok a b x lv h0 h3 j (N : Int) r (by have := ih (j + 1) (by omega); rw [show ((j : Int) + 1) = ((j + 1 : Nat) : Int) by omega]; exact this) (by omega) _ 0 (Nat.zero_add _)
    rw [show belowN D R H O lv j + ((0 : Nat) : Int) = belowN D R H O lv j by omega] at h
    exact h
include ha hb hx
theorem nest_l0 : ∀ (d : Nat) (lv : Int), 0 ≤ lv → lv + d = 4 → Ev (fun k => quietuslaw10_DomainsAreNested.l0 k (D.length : Int) a b x lv D R H O) true := by
  intro d
  induction d with
  | zero =>
    intro lv h0 h4
    refine Ev.step (fun k => by rw [quietuslaw10_DomainsAreNested.l0]) ?_
    exact Ev.neg_ (by omega) (Ev.known_ sanity10 (Ev.now _))
  | succ d ih =>
    intro lv h0 h4
    refine Ev.step (fun k => by rw [quietuslaw10_DomainsAreNested.l0]) ?_
    refine Ev.pos_ (by omega) (Ev.bind (of_ev D R H O lv a) (Ev.bind (of_ev D R H O lv b) (Ev.neg_ ?_ (Ev.known_ (size_some D R H O lv) ?_))))
    · rw [of_ok ok h0 (by omega) ha, of_ok ok h0 (by omega) hb]
      have := rel_le ok ha hb lv h0 (by omega)
      by_cases he : atN D R H lv a = atN D R H lv b
      · have := this.2 he
        rw [he, decide_eq_true (by omega)]
        simp
      · have h5 : ¬ relN D R H O a b ≤ lv := fun h => he (this.1 h)
        rw [decide_eq_false (by omega), beq_eq_false_iff_ne.2 he]
        simp
    · have hs : 0 ≤ sizeN D R H O lv ∧ sizeN D R H O lv ≤ 64 := by
        unfold sizeN
        have h1 := ok.d
        have h2 := ok.r
        have h3 := ok.h
        have h4 := ok.o
        split
        · split
          · omega
          · split
            · omega
            · split
              · omega
              · split <;> omega
        · omega
      obtain ⟨N, hN⟩ := Int.eq_ofNat_of_zero_le hs.1
      have h := nest_l1 ok a b x lv h0 (by omega) N hN.symm (by omega) true (ih (lv + 1) (by omega) (by omega)) N 0 (by omega)
      rw [below_zero] at h
      rw [hN]
      exact h
end
theorem PureDomainsAreNested.proof : DomainsAreNested.Pure := by
  intro D R H O p q s ⟨⟨hD, _⟩, _⟩ ⟨hp, hq, hs⟩
  refine Ev.rounds ?_
  unfold quietuslaw10_DomainsAreNested.f
  refine Ev.known_ (chk_some D R H O) ?_
  have hno : Ev (fun k => quietuslaw10_DomainsAreNested.j0 k true D R H O p q s) true := by
    refine Ev.step (fun k => by rw [quietuslaw10_DomainsAreNested.j0]) ?_
    exact Ev.pos_ rfl (Ev.known_ sanity10 (Ev.now _))
  by_cases hc : chkD D R H O = 0
  · refine Ev.pos_ hc ?_
    have ok := okD_of hc
    by_cases hn : (D.length : Int) = 0
    · rw [beq_iff_eq.2 hn]
      exact hno
    · rw [beq_eq_false_iff_ne.2 hn]
      have pick : ∀ u : Int, (Lit.int .u8 u).wf = true → 0 ≤ Int.tmod (wrap64 u) (D.length : Int) ∧ Int.tmod (wrap64 u) (D.length : Int) < (D.length : Int) := by
        intro u hu
        have hu' := u8_wf hu
        rw [w64 (by omega) (by omega), Int.tmod_eq_emod_of_nonneg (by omega)]
        exact ⟨Int.emod_nonneg _ hn, Int.emod_lt_of_pos _ (by omega)⟩
      have ha := pick p hp
      have hb := pick q hq
      have hc' := pick s hs
      refine Ev.step (fun k => by rw [quietuslaw10_DomainsAreNested.j0]) ?_
      generalize Int.tmod (wrap64 p) (D.length : Int) = a at ha ⊢
      generalize Int.tmod (wrap64 q) (D.length : Int) = b at hb ⊢
      generalize Int.tmod (wrap64 s) (D.length : Int) = c at hc' ⊢
      have r1 := rel_rng D R H O a b
      have r2 := rel_rng D R H O b c
      have r3 := rel_rng D R H O a c
      have y1 := rel_sym ok ha hb
      have y2 := rel_sym ok hb ha
      have y3 := rel_sym ok hb hc'
      have y4 := rel_sym ok hc' hb
      have y5 := rel_sym ok ha hc'
      have y6 := rel_sym ok hc' ha
      have t1 := rel_tri ok ha hb hc'
      have t2 := rel_tri ok hb ha hc'
      have t3 := rel_tri ok ha hc' hb
      refine Ev.neg_ (by simp) (Ev.neg_ hn (Ev.bind (rel_ev D R H O a b) (Ev.bind (rel_ev D R H O b c) (Ev.bind (rel_ev D R H O a c) (Ev.bind (rel_ev D R H O b a) ?_)))))
      refine Ev.pos_ (by omega) (Ev.neg_ (by omega) (Ev.neg_ (by omega) (Ev.neg_ ?_ (Ev.neg_ ?_ ?_))))
      · have := t1 (mx (relN D R H O a b) (relN D R H O b c)) (by unfold mx; split <;> omega) (by unfold mx; split <;> omega)
        omega
      · have := t2 (mx (relN D R H O a b) (relN D R H O a c)) (by unfold mx; split <;> omega) (by unfold mx; split <;> omega)
        omega
      · rw [decide_eq_false (by
          have := t3 (mx (relN D R H O b c) (relN D R H O a c)) (by unfold mx; split <;> omega) (by unfold mx; split <;> omega)
          omega)]
        refine Ev.step (fun k => by rw [quietuslaw10_DomainsAreNested.j1]) ?_
        exact Ev.neg_ (by simp) (nest_l0 ok a b _ ha hb rfl 4 0 (by omega) (by omega))
  · exact Ev.neg_ hc hno

end Go.Proofs.Yteknbadjfojmbaa.QA
