-- What this claim does not use was left out by prune.py, a program of this session.
import Derived.Test.YteknbadjfojmbaaSDomainsChange
import Derived.Test.YteknbadjfojmbaaPureDomRef
namespace Go.Proofs.Yteknbadjfojmbaa.QA
open Go.RowKit Go.Proofs.YteknbadjfojmbaaW.PrintWords Go.Proofs.YteknbadjfojmbaaW.PrintLast Go.Proofs.YteknbadjfojmbaaW.PrintMore
attribute [local go_sem] max2_int min2_int max_two min_two max_three min_three max_four min_four
set_option linter.unusedVariables false
set_option linter.unusedSimpArgs false
def sellC (D : List Int) (R : List RackT) (H : List Int) (O a b : Int) : List Int × List RackT × List Int × Int × Int :=
  if chkD D R H O = 0 then (if (0 ≤ a ∧ a < H.length) ∧ 0 ≤ b ∧ b < O then (D, R, H.set a.toNat b, O, 0) else ([], [], [], 0, 8)) else ([], [], [], 0, 1)
def shipC (D : List Int) (R : List RackT) (H : List Int) (O a b : Int) : List Int × List RackT × List Int × Int × Int :=
  if chkD D R H O = 0 then (if (0 ≤ a ∧ a < R.length) ∧ 0 ≤ b ∧ b < H.length then (if (rd_T117 R a).f1 = true then (D, R.set a.toNat ⟨b, (rd_T117 R a).f1⟩, H, O, 0) else ([], [], [], 0, 4)) else ([], [], [], 0, 8)) else ([], [], [], 0, 1)
theorem copied_ok {D : List Int} {R : List RackT} {H : List Int} {O : Int} (h : OkD D R H O) : domain_copied.f D R H O = some (D, R, H, O) := by
  have h1 := h.d
  have h2 := h.r
  have h3 := h.h
  unfold domain_copied.f slices_Clone_int_int.f api_Rack_88.f
  rw [if_pos (by omega), if_pos (by omega), if_pos (by omega)]
  rfl
theorem rCopy_ok {D : List Int} {R : List RackT} {H : List Int} {O : Int} (h : OkD D R H O) : quietusref10_Copy.f D R H O = some (D, R, H, O) := by
  have h1 := h.d
  have h2 := h.r
  have h3 := h.h
  unfold quietusref10_Copy.f
  rw [if_pos (by simp; omega), if_pos (by simp; omega), if_pos (by simp; omega)]
  rfl
theorem sell_some (D : List Int) (R : List RackT) (H : List Int) (O a b : Int) : domain_Sell.f D R H O a b = some (sellC D R H O a b) := by
  unfold domain_Sell.f sellC
  rw [chk_some]
  simp only [Option.bind_some]
  by_cases hc : chkD D R H O = 0
  · rw [if_pos hc, if_pos hc]
    by_cases h1 : a < 0
    · rw [if_pos h1, if_neg (by omega)]
    rw [if_neg h1]
    by_cases h2 : a ≥ (H.length : Int)
    · rw [if_pos h2, if_neg (by omega)]
    rw [if_neg h2]
    by_cases h3 : b < 0
    · rw [if_pos h3, if_neg (by omega)]
    rw [if_neg h3]
    by_cases h4 : b ≥ O
    · rw [if_pos h4, if_neg (by omega)]
    rw [if_neg h4, if_pos (by omega), copied_ok (okD_of hc)]
    simp only [Option.bind_some]
    rw [if_pos (by omega), if_pos (by omega)]
  · rw [if_neg hc, if_neg hc]
theorem rSell_ev (D : List Int) (R : List RackT) (H : List Int) (O a b : Int) : Ev (fun k => quietusref10_Sell.f k D R H O a b) (sellC D R H O a b) := by
  unfold quietusref10_Sell.f
  refine Ev.bind (rChk_ev D R H O) ?_
  by_cases hc : chkD D R H O = 0
  · refine Ev.pos_ hc (Ev.const_ ?_)
    unfold sellC
    rw [if_pos hc]
    by_cases h1 : a < 0
    · rw [if_pos h1, if_neg (by omega)]
    rw [if_neg h1]
    by_cases h2 : a ≥ (H.length : Int)
    · rw [if_pos h2, if_neg (by omega)]
    rw [if_neg h2]
    by_cases h3 : b < 0
    · rw [if_pos h3, if_neg (by omega)]
    rw [if_neg h3]
    by_cases h4 : b ≥ O
    · rw [if_pos h4, if_neg (by omega)]
    rw [if_neg h4, if_pos (by omega), rCopy_ok (okD_of hc)]
    simp only [Option.bind_some]
    rw [if_pos (by omega), if_pos (by omega)]
  · refine Ev.neg_ hc (Ev.const_ ?_)
    unfold sellC
    rw [if_neg hc]
theorem ship_ev (D : List Int) (R : List RackT) (H : List Int) (O a b : Int) : Ev (fun k => domain_Ship.f k D R H O a b) (shipC D R H O a b) := by
  unfold domain_Ship.f
  refine Ev.known_ (chk_some D R H O) ?_
  by_cases hc : chkD D R H O = 0
  · refine Ev.pos_ hc ?_
    have j : ∀ x : Bool, (x = true ↔ ¬ ((0 ≤ a ∧ a < R.length) ∧ 0 ≤ b ∧ b < H.length)) → Ev (fun k => domain_Ship.j0 k a b x D R H O) (shipC D R H O a b) := by
      intro x hx
      refine Ev.step (fun k => by rw [domain_Ship.j0]) ?_
      by_cases hg : (0 ≤ a ∧ a < R.length) ∧ 0 ≤ b ∧ b < H.length
      · refine Ev.neg_ (fun h => hx.1 h hg) (Ev.pos_ (by omega) (Ev.pos_ (by omega) ?_))
        by_cases hv : (rd_T117 R a).f1 = true
        · refine Ev.pos_ hv (Ev.known_ (copied_ok (okD_of hc)) (Ev.pos_ (by simp only; omega) (Ev.const_ ?_)))
          unfold shipC
          rw [if_pos hc, if_pos hg, if_pos hv]
        · refine Ev.neg_ hv (Ev.const_ ?_)
          unfold shipC
          rw [if_pos hc, if_pos hg, if_neg hv]
      · refine Ev.pos_ (hx.2 hg) (Ev.const_ ?_)
        unfold shipC
        rw [if_pos hc, if_neg hg]
    by_cases h1 : a < 0
    · exact Ev.pos_ h1 (j true ⟨fun _ => by omega, fun _ => rfl⟩)
    refine Ev.neg_ h1 ?_
    by_cases h2 : a ≥ (R.length : Int)
    · exact Ev.pos_ h2 (j true ⟨fun _ => by omega, fun _ => rfl⟩)
    refine Ev.neg_ h2 ?_
    by_cases h3 : b < 0
    · exact Ev.pos_ h3 (j true ⟨fun _ => by omega, fun _ => rfl⟩)
    refine Ev.neg_ h3 (j _ ?_)
    rw [decide_eq_true_eq]
    omega
  · refine Ev.neg_ hc (Ev.const_ ?_)
    unfold shipC
    rw [if_neg hc]
theorem rShip_ev (D : List Int) (R : List RackT) (H : List Int) (O a b : Int) : Ev (fun k => quietusref10_Ship.f k D R H O a b) (shipC D R H O a b) := by
  unfold quietusref10_Ship.f
  refine Ev.bind (rChk_ev D R H O) ?_
  by_cases hc : chkD D R H O = 0
  · refine Ev.pos_ hc ?_
    have j : ∀ x : Bool, (x = true ↔ ¬ ((0 ≤ a ∧ a < R.length) ∧ 0 ≤ b ∧ b < H.length)) → Ev (fun k => quietusref10_Ship.j0 k a b x D R H O) (shipC D R H O a b) := by
      intro x hx
      refine Ev.step (fun k => by rw [quietusref10_Ship.j0]) ?_
      by_cases hg : (0 ≤ a ∧ a < R.length) ∧ 0 ≤ b ∧ b < H.length
      · refine Ev.neg_ (fun h => hx.1 h hg) (Ev.pos_ (by omega) (Ev.pos_ (by omega) ?_))
        by_cases hv : (rd_T117 R a).f1 = true
        · refine Ev.pos_ hv (Ev.known_ (rCopy_ok (okD_of hc)) (Ev.pos_ (by simp only; omega) (Ev.const_ ?_)))
          unfold shipC
          rw [if_pos hc, if_pos hg, if_pos hv]
        · refine Ev.neg_ hv (Ev.const_ ?_)
          unfold shipC
          rw [if_pos hc, if_pos hg, if_neg hv]
      · refine Ev.pos_ (hx.2 hg) (Ev.const_ ?_)
        unfold shipC
        rw [if_pos hc, if_neg hg]
    by_cases h1 : a < 0
    · exact Ev.pos_ h1 (j true ⟨fun _ => by omega, fun _ => rfl⟩)
    refine Ev.neg_ h1 ?_
    by_cases h2 : a ≥ (R.length : Int)
    · exact Ev.pos_ h2 (j true ⟨fun _ => by omega, fun _ => rfl⟩)
    refine Ev.neg_ h2 ?_
    by_cases h3 : b < 0
    · exact Ev.pos_ h3 (j true ⟨fun _ => by omega, fun _ => rfl⟩)
    refine Ev.neg_ h3 (j _ ?_)
    rw [decide_eq_true_eq]
    omega
  · refine Ev.neg_ hc (Ev.const_ ?_)
    unfold shipC
    rw [if_neg hc]
theorem same_loop (D : List Int) (R : List RackT) (H : List Int) (O : Int) (hR : R.length ≤ 1000) : ∀ (n i : Nat), R.length - i = n → i ≤ R.length → Ev (fun k => quietusref10_Same.l0 k (i : Int) D R H O D R H O) true
  | 0, i, hn, hi => Ev.step (fun k => by rw [quietusref10_Same.l0]) (Ev.neg_ (by omega) (Ev.now _))
  | n + 1, i, hn, hi => by
    have hw : wrap64 ((i : Int) + 1) = ((i + 1 : Nat) : Int) := by rw [w64 (by omega) (by omega)]; omega
    refine Ev.step (fun k => by rw [quietusref10_Same.l0]) (Ev.pos_ (by omega) (Ev.pos_ (by omega) (Ev.pos_ (by omega) (Ev.neg_ (by simp) ?_))))
    rw [hw]
    exact same_loop D R H O hR n (i + 1) (by omega) (by omega)
theorem same_ev (D : List Int) (R : List RackT) (H : List Int) (O : Int) (hD : D.length ≤ 1000) (hR : R.length ≤ 1000) (hH : H.length ≤ 1000) : Ev (fun k => quietusref10_Same.f k D R H O D R H O) true := by
  unfold quietusref10_Same.f
  refine Ev.bind (sameL_ev D (by omega)) (Ev.bind (sameL_ev H (by omega)) (Ev.pos_ rfl (Ev.pos_ rfl (Ev.pos_ rfl ?_))))
  refine Ev.step (fun k => by rw [quietusref10_Same.j0]) ?_
  refine Ev.neg_ (by simp) ?_
  exact same_loop D R H O hR _ 0 rfl (by omega)
theorem sell_len (D : List Int) (R : List RackT) (H : List Int) (O a b : Int) (h : D.length ≤ 80 ∧ R.length ≤ 80 ∧ H.length ≤ 80) : (sellC D R H O a b).1.length ≤ 1000 ∧ (sellC D R H O a b).2.1.length ≤ 1000 ∧ (sellC D R H O a b).2.2.1.length ≤ 1000 := by
  unfold sellC
  split
  · split
    · simp only [List.length_set]; omega
    · simp
  · simp
theorem ship_len (D : List Int) (R : List RackT) (H : List Int) (O a b : Int) (h : D.length ≤ 80 ∧ R.length ≤ 80 ∧ H.length ≤ 80) : (shipC D R H O a b).1.length ≤ 1000 ∧ (shipC D R H O a b).2.1.length ≤ 1000 ∧ (shipC D R H O a b).2.2.1.length ≤ 1000 := by
  unfold shipC
  split
  · split
    · split
      · simp only [List.length_set]; omega
      · simp
    · simp
  · simp
theorem rd_set (l : List Int) (a b i : Int) (ha : 0 ≤ a ∧ a < l.length) (hi : 0 ≤ i ∧ i < l.length) : rd (l.set a.toNat b) i = if i = a then b else rd l i := by
  obtain ⟨n, rfl⟩ := Int.eq_ofNat_of_zero_le ha.1
  obtain ⟨m, rfl⟩ := Int.eq_ofNat_of_zero_le hi.1
  simp only [Int.toNat_natCast]
  rw [rd_nat _ m (by rw [List.length_set]; omega), rd_nat _ m (by omega), List.getElem_set]
  by_cases h : n = m
  · rw [if_pos h, if_pos (by omega)]
  · rw [if_neg h, if_neg (by omega)]
theorem rdT_set (l : List RackT) (a i : Int) (b : RackT) (ha : 0 ≤ a ∧ a < l.length) (hi : 0 ≤ i ∧ i < l.length) : rd_T117 (l.set a.toNat b) i = if i = a then b else rd_T117 l i := by
  obtain ⟨n, rfl⟩ := Int.eq_ofNat_of_zero_le ha.1
  obtain ⟨m, rfl⟩ := Int.eq_ofNat_of_zero_le hi.1
  simp only [Int.toNat_natCast]
  rw [rdT_nat _ m (by rw [List.length_set]; omega), rdT_nat _ m (by omega), List.getElem_set]
  by_cases h : n = m
  · rw [if_pos h, if_pos (by omega)]
  · rw [if_neg h, if_neg (by omega)]
theorem sell_fact {D : List Int} {R : List RackT} {H : List Int} {O a b : Int} (he : (sellC D R H O a b).2.2.2.2 = 0) (i : Int) (hi : 0 ≤ i ∧ i < D.length) :
    ofN (sellC D R H O a b).1 (sellC D R H O a b).2.1 (sellC D R H O a b).2.2.1 (sellC D R H O a b).2.2.2.1 2 i = ofN D R H O 2 i ∧
    ofN (sellC D R H O a b).1 (sellC D R H O a b).2.1 (sellC D R H O a b).2.2.1 (sellC D R H O a b).2.2.2.1 3 i = if ofN D R H O 2 i = a then b else ofN D R H O 3 i := by
  unfold sellC at he ⊢
  by_cases hc : chkD D R H O = 0
  · rw [if_pos hc] at he ⊢
    by_cases hg : (0 ≤ a ∧ a < H.length) ∧ 0 ≤ b ∧ b < O
    · rw [if_pos hg]
      have ok := okD_of hc
      have ok' : OkD D R (H.set a.toNat b) O := ⟨ok.d, ok.r, by rw [List.length_set]; exact ok.h, ok.o, ok.rack, fun j hj => by rw [List.length_set]; exact ok.house j hj, fun j hj => by
        rw [List.length_set] at hj
        rw [List.getElem_set]
        split
        · exact hg.2
        · exact ok.owner j hj⟩
      show ofN D R (H.set a.toNat b) O 2 i = _ ∧ ofN D R (H.set a.toNat b) O 3 i = _
      rw [of_ok ok' (by omega) (by omega) hi, of_ok ok (by omega) (by omega) hi, of_ok ok' (by omega) (by omega) hi, of_ok ok (by omega) (by omega) hi]
      have hh := house_in ok hi.1 hi.2
      exact ⟨rfl, rd_set H a b _ hg.1 hh⟩
    · rw [if_neg hg] at he; exact absurd he (by decide)
  · rw [if_neg hc] at he; exact absurd he (by decide)
theorem ship_fact {D : List Int} {R : List RackT} {H : List Int} {O a b : Int} (he : (shipC D R H O a b).2.2.2.2 = 0) (i : Int) (hi : 0 ≤ i ∧ i < D.length) :
    ofN (shipC D R H O a b).1 (shipC D R H O a b).2.1 (shipC D R H O a b).2.2.1 (shipC D R H O a b).2.2.2.1 1 i = ofN D R H O 1 i ∧
    ofN (shipC D R H O a b).1 (shipC D R H O a b).2.1 (shipC D R H O a b).2.2.1 (shipC D R H O a b).2.2.2.1 2 i = if ofN D R H O 1 i = a then b else ofN D R H O 2 i := by
  unfold shipC at he ⊢
  by_cases hc : chkD D R H O = 0
  · rw [if_pos hc] at he ⊢
    by_cases hg : (0 ≤ a ∧ a < R.length) ∧ 0 ≤ b ∧ b < H.length
    · rw [if_pos hg] at he ⊢
      by_cases hv : (rd_T117 R a).f1 = true
      · rw [if_pos hv]
        have ok := okD_of hc
        have ok' : OkD D (R.set a.toNat ⟨b, (rd_T117 R a).f1⟩) H O := ⟨ok.d, by rw [List.length_set]; exact ok.r, ok.h, ok.o, fun j hj => by rw [List.length_set]; exact ok.rack j hj, fun j hj => by
          rw [List.length_set] at hj
          rw [List.getElem_set]
          split
          · exact hg.2
          · exact ok.house j hj, ok.owner⟩
        show ofN D (R.set a.toNat ⟨b, (rd_T117 R a).f1⟩) H O 1 i = _ ∧ ofN D (R.set a.toNat ⟨b, (rd_T117 R a).f1⟩) H O 2 i = _
        rw [of_ok ok' (by omega) (by omega) hi, of_ok ok (by omega) (by omega) hi, of_ok ok' (by omega) (by omega) hi, of_ok ok (by omega) (by omega) hi]
        have hr := rack_in ok hi.1 hi.2
        refine ⟨rfl, ?_⟩
        show (rd_T117 (R.set a.toNat ⟨b, (rd_T117 R a).f1⟩) (rackN D i)).f0 = if rackN D i = a then b else (rd_T117 R (rackN D i)).f0
        rw [rdT_set R a _ _ hg.1 hr]
        split <;> rfl
      · rw [if_neg hv] at he; exact absurd he (by decide)
    · rw [if_neg hg] at he; exact absurd he (by decide)
  · rw [if_neg hc] at he; exact absurd he (by decide)
theorem change_loop (D : List Int) (R : List RackT) (H : List Int) (O a b e f : Int) (D1 : List Int) (R1 : List RackT) (H1 : List Int) (O1 : Int) (D2 : List Int) (R2 : List RackT) (H2 : List Int) (O2 : Int) (hD : D.length ≤ 80)
    (FS : e = 0 → ∀ i : Int, 0 ≤ i ∧ i < D.length → ofN D1 R1 H1 O1 2 i = ofN D R H O 2 i ∧ ofN D1 R1 H1 O1 3 i = if ofN D R H O 2 i = a then b else ofN D R H O 3 i)
    (FH : f = 0 → ∀ i : Int, 0 ≤ i ∧ i < D.length → ofN D2 R2 H2 O2 1 i = ofN D R H O 1 i ∧ ofN D2 R2 H2 O2 2 i = if ofN D R H O 1 i = a then b else ofN D R H O 2 i) :
    ∀ (n i : Nat), D.length - i = n → i ≤ D.length → Ev (fun k => quietuslaw10_DomainsChange.l0 k e f (D.length : Int) (i : Int) D R H O a b D1 R1 H1 O1 D2 R2 H2 O2) true
  | 0, i, hn, hi => Ev.step (fun k => by rw [quietuslaw10_DomainsChange.l0]) (Ev.neg_ (by omega) (Ev.known_ sanity10 (Ev.now _)))
  | n + 1, i, hn, hi => by
    have hw : wrap64 ((i : Int) + 1) = ((i + 1 : Nat) : Int) := by rw [w64 (by omega) (by omega)]; omega
    have next := change_loop D R H O a b e f D1 R1 H1 O1 D2 R2 H2 O2 hD FS FH n (i + 1) (by omega) (by omega)
    have hir : 0 ≤ (i : Int) ∧ (i : Int) < D.length := by omega
    have j : ∀ x : Bool, x = false → Ev (fun k => quietuslaw10_DomainsChange.j2 k e f (i : Int) (ofN D R H O 2 (i : Int)) (ofN D R H O 1 (i : Int)) (D.length : Int) (i : Int) x D R H O a b D1 R1 H1 O1 D2 R2 H2 O2) true := by
      intro x hx
      refine Ev.step (fun k => by rw [quietuslaw10_DomainsChange.j2]) ?_
      rw [hw]
      refine Ev.neg_ (by rw [hx]; decide) ?_
      by_cases hf : f = 0
      · obtain ⟨q1, q2⟩ := FH hf i hir
        refine Ev.pos_ hf (Ev.bind (of_ev _ _ _ _ _ _) (Ev.pos_ q1 ?_))
        by_cases ha : ofN D R H O 1 (i : Int) = a
        · rw [if_pos ha] at q2
          exact Ev.pos_ ha (Ev.bind (of_ev _ _ _ _ _ _) (Ev.pos_ q2 next))
        · rw [if_neg ha] at q2
          exact Ev.neg_ ha (Ev.bind (of_ev _ _ _ _ _ _) (Ev.pos_ q2 next))
      · exact Ev.neg_ hf next
    refine Ev.step (fun k => by rw [quietuslaw10_DomainsChange.l0]) (Ev.pos_ (by omega) (Ev.bind (of_ev _ _ _ _ _ _) (Ev.bind (of_ev _ _ _ _ _ _) ?_)))
    by_cases he : e = 0
    · obtain ⟨q1, q2⟩ := FS he i hir
      refine Ev.pos_ he (Ev.bind (of_ev _ _ _ _ _ _) (Ev.pos_ q1 ?_))
      by_cases ha : ofN D R H O 2 (i : Int) = a
      · rw [if_pos ha] at q2
        exact Ev.pos_ ha (Ev.bind (of_ev _ _ _ _ _ _) (j _ (by rw [q2]; simp)))
      · rw [if_neg ha] at q2
        exact Ev.neg_ ha (Ev.bind (of_ev _ _ _ _ _ _) (Ev.bind (of_ev _ _ _ _ _ _) (Ev.pos_ q2 (j _ rfl))))
    · exact Ev.neg_ he (j _ rfl)
theorem PureDomainsChange.proof : DomainsChange.Pure := by
  intro D R H O a b _ _
  refine Ev.rounds ?_
  unfold quietuslaw10_DomainsChange.f
  have hf : ∃ c, quietusref10_Few.f D R H O 80 = some c := by
    unfold quietusref10_Few.f
    split
    · split <;> exact ⟨_, rfl⟩
    · exact ⟨_, rfl⟩
  obtain ⟨c, hc⟩ := hf
  refine Ev.known_ hc ?_
  by_cases h : c = true
  · have hl := few_le hc h
    have s1 := sell_len D R H O a b hl
    have s2 := ship_len D R H O a b hl
    refine Ev.pos_ h (Ev.known_ (sell_some D R H O a b) (Ev.bind (ship_ev D R H O a b) (Ev.bind (rSell_ev D R H O a b) (Ev.bind (rShip_ev D R H O a b) (Ev.pos_ rfl (Ev.pos_ rfl ?_))))))
    refine Ev.bind (same_ev _ _ _ _ s1.1 s1.2.1 s1.2.2) (Ev.pos_ rfl (Ev.bind (same_ev _ _ _ _ s2.1 s2.2.1 s2.2.2) ?_))
    refine Ev.step (fun k => by rw [quietuslaw10_DomainsChange.j0]) ?_
    refine Ev.neg_ (by decide) ?_
    exact change_loop D R H O a b _ _ _ _ _ _ _ _ _ _ hl.1 (fun he i hi => sell_fact he i hi) (fun he i hi => ship_fact he i hi) _ 0 rfl (by omega)
  · exact Ev.neg_ h (Ev.known_ sanity10 (Ev.now _))
end Go.Proofs.Yteknbadjfojmbaa.QA
