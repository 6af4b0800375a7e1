/- Proved here: the pure statement of the law DomainsFailTogether (QA.DomainsFailTogether.Pure): what the Go function computes, told as a Lean function, is true for every input in the stated bounds. -/
import Derived.Test.YteknbadjfojmbaaSDomainsFailTogether
import Derived.Test.YteknbadjfojmbaaPureDomBits
namespace Go.Proofs.Yteknbadjfojmbaa.QA
open Go.RowKit Go.Proofs.YteknbadjfojmbaaW.PrintWords Go.Proofs.YteknbadjfojmbaaW.PrintLast Go.Proofs.YteknbadjfojmbaaW.PrintMore
attribute [local go_sem] max2_int min2_int max_two min_two max_three min_three max_four min_four
set_option linter.unusedVariables false
set_option linter.unusedSimpArgs false
theorem index_ev (l : List Int) (x : Int) (hl : l.length ≤ 17592186044416) : ∀ (d i : Nat), i + d = l.length → ∃ r : Int, Ev (fun k => slices_Index_int_int.l0 k l x (l.length : Int) (i : Int)) r ∧ decide (r ≥ 0) = (l.drop i).any (fun y => x == y) := by
  intro d
  induction d with
  | zero =>
    intro i hi
    refine ⟨-1, Ev.step (fun k => by rw [slices_Index_int_int.l0]) (Ev.neg_ (by omega) (Ev.now _)), ?_⟩
    rw [List.drop_of_length_le (by omega)]
    rfl
  | succ d ih =>
    intro i hi
    obtain ⟨r, hr, hd⟩ := ih (i + 1) (by omega)
    rw [List.drop_eq_getElem_cons (by omega : i < l.length), List.any_cons]
    by_cases h : x = l[i]
    · refine ⟨(i : Int), ?_, ?_⟩
      · refine Ev.step (fun k => by rw [slices_Index_int_int.l0]) ?_
        refine Ev.pos_ (by omega) (Ev.pos_ (by omega) (Ev.pos_ (by omega) ?_))
        rw [rd_nat l i (by omega)]
        exact Ev.pos_ h (Ev.now _)
      · rw [beq_iff_eq.2 h, Bool.true_or]
        exact decide_eq_true (by omega)
    · refine ⟨r, ?_, ?_⟩
      · refine Ev.step (fun k => by rw [slices_Index_int_int.l0]) ?_
        refine Ev.pos_ (by omega) (Ev.pos_ (by omega) (Ev.pos_ (by omega) ?_))
        rw [rd_nat l i (by omega), w64 (by omega) (by omega)]
        exact Ev.neg_ h hr
      · rw [beq_eq_false_iff_ne.2 h, Bool.false_or]
        exact hd
theorem contains_ev (l : List Int) (x : Int) (hl : l.length ≤ 17592186044416) : Ev (fun k => slices_Contains_int_int.f k l x) (l.any (fun y => x == y)) := by
  unfold slices_Contains_int_int.f slices_Index_int_int.f
  obtain ⟨r, hr, hd⟩ := index_ev l x hl l.length 0 (by omega)
  refine Ev.bind hr (Ev.eq_ (Ev.now _) ?_)
  rw [hd, List.drop_zero]
section
variable (D : List Int) (R : List RackT) (H : List Int) (O : Int)
/-- Whether a piece is left. -/
def isLeft (lv : Int) (L : List Int) (F : List Int) (i : Nat) : Bool := decide (0 ≤ ofN D R H O lv (rd L (i : Int))) && !(F.any (fun y => ofN D R H O lv (rd L (i : Int)) == y))
def leftN (lv : Int) (L : List Int) (F : List Int) : Nat := bitsN L.length (isLeft D R H O lv L F)
theorem left_l (lv : Int) (L F : List Int) (hL : L.length ≤ 24) (hF : F.length ≤ 17592186044416) : ∀ (d i : Nat), i + d = L.length → Ev (fun k => domain_Left.l0 k lv F (bitsN i (isLeft D R H O lv L F) : Int) L (L.length : Int) (i : Int) D R H O) (leftN D R H O lv L F : Int) := by
  intro d
  induction d with
  | zero =>
    intro i hi
    refine Ev.step (fun k => by rw [domain_Left.l0]) ?_
    refine Ev.neg_ (by omega) (Ev.eq_ (Ev.now _) ?_)
    unfold leftN
    rw [show i = L.length by omega]
  | succ d ih =>
    intro i hi
    have hn := ih (i + 1) (by omega)
    rw [bitsN_top] at hn
    refine Ev.step (fun k => by rw [domain_Left.l0]) ?_
    refine Ev.pos_ (by omega) (Ev.pos_ (by omega) (Ev.pos_ (by omega) (Ev.bind (of_ev D R H O lv _) ?_)))
    rw [w64 (n := (i : Int) + 1) (by omega) (by omega)]
    by_cases h1 : ofN D R H O lv (rd L (i : Int)) ≥ 0
    · refine Ev.pos_ h1 (Ev.bind (contains_ev F _ hF) ?_)
      by_cases h2 : F.any (fun y => ofN D R H O lv (rd L (i : Int)) == y) = true
      · have hf : isLeft D R H O lv L F i = false := by unfold isLeft; rw [h2]; simp
        rw [hf] at hn
        simp only [Bool.false_eq_true, if_false, Nat.add_zero] at hn
        exact Ev.pos_ h2 hn
      · have hf : isLeft D R H O lv L F i = true := by unfold isLeft; rw [Bool.eq_false_iff.2 h2, decide_eq_true (show (0 : Int) ≤ _ from h1)]; rfl
        rw [hf] at hn
        simp only [if_true] at hn
        refine Ev.neg_ h2 ?_
        have hb := bitsN_lt i (isLeft D R H O lv L F)
        have hp : (2 : Nat) ^ i ≤ 2 ^ 24 := Nat.pow_le_pow_right (by omega) (by omega)
        have hs : shl .i64 1 (i : Int) = ((2 ^ i : Nat) : Int) := by
          unfold shl
          rw [Int.toNat_natCast, Int.one_mul, show min i IntKind.i64.bits = i from Nat.min_eq_left (by show i ≤ 64; omega)]
          have := toInt64 (2 ^ i) (by omega)
          simpa using this
        rw [hs, bits_or _ _ (by omega) (by omega)]
        have e : bitsN i (isLeft D R H O lv L F) ||| 2 ^ i = bitsN i (isLeft D R H O lv L F) + 2 ^ i := by
          have := Nat.two_pow_add_eq_or_of_lt hb 1
          rw [Nat.mul_one] at this
          rw [Nat.or_comm, ← this, Nat.add_comm]
        rw [e]
        exact hn
    · have hf : isLeft D R H O lv L F i = false := by unfold isLeft; rw [decide_eq_false (show ¬ (0 : Int) ≤ _ from h1)]; rfl
      rw [hf] at hn
      simp only [Bool.false_eq_true, if_false, Nat.add_zero] at hn
      exact Ev.neg_ h1 hn
theorem left_ev (lv : Int) (L F : List Int) (hL : L.length ≤ 24) (hF : F.length ≤ 17592186044416) : Ev (fun k => domain_Left.f k D R H O lv L F) (leftN D R H O lv L F : Int) := by
  unfold domain_Left.f
  refine Ev.neg_ (by omega) ?_
  exact left_l D R H O lv L F hL hF L.length 0 (by omega)
def holdsN (lv : Int) (L : List Int) (S t : Nat) : List Int := (List.range S).map (fun j : Nat => (countN t (fun i => ofN D R H O lv (rd L (i : Int)) == (j : Int)) : Int))
theorem holds_get (lv : Int) (L : List Int) (S t i : Nat) (h : i < (holdsN D R H O lv L S t).length) : (holdsN D R H O lv L S t)[i] = (countN t (fun x => ofN D R H O lv (rd L (x : Int)) == (i : Int)) : Int) := by
  simp [holdsN]
theorem holds_l (ok : OkD D R H O) (lv : Int) (h0 : 0 ≤ lv) (h3 : lv ≤ 3) (L : List Int) (S : Nat) (hS : (S : Int) = sizeN D R H O lv) (hL : L.length ≤ 24) : ∀ (d t : Nat), t + d = L.length →
    Ev (fun k => domain_Holds.l0 k lv (holdsN D R H O lv L S t) L (L.length : Int) (t : Int) D R H O) (holdsN D R H O lv L S L.length) := by
  intro d
  induction d with
  | zero =>
    intro t ht
    refine Ev.step (fun k => by rw [domain_Holds.l0]) ?_
    refine Ev.neg_ (by omega) (Ev.eq_ (Ev.now _) ?_)
    rw [show t = L.length by omega]
  | succ d ih =>
    intro t ht
    have hn := ih (t + 1) (by omega)
    refine Ev.step (fun k => by rw [domain_Holds.l0]) ?_
    refine Ev.pos_ (by omega) (Ev.pos_ (by omega) (Ev.pos_ (by omega) (Ev.bind (of_ev D R H O lv _) ?_)))
    rw [w64 (n := (t : Int) + 1) (by omega) (by omega)]
    have hlen : (holdsN D R H O lv L S t).length = S := by unfold holdsN; simp
    by_cases h1 : ofN D R H O lv (rd L (t : Int)) ≥ 0
    · have hlt : ofN D R H O lv (rd L (t : Int)) < (S : Int) := by
        by_cases hv : 0 ≤ rd L (t : Int) ∧ rd L (t : Int) < D.length
        · rw [of_ok ok h0 h3 hv, hS]
          exact (at_in ok h0 h3 hv).2
        · have : ofN D R H O lv (rd L (t : Int)) = -1 := by
            unfold ofN
            exact if_neg (by omega)
          omega
      refine Ev.pos_ h1 (Ev.pos_ (by omega) (Ev.pos_ (by omega) ?_))
      obtain ⟨j, hj⟩ := Int.eq_ofNat_of_zero_le (show 0 ≤ ofN D R H O lv (rd L (t : Int)) from h1)
      rw [hj] at hlt ⊢
      rw [rd_nat _ j (by omega), Int.toNat_natCast]
      have he : (holdsN D R H O lv L S t).set j (wrap64 ((holdsN D R H O lv L S t)[j]'(by omega) + 1)) = holdsN D R H O lv L S (t + 1) := by
        apply List.ext_getElem
        · unfold holdsN; simp
        · intro i hi1 hi2
          have hiS : i < S := by simpa [hlen] using hi1
          have g1 := holds_get D R H O lv L S t j (by omega)
          have g2 := holds_get D R H O lv L S t i (by omega)
          have g3 := holds_get D R H O lv L S (t + 1) i hi2
          rw [List.getElem_set, g3, countN_top]
          have hcl := countN_le t (fun x => ofN D R H O lv (rd L (x : Int)) == (j : Int))
          by_cases hji : j = i
          · subst hji
            rw [if_pos rfl, if_pos (beq_iff_eq.2 hj), w64 (by omega) (by omega)]
            omega
          · rw [if_neg hji, if_neg (by rw [hj]; simp; omega), g2]
            omega
      rw [he]
      exact hn
    · have he : holdsN D R H O lv L S t = holdsN D R H O lv L S (t + 1) := by
        unfold holdsN
        apply List.map_congr_left
        intro j _
        rw [countN_top, if_neg (by simp; omega)]
        omega
      rw [he]
      exact Ev.neg_ h1 hn
theorem holds_ev (ok : OkD D R H O) (lv : Int) (h0 : 0 ≤ lv) (h3 : lv ≤ 3) (L : List Int) (S : Nat) (hS : (S : Int) = sizeN D R H O lv) (hS64 : S ≤ 64) (hL : L.length ≤ 24) : Ev (fun k => domain_Holds.f k D R H O lv L) (holdsN D R H O lv L S L.length) := by
  unfold domain_Holds.f
  refine Ev.known_ (size_some D R H O lv) ?_
  rw [← hS]
  refine Ev.pos_ (by omega) (Ev.pos_ (by simp; omega) (Ev.known_ rfl (Ev.neg_ (by omega) ?_)))
  have h := holds_l D R H O ok lv h0 h3 L S hS hL L.length 0 (by omega)
  have he : holdsN D R H O lv L S 0 = List.replicate ((S : Int)).toNat 0 := by
    unfold holdsN
    rw [Int.toNat_natCast]
    apply List.ext_getElem
    · simp
    · intro i h1 h2
      simp [countN]
  rw [he] at h
  exact h
end
theorem sizeN_le {D : List Int} {R : List RackT} {H : List Int} {O : Int} (ok : OkD D R H O) (lv : Int) : 0 ≤ sizeN D R H O lv ∧ sizeN D R H O lv ≤ 64 := by
  unfold sizeN
  have h1 := ok.d
  have h2 := ok.r
  have h3 := ok.h
  have h4 := ok.o
  split
  · split
    · omega
    · split
      · omega
      · split
        · omega
        · split <;> omega
  · omega
section
variable {D : List Int} {R : List RackT} {H : List Int} {O : Int} (ok : OkD D R H O)
include ok
theorem fail_l0 (L : List Int) (hL : L.length ≤ 24) (lv n : Int) (h0 : 1 ≤ lv) (h3 : lv ≤ 3) (hn : 0 ≤ n) : ∀ (d i : Nat), i + d = (membersN D R H O lv n).length →
    Ev (fun k => quietuslaw10_DomainsFailTogether.l0 k L lv (leftN D R H O lv L [n] : Int) (((membersN D R H O lv n).take i).map (fun x => ofN D R H O (lv - 1) x)) (membersN D R H O lv n) ((membersN D R H O lv n).length : Int) (i : Int) D R H O) true := by
  have hm := members_len D R H O lv n
  have hD := ok.d
  intro d
  induction d with
  | zero =>
    intro i hi
    refine Ev.step (fun k => by rw [quietuslaw10_DomainsFailTogether.l0]) ?_
    refine Ev.neg_ (by omega) (Ev.known_ sanity10 (Ev.pos_ rfl ?_))
    rw [List.take_of_length_le (by omega), w64 (n := lv - 1) (by omega) (by omega)]
    refine Ev.bind (left_ev D R H O (lv - 1) L _ hL (by rw [List.length_map]; omega)) (Ev.eq_ (Ev.now _) ?_)
    have he : leftN D R H O lv L [n] = leftN D R H O (lv - 1) L ((membersN D R H O lv n).map (fun x => ofN D R H O (lv - 1) x)) := by
      unfold leftN
      apply bitsN_congr
      intro j hj
      unfold isLeft
      by_cases hv : 0 ≤ rd L (j : Int) ∧ rd L (j : Int) < D.length
      · rw [of_ok ok (by omega) h3 hv, of_ok ok (by omega) (by omega) hv]
        have a1 := at_in ok (lv := lv) (by omega) h3 hv
        have a2 := at_in ok (lv := lv - 1) (by omega) (by omega) hv
        rw [decide_eq_true a1.1, decide_eq_true a2.1, Bool.true_and, Bool.true_and]
        congr 1
        rw [Bool.eq_iff_iff]
        simp only [List.any_cons, List.any_nil, Bool.or_false, beq_iff_eq, List.any_eq_true, List.mem_map]
        constructor
        · intro hh
          refine ⟨_, ⟨rd L (j : Int), ?_, rfl⟩, (of_ok ok (by omega) (by omega) hv).symm⟩
          unfold membersN
          refine List.mem_map.2 ⟨(rd L (j : Int)).toNat, List.mem_filter.2 ⟨List.mem_range.2 (by omega), ?_⟩, by omega⟩
          unfold hitN
          rw [decide_eq_true hn, Bool.true_and, show (((rd L (j : Int)).toNat : Nat) : Int) = rd L (j : Int) by omega, of_ok ok (by omega) h3 hv]
          exact beq_iff_eq.2 hh
        · rintro ⟨y, ⟨x, hx, rfl⟩, he⟩
          obtain ⟨t, ht, rfl⟩ := List.mem_iff_getElem.1 hx
          obtain ⟨m1, m2, m3⟩ := mem_at (D := D) (R := R) (H := H) (O := O) (lv := lv) (n := n) t ht
          rw [of_ok ok (by omega) (by omega) ⟨m1, m2⟩] at he
          rw [of_ok ok (by omega) h3 ⟨m1, m2⟩] at m3
          have := at_up (lv := lv - 1) (by omega) (by omega) he
          rw [show lv - 1 + 1 = lv by omega] at this
          rw [this, m3]
      · have e1 : ∀ x, ofN D R H O x (rd L (j : Int)) = -1 := fun x => by unfold ofN; exact if_neg (by omega)
        rw [e1, e1]
        rfl
    rw [he]
    simp
  | succ d ih =>
    intro i hi
    have hnx := ih (i + 1) (by omega)
    refine Ev.step (fun k => by rw [quietuslaw10_DomainsFailTogether.l0]) ?_
    refine Ev.pos_ (by omega) (Ev.pos_ (by omega) (Ev.pos_ (by omega) ?_))
    rw [w64 (n := lv - 1) (by omega) (by omega), w64 (n := (i : Int) + 1) (by omega) (by omega), rd_nat _ i (by omega)]
    refine Ev.bind (of_ev D R H O (lv - 1) _) (Ev.pos_ ?_ ?_)
    · rw [List.length_map, List.length_take]; omega
    · rw [List.take_succ_eq_append_getElem (by omega), List.map_append] at hnx
      exact hnx
end
theorem PureDomainsFailTogether.proof : DomainsFailTogether.Pure := by
  intro D R H O L A B p q ⟨⟨hD, _⟩, _⟩ _ _ ⟨hp, hq⟩
  refine Ev.rounds ?_
  unfold quietuslaw10_DomainsFailTogether.f
  refine Ev.known_ (chk_some D R H O) ?_
  have hno : Ev (fun k => quietuslaw10_DomainsFailTogether.j0 k L A B true D R H O p q) true := by
    refine Ev.step (fun k => by rw [quietuslaw10_DomainsFailTogether.j0]) ?_
    exact Ev.pos_ rfl (Ev.known_ sanity10 (Ev.now _))
  by_cases hc : chkD D R H O = 0
  · refine Ev.pos_ hc ?_
    by_cases hL : (L.length : Int) > 24
    · exact Ev.pos_ hL hno
    refine Ev.neg_ hL ?_
    by_cases hA : (A.length : Int) > 12
    · exact Ev.pos_ hA hno
    refine Ev.neg_ hA ?_
    by_cases hB : (B.length : Int) > 12
    · rw [decide_eq_true hB]
      exact hno
    rw [decide_eq_false hB]
    have ok := okD_of hc
    have hq' := u8_wf hq
    have hp' := u8_wf hp
    have hlv : 0 ≤ Int.tmod (wrap64 p) 4 ∧ Int.tmod (wrap64 p) 4 ≤ 3 := by
      rw [w64 (by omega) (by omega), Int.tmod_eq_emod_of_nonneg (by omega)]
      omega
    refine Ev.step (fun k => by rw [quietuslaw10_DomainsFailTogether.j0]) ?_
    generalize Int.tmod (wrap64 p) 4 = lv at hlv ⊢
    have lb : ∀ F : List Int, leftN D R H O lv L F < 4611686018427387904 := fun F => by
      have h1 := bitsN_lt L.length (isLeft D R H O lv L F)
      have h2 : (2 : Nat) ^ L.length ≤ 2 ^ 24 := Nat.pow_le_pow_right (by omega) (by omega)
      unfold leftN
      omega
    have tb : ∀ (F : List Int) (i : Nat), (leftN D R H O lv L F).testBit i = (decide (i < L.length) && isLeft D R H O lv L F i) := fun F i => bitsN_test _ _ i
    refine Ev.neg_ (by simp) (Ev.bind (left_ev D R H O lv L [] (by omega) (by simp)) (Ev.bind (left_ev D R H O lv L A (by omega) (by omega)) (Ev.known_ rfl (Ev.pos_ (by simp; omega) (Ev.known_ rfl (Ev.pos_ (by simp; omega) (Ev.bind (left_ev D R H O lv L _ (by omega) (by simp; omega)) ?_)))))))
    rw [List.nil_append]
    refine Ev.pos_ (bits_andNot _ _ (fun i => ?_)) (Ev.pos_ (bits_andNot _ _ (fun i => ?_)) (Ev.bind (left_ev D R H O lv L B (by omega) (by omega)) ?_))
    · rw [tb, tb]
      unfold isLeft
      simp
      intro a b c
      exact ⟨a, b⟩
    · rw [tb, tb]
      unfold isLeft
      simp only [List.any_append]
      simp
      intro a b c _
      exact ⟨a, b, c⟩
    · have he : leftN D R H O lv L (A ++ B) = leftN D R H O lv L A &&& leftN D R H O lv L B := by
        apply Nat.eq_of_testBit_eq
        intro i
        rw [Nat.testBit_and, tb, tb, tb]
        unfold isLeft
        rw [List.any_append]
        cases decide (i < L.length) <;> cases decide (0 ≤ ofN D R H O lv (rd L (i : Int))) <;> cases A.any (fun y => ofN D R H O lv (rd L (i : Int)) == y) <;> cases B.any (fun y => ofN D R H O lv (rd L (i : Int)) == y) <;> rfl
      rw [bits_and _ _ (lb A) (lb B), ← he]
      refine Ev.step (fun k => by rw [quietuslaw10_DomainsFailTogether.j1]) ?_
      refine Ev.neg_ (by simp) (Ev.known_ (size_some D R H O lv) ?_)
      have hs := sizeN_le ok lv
      by_cases hz : sizeN D R H O lv = 0
      · refine Ev.pos_ hz (Ev.known_ sanity10 (Ev.pos_ rfl (Ev.eq_ (Ev.now _) ?_)))
        have : leftN D R H O lv L [] = 0 := by
          apply Nat.eq_of_testBit_eq
          intro i
          rw [tb, Nat.zero_testBit]
          unfold isLeft
          have : ¬ 0 ≤ ofN D R H O lv (rd L (i : Int)) := by
            by_cases hv : 0 ≤ rd L (i : Int) ∧ rd L (i : Int) < D.length
            · have := at_in ok (lv := lv) (by omega) (by omega) hv
              omega
            · have : ofN D R H O lv (rd L (i : Int)) = -1 := by unfold ofN; exact if_neg (by omega)
              omega
          rw [decide_eq_false this]
          simp
        rw [this]
        rfl
      · refine Ev.neg_ hz ?_
        obtain ⟨S, hS⟩ := Int.eq_ofNat_of_zero_le hs.1
        have hk : 0 ≤ Int.tmod (wrap64 q) (sizeN D R H O lv) ∧ Int.tmod (wrap64 q) (sizeN D R H O lv) < sizeN D R H O lv := by
          rw [w64 (by omega) (by omega), Int.tmod_eq_emod_of_nonneg (by omega)]
          exact ⟨Int.emod_nonneg _ hz, Int.emod_lt_of_pos _ (by omega)⟩
        generalize Int.tmod (wrap64 q) (sizeN D R H O lv) = n at hk ⊢
        obtain ⟨m, rfl⟩ := Int.eq_ofNat_of_zero_le hk.1
        have hhl : (holdsN D R H O lv L S L.length).length = S := by unfold holdsN; simp
        refine Ev.bind (left_ev D R H O lv L [(m : Int)] (by omega) (by simp)) (Ev.bind (holds_ev D R H O ok lv hlv.1 hlv.2 L S hS.symm (by omega) (by omega)) (Ev.pos_ (by omega) (Ev.bind (count_ev L.length _ (by omega)) (Ev.bind (count_ev L.length _ (by omega)) (Ev.pos_ (by omega) (Ev.pos_ (by omega) ?_))))))
        have hpart : countN L.length (isLeft D R H O lv L []) = countN L.length (isLeft D R H O lv L [(m : Int)]) + countN L.length (fun i => ofN D R H O lv (rd L (i : Int)) == (m : Int)) := by
          apply countN_part
          intro i _
          unfold isLeft
          simp only [List.any_nil, Bool.not_false, Bool.and_true, List.any_cons, Bool.or_false]
          by_cases h1 : ofN D R H O lv (rd L (i : Int)) = (m : Int)
          · rw [beq_iff_eq.2 h1, decide_eq_true (by omega)]
            exact ⟨rfl, rfl⟩
          · rw [beq_eq_false_iff_ne.2 h1]
            cases decide (0 ≤ ofN D R H O lv (rd L (i : Int))) <;> exact ⟨rfl, rfl⟩
        have hcl := countN_le L.length (isLeft D R H O lv L [])
        rw [rd_nat _ m (by omega)]
        have hg : (holdsN D R H O lv L S L.length)[m]'(by omega) = (countN L.length (fun i => ofN D R H O lv (rd L (i : Int)) == (m : Int)) : Int) := by
          unfold holdsN
          simp
        rw [hg, w64 (by omega) (by omega)]
        refine Ev.step (fun k => by rw [quietuslaw10_DomainsFailTogether.j2]) ?_
        refine Ev.neg_ (by simp; omega) ?_
        by_cases hl0 : lv = 0
        · exact Ev.pos_ hl0 (Ev.known_ sanity10 (Ev.now _))
        · refine Ev.neg_ hl0 (Ev.known_ (members_some D R H O lv (m : Int) (by have := ok.d; omega)) ?_)
          exact fail_l0 ok L (by omega) lv (m : Int) (by omega) hlv.2 (by omega) _ 0 (Nat.zero_add _)
  · exact Ev.neg_ hc hno

end Go.Proofs.Yteknbadjfojmbaa.QA
