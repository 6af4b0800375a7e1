import Derived.Test.YtgfnllaajaoljaaQA5
import Derived.Test.YtgfnllaajaoljaaPureStr
namespace Go.Proofs.Ytgfnllaajaoljaa.QA
open Go.RowKit Go.Proofs.YtgfnllaajaoljaaW.PrintWords Go.Proofs.YtgfnllaajaoljaaW.PrintLast Go.Proofs.YtgfnllaajaoljaaW.PrintMore
attribute [local go_sem] max2_int min2_int max_two min_two max_three min_three max_four min_four
set_option linter.unusedVariables false
set_option linter.unusedSimpArgs false
/-! What the book of pads does, in plain Lean. -/
def chkN (a b : Int) (l : List ByteArray) : Int := if 0 ≤ a ∧ a < 12 ∧ 0 ≤ b ∧ b < 12 ∧ a ≠ b then (if 200 < l.length ∨ l.any pad_Check.long = true then 2 else 0) else 1
theorem chk_some (a b : Int) (l : List ByteArray) : pad_Check.f a b l = some (chkN a b l) := by
  unfold pad_Check.f chkN
  split
  · split <;> rfl
  · rfl
theorem rdOf_nat (l : List ByteArray) (i : Nat) (h : i < l.length) : rdOf ByteArray.empty l (i : Int) = l[i] := by
  unfold rdOf
  rw [Int.toNat_natCast, List.getD_eq_getElem?_getD, List.getElem?_eq_getElem h]
  rfl
theorem toL_inj {s t : ByteArray} (h : s.toList = t.toList) : s = t := by
  apply ByteArray.ext
  have := h
  rw [ByteArray.toList_eq, ByteArray.toList_eq] at this
  exact Array.toList_inj.1 this
theorem rChk_l (a b : Int) (l : List ByteArray) (hl : l.length ≤ 8796093022208) : ∀ (d i : Nat), i + d = l.length →
    Ev (fun k => quietusref25_Check.l0 k (i : Int) a b l) (if (l.drop i).any pad_Check.long = true then 2 else 0) := by
  intro d
  induction d with
  | zero =>
    intro i hi
    refine Ev.step (fun k => by rw [quietusref25_Check.l0]) ?_
    refine Ev.neg_ (by omega) (Ev.eq_ (Ev.now _) ?_)
    rw [List.drop_of_length_le (by omega)]
    rfl
  | succ d ih =>
    intro i hi
    refine Ev.step (fun k => by rw [quietusref25_Check.l0]) ?_
    refine Ev.pos_ (by omega) (Ev.pos_ (by omega) ?_)
    rw [rdOf_nat l i (by omega), List.drop_eq_getElem_cons (by omega : i < l.length), List.any_cons]
    by_cases hlong : 4096 < l[i].size
    · refine Ev.pos_ (by omega) (Ev.eq_ (Ev.now _) ?_)
      have : pad_Check.long l[i] = true := decide_eq_true hlong
      rw [this]
      rfl
    · have : pad_Check.long l[i] = false := decide_eq_false hlong
      rw [this, Bool.false_or]
      refine Ev.neg_ (by omega) ?_
      rw [w64 (by omega) (by omega)]
      exact ih (i + 1) (by omega)
theorem rChk_ev (a b : Int) (l : List ByteArray) (hl : l.length ≤ 8796093022208) : Ev (fun k => quietusref25_Check.f k a b l) (chkN a b l) := by
  have hbad : ¬ (0 ≤ a ∧ a < 12 ∧ 0 ≤ b ∧ b < 12 ∧ a ≠ b) → Ev (fun k => quietusref25_Check.j0 k true a b l) (chkN a b l) := by
    intro h
    refine Ev.step (fun k => by rw [quietusref25_Check.j0]) ?_
    refine Ev.pos_ rfl (Ev.eq_ (Ev.now _) ?_)
    unfold chkN
    rw [if_neg h]
  unfold quietusref25_Check.f
  by_cases h1 : a < 0
  · exact Ev.pos_ h1 (hbad (by omega))
  refine Ev.neg_ h1 ?_
  by_cases h2 : a ≥ 12
  · exact Ev.pos_ h2 (hbad (by omega))
  refine Ev.neg_ h2 ?_
  by_cases h3 : b < 0
  · exact Ev.pos_ h3 (hbad (by omega))
  refine Ev.neg_ h3 ?_
  by_cases h4 : b ≥ 12
  · exact Ev.pos_ h4 (hbad (by omega))
  refine Ev.neg_ h4 ?_
  by_cases h5 : a = b
  · rw [show (a == b) = true by simpa using h5]
    exact hbad (by omega)
  rw [show (a == b) = false by simpa using h5]
  refine Ev.step (fun k => by rw [quietusref25_Check.j0]) ?_
  refine Ev.neg_ (by simp) ?_
  have hu : chkN a b l = if 200 < l.length ∨ l.any pad_Check.long = true then 2 else 0 := by
    unfold chkN
    exact if_pos (by omega)
  rw [hu]
  by_cases h6 : 200 < l.length
  · exact Ev.pos_ (by omega) (Ev.eq_ (Ev.now _) (if_pos (Or.inl h6)).symm)
  · refine Ev.neg_ (by omega) (Ev.eq_ (rChk_l a b l hl l.length 0 (by omega)) ?_)
    rw [List.drop_zero]
    by_cases h7 : l.any pad_Check.long = true
    · rw [if_pos h7, if_pos (Or.inr h7)]
    · rw [if_neg h7, if_neg (by simp [h6, h7])]
theorem chk_ok {a b : Int} {l : List ByteArray} (h : chkN a b l = 0) : 0 ≤ a ∧ a < 12 ∧ 0 ≤ b ∧ b < 12 ∧ a ≠ b ∧ l.length ≤ 200 ∧ ∀ p ∈ l, p.size ≤ 4096 := by
  unfold chkN at h
  split at h
  · rename_i h1
    split at h
    · omega
    · rename_i h2
      refine ⟨h1.1, h1.2.1, h1.2.2.1, h1.2.2.2.1, h1.2.2.2.2, by omega, fun p hp => ?_⟩
      by_cases h3 : p.size ≤ 4096
      · exact h3
      · exact absurd (Or.inr (List.any_eq_true.2 ⟨p, hp, decide_eq_true (by omega)⟩)) h2
  · omega
/-! The same book. -/
theorem same_l (a b a' b' : Int) (l l' : List ByteArray) (hl : l.length ≤ 8796093022208) (he : l.length = l'.length) : ∀ (d i : Nat), i + d = l.length →
    Ev (fun k => quietusref25_Same.l0 k (i : Int) a b l a' b' l') (decide (l.drop i = l'.drop i)) := by
  intro d
  induction d with
  | zero =>
    intro i hi
    refine Ev.step (fun k => by rw [quietusref25_Same.l0]) ?_
    refine Ev.neg_ (by omega) (Ev.eq_ (Ev.now _) ?_)
    rw [List.drop_of_length_le (by omega), List.drop_of_length_le (by omega)]
    rfl
  | succ d ih =>
    intro i hi
    refine Ev.step (fun k => by rw [quietusref25_Same.l0]) ?_
    refine Ev.pos_ (by omega) (Ev.pos_ (by omega) (Ev.pos_ (by omega) ?_))
    rw [rdOf_nat l i (by omega), rdOf_nat l' i (by omega), List.drop_eq_getElem_cons (by omega : i < l.length), List.drop_eq_getElem_cons (by omega : i < l'.length)]
    by_cases h : l[i]'(by omega) = l'[i]'(by omega)
    · refine Ev.pos_ (by rw [h]) ?_
      rw [w64 (by omega) (by omega)]
      exact Ev.eq_ (ih (i + 1) (by omega)) (decide_eq_decide.2 ⟨fun e => by rw [h, e], fun e => (List.cons.inj e).2⟩)
    · exact Ev.neg_ (fun e => h (toL_inj e)) (Ev.eq_ (Ev.now _) (decide_eq_false (fun e => h (List.cons.inj e).1)).symm)
theorem same_ev (a b a' b' : Int) (l l' : List ByteArray) (hl : l.length ≤ 8796093022208) :
    Ev (fun k => quietusref25_Same.f k a b l a' b' l') (decide (a = a' ∧ b = b' ∧ l = l')) := by
  have hbad : ¬ (a = a' ∧ b = b' ∧ l = l') → Ev (fun k => quietusref25_Same.j0 k true a b l a' b' l') (decide (a = a' ∧ b = b' ∧ l = l')) := by
    intro h
    refine Ev.step (fun k => by rw [quietusref25_Same.j0]) ?_
    exact Ev.pos_ rfl (Ev.eq_ (Ev.now _) (decide_eq_false h).symm)
  unfold quietusref25_Same.f
  by_cases h1 : a = a'
  · refine Ev.pos_ h1 ?_
    by_cases h2 : b = b'
    · refine Ev.pos_ h2 ?_
      by_cases h3 : l.length = l'.length
      · rw [show ((l.length : Int) != (l'.length : Int)) = false by simp only [bne_eq_false_iff_eq]; omega]
        refine Ev.step (fun k => by rw [quietusref25_Same.j0]) ?_
        refine Ev.neg_ (by simp) (Ev.eq_ (same_l a b a' b' l l' hl h3 l.length 0 (by omega)) ?_)
        simp [h1, h2]
      · rw [show ((l.length : Int) != (l'.length : Int)) = true by simp; omega]
        exact hbad (fun e => h3 (by rw [e.2.2]))
    · exact Ev.neg_ h2 (hbad (fun e => h2 e.2.1))
  · exact Ev.neg_ h1 (hbad (fun e => h1 e.1))
theorem same_self (a b : Int) (l : List ByteArray) (hl : l.length ≤ 8796093022208) : Ev (fun k => quietusref25_Same.f k a b l a b l) true := Ev.eq_ (same_ev a b a b l l hl) (by simp)
/-! Spend. -/
def spendN (a b : Int) (l : List ByteArray) (n : Int) : Int × Int × List ByteArray × Int :=
  if chkN a b l = 0 then (if n < 0 ∨ n ≥ (l.length : Int) then (0, 0, [], 1) else (a, b, l.set n.toNat ⟨#[]⟩, 0)) else (0, 0, [], chkN a b l)
theorem spend_some (a b : Int) (l : List ByteArray) (n : Int) (hl : l.length * 16 ≤ 140737488351232) : pad_Spend.f a b l n = some (spendN a b l n) := by
  unfold pad_Spend.f spendN
  rw [chk_some, Option.bind_some]
  by_cases h : chkN a b l = 0
  · rw [if_pos h, if_pos h]
    by_cases h1 : n < 0
    · rw [if_pos h1, if_pos (Or.inl h1)]
    · rw [if_neg h1]
      by_cases h2 : n ≥ (l.length : Int)
      · rw [if_pos h2, if_pos (Or.inr h2)]
      · rw [if_neg h2, if_neg (by omega)]
        unfold slices_Clone_string_string.f
        rw [if_pos (by omega), Option.bind_some, if_pos (by omega), if_pos (by omega)]
  · rw [if_neg h, if_neg h]
theorem spent_l (a b : Int) (l : List ByteArray) (n : Nat) (hn : n < l.length) (hl : l.length * 16 ≤ 140737488351232) : ∀ (d i : Nat), i + d = l.length →
    Ev (fun k => quietusref25_spent.l0 k (n : Int) (i : Int) a b l a b ((l.set n ⟨#[]⟩).take i)) (a, b, l.set n ⟨#[]⟩) := by
  intro d
  induction d with
  | zero =>
    intro i hi
    refine Ev.step (fun k => by rw [quietusref25_spent.l0]) ?_
    refine Ev.neg_ (by omega) (Ev.eq_ (Ev.now _) ?_)
    rw [List.take_of_length_le (by simp; omega)]
  | succ d ih =>
    intro i hi
    refine Ev.step (fun k => by rw [quietusref25_spent.l0]) ?_
    refine Ev.pos_ (by omega) ?_
    have hi' : i < (l.set n ⟨#[]⟩).length := by simp; omega
    have hnext := ih (i + 1) (by omega)
    rw [List.take_succ_eq_append_getElem hi'] at hnext
    by_cases h : i = n
    · refine Ev.pos_ (by omega) (Ev.pos_ (by simp; omega) ?_)
      rw [w64 (by omega) (by omega)]
      have e : (l.set n ⟨#[]⟩)[i] = (⟨#[]⟩ : ByteArray) := by subst h; simp
      rw [e] at hnext
      exact hnext
    · refine Ev.neg_ (by omega) (Ev.pos_ (by omega) (Ev.pos_ (by simp; omega) ?_))
      rw [w64 (by omega) (by omega), rdOf_nat l i (by omega)]
      have e : (l.set n ⟨#[]⟩)[i] = l[i]'(by omega) := by rw [List.getElem_set_ne (by omega)]
      rw [e] at hnext
      exact hnext
theorem spent_ev (a b : Int) (l : List ByteArray) (n : Int) (h0 : 0 ≤ n) (hn : n < (l.length : Int)) (hl : l.length * 16 ≤ 140737488351232) :
    Ev (fun k => quietusref25_spent.f k a b l n) (a, b, l.set n.toNat ⟨#[]⟩) := by
  obtain ⟨m, rfl⟩ : ∃ m : Nat, n = (m : Int) := ⟨n.toNat, by omega⟩
  rw [Int.toNat_natCast]
  exact spent_l a b l m (by omega) hl l.length 0 (by omega)
theorem rSpend_ev (a b : Int) (l : List ByteArray) (n : Int) (hl : l.length * 16 ≤ 140737488351232) :
    Ev (fun k => quietusref25_Spend.f k a b l n) ((⟨#[]⟩ : ByteArray), spendN a b l n) := by
  unfold quietusref25_Spend.f spendN
  refine Ev.bind (rChk_ev a b l (by omega)) ?_
  by_cases h : chkN a b l = 0
  · rw [if_pos h]
    refine Ev.pos_ h ?_
    by_cases h1 : n < 0
    · rw [if_pos (Or.inl h1)]
      exact Ev.pos_ h1 (Ev.now _)
    · refine Ev.neg_ h1 ?_
      by_cases h2 : n ≥ (l.length : Int)
      · rw [if_pos (Or.inr h2)]
        exact Ev.pos_ h2 (Ev.now _)
      · rw [if_neg (by omega)]
        refine Ev.neg_ h2 (Ev.bind (spent_ev a b l n (by omega) (by omega) hl) (Ev.now _))
  · rw [if_neg h]
    exact Ev.neg_ h (Ev.now _)
/-! Use. -/
def padAt (l : List ByteArray) (n : Int) : ByteArray := rdOf ByteArray.empty l n
def failU (e : Int) : ByteArray × Int × Int × List ByteArray × Int := ((⟨#[]⟩ : ByteArray), 0, 0, [], e)
def useJ (a b : Int) (l : List ByteArray) (h n : Int) (s : ByteArray) : ByteArray × Int × Int × List ByteArray × Int :=
  if ((h == a) != ((Int.tmod n 2) == 0)) = true then failU 4 else
  if (padAt l n).toList = ([] : List UInt8) then failU 15 else
  if (s.size : Int) > ((padAt l n).size : Int) then failU 2 else
  (sumB s ((padAt l n).extract 0 s.size), a, b, l.set n.toNat ⟨#[]⟩, 0)
def useN (a b : Int) (l : List ByteArray) (h n : Int) (s : ByteArray) : ByteArray × Int × Int × List ByteArray × Int :=
  if chkN a b l = 0 then (if (h = a ∨ h = b) ∧ 0 ≤ n ∧ n < (l.length : Int) then useJ a b l h n s else failU 1) else failU (chkN a b l)
theorem use1_some (e : Int) : pad_Use_1.f e = some (failU e) := rfl
theorem ext_size (p : ByteArray) (n : Nat) (h : n ≤ p.size) : (p.extract 0 n).size = n := by simp; omega
theorem either_ev (h a b : Int) : Ev (fun k => pad_either.f k h [a, b]) (decide (h = a ∨ h = b)) := by
  unfold pad_either.f slices_Contains_int_int.f slices_Index_int_int.f
  have e0 : rd [a, b] 0 = a := rfl
  have e1 : rd [a, b] 1 = b := rfl
  refine Ev.bind (a := decide (h = a ∨ h = b)) ?_ (Ev.now _)
  by_cases h1 : h = a
  · refine Ev.bind (a := 0) ?_ (Ev.eq_ (Ev.now _) (by simp [h1]))
    refine Ev.step (fun k => by rw [slices_Index_int_int.l0]) ?_
    refine Ev.pos_ (by simp) (Ev.pos_ (by simp) (Ev.pos_ (by simp) ?_))
    rw [e0]
    exact Ev.pos_ (by simp [h1]) (Ev.now _)
  · by_cases h2 : h = b
    · refine Ev.bind (a := 1) ?_ (Ev.eq_ (Ev.now _) (by simp [h2]))
      refine Ev.step (fun k => by rw [slices_Index_int_int.l0]) ?_
      refine Ev.pos_ (by simp) (Ev.pos_ (by simp) (Ev.pos_ (by simp) ?_))
      rw [e0]
      refine Ev.neg_ h1 ?_
      rw [show wrap64 (0 + 1) = 1 from (w64 (n := 0 + 1) (by omega) (by omega)).trans rfl]
      refine Ev.step (fun k => by rw [slices_Index_int_int.l0]) ?_
      refine Ev.pos_ (by simp) (Ev.pos_ (by simp) (Ev.pos_ (by simp) ?_))
      rw [e1]
      exact Ev.pos_ h2 (Ev.now _)
    · refine Ev.bind (a := -1) ?_ (Ev.eq_ (Ev.now _) (by simp [h1, h2]))
      refine Ev.step (fun k => by rw [slices_Index_int_int.l0]) ?_
      refine Ev.pos_ (by simp) (Ev.pos_ (by simp) (Ev.pos_ (by simp) ?_))
      rw [e0]
      refine Ev.neg_ h1 ?_
      rw [show wrap64 (0 + 1) = 1 from (w64 (n := 0 + 1) (by omega) (by omega)).trans rfl]
      refine Ev.step (fun k => by rw [slices_Index_int_int.l0]) ?_
      refine Ev.pos_ (by simp) (Ev.pos_ (by simp) (Ev.pos_ (by simp) ?_))
      rw [e1]
      refine Ev.neg_ h2 ?_
      rw [show wrap64 (1 + 1) = 2 from (w64 (n := 1 + 1) (by omega) (by omega)).trans rfl]
      refine Ev.step (fun k => by rw [slices_Index_int_int.l0]) ?_
      exact Ev.neg_ (by simp) (Ev.now _)
theorem use_j_bad (a b : Int) (l : List ByteArray) (h n : Int) (s : ByteArray) : Ev (fun k => pad_Use.j0 k h n s true a b l) (failU 1) := by
  refine Ev.step (fun k => by rw [pad_Use.j0]) ?_
  exact Ev.pos_ rfl (Ev.known_ (use1_some 1) (Ev.now _))
theorem use_j_ok (a b : Int) (l : List ByteArray) (h n : Int) (s : ByteArray) (hc : chkN a b l = 0) (h0 : 0 ≤ n) (h1 : n < (l.length : Int)) (hs : s.size ≤ 140737488351232) :
    Ev (fun k => pad_Use.j0 k h n s false a b l) (useJ a b l h n s) := by
  obtain ⟨_, _, _, _, _, hl, hp⟩ := chk_ok hc
  refine Ev.step (fun k => by rw [pad_Use.j0]) ?_
  refine Ev.neg_ (by simp) ?_
  unfold useJ padAt
  by_cases c1 : ((h == a) != ((Int.tmod n 2) == 0)) = true
  · exact Ev.eq_ (Ev.pos_ c1 (Ev.known_ (use1_some 4) (Ev.now _))) (if_pos c1).symm
  refine Ev.eq_ (r := _) (Ev.neg_ c1 (Ev.pos_ h0 (Ev.pos_ h1 ?_))) (if_neg c1).symm
  by_cases c2 : (rdOf ByteArray.empty l n).toList = ([] : List UInt8)
  · exact Ev.eq_ (Ev.pos_ c2 (Ev.known_ (use1_some 15) (Ev.now _))) (if_pos c2).symm
  refine Ev.eq_ (r := _) (Ev.neg_ c2 ?_) (if_neg c2).symm
  by_cases c3 : (s.size : Int) > ((rdOf ByteArray.empty l n).size : Int)
  · exact Ev.eq_ (Ev.pos_ c3 (Ev.known_ (use1_some 2) (Ev.now _))) (if_pos c3).symm
  refine Ev.eq_ (r := _) (Ev.neg_ c3 (Ev.known_ (spend_some a b l n (by omega)) (Ev.pos_ (by omega) (Ev.pos_ (by omega) ?_)))) (if_neg c3).symm
  rw [Int.toNat_natCast]
  refine Ev.known_ (sum_some _ _ hs (by rw [ext_size _ _ (by omega)]; exact hs)) ?_
  unfold spendN
  rw [if_pos hc, if_neg (by omega)]
  exact Ev.now _
theorem use_ev (a b : Int) (l : List ByteArray) (h n : Int) (s : ByteArray) (hs : s.size ≤ 140737488351232) : Ev (fun k => pad_Use.f k a b l h n s) (useN a b l h n s) := by
  unfold pad_Use.f useN
  refine Ev.known_ (chk_some a b l) ?_
  by_cases hc : chkN a b l = 0
  · rw [if_pos hc]
    refine Ev.pos_ hc (Ev.bind (either_ev h a b) ?_)
    by_cases h1 : h = a ∨ h = b
    · refine Ev.pos_ (decide_eq_true h1) ?_
      by_cases h2 : n < 0
      · rw [if_neg (by omega)]
        exact Ev.pos_ h2 (use_j_bad a b l h n s)
      · refine Ev.neg_ h2 ?_
        by_cases h3 : n ≥ (l.length : Int)
        · rw [if_neg (by omega), decide_eq_true h3]
          exact use_j_bad a b l h n s
        · rw [if_pos ⟨h1, by omega, by omega⟩, decide_eq_false h3]
          exact use_j_ok a b l h n s hc (by omega) (by omega) hs
    · rw [if_neg (by simp only [h1, false_and, not_false_iff])]
      exact Ev.neg_ (by simpa using h1) (use_j_bad a b l h n s)
  · rw [if_neg hc]
    exact Ev.neg_ hc (Ev.known_ (use1_some _) (Ev.now _))
theorem rUse_j_bad (a b : Int) (l : List ByteArray) (h n : Int) (s : ByteArray) : Ev (fun k => quietusref25_Use.j0 k h n s true a b l) (failU 1) := by
  refine Ev.step (fun k => by rw [quietusref25_Use.j0]) ?_
  exact Ev.pos_ rfl (Ev.now _)
theorem rUse_j_ok (a b : Int) (l : List ByteArray) (h n : Int) (s : ByteArray) (hc : chkN a b l = 0) (h0 : 0 ≤ n) (h1 : n < (l.length : Int)) (hs : s.size ≤ 140737488351232) :
    Ev (fun k => quietusref25_Use.j0 k h n s false a b l) (useJ a b l h n s) := by
  obtain ⟨_, _, _, _, _, hl, hp⟩ := chk_ok hc
  refine Ev.step (fun k => by rw [quietusref25_Use.j0]) ?_
  refine Ev.neg_ (by simp) ?_
  unfold useJ padAt
  by_cases c1 : ((h == a) != ((Int.tmod n 2) == 0)) = true
  · exact Ev.eq_ (Ev.pos_ c1 (Ev.now _)) (if_pos c1).symm
  refine Ev.eq_ (r := _) (Ev.neg_ c1 (Ev.pos_ h0 (Ev.pos_ h1 ?_))) (if_neg c1).symm
  by_cases c2 : (rdOf ByteArray.empty l n).toList = ([] : List UInt8)
  · exact Ev.eq_ (Ev.pos_ c2 (Ev.now _)) (if_pos c2).symm
  refine Ev.eq_ (r := _) (Ev.neg_ c2 ?_) (if_neg c2).symm
  by_cases c3 : (s.size : Int) > ((rdOf ByteArray.empty l n).size : Int)
  · exact Ev.eq_ (Ev.pos_ c3 (Ev.now _)) (if_pos c3).symm
  refine Ev.eq_ (r := _) (Ev.neg_ c3 (Ev.pos_ (by omega) (Ev.pos_ (by omega) ?_))) (if_neg c3).symm
  rw [Int.toNat_natCast]
  exact Ev.bind (rSum_ev _ _ hs (by rw [ext_size _ _ (by omega)]; exact hs)) (Ev.bind (spent_ev a b l n h0 h1 (by omega)) (Ev.now _))
theorem rUse_ev (a b : Int) (l : List ByteArray) (h n : Int) (s : ByteArray) (hs : s.size ≤ 140737488351232) (hl : l.length * 16 ≤ 140737488351232) : Ev (fun k => quietusref25_Use.f k a b l h n s) (useN a b l h n s) := by
  unfold quietusref25_Use.f useN
  refine Ev.bind (rChk_ev a b l (by omega)) ?_
  by_cases hc : chkN a b l = 0
  · rw [if_pos hc]
    refine Ev.pos_ hc ?_
    have hj : ∀ (h1 : h = a ∨ h = b), Ev (fun k => if n < 0 then quietusref25_Use.j0 k h n s true a b l else quietusref25_Use.j0 k h n s (decide (n ≥ (l.length : Int))) a b l) (if (h = a ∨ h = b) ∧ 0 ≤ n ∧ n < (l.length : Int) then useJ a b l h n s else failU 1) := by
      intro h1
      by_cases h2 : n < 0
      · rw [if_neg (by omega)]
        exact Ev.pos_ h2 (rUse_j_bad a b l h n s)
      · refine Ev.neg_ h2 ?_
        by_cases h3 : n ≥ (l.length : Int)
        · rw [if_neg (by omega), decide_eq_true h3]
          exact rUse_j_bad a b l h n s
        · rw [if_pos ⟨h1, by omega, by omega⟩, decide_eq_false h3]
          exact rUse_j_ok a b l h n s hc (by omega) (by omega) hs
    by_cases h1 : h = a
    · exact Ev.pos_ h1 (hj (Or.inl h1))
    · refine Ev.neg_ h1 ?_
      by_cases h2 : h = b
      · exact Ev.pos_ h2 (hj (Or.inr h2))
      · rw [if_neg (by simp only [h1, h2, false_or, false_and, not_false_iff])]
        exact Ev.neg_ h2 (rUse_j_bad a b l h n s)
  · rw [if_neg hc]
    exact Ev.neg_ hc (Ev.now _)
theorem useN_len (a b : Int) (l : List ByteArray) (h n : Int) (s : ByteArray) : (useN a b l h n s).2.2.2.1.length ≤ l.length := by
  unfold useN useJ failU
  repeat' split
  all_goals simp
theorem spendN_len (a b : Int) (l : List ByteArray) (n : Int) : (spendN a b l n).2.2.1.length ≤ l.length := by
  unfold spendN
  repeat' split
  all_goals simp
theorem cover_some (s p : ByteArray) (hs : s.size ≤ 140737488351232) : pad_Cover.f s p = some (if s.size = p.size then (sumB s p, 0) else (⟨#[]⟩, 1)) := by
  unfold pad_Cover.f
  by_cases h : s.size = p.size
  · rw [if_pos (by omega), if_pos h, sum_some s p hs (by omega)]
    rfl
  · rw [if_neg (by omega), if_neg h]

end Go.Proofs.Ytgfnllaajaoljaa.QA
