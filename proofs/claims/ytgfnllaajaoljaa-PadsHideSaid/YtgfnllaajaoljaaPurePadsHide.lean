/- Proved here: the pure statement of the law PadsHide (QA.PadsHide.Pure): what the Go function computes, told as a Lean function, is true for every input in the stated bounds. -/
import Derived.Test.YtgfnllaajaoljaaSPadsHide
import Derived.Test.YtgfnllaajaoljaaPureAgree
namespace Go.Proofs.Ytgfnllaajaoljaa.QA
open Go.RowKit Go.Proofs.YtgfnllaajaoljaaW.PrintWords Go.Proofs.YtgfnllaajaoljaaW.PrintLast Go.Proofs.YtgfnllaajaoljaaW.PrintMore
attribute [local go_sem] max2_int min2_int max_two min_two max_three min_three max_four min_four
set_option linter.unusedVariables false
set_option linter.unusedSimpArgs false
theorem free_walk (F : Nat → List Nat) : ∀ (d i : Nat) (n : Int), (∀ j, i ≤ j → j < i + d → ∃ w : Nat, stepN (-1) (F j) = some (w : Int)) → walkN F (List.replicate d (-1)) i n = (n, true)
  | 0, _, _, _ => rfl
  | d + 1, i, n, h => by
    obtain ⟨w, hw⟩ := h i (by omega) (by omega)
    rw [List.replicate_succ]
    unfold walkN
    rw [if_neg (by omega), hw]
    show walkN F (List.replicate d (-1)) (i + 1) (if (w : Int) < 0 then n + 1 else n) = _
    rw [if_neg (by omega)]
    exact free_walk F d (i + 1) n (fun j h1 h2 => h j (by omega) (by omega))
theorem key_walk (F : Nat → List Nat) (G : Nat → Int) : ∀ (d i : Nat) (n : Int), (∀ j, i ≤ j → j < i + d → 0 ≤ G j ∧ G j ≤ 255 ∧ stepN (G j) (F j) = some (G j)) → walkN F ((List.range' i d).map G) i n = (n, true)
  | 0, _, _, _ => rfl
  | d + 1, i, n, h => by
    obtain ⟨h0, h1, hw⟩ := h i (by omega) (by omega)
    rw [List.range'_succ, List.map_cons]
    unfold walkN
    rw [if_neg (by omega), hw]
    show walkN F ((List.range' (i + 1) d).map G) (i + 1) (if G i < 0 then n + 1 else n) = _
    rw [if_neg (by omega)]
    exact key_walk F G d (i + 1) n (fun j h1 h2 => h j (by omega) (by omega))
theorem two_walk (F : Nat → List Nat) (A B : Nat → Nat) (hF : ∀ j, F j = [A j, B j]) : ∀ (d i : Nat), (∃ b, walkN F (List.replicate d (-1)) i 0 = (0, b) ∧ (b = true ↔ ∀ j, i ≤ j → j < i + d → A j = B j))
  | 0, i => ⟨true, rfl, by simp; omega⟩
  | d + 1, i => by
    rw [List.replicate_succ]
    unfold walkN
    rw [if_neg (by omega), hF i, stepN_cons, if_neg (by omega), stepN_cons, if_pos (by omega)]
    by_cases h : A i = B i
    · rw [if_pos (by omega), stepN_nil]
      show ∃ b, walkN F (List.replicate d (-1)) (i + 1) (if ((B i : Nat) : Int) < 0 then 0 + 1 else 0) = (0, b) ∧ _
      rw [if_neg (by omega)]
      obtain ⟨b, h1, h2⟩ := two_walk F A B hF d (i + 1)
      refine ⟨b, h1, h2.trans ⟨fun hh j a c => ?_, fun hh j a c => hh j (by omega) (by omega)⟩⟩
      by_cases e : j = i
      · subst e
        exact h
      · exact hh j (by omega) (by omega)
    · rw [if_neg (by omega)]
      exact ⟨false, rfl, by simp; exact ⟨i, by omega, by omega, h⟩⟩
theorem xor_back (a b : Nat) : b ^^^ (a ^^^ b) = a := by rw [Nat.xor_comm a b, ← Nat.xor_assoc, Nat.xor_self, Nat.zero_xor]
theorem hide_end (c a b : ByteArray) (hn : c.size ≤ 100) (ha : a.size = c.size) (hb : b.size = c.size) :
    Ev (fun k => quietuslaw25_PadsHide.l0 k c a b (List.replicate c.size (-1)) ((List.range' 0 c.size).map fun j => ((byt (sumB c a) j : Nat) : Int)) (sumB c a) (c.size : Int) (c.size : Int)) true := by
  have hs1 : c.size ≤ 140737488351232 := by omega
  have hs2 : a.size ≤ 140737488351232 := by omega
  have hs3 : b.size ≤ 140737488351232 := by omega
  have hsz : (sumB c a).size = c.size := by rw [sumB_size]; omega
  have one : ∀ (x : ByteArray) (i : Nat), zf [c] [x] i = [byt c i ^^^ byt x i] := fun _ _ => rfl
  have two : ∀ (i : Nat), zf [c, b] [a, c] i = [byt c i ^^^ byt a i, byt b i ^^^ byt c i] := fun _ => rfl
  have ok1 : ∀ (x : ByteArray), x.size = c.size → ∀ kn : List Int, kn.length = c.size → lenOK [c] [x] kn.length 0 := by
    intro x hx kn hk j _ h h'
    have : j = 0 := by simp at h; omega
    subst this
    exact ⟨hk.symm, by rw [hk]; exact hx⟩
  have free : ∀ (x : ByteArray), x.size = c.size → agreeN [c] [x] (List.replicate c.size (-1)) = (0, true) := by
    intro x hx
    unfold agreeN
    rw [if_pos (show [c].length = [x].length from rfl), if_pos (ok1 x hx _ (by simp))]
    exact free_walk _ _ _ _ (fun j _ _ => ⟨byt c j ^^^ byt x j, by rw [one, stepN_cons, if_neg (by omega), stepN_nil]⟩)
  have key : agreeN [c] [a] ((List.range' 0 c.size).map fun j => ((byt (sumB c a) j : Nat) : Int)) = (0, true) := by
    unfold agreeN
    rw [if_pos (show [c].length = [a].length from rfl), if_pos (ok1 a ha _ (by simp))]
    refine key_walk _ _ _ _ _ (fun j _ _ => ⟨by omega, by have := byt_lt (sumB c a) j; omega, ?_⟩)
    rw [one, stepN_cons, if_pos (by omega), byt_sumB, if_pos rfl, stepN_nil]
  have both : ∃ d, agreeN [c, b] [a, c] (List.replicate c.size (-1)) = (0, d) ∧ (d = true ↔ sumB c b = sumB a c) := by
    unfold agreeN
    have hok : lenOK [c, b] [a, c] (List.replicate c.size (-1 : Int)).length 0 := by
      intro j _ h h'
      have : j = 0 ∨ j = 1 := by simp at h; omega
      rcases this with rfl | rfl
      · exact ⟨by simp, by simpa using ha⟩
      · exact ⟨by simpa using hb, by simp⟩
    rw [if_pos (show [c, b].length = [a, c].length from rfl), if_pos hok]
    obtain ⟨d, h1, h2⟩ := two_walk (zf [c, b] [a, c]) (fun i => byt c i ^^^ byt a i) (fun i => byt b i ^^^ byt c i) two c.size 0
    refine ⟨d, h1, h2.trans ⟨fun h => ?_, fun h j _ hj => ?_⟩⟩
    · refine str_ext (by rw [sumB_size, sumB_size]; omega) (fun k hk => ?_)
      rw [sumB_size] at hk
      rw [byt_sumB, byt_sumB]
      have e : byt c k ^^^ byt a k = byt b k ^^^ byt c k := h k (by omega) (by omega)
      rw [Nat.xor_comm (byt c k) (byt b k), ← e, Nat.xor_comm]
    · have e := congrArg (fun s => byt s j) h
      simp only [byt_sumB] at e
      show byt c j ^^^ byt a j = byt b j ^^^ byt c j
      rw [Nat.xor_comm (byt b j) (byt c j), e, Nat.xor_comm]
  obtain ⟨d, hd, hiff⟩ := both
  refine Ev.step (fun k => by rw [quietuslaw25_PadsHide.l0]) ?_
  refine Ev.neg_ (by omega) ?_
  refine Ev.bind (agree_ev [c] [a] _ (by simp; omega) (by simp)) ?_
  refine Ev.bind (agree_ev [c] [b] _ (by simp; omega) (by simp)) ?_
  refine Ev.bind (agree_ev [c] [a] _ (by simp; omega) (by simp)) ?_
  refine Ev.known_ (cover_some a (sumB c a) hs2) ?_
  refine Ev.bind (agree_ev [c, b] [a, c] _ (by simp; omega) (by simp)) ?_
  refine Ev.known_ (sum_some c b hs1 hs3) (Ev.known_ (sum_some a c hs2 hs1) (Ev.bind sanity25_ev ?_))
  rw [free a ha, free b hb, key, hd, if_pos (by omega : a.size = (sumB c a).size)]
  refine Ev.pos_ rfl (Ev.pos_ rfl (Ev.pos_ rfl (Ev.pos_ rfl (Ev.pos_ rfl (Ev.pos_ rfl (Ev.pos_ rfl (Ev.pos_ rfl (Ev.pos_ ?_ (Ev.pos_ rfl (Ev.eq_ (Ev.now _) ?_))))))))))
  · show (sumB a (sumB c a)).toList = c.toList
    congr 1
    refine str_ext (by rw [sumB_size, sumB_size]; omega) (fun k _ => ?_)
    rw [byt_sumB, byt_sumB, xor_back]
  · by_cases e : sumB c b = sumB a c
    · rw [hiff.2 e, e]
      simp
    · have e1 : d = false := by
        cases d
        · rfl
        · exact absurd (hiff.1 rfl) e
      have e2 : ((sumB c b).toList == (sumB a c).toList) = false := beq_eq_false_iff_ne.2 (fun h => e (toL_inj h))
      rw [e1, e2]
      rfl
theorem hide_l (c a b : ByteArray) (hn : c.size ≤ 100) (ha : a.size = c.size) (hb : b.size = c.size) : ∀ (d i : Nat), i + d = c.size →
    Ev (fun k => quietuslaw25_PadsHide.l0 k c a b (List.replicate i (-1) ++ List.replicate d 0) (((List.range' 0 i).map fun j => ((byt (sumB c a) j : Nat) : Int)) ++ List.replicate d 0) (sumB c a) (c.size : Int) (i : Int)) true := by
  intro d
  have hsz : (sumB c a).size = c.size := by rw [sumB_size]; omega
  induction d with
  | zero =>
    intro i hi
    obtain rfl : i = c.size := by omega
    rw [List.replicate_zero, List.append_nil, List.append_nil]
    exact hide_end c a b hn ha hb
  | succ d ih =>
    intro i hi
    refine Ev.step (fun k => by rw [quietuslaw25_PadsHide.l0]) ?_
    refine Ev.pos_ (by omega) (Ev.pos_ (by omega) (Ev.pos_ (by omega) (Ev.pos_ (by simp; omega) (Ev.pos_ (by simp; omega) ?_))))
    have b1 := byt_lt (sumB c a) i
    rw [byt_bt, w64 (n := ((byt (sumB c a) i : Nat) : Int)) (by omega) (by omega), w64 (by omega) (by omega), Int.toNat_natCast]
    refine Ev.congr (fun k => ?_) (ih (i + 1) (by omega))
    congr 1
    · rw [List.set_append_right _ _ (by simp), List.replicate_succ, List.length_replicate, Nat.sub_self, List.set_cons_zero, List.replicate_succ' (n := i), List.append_assoc]
      rfl
    · rw [List.set_append_right _ _ (by simp), List.replicate_succ, List.length_map, List.length_range', Nat.sub_self, List.set_cons_zero, List.range'_concat, List.map_append, List.append_assoc]
      simp
theorem PurePadsHide.proof : PadsHide.Pure := by
  intro c a b hc ha hb
  refine Ev.rounds ?_
  have hbad : Ev (fun k => quietuslaw25_PadsHide.j0 k c a b true) true := by
    refine Ev.step (fun k => by rw [quietuslaw25_PadsHide.j0]) ?_
    exact Ev.pos_ rfl (Ev.bind sanity25_ev (Ev.now _))
  unfold quietuslaw25_PadsHide.f
  by_cases h1 : (c.size : Int) > 100
  · exact Ev.pos_ h1 hbad
  refine Ev.neg_ h1 ?_
  by_cases h2 : (a.size : Int) = (c.size : Int)
  · refine Ev.pos_ h2 ?_
    by_cases h3 : (b.size : Int) = (c.size : Int)
    · rw [show ((b.size : Int) != (c.size : Int)) = false by simp only [bne_eq_false_iff_eq]; exact h3]
      refine Ev.step (fun k => by rw [quietuslaw25_PadsHide.j0]) ?_
      have hsz : (sumB c a).size = c.size := by rw [sumB_size]; omega
      refine Ev.neg_ (by simp) (Ev.pos_ (by omega) (Ev.pos_ (by rw [Int.toNat_natCast]; omega) ?_))
      refine Ev.known_ rfl (Ev.known_ (sum_some c a hc ha) (Ev.pos_ (by omega) ?_))
      rw [Int.toNat_natCast, List.length_replicate]
      exact hide_l c a b (by omega) (by omega) (by omega) c.size 0 (by omega)
    · rw [show ((b.size : Int) != (c.size : Int)) = true by simp only [bne_iff_ne]; exact h3]
      exact hbad
  · exact Ev.neg_ h2 hbad

end Go.Proofs.Ytgfnllaajaoljaa.QA
