/- Proved here: the pure statement of the law PadsAreForgotten (QA.PadsAreForgotten.Pure): what the Go function computes, told as a Lean function, is true for every input in the stated bounds. -/
import Derived.Test.YtgfnllaajaoljaaSPadsAreForgotten
import Derived.Test.YtgfnllaajaoljaaPurePad
namespace Go.Proofs.Ytgfnllaajaoljaa.QA
open Go.RowKit Go.Proofs.YtgfnllaajaoljaaW.PrintWords Go.Proofs.YtgfnllaajaoljaaW.PrintLast Go.Proofs.YtgfnllaajaoljaaW.PrintMore
attribute [local go_sem] max2_int min2_int max_two min_two max_three min_three max_four min_four
set_option linter.unusedVariables false
set_option linter.unusedSimpArgs false
theorem sanity25_ev : Ev (fun k => quietuslaw25_sanity.f k) true := Ev.of (fun k => quietuslaw25_sanity.mono k) (k := 300) (by kernel_rfl)
theorem byt_ext (s : ByteArray) (n k : Nat) (hn : n ≤ s.size) (hk : k < n) : byt (s.extract 0 n) k = byt s k := by
  rw [byt_in _ _ (by rw [ext_size _ _ hn]; exact hk), byt_in _ _ (by omega), ByteArray.getElem_extract]
  congr 1
  simp
theorem forgot_sum (s p q : ByteArray) (hp : s.size ≤ p.size) (hq : s.size ≤ q.size) : sumB (sumB s (p.extract 0 s.size)) (sumB s (q.extract 0 s.size)) = sumB (p.extract 0 s.size) (q.extract 0 s.size) := by
  have h1 := ext_size p s.size hp
  have h2 := ext_size q s.size hq
  refine str_ext (by rw [sumB_size, sumB_size, sumB_size, sumB_size]; omega) (fun k hk => ?_)
  rw [byt_sumB, byt_sumB, byt_sumB, byt_sumB]
  generalize byt s k = x
  generalize byt (p.extract 0 s.size) k = y
  generalize byt (q.extract 0 s.size) k = z
  rw [Nat.xor_assoc, ← Nat.xor_assoc y x z, Nat.xor_comm y x, Nat.xor_assoc x y z, ← Nat.xor_assoc x x, Nat.xor_self, Nat.zero_xor]
theorem chk_set (a b : Int) (l : List ByteArray) (n : Nat) (o : ByteArray) (h : chkN a b l = 0) (ho : o.size ≤ 4096) : chkN a b (l.set n o) = 0 := by
  obtain ⟨h1, h2, h3, h4, h5, h6, h7⟩ := chk_ok h
  unfold chkN
  rw [if_pos ⟨h1, h2, h3, h4, h5⟩, if_neg]
  rintro (hh | hh)
  · rw [List.length_set] at hh
    omega
  · obtain ⟨x, hx, hlong⟩ := List.any_eq_true.1 hh
    have hsz : 4096 < x.size := of_decide_eq_true hlong
    rcases List.mem_or_eq_of_mem_set hx with hx | rfl
    · have := h7 x hx
      omega
    · omega
theorem use_good (a b : Int) (l : List ByteArray) (n : Nat) (s p : ByteArray) (hc : chkN a b l = 0) (hn : n < l.length) (hp : rdOf ByteArray.empty l (n : Int) = p) (hne : p.toList ≠ []) (hs : s.size ≤ p.size) :
    useN a b l (if Int.tmod (n : Int) 2 = 1 then b else a) (n : Int) s = (sumB s (p.extract 0 s.size), a, b, l.set n ⟨#[]⟩, 0) := by
  obtain ⟨h1, h2, h3, h4, h5, h6, h7⟩ := chk_ok hc
  have ht : Int.tmod (n : Int) 2 = ((n % 2 : Nat) : Int) := rfl
  unfold useN
  rw [if_pos hc, if_pos ⟨by split <;> simp, by omega, by omega⟩]
  unfold useJ padAt
  rw [hp, if_neg, if_neg hne, if_neg (by omega), Int.toNat_natCast]
  rw [ht]
  by_cases e : n % 2 = 1
  · rw [e, if_pos (show ((1 : Nat) : Int) = 1 from rfl)]
    have : (b == a) = false := beq_eq_false_iff_ne.2 (fun h => h5 h.symm)
    rw [this]
    simp
  · have e0 : n % 2 = 0 := by omega
    rw [e0, if_neg (by decide)]
    simp
theorem forgot_j3 (l : List ByteArray) (a b : Int) (n : Nat) (o s p : ByteArray) (hn : n < l.length) (hp : rdOf ByteArray.empty l (n : Int) = p) (hs : s.size ≤ p.size) (ho : s.size ≤ o.size) (hs1 : s.size ≤ 140737488351232) :
    Ev (fun k => quietuslaw25_PadsAreForgotten.j3 k o s (n : Int) (sumB s (p.extract 0 s.size)) (sumB s (o.extract 0 s.size)) false a b l) true := by
  have h1 := ext_size p s.size hs
  have h2 := ext_size o s.size ho
  refine Ev.step (fun k => by rw [quietuslaw25_PadsAreForgotten.j3]) ?_
  refine Ev.neg_ (by simp) (Ev.bind sanity25_ev (Ev.pos_ rfl ?_))
  refine Ev.known_ (sum_some _ _ (by rw [sumB_size]; omega) (by rw [sumB_size]; omega)) ?_
  refine Ev.pos_ (by omega) (Ev.pos_ (by omega) (Ev.pos_ (by omega) ?_))
  rw [hp, Int.toNat_natCast]
  refine Ev.pos_ (by omega) (Ev.pos_ (by omega) (Ev.known_ (sum_some _ _ (by omega) (by omega)) (Ev.eq_ (Ev.now _) ?_)))
  rw [forgot_sum s p o hs ho]
  simp
theorem forgot_j2 (l : List ByteArray) (a b : Int) (n : Nat) (o s p : ByteArray) (hc : chkN a b l = 0) (hn : n < l.length) (hp : rdOf ByteArray.empty l (n : Int) = p) (hne : p.toList ≠ []) (hoe : o.toList ≠ []) (hs : s.size ≤ p.size) (ho : s.size ≤ o.size) (ho1 : o.size ≤ 100) :
    Ev (fun k => quietuslaw25_PadsAreForgotten.j2 k o s (n : Int) (if Int.tmod (n : Int) 2 = 1 then b else a) a b l a b (l.set n o)) true := by
  obtain ⟨h1, h2, h3, h4, h5, h6, h7⟩ := chk_ok hc
  have hs1 : s.size ≤ 140737488351232 := by omega
  have hc' := chk_set a b l n o hc (by omega)
  have hp' : rdOf ByteArray.empty (l.set n o) (n : Int) = o := by rw [rdOf_nat _ n (by simp; exact hn)]; simp
  have hset : (l.set n o).set n (⟨#[]⟩ : ByteArray) = l.set n ⟨#[]⟩ := List.set_set _
  have e1 := use_good a b l n s p hc hn hp hne hs
  have e2 := use_good a b (l.set n o) n s o hc' (by simp; exact hn) hp' hoe ho
  rw [hset] at e2
  have e3 : spendN a b l (n : Int) = (a, b, l.set n ⟨#[]⟩, 0) := by
    unfold spendN
    rw [if_pos hc, if_neg (by omega), Int.toNat_natCast]
  have e4 : spendN a b (l.set n o) (n : Int) = (a, b, l.set n ⟨#[]⟩, 0) := by
    unfold spendN
    rw [if_pos hc', if_neg (by simp; omega), Int.toNat_natCast, hset]
  refine Ev.step (fun k => by rw [quietuslaw25_PadsAreForgotten.j2]) ?_
  refine Ev.bind (Ev.eq_ (use_ev _ _ _ _ _ _ hs1) e1) (Ev.bind (Ev.eq_ (use_ev _ _ _ _ _ _ hs1) e2) (Ev.known_ ((spend_some _ _ _ _ (by omega)).trans (congrArg some e3)) (Ev.known_ ((spend_some _ _ _ _ (by simp; omega)).trans (congrArg some e4)) ?_)))
  refine Ev.pos_ rfl (Ev.pos_ rfl (Ev.pos_ rfl (Ev.pos_ rfl ?_)))
  have hl : (l.set n (⟨#[]⟩ : ByteArray)).length ≤ 8796093022208 := by simp; omega
  refine Ev.bind (same_self a b _ hl) (Ev.pos_ rfl (Ev.bind (same_self a b _ hl) (Ev.pos_ rfl (Ev.bind (same_self a b _ hl) ?_))))
  exact forgot_j3 l a b n o s p hn hp hs ho hs1
theorem forgot_j1b (l : List ByteArray) (a b : Int) (n : Int) (o s : ByteArray) : Ev (fun k => quietuslaw25_PadsAreForgotten.j1 k o s n true a b l) true := by
  refine Ev.step (fun k => by rw [quietuslaw25_PadsAreForgotten.j1]) ?_
  exact Ev.pos_ rfl (Ev.bind sanity25_ev (Ev.now _))
theorem forgot_j0b (l : List ByteArray) (a b : Int) (n : Int) (o s : ByteArray) : Ev (fun k => quietuslaw25_PadsAreForgotten.j0 k n o s true a b l) true := by
  refine Ev.step (fun k => by rw [quietuslaw25_PadsAreForgotten.j0]) ?_
  exact Ev.pos_ rfl (Ev.bind sanity25_ev (Ev.now _))
theorem forgot_j0 (l : List ByteArray) (a b : Int) (m : Nat) (o s : ByteArray) (hm : m < 256) (hc : chkN a b l = 0) (hl : 0 < l.length) (ho1 : o.size ≤ 100) :
    Ev (fun k => quietuslaw25_PadsAreForgotten.j0 k (m : Int) o s false a b l) true := by
  obtain ⟨h1, h2, h3, h4, h5, h6, h7⟩ := chk_ok hc
  have hlt := Nat.mod_lt m hl
  have ht : Int.tmod (m : Int) (l.length : Int) = ((m % l.length : Nat) : Int) := rfl
  refine Ev.step (fun k => by rw [quietuslaw25_PadsAreForgotten.j0]) ?_
  rw [w64 (n := (m : Int)) (by omega) (by omega), ht]
  generalize m % l.length = n at hlt
  refine Ev.neg_ (by simp) (Ev.neg_ (by omega) (Ev.pos_ (by omega) (Ev.pos_ (by omega) ?_)))
  by_cases c1 : (rdOf ByteArray.empty l (n : Int)).toList = ([] : List UInt8)
  · exact Ev.pos_ c1 (forgot_j1b _ _ _ _ _ _)
  refine Ev.neg_ c1 ?_
  by_cases c2 : o.toList = ([] : List UInt8)
  · exact Ev.pos_ c2 (forgot_j1b _ _ _ _ _ _)
  refine Ev.neg_ c2 ?_
  by_cases c3 : (s.size : Int) > ((rdOf ByteArray.empty l (n : Int)).size : Int)
  · exact Ev.pos_ c3 (forgot_j1b _ _ _ _ _ _)
  refine Ev.neg_ c3 ?_
  by_cases c4 : (s.size : Int) > (o.size : Int)
  · rw [decide_eq_true c4]
    exact forgot_j1b _ _ _ _ _ _
  rw [decide_eq_false c4]
  refine Ev.step (fun k => by rw [quietuslaw25_PadsAreForgotten.j1]) ?_
  refine Ev.neg_ (by simp) (Ev.known_ rfl (Ev.pos_ (by simp; omega) (Ev.known_ rfl ?_)))
  rw [List.nil_append]
  refine Ev.pos_ (by omega) (Ev.pos_ (by omega) (Ev.known_ rfl ?_))
  rw [Int.toNat_natCast]
  have hj := forgot_j2 l a b n o s _ hc hlt rfl c1 c2 (by omega) (by omega) ho1
  by_cases c5 : Int.tmod (n : Int) 2 = 1
  · rw [if_pos c5] at hj
    exact Ev.pos_ c5 hj
  · rw [if_neg c5] at hj
    exact Ev.neg_ c5 hj
theorem wf_u8 {a : Int} (h : (Lit.int .u8 a).wf = true) : ∃ n : Nat, a = (n : Int) ∧ n < 256 := by
  simp only [Lit.wf, Bool.and_eq_true, decide_eq_true_eq] at h
  have h1 : (0 : Int) ≤ a := h.1
  have h2 : a ≤ 255 := h.2
  exact ⟨a.toNat, by omega, by omega⟩
theorem PurePadsAreForgotten.proof : PadsAreForgotten.Pure := by
  intro a b l m o s _ hm ho hs
  refine Ev.rounds ?_
  obtain ⟨m', rfl, hm1⟩ := wf_u8 hm
  unfold quietuslaw25_PadsAreForgotten.f
  by_cases h1 : (l.length : Int) = 0
  · exact Ev.pos_ h1 (forgot_j0b _ _ _ _ _ _)
  refine Ev.neg_ h1 ?_
  by_cases h2 : (l.length : Int) > 12
  · exact Ev.pos_ h2 (forgot_j0b _ _ _ _ _ _)
  refine Ev.neg_ h2 ?_
  by_cases h3 : (o.size : Int) > 100
  · exact Ev.pos_ h3 (forgot_j0b _ _ _ _ _ _)
  refine Ev.neg_ h3 (Ev.known_ (chk_some a b l) ?_)
  by_cases h4 : chkN a b l = 0
  · rw [show (chkN a b l != 0) = false by simp [h4]]
    exact forgot_j0 l a b m' o s (by omega) h4 (by omega) (by omega)
  · rw [show (chkN a b l != 0) = true by simp [h4]]
    exact forgot_j0b _ _ _ _ _ _

end Go.Proofs.Ytgfnllaajaoljaa.QA
