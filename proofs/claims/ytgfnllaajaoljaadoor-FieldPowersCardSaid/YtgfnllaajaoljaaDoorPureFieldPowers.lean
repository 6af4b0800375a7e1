/- Proved here: the pure statement of the law FieldPowers (QA.FieldPowers.Pure): what the Go function computes, told as a Lean function, is true for every input in the stated bounds. -/
import Derived.Test.YtgfnllaajaoljaaDoorSFieldPowers
import Derived.Test.YtgfnllaajaoljaaDoorPureGf
namespace Go.Proofs.YtgfnllaajaoljaaDoor.QA
open Go.RowKit Go.Proofs.YtgfnllaajaoljaaDoorW.PrintWords Go.Proofs.YtgfnllaajaoljaaDoorW.PrintLast Go.Proofs.YtgfnllaajaoljaaDoorW.PrintMore
attribute [local go_sem] max2_int min2_int max_two min_two max_three min_three max_four min_four
set_option linter.unusedVariables false
set_option linter.unusedSimpArgs false
namespace PureFieldPowers
theorem mod_nat (n : Int) : ∃ m : Nat, n % 255 = (m : Int) ∧ (n % 255).toNat = m ∧ m < 255 := ⟨(n % 255).toNat, by omega, rfl, by omega⟩
theorem powE (a : Nat) (n : Int) (h0 : 0 < a) : powZ a n = powN a (n % 255).toNat := by unfold powZ; rw [if_neg (by omega)]
theorem powZ_lt (a : Nat) (n : Int) (h0 : 0 < a) (ha : a < 256) : powZ a n < 256 := by rw [powE a n h0]; exact powN_lt a _ ha
theorem powZ_add (a : Nat) (m n : Int) (h0 : 0 < a) (ha : a < 256) : powZ a (m + n) = gmul (powZ a m) (powZ a n) := by
  rw [powE a _ h0, powE a _ h0, powE a _ h0, ← powN_add a _ _ ha, powN_period a ((m % 255).toNat + (n % 255).toNat) h0 ha]
  congr 1
  omega
theorem tail_ (m n : Int) (a : Nat) (ha : a < 256) (hm : -1152921504606846976 ≤ m ∧ m ≤ 1152921504606846976) (hn : -1152921504606846976 ≤ n ∧ n ≤ 1152921504606846976) :
    Ev (fun k => quietuslaw04_FieldPowers.j1 k m n (a : Int) true) true := by
  refine Ev.step (fun k => by rw [quietuslaw04_FieldPowers.j1]) ?_
  rcases Nat.eq_zero_or_pos a with rfl | hp
  · exact Ev.pos_ rfl (Ev.bind sane04 (Ev.pos_ rfl (Ev.now _)))
  · obtain ⟨j, hj, he⟩ := E2_surj a hp ha
    refine Ev.neg_ (by omega) (Ev.bind (inv_ev a hp ha) (Ev.bind (log_ev a j hj he) ?_))
    rw [w64 (by omega) (by omega)]
    refine Ev.bind (pow_ev a _ ha) (Ev.bind (pow_ev a m ha) (Ev.bind (pow_ev a n ha) ?_))
    refine Ev.known_ (mulW_some _ _ (powZ_lt a m hp ha) (powZ_lt a n hp ha)) (Ev.pos_ (by rw [powZ_add a m n hp ha]) ?_)
    refine Ev.bind (pow_ev a 255 ha) (Ev.pos_ (by rw [powE a _ hp]; rfl) ?_)
    refine Ev.bind (pow_ev a (-1) ha) (Ev.pos_ (by rw [powE a _ hp]; rfl) ?_)
    refine Ev.bind (pow_ev 2 n (by omega)) (Ev.bind (exp_ev n) (Ev.pos_ (by rw [powE 2 _ (by omega), powN_two]) ?_))
    refine Ev.bind (exp_ev (j : Int)) (Ev.bind sane04 (Ev.pos_ rfl (Ev.pos_ rfl (Ev.pos_ ?_ (Ev.pos_ rfl (Ev.now _))))))
    rw [show ((j : Int) % 255).toNat = j by omega, he]
theorem proof : FieldPowers.Pure := by
  intro m n a wm wn wa
  obtain ⟨a, rfl, ha⟩ := wf_u8 wa
  refine Ev.rounds ?_
  have hout : Ev (fun k => quietuslaw04_FieldPowers.j0 k m n (a : Int) true) true := by
    refine Ev.step (fun k => by rw [quietuslaw04_FieldPowers.j0]) ?_
    exact Ev.pos_ rfl (Ev.bind sane04 (Ev.now _))
  unfold quietuslaw04_FieldPowers.f
  by_cases h1 : m < -1152921504606846976
  · exact Ev.pos_ h1 hout
  refine Ev.neg_ h1 ?_
  by_cases h2 : m > 1152921504606846976
  · exact Ev.pos_ h2 hout
  refine Ev.neg_ h2 ?_
  by_cases h3 : n < -1152921504606846976
  · exact Ev.pos_ h3 hout
  refine Ev.neg_ h3 ?_
  by_cases h4 : n > 1152921504606846976
  · rw [decide_eq_true h4]; exact hout
  rw [decide_eq_false h4]
  refine Ev.step (fun k => by rw [quietuslaw04_FieldPowers.j0]) ?_
  refine Ev.neg_ (by decide) ?_
  obtain ⟨l, hl1, hl2, hl3⟩ := mod_nat n
  refine Ev.bind (exp_ev n) ?_
  rw [hl2]
  refine Ev.bind (log_ev (E2 l) l hl3 rfl) ?_
  rw [w64 (by omega) (by omega), w64 (by omega) (by omega)]
  refine Ev.bind (exp_ev (m + n)) (Ev.bind (exp_ev m) (Ev.bind (exp_ev n) ?_))
  refine Ev.known_ (mulW_some _ _ (E2_lt _) (E2_lt _)) (Ev.pos_ ?_ ?_)
  · rw [E2_add, E2_mod ((m % 255).toNat + (n % 255).toNat)]
    congr 2
    omega
  refine Ev.bind (exp_ev (n + 255)) (Ev.bind (exp_ev n) (Ev.pos_ ?_ ?_))
  · congr 2
    omega
  refine Ev.pos_ rfl (Ev.pos_ (by simp) (Ev.pos_ (by simp; omega) ?_))
  have h5 : (Int.tmod (wrap64 (n - (l : Int))) 255 == 0) = true := by
    rw [w64 (by omega) (by omega)]
    have : (255 : Int) ∣ n - l := by omega
    rw [Int.tmod_eq_zero_of_dvd this]
    rfl
  simp only [h5]
  exact tail_ m n a ha (by omega) (by omega)
end PureFieldPowers

end Go.Proofs.YtgfnllaajaoljaaDoor.QA
