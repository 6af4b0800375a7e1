/- Proved here: the pure statement of the law FieldIsAField (QA.FieldIsAField.Pure): what the Go function computes, told as a Lean function, is true for every input in the stated bounds. -/
import Derived.Test.YtgfnllaajaoljaaDoorSFieldIsAField
import Derived.Test.YtgfnllaajaoljaaDoorPureGf
namespace Go.Proofs.YtgfnllaajaoljaaDoor.QA
open Go.RowKit Go.Proofs.YtgfnllaajaoljaaDoorW.PrintWords Go.Proofs.YtgfnllaajaoljaaDoorW.PrintLast Go.Proofs.YtgfnllaajaoljaaDoorW.PrintMore
attribute [local go_sem] max2_int min2_int max_two min_two max_three min_three max_four min_four
set_option linter.unusedVariables false
set_option linter.unusedSimpArgs false
namespace PureFieldIsAField
theorem end_ (a b c : Nat) (ha : a < 256) (hb : b < 256) (hc : c < 256) : Ev (fun k => quietuslaw04_FieldIsAField.j1 k (a : Int) (b : Int) (c : Int) true true) true := by
  refine Ev.step (fun k => by rw [quietuslaw04_FieldIsAField.j1]) ?_
  refine Ev.known_ (mulW_some a b ha hb) (Ev.known_ (mulW_some b a hb ha) (Ev.pos_ (by rw [gmul_comm a b ha hb]) ?_))
  refine Ev.known_ (mulW_some a b ha hb) (Ev.known_ (mulW_some _ c (gmul_lt a b ha) hc) ?_)
  refine Ev.known_ (mulW_some b c hb hc) (Ev.known_ (mulW_some a _ ha (gmul_lt b c hb)) (Ev.pos_ (by rw [gmul_assoc a b c ha hb hc]) ?_))
  rw [xor8 b c hb hc]
  refine Ev.known_ (mulW_some a _ ha (xor256 b c hb hc)) (Ev.known_ (mulW_some a b ha hb) (Ev.known_ (mulW_some a c ha hc) ?_))
  refine Ev.bind sane04 (Ev.pos_ rfl (Ev.pos_ rfl (Ev.pos_ rfl (Ev.pos_ ?_ ?_))))
  · rw [xor8 _ _ (gmul_lt a b ha) (gmul_lt a c ha), gmul_xor]
  · refine Ev.known_ (mulW_some a 1 ha (by omega)) (Ev.eq_ (Ev.now _) ?_)
    rw [gmul_one a ha]
    simp
theorem mid (a b c : Nat) (ha : a < 256) (hb : b < 256) (hc : c < 256) : Ev (fun k => quietuslaw04_FieldIsAField.j0 k (a : Int) (b : Int) (c : Int) true) true := by
  refine Ev.step (fun k => by rw [quietuslaw04_FieldIsAField.j0]) ?_
  refine Ev.known_ (mulW_some a b ha hb) ?_
  by_cases h0 : a = 0
  · refine Ev.pos_ (by omega) ?_
    rw [h0, zero_gmul]
    have := end_ 0 b c (by omega) hb hc
    exact this
  · refine Ev.neg_ (by omega) ?_
    have h : ((((gmul a b : Nat) : Int) == 0) == ((b : Int) == 0)) = true := by
      have h1 := gmul_eq_zero a b ha hb
      by_cases h2 : b = 0
      · simp [h2, gmul_zero]
      · have h3 : gmul a b ≠ 0 := fun h => by rcases h1.1 h with h | h <;> omega
        rw [show ((((gmul a b : Nat) : Int) == 0)) = false by rw [beq_eq_false_iff_ne]; omega, show (((b : Int) == 0)) = false by rw [beq_eq_false_iff_ne]; omega]
        rfl
    rw [h]
    exact end_ a b c ha hb hc
theorem proof : FieldIsAField.Pure := by
  intro a b c wa wb wc
  obtain ⟨a, rfl, ha⟩ := wf_u8 wa
  obtain ⟨b, rfl, hb⟩ := wf_u8 wb
  obtain ⟨c, rfl, hc⟩ := wf_u8 wc
  refine Ev.rounds ?_
  unfold quietuslaw04_FieldIsAField.f
  rcases Nat.eq_zero_or_pos a with rfl | hp
  · refine Ev.bind inv_zero (Ev.pos_ rfl (Ev.pos_ rfl ?_))
    exact mid 0 b c (by omega) hb hc
  · refine Ev.bind (inv_ev a hp ha) (Ev.neg_ (by omega) (Ev.pos_ rfl ?_))
    refine Ev.known_ (mulW_some a _ ha (invN_lt a ha)) ?_
    rw [gmul_inv a hp ha]
    exact mid a b c ha hb hc
end PureFieldIsAField

end Go.Proofs.YtgfnllaajaoljaaDoor.QA
