/- Proved here: the pure statement of the law PadBooksAsSpecified (QA.PadBooksAsSpecified.Pure): what the Go function computes, told as a Lean function, is true for every input in the stated bounds. -/
import Derived.Test.YtgfnllaajaoljaaSPadBooksAsSpecified
import Derived.Test.YtgfnllaajaoljaaPurePad
namespace Go.Proofs.Ytgfnllaajaoljaa.QA
open Go.RowKit Go.Proofs.YtgfnllaajaoljaaW.PrintWords Go.Proofs.YtgfnllaajaoljaaW.PrintLast Go.Proofs.YtgfnllaajaoljaaW.PrintMore
attribute [local go_sem] max2_int min2_int max_two min_two max_three min_three max_four min_four
set_option linter.unusedVariables false
set_option linter.unusedSimpArgs false
theorem sanity25_ev : Ev (fun k => quietuslaw25_sanity.f k) true := Ev.of (fun k => quietuslaw25_sanity.mono k) (k := 300) (by kernel_rfl)
theorem cover_loop (s : ByteArray) (l : List ByteArray) (hs : s.size ≤ 140737488351232) (hl : l.length ≤ 8796093022208) : ∀ (d i : Nat), i + d = l.length →
    Ev (fun k => quietuslaw25_PadBooksAsSpecified.l0 k s l (l.length : Int) (i : Int)) true := by
  intro d
  induction d with
  | zero =>
    intro i hi
    refine Ev.step (fun k => by rw [quietuslaw25_PadBooksAsSpecified.l0]) ?_
    exact Ev.neg_ (by omega) (Ev.bind sanity25_ev (Ev.now _))
  | succ d ih =>
    intro i hi
    refine Ev.step (fun k => by rw [quietuslaw25_PadBooksAsSpecified.l0]) ?_
    refine Ev.pos_ (by omega) (Ev.pos_ (by omega) (Ev.pos_ (by omega) ?_))
    rw [rdOf_nat l i (by omega), w64 (by omega) (by omega)]
    have hnext := ih (i + 1) (by omega)
    refine Ev.known_ (cover_some s _ hs) ?_
    by_cases h : s.size = (l[i]'(by omega)).size
    · rw [if_pos h]
      refine Ev.neg_ (by simp [h]) (Ev.pos_ rfl (Ev.known_ (sum_some s _ hs (by omega)) (Ev.pos_ rfl hnext)))
    · rw [if_neg h]
      have h' : ¬ ((s.size : Int) = ((l[i]'(by omega)).size : Int)) := by omega
      refine Ev.neg_ (by simp [h']) (Ev.neg_ (by decide) (Ev.pos_ rfl (Ev.pos_ (by kernel_rfl) hnext)))
theorem light_l (l : List ByteArray) (hl : l.length ≤ 8796093022208) : ∀ (d i : Nat), i + d = l.length → ∃ b, Ev (fun k => quietuslaw25_light.l0 k l (l.length : Int) (i : Int)) b := by
  intro d
  induction d with
  | zero =>
    intro i hi
    exact ⟨true, Ev.step (fun k => by rw [quietuslaw25_light.l0]) (Ev.neg_ (by omega) (Ev.now _))⟩
  | succ d ih =>
    intro i hi
    obtain ⟨b, hb⟩ := ih (i + 1) (by omega)
    by_cases h1 : (l[i]'(by omega)).size > 60
    · by_cases h2 : (l[i]'(by omega)).size ≤ 4096
      · refine ⟨false, Ev.step (fun k => by rw [quietuslaw25_light.l0]) (Ev.pos_ (by omega) (Ev.pos_ (by omega) (Ev.pos_ (by omega) ?_)))⟩
        rw [rdOf_nat l i (by omega)]
        exact Ev.pos_ (by omega) (Ev.pos_ (by omega) (Ev.now _))
      · by_cases h3 : (l[i]'(by omega)).size > 4101
        · refine ⟨false, Ev.step (fun k => by rw [quietuslaw25_light.l0]) (Ev.pos_ (by omega) (Ev.pos_ (by omega) (Ev.pos_ (by omega) ?_)))⟩
          rw [rdOf_nat l i (by omega)]
          exact Ev.pos_ (by omega) (Ev.neg_ (by omega) (Ev.pos_ (by omega) (Ev.now _)))
        · refine ⟨b, Ev.step (fun k => by rw [quietuslaw25_light.l0]) (Ev.pos_ (by omega) (Ev.pos_ (by omega) (Ev.pos_ (by omega) ?_)))⟩
          rw [rdOf_nat l i (by omega), w64 (by omega) (by omega)]
          exact Ev.pos_ (by omega) (Ev.neg_ (by omega) (Ev.neg_ (by omega) hb))
    · by_cases h3 : (l[i]'(by omega)).size > 4101
      · omega
      · refine ⟨b, Ev.step (fun k => by rw [quietuslaw25_light.l0]) (Ev.pos_ (by omega) (Ev.pos_ (by omega) (Ev.pos_ (by omega) ?_)))⟩
        rw [rdOf_nat l i (by omega), w64 (by omega) (by omega)]
        exact Ev.neg_ (by omega) (Ev.neg_ (by omega) hb)
theorem light_ev (a b : Int) (l : List ByteArray) (hl : l.length ≤ 8796093022208) : ∃ r, Ev (fun k => quietuslaw25_light.f k a b l) r := by
  have hj : ∀ c : Bool, ∃ r, Ev (fun k => quietuslaw25_light.j0 k c a b l) r := by
    intro c
    obtain ⟨r, hr⟩ := light_l l hl l.length 0 (by omega)
    cases c
    · refine ⟨r, Ev.step (fun k => by rw [quietuslaw25_light.j0]) ?_⟩
      exact Ev.neg_ (by simp) hr
    · refine ⟨false, Ev.step (fun k => by rw [quietuslaw25_light.j0]) ?_⟩
      exact Ev.pos_ rfl (Ev.now _)
  unfold quietuslaw25_light.f
  by_cases h1 : (l.length : Int) > 12
  · by_cases h2 : (l.length : Int) ≤ 200
    · obtain ⟨r, hr⟩ := hj true
      exact ⟨r, Ev.pos_ h1 (Ev.pos_ h2 hr)⟩
    · obtain ⟨r, hr⟩ := hj (decide ((l.length : Int) > 205))
      exact ⟨r, Ev.pos_ h1 (Ev.neg_ h2 hr)⟩
  · obtain ⟨r, hr⟩ := hj (decide ((l.length : Int) > 205))
    exact ⟨r, Ev.neg_ h1 hr⟩
theorem books_j (a b : Int) (l : List ByteArray) (h n : Int) (s : ByteArray) (hl : l.length * 16 ≤ 140737488351232) (hs : s.size ≤ 140737488351232) (c : Bool) :
    Ev (fun k => quietuslaw25_PadBooksAsSpecified.j0 k s c a b l h n) true := by
  refine Ev.step (fun k => by rw [quietuslaw25_PadBooksAsSpecified.j0]) ?_
  cases c
  · refine Ev.neg_ (by simp) (Ev.bind (use_ev a b l h n s hs) (Ev.known_ (spend_some a b l n hl) (Ev.bind (rUse_ev a b l h n s hs hl) (Ev.bind (rSpend_ev a b l n hl) (Ev.known_ (chk_some a b l) (Ev.bind (rChk_ev a b l (by omega)) ?_))))))
    have h1 := useN_len a b l h n s
    have h2 := spendN_len a b l n
    refine Ev.pos_ rfl (Ev.pos_ rfl (Ev.pos_ rfl (Ev.bind (same_self _ _ _ (by omega)) (Ev.pos_ rfl (Ev.pos_ rfl (Ev.bind (same_self _ _ _ (by omega)) ?_))))))
    refine Ev.step (fun k => by rw [quietuslaw25_PadBooksAsSpecified.j1]) ?_
    exact Ev.neg_ (by simp) (cover_loop s l hs (by omega) l.length 0 (by omega))
  · exact Ev.pos_ rfl (Ev.bind sanity25_ev (Ev.now _))
theorem PurePadBooksAsSpecified.proof : PadBooksAsSpecified.Pure := by
  intro a b l h n s ⟨_, _, hl, _⟩ _ hs
  refine Ev.rounds ?_
  unfold quietuslaw25_PadBooksAsSpecified.f
  obtain ⟨r, hr⟩ := light_ev a b l (by omega)
  refine Ev.bind hr ?_
  cases r
  · exact Ev.neg_ (by simp) (books_j a b l h n s hl hs true)
  · exact Ev.pos_ rfl (books_j a b l h n s hl hs _)

end Go.Proofs.Ytgfnllaajaoljaa.QA
