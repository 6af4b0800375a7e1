/- Proved here: the pure statement of the law FieldVectorsMatchSpec (QA.FieldVectorsMatchSpec.Pure): what the Go function computes, told as a Lean function, is true for every input in the stated bounds. -/
import Derived.Test.YtgfnllaajaoljaaDoorSFieldVectorsMatchSpec
import Derived.Test.YtgfnllaajaoljaaDoorPureGf
import Derived.Test.YtgfnllaajaoljaaDoorPureVec
namespace Go.Proofs.YtgfnllaajaoljaaDoor.QA
open Go.RowKit Go.Proofs.YtgfnllaajaoljaaDoorW.PrintWords Go.Proofs.YtgfnllaajaoljaaDoorW.PrintLast Go.Proofs.YtgfnllaajaoljaaDoorW.PrintMore
attribute [local go_sem] max2_int min2_int max_two min_two max_three min_three max_four min_four
set_option linter.unusedVariables false
set_option linter.unusedSimpArgs false
namespace PureFieldVectorsMatchSpec
theorem core (a b : ByteArray) (l : List Int) (p : List ByteArray) (c : Nat) (hc : c < 256) (ha : a.size ≤ 140737488351232) (hb : b.size ≤ 140737488351232) (hl : gf_Combine.bytes l = true) (hm : ∀ s ∈ p, s.size ≤ 140737488351232) (hp : p.length ≤ 9223372036854775806) :
    Ev (fun k => quietuslaw04_FieldVectorsMatchSpec.j2 k a b l p (c : Int)) true := by
  refine Ev.step (fun k => by rw [quietuslaw04_FieldVectorsMatchSpec.j2]) ?_
  obtain ⟨r, hr, hr2⟩ := rCombine_ev l p hl hm hp
  refine Ev.known_ hr (Ev.bind hr2 (Ev.bind sane04 (Ev.pos_ rfl ?_)))
  refine Ev.known_ (sum_some a b ha hb) (Ev.bind (rSum_ev a b ha hb) (Ev.pos_ rfl ?_))
  refine Ev.known_ (scale_some c a hc ha) (Ev.bind (rScale_ev c a hc ha) (Ev.pos_ rfl (Ev.pos_ rfl (Ev.eq_ (Ev.now _) (by simp)))))
theorem proof : FieldVectorsMatchSpec.Pure := by
  intro a b l p ha hb hl hp
  refine Ev.rounds ?_
  have hlb := bytes_of hl.2
  have hpl : p.length ≤ 140737488351232 := by have := hp.1; omega
  have hout : Ev (fun k => quietuslaw04_FieldVectorsMatchSpec.j0 k a b l p true) true := by
    refine Ev.step (fun k => by rw [quietuslaw04_FieldVectorsMatchSpec.j0]) ?_
    exact Ev.pos_ rfl (Ev.bind sane04 (Ev.now _))
  have hend : Ev (fun k => if (l.length : Int) > 0 then (if 0 < (l.length : Int) then (quietuslaw04_FieldVectorsMatchSpec.j2 k a b l p (rd l 0)) else (none)) else (quietuslaw04_FieldVectorsMatchSpec.j2 k a b l p (((b.size : Int)) % 256))) true := by
    by_cases h : (l.length : Int) > 0
    · obtain ⟨c, hc, hc2⟩ := bytes_at hlb 0
      have hc' : rd l 0 = (c : Int) := hc
      refine Ev.pos_ h (Ev.pos_ h ?_)
      rw [hc']
      exact core a b l p c hc2 ha hb hlb hp.2 (by omega)
    · refine Ev.neg_ h ?_
      rw [show (b.size : Int) % 256 = ((b.size % 256 : Nat) : Int) by omega]
      exact core a b l p _ (by omega) ha hb hlb hp.2 (by omega)
  have hloop : ∀ (d i : Nat), i + d = p.length → Ev (fun k => quietuslaw04_FieldVectorsMatchSpec.l0 k a b l p p (p.length : Int) (i : Int)) true := by
    intro d
    induction d with
    | zero =>
      intro i hi
      refine Ev.step (fun k => by rw [quietuslaw04_FieldVectorsMatchSpec.l0]) ?_
      exact Ev.neg_ (by omega) hend
    | succ d ih =>
      intro i hi
      refine Ev.step (fun k => by rw [quietuslaw04_FieldVectorsMatchSpec.l0]) ?_
      refine Ev.pos_ (by omega) (Ev.pos_ (by omega) (Ev.pos_ (by omega) ?_))
      by_cases h : ((rdOf ByteArray.empty p (i : Int)).size : Int) > 200
      · exact Ev.pos_ h (Ev.bind sane04 (Ev.now _))
      · refine Ev.neg_ h ?_
        rw [w64 (by omega) (by omega)]
        exact ih (i + 1) (by omega)
  unfold quietuslaw04_FieldVectorsMatchSpec.f
  by_cases h1 : (a.size : Int) > 200
  · exact Ev.pos_ h1 hout
  refine Ev.neg_ h1 ?_
  by_cases h2 : (b.size : Int) > 200
  · exact Ev.pos_ h2 hout
  refine Ev.neg_ h2 ?_
  by_cases h3 : (l.length : Int) > 8
  · exact Ev.pos_ h3 hout
  refine Ev.neg_ h3 ?_
  by_cases h4 : (p.length : Int) > 8
  · rw [decide_eq_true h4]; exact hout
  rw [decide_eq_false h4]
  refine Ev.step (fun k => by rw [quietuslaw04_FieldVectorsMatchSpec.j0]) ?_
  exact Ev.neg_ (by decide) (hloop p.length 0 (by omega))
end PureFieldVectorsMatchSpec

end Go.Proofs.YtgfnllaajaoljaaDoor.QA
