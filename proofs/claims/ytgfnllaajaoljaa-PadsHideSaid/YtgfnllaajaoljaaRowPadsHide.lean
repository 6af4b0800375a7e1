/- Proved here: the Go function quietus/quietuslaw25.PadsHide returns true for every input and leaves its arguments reading as they read before. No condition. -/
-- WRITTEN BY qprint.py, a program of this session (the kit's print, driven with contracts proved by hand): Lean checks it.
import Derived.Test.YtgfnllaajaoljaaRows
import Derived.Test.YtgfnllaajaoljaaSPadsHide
import Derived.Test.YtgfnllaajaoljaaQAOpen
import Derived.Test.YtgfnllaajaoljaaPurePadsHide
import Derived.WalkKit
import Derived.ProofKit
import Derived.OpenShut
import Derived.ShutString
import Derived.ChangeOld
import Derived.Below
import Derived.SizedLaws
import Derived.ChangeSlices
namespace Go.Proofs.Ytgfnllaajaoljaa.padsHide
open Go.ChangeShapes Go.WideShapes Go.ChangeAt Go.RowKit Go.Proofs.Ytgfnllaajaoljaa.QA Go.Proofs.YtgfnllaajaoljaaW.PrintWords Go.Proofs.YtgfnllaajaoljaaW.PrintLast Go.Proofs.YtgfnllaajaoljaaW.PrintMore
open Go.ChangeMaps (open_string shut_string)
set_option linter.unusedVariables false
set_option linter.unusedSimpArgs false
theorem own : ownKnob Try.prog.godebug = none := by kernel_rfl
theorem laidOut : laidOutB Try.prog = true := by kernel_rfl
set_option maxRecDepth 100000 in
set_option maxHeartbeats 1000000 in
theorem lifted (P : PadsHide.Pure) (os : Os) (started : os.Started) (H : Type) (enc : TypeId × Value → H) :
    ReturnsInHanded {} Try.checked os 5 .any (Rows.padsHideSpec.pre6 enc Try.prog Try.f5 Rows.padsHideRow.domain false) (Rows.padsHideSpec.post enc Try.prog Try.f5 false true false false) := by
  refine returnsInHanded_of_change_sized (C := Try.checked) own started (by kernel_rfl) Try.func5
    (ChangeSpec.witness6 (enc := enc) (C := Try.checked) false ⟨#[], #[.string ByteArray.empty, .string ByteArray.empty, .string ByteArray.empty], []⟩ 8 (by kernel_rfl) (by kernel_rfl) (by kernel_rfl) (by kernel_rfl)) ?_
  intro W base args ds gs before hval0 hW _ hsz0 _
  have hsz : (DataW.weightsEach Try.prog (Try.f5.params.toList ++ Rows.padsHideSpec.plain.varTypes Try.prog) (ds ++ gs)).all (· ≤ reachBytes) = true := hsz0
  have hval : ∀ (j : Nat) t v, Try.f5.params[j]? = some t → args[j]? = some v → Value.okWide Try.prog W .any base t v := hval0
  have hW' := hW
  obtain ⟨p, q, hA0, hV, rfl, hfz, hnd⟩ := hW
  have hA : DataW.TrodAll enc Try.prog W 0 (fun _ => true) true Try.f5.params.toList args.toList ds p := hA0
  rw [Try.params5] at hA hval hsz
  obtain ⟨v0, vs0, d0, ds0, p0, q0, hargs, rfl, rfl, h0, r0⟩ := trodAll_cons hA
  obtain ⟨v1, vs1, d1, ds1, p1, q1, rfl, rfl, rfl, h1, r1⟩ := trodAll_cons r0
  obtain ⟨v2, vs2, d2, ds2, p2, q2, rfl, rfl, rfl, h2, r2⟩ := trodAll_cons r1
  obtain ⟨rfl, rfl, rfl⟩ := trodAll_nil r2
  obtain rfl : args = #[v0, v1, v2] := by cases args; simp_all
  obtain ⟨rfl, rfl⟩ := trodVars_none hV
  have k0 := h0
  have lt0 : ∀ x ∈ p0, x.block < W.heap.size := by obtain ⟨m, hm⟩ := k0; exact DataW.trod_lt m _ _ _ hm
  have o0 := opens_arg (opens_string (P := Try.prog) Try.underlying9 (by kernel_rfl)) h0 hsz 0 rfl rfl
  obtain ⟨a0, rfl⟩ := okWide_string_ Try.underlying9 (hval 0 9 v0 rfl rfl)
  obtain ⟨a0', e0, g0⟩ := o0
  obtain rfl : a0 = a0' := by simpa [Value.cells, Kd.string, Kd.scalar] using e0
  have k1 := h1
  have lt1 : ∀ x ∈ p1, x.block < W.heap.size := by obtain ⟨m, hm⟩ := k1; exact DataW.trod_lt m _ _ _ hm
  have o1 := opens_arg (opens_string (P := Try.prog) Try.underlying9 (by kernel_rfl)) h1 hsz 1 rfl rfl
  obtain ⟨a1, rfl⟩ := okWide_string_ Try.underlying9 (hval 1 9 v1 rfl rfl)
  obtain ⟨a1', e1, g1⟩ := o1
  obtain rfl : a1 = a1' := by simpa [Value.cells, Kd.string, Kd.scalar] using e1
  have k2 := h2
  have lt2 : ∀ x ∈ p2, x.block < W.heap.size := by obtain ⟨m, hm⟩ := k2; exact DataW.trod_lt m _ _ _ hm
  have o2 := opens_arg (opens_string (P := Try.prog) Try.underlying9 (by kernel_rfl)) h2 hsz 2 rfl rfl
  obtain ⟨a2, rfl⟩ := okWide_string_ Try.underlying9 (hval 2 9 v2 rfl rfl)
  obtain ⟨a2', e2, g2⟩ := o2
  obtain rfl : a2 = a2' := by simpa [Value.cells, Kd.string, Kd.scalar] using e2
  clear hA0 hval0 hsz0 hsz
  have hp := P a0 a1 a2 g0 g1 g2
  obtain ⟨k, hp⟩ := hp
  refine (quietuslaw25_PadsHide.calls k a0 a1 a2 true W  hp).mono ?_
  rintro e W' ⟨rfl, bel0⟩
  have bel : Below W.heap.size W W' := bel0
  exact ⟨_, rfl, _, _, _, [], _, [], hW', trodAll_mk1 (shut_bool Try.underlying4 _), (trodAll_cons_mk (Below.trod laidOut (by kernel_rfl) (of_decide_eq_true (by kernel_rfl)) k0 bel lt0) (trodAll_cons_mk (Below.trod laidOut (by kernel_rfl) (of_decide_eq_true (by kernel_rfl)) k1 bel lt1) (trodAll_cons_mk (Below.trod laidOut (by kernel_rfl) (of_decide_eq_true (by kernel_rfl)) k2 bel lt2) trodAll_mk0))), rfl, bel.frame _, fun h => by cases h⟩
theorem proved (P : PadsHide.Pure) : Rows.PadsHideSaid :=
  OpenClaim.holds_of_wide 5 Try.f5 rfl rfl rfl rfl rfl rfl rfl ⟨rfl, rfl, rfl, rfl, rfl⟩ rfl rfl rfl rfl rfl (by kernel_rfl) Try.func5 (by kernel_rfl)
    (of_decide_eq_true (by kernel_rfl)) (by unfold Func.isWrapper; first | (rw [if_pos (by decide +kernel)]; kernel_rfl) | (rw [if_neg (by decide +kernel)]; exact ⟨rfl, rfl⟩))
    (fun os started H enc _ => lifted P os started H enc)
end Go.Proofs.Ytgfnllaajaoljaa.padsHide
namespace Go.Proofs.Ytgfnllaajaoljaa
/-- The statement. -/
theorem padsHide_holds : Rows.PadsHideSaid := padsHide.proved QA.PurePadsHide.proof
#print axioms padsHide_holds
end Go.Proofs.Ytgfnllaajaoljaa
