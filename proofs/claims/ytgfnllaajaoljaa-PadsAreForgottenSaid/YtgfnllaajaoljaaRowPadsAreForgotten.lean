/- Proved here: the Go function quietus/quietuslaw25.PadsAreForgotten returns true for every input and leaves its arguments reading as they read before. No condition. -/
-- WRITTEN BY qprint.py, a program of this session (the kit's print, driven with contracts proved by hand): Lean checks it.
import Derived.Test.YtgfnllaajaoljaaRows
import Derived.Test.YtgfnllaajaoljaaSPadsAreForgotten
import Derived.Test.YtgfnllaajaoljaaQAOpen
import Derived.Test.YtgfnllaajaoljaaPurePadsAreForgotten
import Derived.WalkKit
import Derived.ProofKit
import Derived.OpenShut
import Derived.ShutString
import Derived.ChangeOld
import Derived.Below
import Derived.SizedLaws
import Derived.ChangeSlices
namespace Go.Proofs.Ytgfnllaajaoljaa.padsAreForgotten
open Go.ChangeShapes Go.WideShapes Go.ChangeAt Go.RowKit Go.Proofs.Ytgfnllaajaoljaa.QA Go.Proofs.YtgfnllaajaoljaaW.PrintWords Go.Proofs.YtgfnllaajaoljaaW.PrintLast Go.Proofs.YtgfnllaajaoljaaW.PrintMore
open Go.ChangeMaps (open_string shut_string)
set_option linter.unusedVariables false
set_option linter.unusedSimpArgs false
theorem own : ownKnob Try.prog.godebug = none := by kernel_rfl
theorem laidOut : laidOutB Try.prog = true := by kernel_rfl
set_option maxRecDepth 100000 in
set_option maxHeartbeats 1000000 in
theorem lifted (P : PadsAreForgotten.Pure) (os : Os) (started : os.Started) (H : Type) (enc : TypeId × Value → H) :
    ReturnsInHanded {} Try.checked os 7 .any (Rows.padsAreForgottenSpec.pre6 enc Try.prog Try.f7 Rows.padsAreForgottenRow.domain false) (Rows.padsAreForgottenSpec.post enc Try.prog Try.f7 false true false false) := by
  refine returnsInHanded_of_change_sized (C := Try.checked) own started (by kernel_rfl) Try.func7
    (ChangeSpec.witness6 (enc := enc) (C := Try.checked) false ⟨#[], #[.agg #[.int .i64 0, .int .i64 0, .slice none 0 0], .int .u8 0, .string ByteArray.empty, .string ByteArray.empty], []⟩ 8 (by kernel_rfl) (by kernel_rfl) (by kernel_rfl) (by kernel_rfl)) ?_
  intro W base args ds gs before hval0 hW _ hsz0 _
  have hsz : (DataW.weightsEach Try.prog (Try.f7.params.toList ++ Rows.padsAreForgottenSpec.plain.varTypes Try.prog) (ds ++ gs)).all (· ≤ reachBytes) = true := hsz0
  have hval : ∀ (j : Nat) t v, Try.f7.params[j]? = some t → args[j]? = some v → Value.okWide Try.prog W .any base t v := hval0
  have hW' := hW
  obtain ⟨p, q, hA0, hV, rfl, hfz, hnd⟩ := hW
  have hA : DataW.TrodAll enc Try.prog W 0 (fun _ => true) true Try.f7.params.toList args.toList ds p := hA0
  rw [Try.params7] at hA hval hsz
  obtain ⟨v0, vs0, d0, ds0, p0, q0, hargs, rfl, rfl, h0, r0⟩ := trodAll_cons hA
  obtain ⟨v1, vs1, d1, ds1, p1, q1, rfl, rfl, rfl, h1, r1⟩ := trodAll_cons r0
  obtain ⟨v2, vs2, d2, ds2, p2, q2, rfl, rfl, rfl, h2, r2⟩ := trodAll_cons r1
  obtain ⟨v3, vs3, d3, ds3, p3, q3, rfl, rfl, rfl, h3, r3⟩ := trodAll_cons r2
  obtain ⟨rfl, rfl, rfl⟩ := trodAll_nil r3
  obtain rfl : args = #[v0, v1, v2, v3] := by cases args; simp_all
  obtain ⟨rfl, rfl⟩ := trodVars_none hV
  have k0 := h0
  have lt0 : ∀ x ∈ p0, x.block < W.heap.size := by obtain ⟨m, hm⟩ := k0; exact DataW.trod_lt m _ _ _ hm
  have o0 := opens_arg (opens_from (from_cons (sec_struct (P := Try.prog) Try.underlying24 0 _ rfl) (opens_int (P := Try.prog) Try.underlying3 (by kernel_rfl)) (from_cons (sec_struct (P := Try.prog) Try.underlying24 1 _ rfl) (opens_int (P := Try.prog) Try.underlying3 (by kernel_rfl)) (from_last (sec_struct (P := Try.prog) Try.underlying24 2 _ rfl) (opens_slice (P := Try.prog) Try.underlying22 (by kernel_rfl) (B := 16) (by kernel_rfl) (opens_string (P := Try.prog) Try.underlying9 (by kernel_rfl))) (by kernel_rfl))))) h0 hsz 0 rfl rfl
  obtain ⟨cs0, rfl, z0⟩ := okWide_struct Try.underlying24 (hval 0 24 v0 rfl rfl)
  obtain ⟨⟨a0_0, a0_1, l0_2⟩, ⟨_, _, e0, rfl, ⟨_, _, rfl, rfl, ⟨A0_2, c0_2, rfl, hc0_2, hr0_2⟩⟩⟩, g0⟩ := o0
  obtain rfl : cs0 = #[.int .i64 a0_0, .int .i64 a0_1, .slice A0_2 l0_2.length c0_2] := Array.toList_inj.1 (by have h := e0; simp only [Value.cells] at h; rw [h]; rfl)
  have k1 := h1
  have lt1 : ∀ x ∈ p1, x.block < W.heap.size := by obtain ⟨m, hm⟩ := k1; exact DataW.trod_lt m _ _ _ hm
  have o1 := opens_arg (opens_int (P := Try.prog) Try.underlying5 (by kernel_rfl)) h1 hsz 1 rfl rfl
  obtain ⟨a1, rfl⟩ := okWide_int_ Try.underlying5 (hval 1 5 v1 rfl rfl)
  obtain ⟨a1', e1, g1⟩ := o1
  obtain rfl : a1 = a1' := by simpa [Value.cells, Kd.int, Kd.scalar] using e1
  have k2 := h2
  have lt2 : ∀ x ∈ p2, x.block < W.heap.size := by obtain ⟨m, hm⟩ := k2; exact DataW.trod_lt m _ _ _ hm
  have o2 := opens_arg (opens_string (P := Try.prog) Try.underlying9 (by kernel_rfl)) h2 hsz 2 rfl rfl
  obtain ⟨a2, rfl⟩ := okWide_string_ Try.underlying9 (hval 2 9 v2 rfl rfl)
  obtain ⟨a2', e2, g2⟩ := o2
  obtain rfl : a2 = a2' := by simpa [Value.cells, Kd.string, Kd.scalar] using e2
  have k3 := h3
  have lt3 : ∀ x ∈ p3, x.block < W.heap.size := by obtain ⟨m, hm⟩ := k3; exact DataW.trod_lt m _ _ _ hm
  have o3 := opens_arg (opens_string (P := Try.prog) Try.underlying9 (by kernel_rfl)) h3 hsz 3 rfl rfl
  obtain ⟨a3, rfl⟩ := okWide_string_ Try.underlying9 (hval 3 9 v3 rfl rfl)
  obtain ⟨a3', e3, g3⟩ := o3
  obtain rfl : a3 = a3' := by simpa [Value.cells, Kd.string, Kd.scalar] using e3
  clear hA0 hval0 hsz0 hsz
  have hp := P a0_0 a0_1 l0_2 a1 a2 a3 g0 g1 g2 g3
  obtain ⟨k, hp⟩ := hp
  refine (quietuslaw25_PadsAreForgotten.calls k a0_0 a0_1 _ _ l0_2 a1 a2 a3 true W hr0_2 hc0_2 hp).mono ?_
  rintro e W' ⟨rfl, bel0⟩
  have bel : Below W.heap.size W W' := bel0
  exact ⟨_, rfl, _, _, _, [], _, [], hW', trodAll_mk1 (shut_bool Try.underlying4 _), (trodAll_cons_mk (Below.trod laidOut (by kernel_rfl) (of_decide_eq_true (by kernel_rfl)) k0 bel lt0) (trodAll_cons_mk (Below.trod laidOut (by kernel_rfl) (of_decide_eq_true (by kernel_rfl)) k1 bel lt1) (trodAll_cons_mk (Below.trod laidOut (by kernel_rfl) (of_decide_eq_true (by kernel_rfl)) k2 bel lt2) (trodAll_cons_mk (Below.trod laidOut (by kernel_rfl) (of_decide_eq_true (by kernel_rfl)) k3 bel lt3) trodAll_mk0)))), rfl, bel.frame _, fun h => by cases h⟩
theorem proved (P : PadsAreForgotten.Pure) : Rows.PadsAreForgottenSaid :=
  OpenClaim.holds_of_wide 7 Try.f7 rfl rfl rfl rfl rfl rfl rfl ⟨rfl, rfl, rfl, rfl, rfl⟩ rfl rfl rfl rfl rfl (by kernel_rfl) Try.func7 (by kernel_rfl)
    (of_decide_eq_true (by kernel_rfl)) (by unfold Func.isWrapper; first | (rw [if_pos (by decide +kernel)]; kernel_rfl) | (rw [if_neg (by decide +kernel)]; exact ⟨rfl, rfl⟩))
    (fun os started H enc _ => lifted P os started H enc)
end Go.Proofs.Ytgfnllaajaoljaa.padsAreForgotten
namespace Go.Proofs.Ytgfnllaajaoljaa
/-- The statement. -/
theorem padsAreForgotten_holds : Rows.PadsAreForgottenSaid := padsAreForgotten.proved QA.PurePadsAreForgotten.proof
#print axioms padsAreForgotten_holds
end Go.Proofs.Ytgfnllaajaoljaa
