/- Proved here: the Go function quietus/quietuslaw14.ClockAnswersAsSpecified returns true for every input and leaves its arguments reading as they read before. No condition. -/
import Derived.Test.YteknbadjfojmbaaRows
import Derived.Test.YteknbadjfojmbaaSClockAnswersAsSpecified
import Derived.Test.YteknbadjfojmbaaQAOpen
import Derived.Test.YteknbadjfojmbaaPureClockAnswersAsSpecified
import Derived.WalkKit
import Derived.ProofKit
import Derived.OpenShut
import Derived.ShutString
import Derived.ChangeOld
import Derived.Below
import Derived.SizedLaws
import Derived.ChangeSlices
namespace Go.Proofs.Yteknbadjfojmbaa.clockAnswersAsSpecified
open Go.ChangeShapes Go.WideShapes Go.ChangeAt Go.RowKit Go.Proofs.Yteknbadjfojmbaa.QA Go.Proofs.YteknbadjfojmbaaW.PrintWords Go.Proofs.YteknbadjfojmbaaW.PrintLast Go.Proofs.YteknbadjfojmbaaW.PrintMore
open Go.ChangeMaps (open_string shut_string)
set_option linter.unusedVariables false
set_option linter.unusedSimpArgs false
theorem own : ownKnob Try.prog.godebug = none := by kernel_rfl
theorem laidOut : laidOutB Try.prog = true := by kernel_rfl
set_option maxRecDepth 100000 in
set_option maxHeartbeats 1000000 in
theorem lifted (P : ClockAnswersAsSpecified.Pure) (os : Os) (started : os.Started) (H : Type) (enc : TypeId × Value → H) :
    ReturnsInHanded {} Try.checked os 8 .any (Rows.clockAnswersAsSpecifiedSpec.pre6 enc Try.prog Try.f8 Rows.clockAnswersAsSpecifiedRow.domain false) (Rows.clockAnswersAsSpecifiedSpec.post enc Try.prog Try.f8 false true false false) := by
  refine returnsInHanded_of_change_sized (C := Try.checked) own started (by kernel_rfl) Try.func8
    (ChangeSpec.witness6 (enc := enc) (C := Try.checked) false ⟨#[], #[.agg #[.int .i64 0, .slice none 0 0], .agg #[.int .i64 0, .int .i64 0], .agg #[.int .i64 0, .int .i64 0, .int .i64 0, .int .i64 0]], []⟩ 8 (by kernel_rfl) (by kernel_rfl) (by kernel_rfl) (by kernel_rfl)) ?_
  intro W base args ds gs before hval0 hW _ hsz0 _
  have hsz : (DataW.weightsEach Try.prog (Try.f8.params.toList ++ Rows.clockAnswersAsSpecifiedSpec.plain.varTypes Try.prog) (ds ++ gs)).all (· ≤ reachBytes) = true := hsz0
  have hval : ∀ (j : Nat) t v, Try.f8.params[j]? = some t → args[j]? = some v → Value.okWide Try.prog W .any base t v := hval0
  have hW' := hW
  obtain ⟨p, q, hA0, hV, rfl, hfz, hnd⟩ := hW
  have hA : DataW.TrodAll enc Try.prog W 0 (fun _ => true) true Try.f8.params.toList args.toList ds p := hA0
  rw [Try.params8] at hA hval hsz
  obtain ⟨v0, vs0, d0, ds0, p0, q0, hargs, rfl, rfl, h0, r0⟩ := trodAll_cons hA
  obtain ⟨v1, vs1, d1, ds1, p1, q1, rfl, rfl, rfl, h1, r1⟩ := trodAll_cons r0
  obtain ⟨v2, vs2, d2, ds2, p2, q2, rfl, rfl, rfl, h2, r2⟩ := trodAll_cons r1
  obtain ⟨rfl, rfl, rfl⟩ := trodAll_nil r2
  obtain rfl : args = #[v0, v1, v2] := by cases args; simp_all
  obtain ⟨rfl, rfl⟩ := trodVars_none hV
  have k0 := h0
  have lt0 : ∀ x ∈ p0, x.block < W.heap.size := by obtain ⟨m, hm⟩ := k0; exact DataW.trod_lt m _ _ _ hm
  have o0 := opens_arg (opens_from (from_cons (sec_struct (P := Try.prog) Try.underlying54 0 _ rfl) (opens_int (P := Try.prog) Try.underlying3 (by kernel_rfl)) (from_last (sec_struct (P := Try.prog) Try.underlying54 1 _ rfl) (opens_slice (P := Try.prog) Try.underlying52 (by kernel_rfl) (B := 24) (by kernel_rfl) (show Opens Try.prog 58 k58 _ from opens_iso (opens_from (from_cons (sec_struct (P := Try.prog) Try.underlying58 0 _ rfl) (opens_int (P := Try.prog) Try.underlying3 (by kernel_rfl)) (from_last (sec_struct (P := Try.prog) Try.underlying58 1 _ rfl) (show Opens Try.prog 56 k56 _ from opens_iso (opens_from (from_cons (sec_struct (P := Try.prog) Try.underlying56 0 _ rfl) (opens_int (P := Try.prog) Try.underlying3 (by kernel_rfl)) (from_last (sec_struct (P := Try.prog) Try.underlying56 1 _ rfl) (opens_int (P := Try.prog) Try.underlying3 (by kernel_rfl)) (by kernel_rfl)))) (fun x : S56 => (x.f0, x.f1)) (fun p => (⟨p.1, p.2⟩ : S56)) (fun _ => rfl)) (by kernel_rfl)))) (fun x : S58 => (x.f0, x.f1)) (fun p => (⟨p.1, p.2⟩ : S58)) (fun _ => rfl))) (by kernel_rfl)))) h0 hsz 0 rfl rfl
  obtain ⟨cs0, rfl, z0⟩ := okWide_struct Try.underlying54 (hval 0 54 v0 rfl rfl)
  obtain ⟨⟨a0_0, l0_1⟩, ⟨_, _, e0, rfl, ⟨A0_1, c0_1, rfl, hc0_1, hr0_1⟩⟩, g0⟩ := o0
  obtain rfl : cs0 = #[.int .i64 a0_0, .slice A0_1 l0_1.length c0_1] := Array.toList_inj.1 (by have h := e0; simp only [Value.cells] at h; rw [h]; rfl)
  have k1 := h1
  have lt1 : ∀ x ∈ p1, x.block < W.heap.size := by obtain ⟨m, hm⟩ := k1; exact DataW.trod_lt m _ _ _ hm
  have o1 := opens_arg (opens_from (from_cons (by have h := sec_array (P := Try.prog) Try.underlying44 0 (by decide); rw [show Try.prog.cellsOf 3 = 1 from by kernel_rfl] at h; exact h) (opens_int (P := Try.prog) Try.underlying3 (by kernel_rfl)) (from_last (by have h := sec_array (P := Try.prog) Try.underlying44 1 (by decide); rw [show Try.prog.cellsOf 3 = 1 from by kernel_rfl] at h; exact h) (opens_int (P := Try.prog) Try.underlying3 (by kernel_rfl)) (by kernel_rfl)))) h1 hsz 1 rfl rfl
  obtain ⟨cs1, rfl, z1⟩ := okWide_array_ Try.underlying44 (hval 1 44 v1 rfl rfl)
  obtain ⟨⟨a1_0, a1_1⟩, ⟨_, _, e1, rfl, rfl⟩, g1⟩ := o1
  obtain rfl : cs1 = #[.int .i64 a1_0, .int .i64 a1_1] := Array.toList_inj.1 (by have h := e1; simp only [Value.cells] at h; rw [h]; rfl)
  have k2 := h2
  have lt2 : ∀ x ∈ p2, x.block < W.heap.size := by obtain ⟨m, hm⟩ := k2; exact DataW.trod_lt m _ _ _ hm
  have o2 := opens_arg (opens_from (from_cons (by have h := sec_array (P := Try.prog) Try.underlying78 0 (by decide); rw [show Try.prog.cellsOf 56 = 2 from by kernel_rfl] at h; exact h) (opens_from (from_cons (sec_struct (P := Try.prog) Try.underlying56 0 _ rfl) (opens_int (P := Try.prog) Try.underlying3 (by kernel_rfl)) (from_last (sec_struct (P := Try.prog) Try.underlying56 1 _ rfl) (opens_int (P := Try.prog) Try.underlying3 (by kernel_rfl)) (by kernel_rfl)))) (from_last (by have h := sec_array (P := Try.prog) Try.underlying78 1 (by decide); rw [show Try.prog.cellsOf 56 = 2 from by kernel_rfl] at h; exact h) (opens_from (from_cons (sec_struct (P := Try.prog) Try.underlying56 0 _ rfl) (opens_int (P := Try.prog) Try.underlying3 (by kernel_rfl)) (from_last (sec_struct (P := Try.prog) Try.underlying56 1 _ rfl) (opens_int (P := Try.prog) Try.underlying3 (by kernel_rfl)) (by kernel_rfl)))) (by kernel_rfl)))) h2 hsz 2 rfl rfl
  obtain ⟨cs2, rfl, z2⟩ := okWide_array_ Try.underlying78 (hval 2 78 v2 rfl rfl)
  obtain ⟨⟨⟨a2_0, a2_1⟩, ⟨a2_2, a2_3⟩⟩, ⟨_, _, e2, ⟨_, _, rfl, rfl, rfl⟩, ⟨_, _, rfl, rfl, rfl⟩⟩, g2⟩ := o2
  obtain rfl : cs2 = #[.int .i64 a2_0, .int .i64 a2_1, .int .i64 a2_2, .int .i64 a2_3] := Array.toList_inj.1 (by have h := e2; simp only [Value.cells] at h; rw [h]; rfl)
  clear hA0 hval0 hsz0 hsz
  have hp := P a0_0 l0_1 a1_0 a1_1 a2_0 a2_1 a2_2 a2_3 g0 g1 g2
  obtain ⟨k, hp⟩ := hp
  refine (quietuslaw14_ClockAnswersAsSpecified.calls k a0_0 _ _ l0_1 a1_0 a1_1 a2_0 a2_1 a2_2 a2_3 true W hr0_1 hc0_1 hp).mono ?_
  rintro e W' ⟨rfl, bel0⟩
  have bel : Below W.heap.size W W' := bel0
  exact ⟨_, rfl, _, _, _, [], _, [], hW', trodAll_mk1 (shut_bool Try.underlying4 _), (trodAll_cons_mk (Below.trod laidOut (by kernel_rfl) (of_decide_eq_true (by kernel_rfl)) k0 bel lt0) (trodAll_cons_mk (Below.trod laidOut (by kernel_rfl) (of_decide_eq_true (by kernel_rfl)) k1 bel lt1) (trodAll_cons_mk (Below.trod laidOut (by kernel_rfl) (of_decide_eq_true (by kernel_rfl)) k2 bel lt2) trodAll_mk0))), rfl, bel.frame _, fun h => by cases h⟩
theorem proved (P : ClockAnswersAsSpecified.Pure) : Rows.ClockAnswersAsSpecifiedSaid :=
  OpenClaim.holds_of_wide 8 Try.f8 rfl rfl rfl rfl rfl rfl rfl ⟨rfl, rfl, rfl, rfl, rfl⟩ rfl rfl rfl rfl rfl (by kernel_rfl) Try.func8 (by kernel_rfl)
    (of_decide_eq_true (by kernel_rfl)) (by unfold Func.isWrapper; first | (rw [if_pos (by decide +kernel)]; kernel_rfl) | (rw [if_neg (by decide +kernel)]; exact ⟨rfl, rfl⟩))
    (fun os started H enc _ => lifted P os started H enc)
end Go.Proofs.Yteknbadjfojmbaa.clockAnswersAsSpecified
namespace Go.Proofs.Yteknbadjfojmbaa
theorem clockAnswersAsSpecified_holds : Rows.ClockAnswersAsSpecifiedSaid := clockAnswersAsSpecified.proved QA.PureClockAnswersAsSpecified.proof
#print axioms clockAnswersAsSpecified_holds
end Go.Proofs.Yteknbadjfojmbaa
