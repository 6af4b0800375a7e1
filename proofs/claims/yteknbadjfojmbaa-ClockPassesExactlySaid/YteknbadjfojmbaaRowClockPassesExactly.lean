/- Proved here: the Go function quietus/quietuslaw14.ClockPassesExactly returns true for every input and leaves its arguments reading as they read before. No condition. -/
import Derived.Test.YteknbadjfojmbaaRows
import Derived.Test.YteknbadjfojmbaaSClockPassesExactly
import Derived.Test.YteknbadjfojmbaaQAOpen
import Derived.Test.YteknbadjfojmbaaPureClockPassesExactly
import Derived.WalkKit
import Derived.ProofKit
import Derived.OpenShut
import Derived.ShutString
import Derived.ChangeOld
import Derived.Below
import Derived.SizedLaws
import Derived.ChangeSlices
namespace Go.Proofs.Yteknbadjfojmbaa.clockPassesExactly
open Go.ChangeShapes Go.WideShapes Go.ChangeAt Go.RowKit Go.Proofs.Yteknbadjfojmbaa.QA Go.Proofs.YteknbadjfojmbaaW.PrintWords Go.Proofs.YteknbadjfojmbaaW.PrintLast Go.Proofs.YteknbadjfojmbaaW.PrintMore
open Go.ChangeMaps (open_string shut_string)
set_option linter.unusedVariables false
set_option linter.unusedSimpArgs false
theorem own : ownKnob Try.prog.godebug = none := by kernel_rfl
theorem laidOut : laidOutB Try.prog = true := by kernel_rfl
set_option maxRecDepth 100000 in
set_option maxHeartbeats 1000000 in
theorem lifted (P : ClockPassesExactly.Pure) (os : Os) (started : os.Started) (H : Type) (enc : TypeId × Value → H) :
    ReturnsInHanded {} Try.checked os 10 .any (Rows.clockPassesExactlySpec.pre6 enc Try.prog Try.f10 Rows.clockPassesExactlyRow.domain false) (Rows.clockPassesExactlySpec.post enc Try.prog Try.f10 false true false false) := by
  refine returnsInHanded_of_change_sized (C := Try.checked) own started (by kernel_rfl) Try.func10
    (ChangeSpec.witness6 (enc := enc) (C := Try.checked) false ⟨#[], #[.int .u32 0, .int .u16 0, .int .u16 0], []⟩ 8 (by kernel_rfl) (by kernel_rfl) (by kernel_rfl) (by kernel_rfl)) ?_
  intro W base args ds gs before hval0 hW _ hsz0 _
  have hsz : (DataW.weightsEach Try.prog (Try.f10.params.toList ++ Rows.clockPassesExactlySpec.plain.varTypes Try.prog) (ds ++ gs)).all (· ≤ reachBytes) = true := hsz0
  have hval : ∀ (j : Nat) t v, Try.f10.params[j]? = some t → args[j]? = some v → Value.okWide Try.prog W .any base t v := hval0
  have hW' := hW
  obtain ⟨p, q, hA0, hV, rfl, hfz, hnd⟩ := hW
  have hA : DataW.TrodAll enc Try.prog W 0 (fun _ => true) true Try.f10.params.toList args.toList ds p := hA0
  rw [Try.params10] at hA hval hsz
  obtain ⟨v0, vs0, d0, ds0, p0, q0, hargs, rfl, rfl, h0, r0⟩ := trodAll_cons hA
  obtain ⟨v1, vs1, d1, ds1, p1, q1, rfl, rfl, rfl, h1, r1⟩ := trodAll_cons r0
  obtain ⟨v2, vs2, d2, ds2, p2, q2, rfl, rfl, rfl, h2, r2⟩ := trodAll_cons r1
  obtain ⟨rfl, rfl, rfl⟩ := trodAll_nil r2
  obtain rfl : args = #[v0, v1, v2] := by cases args; simp_all
  obtain ⟨rfl, rfl⟩ := trodVars_none hV
  have k0 := h0
  have lt0 : ∀ x ∈ p0, x.block < W.heap.size := by obtain ⟨m, hm⟩ := k0; exact DataW.trod_lt m _ _ _ hm
  have o0 := opens_arg (opens_int (P := Try.prog) Try.underlying95 (by kernel_rfl)) h0 hsz 0 rfl rfl
  obtain ⟨a0, rfl⟩ := okWide_int_ Try.underlying95 (hval 0 95 v0 rfl rfl)
  obtain ⟨a0', e0, g0⟩ := o0
  obtain rfl : a0 = a0' := by simpa [Value.cells, Kd.int, Kd.scalar] using e0
  have k1 := h1
  have lt1 : ∀ x ∈ p1, x.block < W.heap.size := by obtain ⟨m, hm⟩ := k1; exact DataW.trod_lt m _ _ _ hm
  have o1 := opens_arg (opens_int (P := Try.prog) Try.underlying96 (by kernel_rfl)) h1 hsz 1 rfl rfl
  obtain ⟨a1, rfl⟩ := okWide_int_ Try.underlying96 (hval 1 96 v1 rfl rfl)
  obtain ⟨a1', e1, g1⟩ := o1
  obtain rfl : a1 = a1' := by simpa [Value.cells, Kd.int, Kd.scalar] using e1
  have k2 := h2
  have lt2 : ∀ x ∈ p2, x.block < W.heap.size := by obtain ⟨m, hm⟩ := k2; exact DataW.trod_lt m _ _ _ hm
  have o2 := opens_arg (opens_int (P := Try.prog) Try.underlying96 (by kernel_rfl)) h2 hsz 2 rfl rfl
  obtain ⟨a2, rfl⟩ := okWide_int_ Try.underlying96 (hval 2 96 v2 rfl rfl)
  obtain ⟨a2', e2, g2⟩ := o2
  obtain rfl : a2 = a2' := by simpa [Value.cells, Kd.int, Kd.scalar] using e2
  clear hA0 hval0 hsz0 hsz
  have hp := P a0 a1 a2 g0 g1 g2
  refine (quietuslaw14_ClockPassesExactly.calls a0 a1 a2 true W  hp).mono ?_
  rintro e W' ⟨rfl, bel0⟩
  have bel : Below W.heap.size W W' := bel0
  exact ⟨_, rfl, _, _, _, [], _, [], hW', trodAll_mk1 (shut_bool Try.underlying4 _), (trodAll_cons_mk (Below.trod laidOut (by kernel_rfl) (of_decide_eq_true (by kernel_rfl)) k0 bel lt0) (trodAll_cons_mk (Below.trod laidOut (by kernel_rfl) (of_decide_eq_true (by kernel_rfl)) k1 bel lt1) (trodAll_cons_mk (Below.trod laidOut (by kernel_rfl) (of_decide_eq_true (by kernel_rfl)) k2 bel lt2) trodAll_mk0))), rfl, bel.frame _, fun h => by cases h⟩
theorem proved (P : ClockPassesExactly.Pure) : Rows.ClockPassesExactlySaid :=
  OpenClaim.holds_of_wide 10 Try.f10 rfl rfl rfl rfl rfl rfl rfl ⟨rfl, rfl, rfl, rfl, rfl⟩ rfl rfl rfl rfl rfl (by kernel_rfl) Try.func10 (by kernel_rfl)
    (of_decide_eq_true (by kernel_rfl)) (by unfold Func.isWrapper; first | (rw [if_pos (by decide +kernel)]; kernel_rfl) | (rw [if_neg (by decide +kernel)]; exact ⟨rfl, rfl⟩))
    (fun os started H enc _ => lifted P os started H enc)
end Go.Proofs.Yteknbadjfojmbaa.clockPassesExactly
namespace Go.Proofs.Yteknbadjfojmbaa
theorem clockPassesExactly_holds : Rows.ClockPassesExactlySaid := clockPassesExactly.proved QA.PureClockPassesExactly.proof
#print axioms clockPassesExactly_holds
end Go.Proofs.Yteknbadjfojmbaa
