/- Proved here: the Go function quietus/quietuslaw14.ClockHoldsTheTruth returns true for every input and leaves its arguments reading as they read before. No condition. -/
import Derived.Test.YteknbadjfojmbaaRows
import Derived.Test.YteknbadjfojmbaaSClockHoldsTheTruth
import Derived.Test.YteknbadjfojmbaaQAOpen
import Derived.Test.YteknbadjfojmbaaPureClockHoldsTheTruth
import Derived.WalkKit
import Derived.ProofKit
import Derived.OpenShut
import Derived.ShutString
import Derived.ChangeOld
import Derived.Below
import Derived.SizedLaws
import Derived.ChangeSlices
namespace Go.Proofs.Yteknbadjfojmbaa.clockHoldsTheTruth
open Go.ChangeShapes Go.WideShapes Go.ChangeAt Go.RowKit Go.Proofs.Yteknbadjfojmbaa.QA Go.Proofs.YteknbadjfojmbaaW.PrintWords Go.Proofs.YteknbadjfojmbaaW.PrintLast Go.Proofs.YteknbadjfojmbaaW.PrintMore
open Go.ChangeMaps (open_string shut_string)
set_option linter.unusedVariables false
set_option linter.unusedSimpArgs false
theorem own : ownKnob Try.prog.godebug = none := by kernel_rfl
theorem laidOut : laidOutB Try.prog = true := by kernel_rfl
set_option maxRecDepth 100000 in
set_option maxHeartbeats 1000000 in
theorem lifted (P : ClockHoldsTheTruth.Pure) (os : Os) (started : os.Started) (H : Type) (enc : TypeId × Value → H) :
    ReturnsInHanded {} Try.checked os 11 .any (Rows.clockHoldsTheTruthSpec.pre6 enc Try.prog Try.f11 Rows.clockHoldsTheTruthRow.domain false) (Rows.clockHoldsTheTruthSpec.post enc Try.prog Try.f11 false true false false) := by
  refine returnsInHanded_of_change_sized (C := Try.checked) own started (by kernel_rfl) Try.func11
    (ChangeSpec.witness6 (enc := enc) (C := Try.checked) false ⟨#[], #[.agg #[.int .u32 0, .int .u32 0, .slice none 0 0]], []⟩ 8 (by kernel_rfl) (by kernel_rfl) (by kernel_rfl) (by kernel_rfl)) ?_
  intro W base args ds gs before hval0 hW _ hsz0 _
  have hsz : (DataW.weightsEach Try.prog (Try.f11.params.toList ++ Rows.clockHoldsTheTruthSpec.plain.varTypes Try.prog) (ds ++ gs)).all (· ≤ reachBytes) = true := hsz0
  have hval : ∀ (j : Nat) t v, Try.f11.params[j]? = some t → args[j]? = some v → Value.okWide Try.prog W .any base t v := hval0
  have hW' := hW
  obtain ⟨p, q, hA0, hV, rfl, hfz, hnd⟩ := hW
  have hA : DataW.TrodAll enc Try.prog W 0 (fun _ => true) true Try.f11.params.toList args.toList ds p := hA0
  rw [Try.params11] at hA hval hsz
  obtain ⟨v0, vs0, d0, ds0, p0, q0, hargs, rfl, rfl, h0, r0⟩ := trodAll_cons hA
  obtain ⟨rfl, rfl, rfl⟩ := trodAll_nil r0
  obtain rfl : args = #[v0] := by cases args; simp_all
  obtain ⟨rfl, rfl⟩ := trodVars_none hV
  have k0 := h0
  have lt0 : ∀ x ∈ p0, x.block < W.heap.size := by obtain ⟨m, hm⟩ := k0; exact DataW.trod_lt m _ _ _ hm
  have o0 := opens_arg (opens_from (from_cons (sec_struct (P := Try.prog) Try.underlying100 0 _ rfl) (opens_int (P := Try.prog) Try.underlying95 (by kernel_rfl)) (from_cons (sec_struct (P := Try.prog) Try.underlying100 1 _ rfl) (opens_int (P := Try.prog) Try.underlying95 (by kernel_rfl)) (from_last (sec_struct (P := Try.prog) Try.underlying100 2 _ rfl) (opens_slice (P := Try.prog) Try.underlying98 (by kernel_rfl) (B := 12) (by kernel_rfl) (show Opens Try.prog 105 k105 _ from opens_iso (opens_from (from_cons (sec_struct (P := Try.prog) Try.underlying105 0 _ rfl) (opens_int (P := Try.prog) Try.underlying96 (by kernel_rfl)) (from_cons (sec_struct (P := Try.prog) Try.underlying105 1 _ rfl) (opens_int (P := Try.prog) Try.underlying21 (by kernel_rfl)) (from_cons (sec_struct (P := Try.prog) Try.underlying105 2 _ rfl) (opens_int (P := Try.prog) Try.underlying5 (by kernel_rfl)) (from_cons (sec_struct (P := Try.prog) Try.underlying105 3 _ rfl) (opens_int (P := Try.prog) Try.underlying5 (by kernel_rfl)) (from_last (sec_struct (P := Try.prog) Try.underlying105 4 _ rfl) (opens_int (P := Try.prog) Try.underlying5 (by kernel_rfl)) (by kernel_rfl))))))) (fun x : S105 => (x.f0, x.f1, x.f2, x.f3, x.f4)) (fun p => (⟨p.1, p.2.1, p.2.2.1, p.2.2.2.1, p.2.2.2.2⟩ : S105)) (fun _ => rfl))) (by kernel_rfl))))) h0 hsz 0 rfl rfl
  obtain ⟨cs0, rfl, z0⟩ := okWide_struct Try.underlying100 (hval 0 100 v0 rfl rfl)
  obtain ⟨⟨a0_0, a0_1, l0_2⟩, ⟨_, _, e0, rfl, ⟨_, _, rfl, rfl, ⟨A0_2, c0_2, rfl, hc0_2, hr0_2⟩⟩⟩, g0⟩ := o0
  obtain rfl : cs0 = #[.int .u32 a0_0, .int .u32 a0_1, .slice A0_2 l0_2.length c0_2] := Array.toList_inj.1 (by have h := e0; simp only [Value.cells] at h; rw [h]; rfl)
  clear hA0 hval0 hsz0 hsz
  have hp := P a0_0 a0_1 l0_2 g0
  obtain ⟨k, hp⟩ := hp
  refine (quietuslaw14_ClockHoldsTheTruth.calls k a0_0 a0_1 _ _ l0_2 true W hr0_2 hc0_2 hp).mono ?_
  rintro e W' ⟨rfl, bel0⟩
  have bel : Below W.heap.size W W' := bel0
  exact ⟨_, rfl, _, _, _, [], _, [], hW', trodAll_mk1 (shut_bool Try.underlying4 _), (trodAll_cons_mk (Below.trod laidOut (by kernel_rfl) (of_decide_eq_true (by kernel_rfl)) k0 bel lt0) trodAll_mk0), rfl, bel.frame _, fun h => by cases h⟩
theorem proved (P : ClockHoldsTheTruth.Pure) : Rows.ClockHoldsTheTruthSaid :=
  OpenClaim.holds_of_wide 11 Try.f11 rfl rfl rfl rfl rfl rfl rfl ⟨rfl, rfl, rfl, rfl, rfl⟩ rfl rfl rfl rfl rfl (by kernel_rfl) Try.func11 (by kernel_rfl)
    (of_decide_eq_true (by kernel_rfl)) (by unfold Func.isWrapper; first | (rw [if_pos (by decide +kernel)]; kernel_rfl) | (rw [if_neg (by decide +kernel)]; exact ⟨rfl, rfl⟩))
    (fun os started H enc _ => lifted P os started H enc)
end Go.Proofs.Yteknbadjfojmbaa.clockHoldsTheTruth
namespace Go.Proofs.Yteknbadjfojmbaa
theorem clockHoldsTheTruth_holds : Rows.ClockHoldsTheTruthSaid := clockHoldsTheTruth.proved QA.PureClockHoldsTheTruth.proof
#print axioms clockHoldsTheTruth_holds
end Go.Proofs.Yteknbadjfojmbaa
