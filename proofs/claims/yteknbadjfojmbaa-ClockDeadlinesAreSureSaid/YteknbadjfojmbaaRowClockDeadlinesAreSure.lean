/- Proved here: the Go function quietus/quietuslaw14.ClockDeadlinesAreSure returns true for every input and leaves its arguments reading as they read before. No condition. -/
import Derived.Test.YteknbadjfojmbaaRows
import Derived.Test.YteknbadjfojmbaaSClockDeadlinesAreSure
import Derived.Test.YteknbadjfojmbaaQAOpen
import Derived.Test.YteknbadjfojmbaaPureClockDeadlinesAreSure
import Derived.WalkKit
import Derived.ProofKit
import Derived.OpenShut
import Derived.ShutString
import Derived.ChangeOld
import Derived.Below
import Derived.SizedLaws
import Derived.ChangeSlices
namespace Go.Proofs.Yteknbadjfojmbaa.clockDeadlinesAreSure
open Go.ChangeShapes Go.WideShapes Go.ChangeAt Go.RowKit Go.Proofs.Yteknbadjfojmbaa.QA Go.Proofs.YteknbadjfojmbaaW.PrintWords Go.Proofs.YteknbadjfojmbaaW.PrintLast Go.Proofs.YteknbadjfojmbaaW.PrintMore
open Go.ChangeMaps (open_string shut_string)
set_option linter.unusedVariables false
set_option linter.unusedSimpArgs false
theorem own : ownKnob Try.prog.godebug = none := by kernel_rfl
theorem laidOut : laidOutB Try.prog = true := by kernel_rfl
set_option maxRecDepth 100000 in
set_option maxHeartbeats 1000000 in
theorem lifted (P : ClockDeadlinesAreSure.Pure) (os : Os) (started : os.Started) (H : Type) (enc : TypeId × Value → H) :
    ReturnsInHanded {} Try.checked os 12 .any (Rows.clockDeadlinesAreSureSpec.pre6 enc Try.prog Try.f12 Rows.clockDeadlinesAreSureRow.domain false) (Rows.clockDeadlinesAreSureSpec.post enc Try.prog Try.f12 false true false false) := by
  refine returnsInHanded_of_change_sized (C := Try.checked) own started (by kernel_rfl) Try.func12
    (ChangeSpec.witness6 (enc := enc) (C := Try.checked) false ⟨#[], #[.agg #[.int .u32 0, .int .u32 0, .slice none 0 0], .slice none 0 0], []⟩ 8 (by kernel_rfl) (by kernel_rfl) (by kernel_rfl) (by kernel_rfl)) ?_
  intro W base args ds gs before hval0 hW _ hsz0 _
  have hsz : (DataW.weightsEach Try.prog (Try.f12.params.toList ++ Rows.clockDeadlinesAreSureSpec.plain.varTypes Try.prog) (ds ++ gs)).all (· ≤ reachBytes) = true := hsz0
  have hval : ∀ (j : Nat) t v, Try.f12.params[j]? = some t → args[j]? = some v → Value.okWide Try.prog W .any base t v := hval0
  have hW' := hW
  obtain ⟨p, q, hA0, hV, rfl, hfz, hnd⟩ := hW
  have hA : DataW.TrodAll enc Try.prog W 0 (fun _ => true) true Try.f12.params.toList args.toList ds p := hA0
  rw [Try.params12] at hA hval hsz
  obtain ⟨v0, vs0, d0, ds0, p0, q0, hargs, rfl, rfl, h0, r0⟩ := trodAll_cons hA
  obtain ⟨v1, vs1, d1, ds1, p1, q1, rfl, rfl, rfl, h1, r1⟩ := trodAll_cons r0
  obtain ⟨rfl, rfl, rfl⟩ := trodAll_nil r1
  obtain rfl : args = #[v0, v1] := by cases args; simp_all
  obtain ⟨rfl, rfl⟩ := trodVars_none hV
  have k0 := h0
  have lt0 : ∀ x ∈ p0, x.block < W.heap.size := by obtain ⟨m, hm⟩ := k0; exact DataW.trod_lt m _ _ _ hm
  have o0 := opens_arg (opens_from (from_cons (sec_struct (P := Try.prog) Try.underlying100 0 _ rfl) (opens_int (P := Try.prog) Try.underlying95 (by kernel_rfl)) (from_cons (sec_struct (P := Try.prog) Try.underlying100 1 _ rfl) (opens_int (P := Try.prog) Try.underlying95 (by kernel_rfl)) (from_last (sec_struct (P := Try.prog) Try.underlying100 2 _ rfl) (opens_slice (P := Try.prog) Try.underlying98 (by kernel_rfl) (B := 12) (by kernel_rfl) (show Opens Try.prog 105 k105 _ from opens_iso (opens_from (from_cons (sec_struct (P := Try.prog) Try.underlying105 0 _ rfl) (opens_int (P := Try.prog) Try.underlying96 (by kernel_rfl)) (from_cons (sec_struct (P := Try.prog) Try.underlying105 1 _ rfl) (opens_int (P := Try.prog) Try.underlying21 (by kernel_rfl)) (from_cons (sec_struct (P := Try.prog) Try.underlying105 2 _ rfl) (opens_int (P := Try.prog) Try.underlying5 (by kernel_rfl)) (from_cons (sec_struct (P := Try.prog) Try.underlying105 3 _ rfl) (opens_int (P := Try.prog) Try.underlying5 (by kernel_rfl)) (from_last (sec_struct (P := Try.prog) Try.underlying105 4 _ rfl) (opens_int (P := Try.prog) Try.underlying5 (by kernel_rfl)) (by kernel_rfl))))))) (fun x : S105 => (x.f0, x.f1, x.f2, x.f3, x.f4)) (fun p => (⟨p.1, p.2.1, p.2.2.1, p.2.2.2.1, p.2.2.2.2⟩ : S105)) (fun _ => rfl))) (by kernel_rfl))))) h0 hsz 0 rfl rfl
  obtain ⟨cs0, rfl, z0⟩ := okWide_struct Try.underlying100 (hval 0 100 v0 rfl rfl)
  obtain ⟨⟨a0_0, a0_1, l0_2⟩, ⟨_, _, e0, rfl, ⟨_, _, rfl, rfl, ⟨A0_2, c0_2, rfl, hc0_2, hr0_2⟩⟩⟩, g0⟩ := o0
  obtain rfl : cs0 = #[.int .u32 a0_0, .int .u32 a0_1, .slice A0_2 l0_2.length c0_2] := Array.toList_inj.1 (by have h := e0; simp only [Value.cells] at h; rw [h]; rfl)
  have k1 := h1
  have lt1 : ∀ x ∈ p1, x.block < W.heap.size := by obtain ⟨m, hm⟩ := k1; exact DataW.trod_lt m _ _ _ hm
  have o1 := opens_arg (opens_slice (P := Try.prog) Try.underlying109 (by kernel_rfl) (B := 2) (by kernel_rfl) (opens_int (P := Try.prog) Try.underlying110 (by kernel_rfl))) h1 hsz 1 rfl rfl
  obtain ⟨A1, n1, c1, rfl⟩ := okWide_slice Try.underlying109 (hval 1 109 v1 rfl rfl)
  obtain ⟨l1, ⟨A1', c1', e1, hc1, hr1⟩, g1⟩ := o1
  obtain ⟨rfl, rfl, rfl⟩ : A1 = A1' ∧ n1 = l1.length ∧ c1 = c1' := by simpa [Value.cells] using e1
  clear hA0 hval0 hsz0 hsz
  have hp := P a0_0 a0_1 l0_2 l1 g0 g1
  obtain ⟨k, hp⟩ := hp
  refine (quietuslaw14_ClockDeadlinesAreSure.calls k a0_0 a0_1 _ _ l0_2 _ _ l1 true W hr0_2 hc0_2 hr1 hc1 hp).mono ?_
  rintro e W' ⟨rfl, bel0⟩
  have bel : Below W.heap.size W W' := bel0
  exact ⟨_, rfl, _, _, _, [], _, [], hW', trodAll_mk1 (shut_bool Try.underlying4 _), (trodAll_cons_mk (Below.trod laidOut (by kernel_rfl) (of_decide_eq_true (by kernel_rfl)) k0 bel lt0) (trodAll_cons_mk (Below.trod laidOut (by kernel_rfl) (of_decide_eq_true (by kernel_rfl)) k1 bel lt1) trodAll_mk0)), rfl, bel.frame _, fun h => by cases h⟩
theorem proved (P : ClockDeadlinesAreSure.Pure) : Rows.ClockDeadlinesAreSureSaid :=
  OpenClaim.holds_of_wide 12 Try.f12 rfl rfl rfl rfl rfl rfl rfl ⟨rfl, rfl, rfl, rfl, rfl⟩ rfl rfl rfl rfl rfl (by kernel_rfl) Try.func12 (by kernel_rfl)
    (of_decide_eq_true (by kernel_rfl)) (by unfold Func.isWrapper; first | (rw [if_pos (by decide +kernel)]; kernel_rfl) | (rw [if_neg (by decide +kernel)]; exact ⟨rfl, rfl⟩))
    (fun os started H enc _ => lifted P os started H enc)
end Go.Proofs.Yteknbadjfojmbaa.clockDeadlinesAreSure
namespace Go.Proofs.Yteknbadjfojmbaa
theorem clockDeadlinesAreSure_holds : Rows.ClockDeadlinesAreSureSaid := clockDeadlinesAreSure.proved QA.PureClockDeadlinesAreSure.proof
#print axioms clockDeadlinesAreSure_holds
end Go.Proofs.Yteknbadjfojmbaa
