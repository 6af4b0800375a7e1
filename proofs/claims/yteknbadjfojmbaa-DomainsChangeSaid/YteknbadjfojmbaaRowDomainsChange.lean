/- Proved here: the Go function quietus/quietuslaw10.DomainsChange returns true for every input and leaves its arguments reading as they read before. No condition. -/
import Derived.Test.YteknbadjfojmbaaRows
import Derived.Test.YteknbadjfojmbaaSDomainsChange
import Derived.Test.YteknbadjfojmbaaQAOpen
import Derived.Test.YteknbadjfojmbaaPureDomainsChange
import Derived.WalkKit
import Derived.ProofKit
import Derived.OpenShut
import Derived.ShutString
import Derived.ChangeOld
import Derived.Below
import Derived.SizedLaws
import Derived.ChangeSlices
namespace Go.Proofs.Yteknbadjfojmbaa.domainsChange
open Go.ChangeShapes Go.WideShapes Go.ChangeAt Go.RowKit Go.Proofs.Yteknbadjfojmbaa.QA Go.Proofs.YteknbadjfojmbaaW.PrintWords Go.Proofs.YteknbadjfojmbaaW.PrintLast Go.Proofs.YteknbadjfojmbaaW.PrintMore
open Go.ChangeMaps (open_string shut_string)
set_option linter.unusedVariables false
set_option linter.unusedSimpArgs false
theorem own : ownKnob Try.prog.godebug = none := by kernel_rfl
theorem laidOut : laidOutB Try.prog = true := by kernel_rfl
set_option maxRecDepth 100000 in
set_option maxHeartbeats 1000000 in
theorem lifted (P : DomainsChange.Pure) (os : Os) (started : os.Started) (H : Type) (enc : TypeId × Value → H) :
    ReturnsInHanded {} Try.checked os 6 .any (Rows.domainsChangeSpec.pre6 enc Try.prog Try.f6 Rows.domainsChangeRow.domain false) (Rows.domainsChangeSpec.post enc Try.prog Try.f6 false true false false) := by
  refine returnsInHanded_of_change_sized (C := Try.checked) own started (by kernel_rfl) Try.func6
    (ChangeSpec.witness6 (enc := enc) (C := Try.checked) false ⟨#[], #[.agg #[.slice none 0 0, .slice none 0 0, .slice none 0 0, .int .i64 0], .agg #[.int .i64 0, .int .i64 0]], []⟩ 8 (by kernel_rfl) (by kernel_rfl) (by kernel_rfl) (by kernel_rfl)) ?_
  intro W base args ds gs before hval0 hW _ hsz0 _
  have hsz : (DataW.weightsEach Try.prog (Try.f6.params.toList ++ Rows.domainsChangeSpec.plain.varTypes Try.prog) (ds ++ gs)).all (· ≤ reachBytes) = true := hsz0
  have hval : ∀ (j : Nat) t v, Try.f6.params[j]? = some t → args[j]? = some v → Value.okWide Try.prog W .any base t v := hval0
  have hW' := hW
  obtain ⟨p, q, hA0, hV, rfl, hfz, hnd⟩ := hW
  have hA : DataW.TrodAll enc Try.prog W 0 (fun _ => true) true Try.f6.params.toList args.toList ds p := hA0
  rw [Try.params6] at hA hval hsz
  obtain ⟨v0, vs0, d0, ds0, p0, q0, hargs, rfl, rfl, h0, r0⟩ := trodAll_cons hA
  obtain ⟨v1, vs1, d1, ds1, p1, q1, rfl, rfl, rfl, h1, r1⟩ := trodAll_cons r0
  obtain ⟨rfl, rfl, rfl⟩ := trodAll_nil r1
  obtain rfl : args = #[v0, v1] := by cases args; simp_all
  obtain ⟨rfl, rfl⟩ := trodVars_none hV
  have k0 := h0
  have lt0 : ∀ x ∈ p0, x.block < W.heap.size := by obtain ⟨m, hm⟩ := k0; exact DataW.trod_lt m _ _ _ hm
  have o0 := opens_arg (opens_from (from_cons (sec_struct (P := Try.prog) Try.underlying25 0 _ rfl) (opens_slice (P := Try.prog) Try.underlying22 (by kernel_rfl) (B := 8) (by kernel_rfl) (opens_int (P := Try.prog) Try.underlying3 (by kernel_rfl))) (from_cons (sec_struct (P := Try.prog) Try.underlying25 1 _ rfl) (opens_slice (P := Try.prog) Try.underlying23 (by kernel_rfl) (B := 16) (by kernel_rfl) (show Opens Try.prog 117 k117 _ from opens_iso (opens_from (from_cons (sec_struct (P := Try.prog) Try.underlying117 0 _ rfl) (opens_int (P := Try.prog) Try.underlying3 (by kernel_rfl)) (from_last (sec_struct (P := Try.prog) Try.underlying117 1 _ rfl) (opens_bool (P := Try.prog) Try.underlying4 (by kernel_rfl)) (by kernel_rfl)))) (fun x : S117 => (x.f0, x.f1)) (fun p => (⟨p.1, p.2⟩ : S117)) (fun _ => rfl))) (from_cons (sec_struct (P := Try.prog) Try.underlying25 2 _ rfl) (opens_slice (P := Try.prog) Try.underlying22 (by kernel_rfl) (B := 8) (by kernel_rfl) (opens_int (P := Try.prog) Try.underlying3 (by kernel_rfl))) (from_last (sec_struct (P := Try.prog) Try.underlying25 3 _ rfl) (opens_int (P := Try.prog) Try.underlying3 (by kernel_rfl)) (by kernel_rfl)))))) h0 hsz 0 rfl rfl
  obtain ⟨cs0, rfl, z0⟩ := okWide_struct Try.underlying25 (hval 0 25 v0 rfl rfl)
  obtain ⟨⟨l0_0, l0_1, l0_2, a0_3⟩, ⟨_, _, e0, ⟨A0_0, c0_0, rfl, hc0_0, hr0_0⟩, ⟨_, _, rfl, ⟨A0_1, c0_1, rfl, hc0_1, hr0_1⟩, ⟨_, _, rfl, ⟨A0_2, c0_2, rfl, hc0_2, hr0_2⟩, rfl⟩⟩⟩, g0⟩ := o0
  obtain rfl : cs0 = #[.slice A0_0 l0_0.length c0_0, .slice A0_1 l0_1.length c0_1, .slice A0_2 l0_2.length c0_2, .int .i64 a0_3] := Array.toList_inj.1 (by have h := e0; simp only [Value.cells] at h; rw [h]; rfl)
  have k1 := h1
  have lt1 : ∀ x ∈ p1, x.block < W.heap.size := by obtain ⟨m, hm⟩ := k1; exact DataW.trod_lt m _ _ _ hm
  have o1 := opens_arg (opens_from (from_cons (by have h := sec_array (P := Try.prog) Try.underlying44 0 (by decide); rw [show Try.prog.cellsOf 3 = 1 from by kernel_rfl] at h; exact h) (opens_int (P := Try.prog) Try.underlying3 (by kernel_rfl)) (from_last (by have h := sec_array (P := Try.prog) Try.underlying44 1 (by decide); rw [show Try.prog.cellsOf 3 = 1 from by kernel_rfl] at h; exact h) (opens_int (P := Try.prog) Try.underlying3 (by kernel_rfl)) (by kernel_rfl)))) h1 hsz 1 rfl rfl
  obtain ⟨cs1, rfl, z1⟩ := okWide_array_ Try.underlying44 (hval 1 44 v1 rfl rfl)
  obtain ⟨⟨a1_0, a1_1⟩, ⟨_, _, e1, rfl, rfl⟩, g1⟩ := o1
  obtain rfl : cs1 = #[.int .i64 a1_0, .int .i64 a1_1] := Array.toList_inj.1 (by have h := e1; simp only [Value.cells] at h; rw [h]; rfl)
  clear hA0 hval0 hsz0 hsz
  have hp := P l0_0 l0_1 l0_2 a0_3 a1_0 a1_1 g0 g1
  obtain ⟨k, hp⟩ := hp
  refine (quietuslaw10_DomainsChange.calls k _ _ l0_0 _ _ l0_1 _ _ l0_2 a0_3 a1_0 a1_1 true W hr0_0 hc0_0 hr0_1 hc0_1 hr0_2 hc0_2 hp).mono ?_
  rintro e W' ⟨rfl, bel0⟩
  have bel : Below W.heap.size W W' := bel0
  exact ⟨_, rfl, _, _, _, [], _, [], hW', trodAll_mk1 (shut_bool Try.underlying4 _), (trodAll_cons_mk (Below.trod laidOut (by kernel_rfl) (of_decide_eq_true (by kernel_rfl)) k0 bel lt0) (trodAll_cons_mk (Below.trod laidOut (by kernel_rfl) (of_decide_eq_true (by kernel_rfl)) k1 bel lt1) trodAll_mk0)), rfl, bel.frame _, fun h => by cases h⟩
theorem proved (P : DomainsChange.Pure) : Rows.DomainsChangeSaid :=
  OpenClaim.holds_of_wide 6 Try.f6 rfl rfl rfl rfl rfl rfl rfl ⟨rfl, rfl, rfl, rfl, rfl⟩ rfl rfl rfl rfl rfl (by kernel_rfl) Try.func6 (by kernel_rfl)
    (of_decide_eq_true (by kernel_rfl)) (by unfold Func.isWrapper; first | (rw [if_pos (by decide +kernel)]; kernel_rfl) | (rw [if_neg (by decide +kernel)]; exact ⟨rfl, rfl⟩))
    (fun os started H enc _ => lifted P os started H enc)
end Go.Proofs.Yteknbadjfojmbaa.domainsChange
namespace Go.Proofs.Yteknbadjfojmbaa
theorem domainsChange_holds : Rows.DomainsChangeSaid := domainsChange.proved QA.PureDomainsChange.proof
#print axioms domainsChange_holds
end Go.Proofs.Yteknbadjfojmbaa
