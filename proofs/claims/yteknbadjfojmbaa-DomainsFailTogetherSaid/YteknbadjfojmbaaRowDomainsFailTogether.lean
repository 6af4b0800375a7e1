/- Proved here: the Go function quietus/quietuslaw10.DomainsFailTogether returns true for every input and leaves its arguments reading as they read before. No condition. -/
-- WRITTEN BY qprint.py, a program of this session (the kit's print, driven with contracts proved by hand): Lean checks it.
import Derived.Test.YteknbadjfojmbaaRows
import Derived.Test.YteknbadjfojmbaaSDomainsFailTogether
import Derived.Test.YteknbadjfojmbaaQAOpen
import Derived.Test.YteknbadjfojmbaaPureDomainsFailTogether
import Derived.WalkKit
import Derived.ProofKit
import Derived.OpenShut
import Derived.ShutString
import Derived.ChangeOld
import Derived.Below
import Derived.SizedLaws
import Derived.ChangeSlices
namespace Go.Proofs.Yteknbadjfojmbaa.domainsFailTogether
open Go.ChangeShapes Go.WideShapes Go.ChangeAt Go.RowKit Go.Proofs.Yteknbadjfojmbaa.QA Go.Proofs.YteknbadjfojmbaaW.PrintWords Go.Proofs.YteknbadjfojmbaaW.PrintLast Go.Proofs.YteknbadjfojmbaaW.PrintMore
open Go.ChangeMaps (open_string shut_string)
set_option linter.unusedVariables false
set_option linter.unusedSimpArgs false
theorem own : ownKnob Try.prog.godebug = none := by kernel_rfl
theorem laidOut : laidOutB Try.prog = true := by kernel_rfl
set_option maxRecDepth 100000 in
set_option maxHeartbeats 1000000 in
theorem lifted (P : DomainsFailTogether.Pure) (os : Os) (started : os.Started) (H : Type) (enc : TypeId × Value → H) :
    ReturnsInHanded {} Try.checked os 5 .any (Rows.domainsFailTogetherSpec.pre6 enc Try.prog Try.f5 Rows.domainsFailTogetherRow.domain false) (Rows.domainsFailTogetherSpec.post enc Try.prog Try.f5 false true false false) := by
  refine returnsInHanded_of_change_sized (C := Try.checked) own started (by kernel_rfl) Try.func5
    (ChangeSpec.witness6 (enc := enc) (C := Try.checked) false ⟨#[], #[.agg #[.slice none 0 0, .slice none 0 0, .slice none 0 0, .int .i64 0], .slice none 0 0, .agg #[.slice none 0 0, .slice none 0 0], .agg #[.int .u8 0, .int .u8 0]], []⟩ 8 (by kernel_rfl) (by kernel_rfl) (by kernel_rfl) (by kernel_rfl)) ?_
  intro W base args ds gs before hval0 hW _ hsz0 _
  have hsz : (DataW.weightsEach Try.prog (Try.f5.params.toList ++ Rows.domainsFailTogetherSpec.plain.varTypes Try.prog) (ds ++ gs)).all (· ≤ reachBytes) = true := hsz0
  have hval : ∀ (j : Nat) t v, Try.f5.params[j]? = some t → args[j]? = some v → Value.okWide Try.prog W .any base t v := hval0
  have hW' := hW
  obtain ⟨p, q, hA0, hV, rfl, hfz, hnd⟩ := hW
  have hA : DataW.TrodAll enc Try.prog W 0 (fun _ => true) true Try.f5.params.toList args.toList ds p := hA0
  rw [Try.params5] at hA hval hsz
  obtain ⟨v0, vs0, d0, ds0, p0, q0, hargs, rfl, rfl, h0, r0⟩ := trodAll_cons hA
  obtain ⟨v1, vs1, d1, ds1, p1, q1, rfl, rfl, rfl, h1, r1⟩ := trodAll_cons r0
  obtain ⟨v2, vs2, d2, ds2, p2, q2, rfl, rfl, rfl, h2, r2⟩ := trodAll_cons r1
  obtain ⟨v3, vs3, d3, ds3, p3, q3, rfl, rfl, rfl, h3, r3⟩ := trodAll_cons r2
  obtain ⟨rfl, rfl, rfl⟩ := trodAll_nil r3
  obtain rfl : args = #[v0, v1, v2, v3] := by cases args; simp_all
  obtain ⟨rfl, rfl⟩ := trodVars_none hV
  have k0 := h0
  have lt0 : ∀ x ∈ p0, x.block < W.heap.size := by obtain ⟨m, hm⟩ := k0; exact DataW.trod_lt m _ _ _ hm
  have o0 := opens_arg (opens_from (from_cons (sec_struct (P := Try.prog) Try.underlying25 0 _ rfl) (opens_slice (P := Try.prog) Try.underlying22 (by kernel_rfl) (B := 8) (by kernel_rfl) (opens_int (P := Try.prog) Try.underlying3 (by kernel_rfl))) (from_cons (sec_struct (P := Try.prog) Try.underlying25 1 _ rfl) (opens_slice (P := Try.prog) Try.underlying23 (by kernel_rfl) (B := 16) (by kernel_rfl) (show Opens Try.prog 117 k117 _ from opens_iso (opens_from (from_cons (sec_struct (P := Try.prog) Try.underlying117 0 _ rfl) (opens_int (P := Try.prog) Try.underlying3 (by kernel_rfl)) (from_last (sec_struct (P := Try.prog) Try.underlying117 1 _ rfl) (opens_bool (P := Try.prog) Try.underlying4 (by kernel_rfl)) (by kernel_rfl)))) (fun x : S117 => (x.f0, x.f1)) (fun p => (⟨p.1, p.2⟩ : S117)) (fun _ => rfl))) (from_cons (sec_struct (P := Try.prog) Try.underlying25 2 _ rfl) (opens_slice (P := Try.prog) Try.underlying22 (by kernel_rfl) (B := 8) (by kernel_rfl) (opens_int (P := Try.prog) Try.underlying3 (by kernel_rfl))) (from_last (sec_struct (P := Try.prog) Try.underlying25 3 _ rfl) (opens_int (P := Try.prog) Try.underlying3 (by kernel_rfl)) (by kernel_rfl)))))) h0 hsz 0 rfl rfl
  obtain ⟨cs0, rfl, z0⟩ := okWide_struct Try.underlying25 (hval 0 25 v0 rfl rfl)
  obtain ⟨⟨l0_0, l0_1, l0_2, a0_3⟩, ⟨_, _, e0, ⟨A0_0, c0_0, rfl, hc0_0, hr0_0⟩, ⟨_, _, rfl, ⟨A0_1, c0_1, rfl, hc0_1, hr0_1⟩, ⟨_, _, rfl, ⟨A0_2, c0_2, rfl, hc0_2, hr0_2⟩, rfl⟩⟩⟩, g0⟩ := o0
  obtain rfl : cs0 = #[.slice A0_0 l0_0.length c0_0, .slice A0_1 l0_1.length c0_1, .slice A0_2 l0_2.length c0_2, .int .i64 a0_3] := Array.toList_inj.1 (by have h := e0; simp only [Value.cells] at h; rw [h]; rfl)
  have k1 := h1
  have lt1 : ∀ x ∈ p1, x.block < W.heap.size := by obtain ⟨m, hm⟩ := k1; exact DataW.trod_lt m _ _ _ hm
  have o1 := opens_arg (opens_slice (P := Try.prog) Try.underlying22 (by kernel_rfl) (B := 8) (by kernel_rfl) (opens_int (P := Try.prog) Try.underlying3 (by kernel_rfl))) h1 hsz 1 rfl rfl
  obtain ⟨A1, n1, c1, rfl⟩ := okWide_slice Try.underlying22 (hval 1 22 v1 rfl rfl)
  obtain ⟨l1, ⟨A1', c1', e1, hc1, hr1⟩, g1⟩ := o1
  obtain ⟨rfl, rfl, rfl⟩ : A1 = A1' ∧ n1 = l1.length ∧ c1 = c1' := by simpa [Value.cells] using e1
  have k2 := h2
  have lt2 : ∀ x ∈ p2, x.block < W.heap.size := by obtain ⟨m, hm⟩ := k2; exact DataW.trod_lt m _ _ _ hm
  have o2 := opens_arg (opens_from (from_cons (by have h := sec_array (P := Try.prog) Try.underlying38 0 (by decide); rw [show Try.prog.cellsOf 22 = 1 from by kernel_rfl] at h; exact h) (opens_slice (P := Try.prog) Try.underlying22 (by kernel_rfl) (B := 8) (by kernel_rfl) (opens_int (P := Try.prog) Try.underlying3 (by kernel_rfl))) (from_last (by have h := sec_array (P := Try.prog) Try.underlying38 1 (by decide); rw [show Try.prog.cellsOf 22 = 1 from by kernel_rfl] at h; exact h) (opens_slice (P := Try.prog) Try.underlying22 (by kernel_rfl) (B := 8) (by kernel_rfl) (opens_int (P := Try.prog) Try.underlying3 (by kernel_rfl))) (by kernel_rfl)))) h2 hsz 2 rfl rfl
  obtain ⟨cs2, rfl, z2⟩ := okWide_array_ Try.underlying38 (hval 2 38 v2 rfl rfl)
  obtain ⟨⟨l2_0, l2_1⟩, ⟨_, _, e2, ⟨A2_0, c2_0, rfl, hc2_0, hr2_0⟩, ⟨A2_1, c2_1, rfl, hc2_1, hr2_1⟩⟩, g2⟩ := o2
  obtain rfl : cs2 = #[.slice A2_0 l2_0.length c2_0, .slice A2_1 l2_1.length c2_1] := Array.toList_inj.1 (by have h := e2; simp only [Value.cells] at h; rw [h]; rfl)
  have k3 := h3
  have lt3 : ∀ x ∈ p3, x.block < W.heap.size := by obtain ⟨m, hm⟩ := k3; exact DataW.trod_lt m _ _ _ hm
  have o3 := opens_arg (opens_from (from_cons (by have h := sec_array (P := Try.prog) Try.underlying39 0 (by decide); rw [show Try.prog.cellsOf 5 = 1 from by kernel_rfl] at h; exact h) (opens_int (P := Try.prog) Try.underlying5 (by kernel_rfl)) (from_last (by have h := sec_array (P := Try.prog) Try.underlying39 1 (by decide); rw [show Try.prog.cellsOf 5 = 1 from by kernel_rfl] at h; exact h) (opens_int (P := Try.prog) Try.underlying5 (by kernel_rfl)) (by kernel_rfl)))) h3 hsz 3 rfl rfl
  obtain ⟨cs3, rfl, z3⟩ := okWide_array_ Try.underlying39 (hval 3 39 v3 rfl rfl)
  obtain ⟨⟨a3_0, a3_1⟩, ⟨_, _, e3, rfl, rfl⟩, g3⟩ := o3
  obtain rfl : cs3 = #[.int .u8 a3_0, .int .u8 a3_1] := Array.toList_inj.1 (by have h := e3; simp only [Value.cells] at h; rw [h]; rfl)
  clear hA0 hval0 hsz0 hsz
  have hp := P l0_0 l0_1 l0_2 a0_3 l1 l2_0 l2_1 a3_0 a3_1 g0 g1 g2 g3
  obtain ⟨k, hp⟩ := hp
  refine (quietuslaw10_DomainsFailTogether.calls k _ _ l0_0 _ _ l0_1 _ _ l0_2 a0_3 _ _ l1 _ _ l2_0 _ _ l2_1 a3_0 a3_1 true W hr0_0 hc0_0 hr0_1 hc0_1 hr0_2 hc0_2 hr1 hc1 hr2_0 hc2_0 hr2_1 hc2_1 hp).mono ?_
  rintro e W' ⟨rfl, bel0⟩
  have bel : Below W.heap.size W W' := bel0
  exact ⟨_, rfl, _, _, _, [], _, [], hW', trodAll_mk1 (shut_bool Try.underlying4 _), (trodAll_cons_mk (Below.trod laidOut (by kernel_rfl) (of_decide_eq_true (by kernel_rfl)) k0 bel lt0) (trodAll_cons_mk (Below.trod laidOut (by kernel_rfl) (of_decide_eq_true (by kernel_rfl)) k1 bel lt1) (trodAll_cons_mk (Below.trod laidOut (by kernel_rfl) (of_decide_eq_true (by kernel_rfl)) k2 bel lt2) (trodAll_cons_mk (Below.trod laidOut (by kernel_rfl) (of_decide_eq_true (by kernel_rfl)) k3 bel lt3) trodAll_mk0)))), rfl, bel.frame _, fun h => by cases h⟩
theorem proved (P : DomainsFailTogether.Pure) : Rows.DomainsFailTogetherSaid :=
  OpenClaim.holds_of_wide 5 Try.f5 rfl rfl rfl rfl rfl rfl rfl ⟨rfl, rfl, rfl, rfl, rfl⟩ rfl rfl rfl rfl rfl (by kernel_rfl) Try.func5 (by kernel_rfl)
    (of_decide_eq_true (by kernel_rfl)) (by unfold Func.isWrapper; first | (rw [if_pos (by decide +kernel)]; kernel_rfl) | (rw [if_neg (by decide +kernel)]; exact ⟨rfl, rfl⟩))
    (fun os started H enc _ => lifted P os started H enc)
end Go.Proofs.Yteknbadjfojmbaa.domainsFailTogether
namespace Go.Proofs.Yteknbadjfojmbaa
/-- The statement. -/
theorem domainsFailTogether_holds : Rows.DomainsFailTogetherSaid := domainsFailTogether.proved QA.PureDomainsFailTogether.proof
#print axioms domainsFailTogether_holds
end Go.Proofs.Yteknbadjfojmbaa
