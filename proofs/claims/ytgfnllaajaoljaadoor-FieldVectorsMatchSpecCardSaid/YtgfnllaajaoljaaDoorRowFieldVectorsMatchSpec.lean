/- Proved here: the Go function quietus/quietuslaw04.FieldVectorsMatchSpec returns true for every input and leaves its arguments reading as they read before. Condition: the table quietus/gf.high reads as the row lists it (the card ties it to the text of the program). -/
-- WRITTEN BY qprint.py, a program of this session (the kit's print, driven with contracts proved by hand): Lean checks it.
import Derived.Test.YtgfnllaajaoljaaDoorRows
import Derived.Test.YtgfnllaajaoljaaDoorSFieldVectorsMatchSpec
import Derived.Test.YtgfnllaajaoljaaDoorQAOpen
import Derived.Test.YtgfnllaajaoljaaDoorPureFieldVectorsMatchSpec
import Derived.WalkKit
import Derived.ProofKit
import Derived.OpenShut
import Derived.ShutString
import Derived.ChangeOld
import Derived.Below
import Derived.SizedLaws
import Derived.ChangeSlices
import Derived.LaidMore
import Derived.Stop.Joined
import Derived.Lib.LaidTab
import Derived.SevenTiedAt
import Derived.Test.YtgfnllaajaoljaaDoorTie
import Derived.Test.YtgfnllaajaoljaaDoorCards
namespace Go.Proofs.YtgfnllaajaoljaaDoor.fieldVectorsMatchSpec
open Go.ChangeShapes Go.WideShapes Go.ChangeAt Go.RowKit Go.Proofs.YtgfnllaajaoljaaDoor.QA Go.Proofs.YtgfnllaajaoljaaDoorW.PrintWords Go.Proofs.YtgfnllaajaoljaaDoorW.PrintLast Go.Proofs.YtgfnllaajaoljaaDoorW.PrintMore
open Go.ChangeMaps (open_string shut_string)
set_option linter.unusedVariables false
set_option linter.unusedSimpArgs false
theorem own : ownKnob Tryd.prog.godebug = none := by kernel_rfl
theorem laidOut : laidOutB Tryd.prog = true := by kernel_rfl
theorem of_laid {W : World} (h : laidMetH Tryd.prog [("quietus/gf.high", Rows.laid_quietus_gf_high)] W) : Kd.C (Kd.int .u8) W (some ⟨0, 0, none⟩) 16 highTbl := by
  have gH : Tryd.prog.globalNamed "quietus/gf.high" = some 0 := by kernel_rfl
  have h2 : laidMet Tryd.prog [("quietus/gf.high", Lib.tabData .u8 highTbl)] W := by rw [MakeChecks.laidMetH_plain _ _ _ (by kernel_rfl)] at h; exact h
  have ht := Lib.tabIs_of_head (t := 115) (e := 5) (n := 16) gH (by kernel_rfl) Tryd.underlying115 Tryd.underlying5 (by kernel_rfl) (by kernel_rfl) h2
  refine Kd.C_of_reads (d := (0 : Int)) (h1 := fun _ => rfl) ⟨rfl, by omega, fun _ => ⟨_, rfl, fun j hj => ?_⟩⟩
  rw [Go.Proofs.YtgfnllaajaoljaaDoorW.PrintWords.add_plain]
  refine (World.var?_cell gH ht j).trans ?_
  have hj2 : j < highTbl.length := hj
  simp [List.getElem?_eq_getElem hj2]
theorem door_met (os : Os) (args : Array Value) : laidMetH Tryd.prog [("quietus/gf.high", Rows.laid_quietus_gf_high)] ((World.doorLaid Tryd.prog 400 os).forCall (fun _ _ => 0) ⟨#[], args, []⟩).memory :=
  laidMetH_of_parts3 (fuel := 8) (laidMet_of_run' 8 (by kernel_rfl) (by kernel_rfl)) (by kernel_rfl) (by kernel_rfl)
set_option maxRecDepth 100000 in
set_option maxHeartbeats 1000000 in
theorem lifted (P : FieldVectorsMatchSpec.Pure) (os : Os) (started : os.Started) (H : Type) (enc : TypeId × Value → H) :
    ReturnsInHanded {} Tryd.checked os 6 .any (fun w args => (Rows.fieldVectorsMatchSpecSpec.pre enc Tryd.prog Tryd.f6 [] false w args ∧ laidMetH Tryd.prog [("quietus/gf.high", Rows.laid_quietus_gf_high)] w) ∧ sizedMet enc Tryd.prog Tryd.f6 (OpenSpec.ofChange Rows.fieldVectorsMatchSpecSpec) false w args) (Rows.fieldVectorsMatchSpecSpec.post enc Tryd.prog Tryd.f6 false true false false) := by
  refine returnsInHanded_of_change_and (C := Tryd.checked) (X := fun w _ => laidMetH Tryd.prog [("quietus/gf.high", Rows.laid_quietus_gf_high)] w) (fun _ _ _ hh h => h.of_heap hh) own started (by kernel_rfl) Tryd.func6
    (ChangeSpec.witness_shaped (enc := enc) (C := Tryd.checked) (os := os) (X := fun w _ => laidMetH Tryd.prog [("quietus/gf.high", Rows.laid_quietus_gf_high)] w) false (World.doorLaid Tryd.prog 400 os) #[.string ByteArray.empty, .string ByteArray.empty, .slice none 0 0, .slice none 0 0] 8 rfl (World.shaped_of_RefB (by kernel_rfl) (by kernel_rfl)) (by kernel_rfl) (by kernel_rfl) (by kernel_rfl) (door_met os _)) ?_
  intro W base args ds gs before hval0 hW _ hsz0 hL _
  have hrG := of_laid hL
  have hsz : (DataW.weightsEach Tryd.prog (Tryd.f6.params.toList ++ Rows.fieldVectorsMatchSpecSpec.plain.varTypes Tryd.prog) (ds ++ gs)).all (· ≤ reachBytes) = true := hsz0
  have hval : ∀ (j : Nat) t v, Tryd.f6.params[j]? = some t → args[j]? = some v → Value.okWide Tryd.prog W .any base t v := hval0
  have hW' := hW
  obtain ⟨p, q, hA0, hV, rfl, hfz, hnd⟩ := hW
  have hA : DataW.TrodAll enc Tryd.prog W 0 (fun _ => true) true Tryd.f6.params.toList args.toList ds p := hA0
  rw [Tryd.params6] at hA hval hsz
  obtain ⟨v0, vs0, d0, ds0, p0, q0, hargs, rfl, rfl, h0, r0⟩ := trodAll_cons hA
  obtain ⟨v1, vs1, d1, ds1, p1, q1, rfl, rfl, rfl, h1, r1⟩ := trodAll_cons r0
  obtain ⟨v2, vs2, d2, ds2, p2, q2, rfl, rfl, rfl, h2, r2⟩ := trodAll_cons r1
  obtain ⟨v3, vs3, d3, ds3, p3, q3, rfl, rfl, rfl, h3, r3⟩ := trodAll_cons r2
  obtain ⟨rfl, rfl, rfl⟩ := trodAll_nil r3
  obtain rfl : args = #[v0, v1, v2, v3] := by cases args; simp_all
  obtain ⟨rfl, rfl⟩ := trodVars_none hV
  have k0 := h0
  have lt0 : ∀ x ∈ p0, x.block < W.heap.size := by obtain ⟨m, hm⟩ := k0; exact DataW.trod_lt m _ _ _ hm
  have o0 := opens_arg (opens_string (P := Tryd.prog) Tryd.underlying9 (by kernel_rfl)) h0 hsz 0 rfl rfl
  obtain ⟨a0, rfl⟩ := okWide_string_ Tryd.underlying9 (hval 0 9 v0 rfl rfl)
  obtain ⟨a0', e0, g0⟩ := o0
  obtain rfl : a0 = a0' := by simpa [Value.cells, Kd.string, Kd.scalar] using e0
  have k1 := h1
  have lt1 : ∀ x ∈ p1, x.block < W.heap.size := by obtain ⟨m, hm⟩ := k1; exact DataW.trod_lt m _ _ _ hm
  have o1 := opens_arg (opens_string (P := Tryd.prog) Tryd.underlying9 (by kernel_rfl)) h1 hsz 1 rfl rfl
  obtain ⟨a1, rfl⟩ := okWide_string_ Tryd.underlying9 (hval 1 9 v1 rfl rfl)
  obtain ⟨a1', e1, g1⟩ := o1
  obtain rfl : a1 = a1' := by simpa [Value.cells, Kd.string, Kd.scalar] using e1
  have k2 := h2
  have lt2 : ∀ x ∈ p2, x.block < W.heap.size := by obtain ⟨m, hm⟩ := k2; exact DataW.trod_lt m _ _ _ hm
  have o2 := opens_arg (opens_slice (P := Tryd.prog) Tryd.underlying36 (by kernel_rfl) (B := 1) (by kernel_rfl) (opens_int (P := Tryd.prog) Tryd.underlying5 (by kernel_rfl))) h2 hsz 2 rfl rfl
  obtain ⟨A2, n2, c2, rfl⟩ := okWide_slice Tryd.underlying36 (hval 2 36 v2 rfl rfl)
  obtain ⟨l2, ⟨A2', c2', e2, hc2, hr2⟩, g2⟩ := o2
  obtain ⟨rfl, rfl, rfl⟩ : A2 = A2' ∧ n2 = l2.length ∧ c2 = c2' := by simpa [Value.cells] using e2
  have k3 := h3
  have lt3 : ∀ x ∈ p3, x.block < W.heap.size := by obtain ⟨m, hm⟩ := k3; exact DataW.trod_lt m _ _ _ hm
  have o3 := opens_arg (opens_slice (P := Tryd.prog) Tryd.underlying37 (by kernel_rfl) (B := 16) (by kernel_rfl) (opens_string (P := Tryd.prog) Tryd.underlying9 (by kernel_rfl))) h3 hsz 3 rfl rfl
  obtain ⟨A3, n3, c3, rfl⟩ := okWide_slice Tryd.underlying37 (hval 3 37 v3 rfl rfl)
  obtain ⟨l3, ⟨A3', c3', e3, hc3, hr3⟩, g3⟩ := o3
  obtain ⟨rfl, rfl, rfl⟩ : A3 = A3' ∧ n3 = l3.length ∧ c3 = c3' := by simpa [Value.cells] using e3
  clear hA0 hval0 hsz0 hsz
  have hp := P a0 a1 l2 l3 g0 g1 g2 g3
  obtain ⟨k, hp⟩ := hp
  refine (quietuslaw04_FieldVectorsMatchSpec.calls k a0 a1 _ _ l2 _ _ l3 true W hr2 hc2 hr3 hc3 hrG hp).mono ?_
  rintro e W' ⟨rfl, bel0⟩
  have bel : Below W.heap.size W W' := bel0
  exact ⟨_, rfl, _, _, _, [], _, [], hW', trodAll_mk1 (shut_bool Tryd.underlying4 _), (trodAll_cons_mk (Below.trod laidOut (by kernel_rfl) (of_decide_eq_true (by kernel_rfl)) k0 bel lt0) (trodAll_cons_mk (Below.trod laidOut (by kernel_rfl) (of_decide_eq_true (by kernel_rfl)) k1 bel lt1) (trodAll_cons_mk (Below.trod laidOut (by kernel_rfl) (of_decide_eq_true (by kernel_rfl)) k2 bel lt2) (trodAll_cons_mk (Below.trod laidOut (by kernel_rfl) (of_decide_eq_true (by kernel_rfl)) k3 bel lt3) trodAll_mk0)))), rfl, bel.frame _, fun h => by cases h⟩
theorem proved (P : FieldVectorsMatchSpec.Pure) : Rows.FieldVectorsMatchSpecSaid :=
  OpenClaim.holds_of_wide 6 Tryd.f6 rfl rfl rfl rfl rfl rfl rfl ⟨rfl, rfl, rfl, rfl, rfl⟩ rfl rfl rfl rfl rfl (by kernel_rfl) Tryd.func6 (by kernel_rfl)
    (of_decide_eq_true (by kernel_rfl)) (by unfold Func.isWrapper; first | (rw [if_pos (by decide +kernel)]; kernel_rfl) | (rw [if_neg (by decide +kernel)]; exact ⟨rfl, rfl⟩))
    (fun os started H enc _ => lifted P os started H enc)
theorem card (P : FieldVectorsMatchSpec.Pure) : Rows.FieldVectorsMatchSpecCardSaid :=
  Claim7.holds_tied_plain_at .later [] [.data] true (true, "6a96fc426ec6e0043b8f70025b6e581c3defaef859c14952ad6133676aec8733") false
    (proved P) (fun _ h => by cases h) (by kernel_rfl) (fun _ h => by cases h) fieldVectorsMatchSpec_row_tie rfl ⟨rfl, rfl⟩ (by kernel_rfl) rfl
    (fun f fn hf hfn => by
      obtain rfl : f = 6 := Option.some.inj ((show Tryd.prog.funcNamed "quietus/quietuslaw04.FieldVectorsMatchSpec" = some 6 by kernel_rfl).symm.trans hf) |>.symm
      obtain rfl : fn = Tryd.f6 := (Option.some.inj (Tryd.func6.symm.trans hfn)).symm
      exact ⟨by kernel_rfl, fun j t ht => by
        rw [Tryd.params6] at ht
        have hm : t ∈ [9, 9, 36, 37] := by simpa using Array.mem_of_getElem? ht
        have hall : ([9, 9, 36, 37].all fun u => !Tryd.prog.wantsStandIn u) = true := by kernel_rfl
        exact (show Tryd.prog.wantsStandIn t = false by simpa using List.all_eq_true.1 hall t hm)⟩)
    (by kernel_rfl)
end Go.Proofs.YtgfnllaajaoljaaDoor.fieldVectorsMatchSpec
namespace Go.Proofs.YtgfnllaajaoljaaDoor
/-- The statement. -/
theorem fieldVectorsMatchSpec_holds : Rows.FieldVectorsMatchSpecCardSaid := fieldVectorsMatchSpec.card QA.PureFieldVectorsMatchSpec.proof
#print axioms fieldVectorsMatchSpec_holds
end Go.Proofs.YtgfnllaajaoljaaDoor
