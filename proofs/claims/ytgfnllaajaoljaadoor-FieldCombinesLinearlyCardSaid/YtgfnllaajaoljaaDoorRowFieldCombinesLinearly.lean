/- Proved here: the Go function quietus/quietuslaw04.FieldCombinesLinearly returns true for every input and leaves its arguments reading as they read before. Condition: the table quietus/gf.high reads as the row lists it (the card ties it to the text of the program). -/
import Derived.Test.YtgfnllaajaoljaaDoorRows
import Derived.Test.YtgfnllaajaoljaaDoorSFieldCombinesLinearly
import Derived.Test.YtgfnllaajaoljaaDoorQAOpen
import Derived.Test.YtgfnllaajaoljaaDoorPureFieldCombinesLinearly
import Derived.WalkKit
import Derived.ProofKit
import Derived.OpenShut
import Derived.ShutString
import Derived.ChangeOld
import Derived.Below
import Derived.SizedLaws
import Derived.ChangeSlices
import Derived.LaidMore
import Derived.Stop.Joined
import Derived.Lib.LaidTab
import Derived.SevenTiedAt
import Derived.Test.YtgfnllaajaoljaaDoorTie
import Derived.Test.YtgfnllaajaoljaaDoorCards
namespace Go.Proofs.YtgfnllaajaoljaaDoor.fieldCombinesLinearly
open Go.ChangeShapes Go.WideShapes Go.ChangeAt Go.RowKit Go.Proofs.YtgfnllaajaoljaaDoor.QA Go.Proofs.YtgfnllaajaoljaaDoorW.PrintWords Go.Proofs.YtgfnllaajaoljaaDoorW.PrintLast Go.Proofs.YtgfnllaajaoljaaDoorW.PrintMore
open Go.ChangeMaps (open_string shut_string)
set_option linter.unusedVariables false
set_option linter.unusedSimpArgs false
theorem own : ownKnob Tryd.prog.godebug = none := by kernel_rfl
theorem laidOut : laidOutB Tryd.prog = true := by kernel_rfl
theorem of_laid {W : World} (h : laidMetH Tryd.prog [("quietus/gf.high", Rows.laid_quietus_gf_high)] W) : Kd.C (Kd.int .u8) W (some ⟨0, 0, none⟩) 16 highTbl := by
  have gH : Tryd.prog.globalNamed "quietus/gf.high" = some 0 := by kernel_rfl
  have h2 : laidMet Tryd.prog [("quietus/gf.high", Lib.tabData .u8 highTbl)] W := by rw [MakeChecks.laidMetH_plain _ _ _ (by kernel_rfl)] at h; exact h
  have ht := Lib.tabIs_of_head (t := 115) (e := 5) (n := 16) gH (by kernel_rfl) Tryd.underlying115 Tryd.underlying5 (by kernel_rfl) (by kernel_rfl) h2
  refine Kd.C_of_reads (d := (0 : Int)) (h1 := fun _ => rfl) ⟨rfl, by omega, fun _ => ⟨_, rfl, fun j hj => ?_⟩⟩
  rw [Go.Proofs.YtgfnllaajaoljaaDoorW.PrintWords.add_plain]
  refine (World.var?_cell gH ht j).trans ?_
  have hj2 : j < highTbl.length := hj
  simp [List.getElem?_eq_getElem hj2]
theorem door_met (os : Os) (args : Array Value) : laidMetH Tryd.prog [("quietus/gf.high", Rows.laid_quietus_gf_high)] ((World.doorLaid Tryd.prog 400 os).forCall (fun _ _ => 0) ⟨#[], args, []⟩).memory :=
  laidMetH_of_parts3 (fuel := 8) (laidMet_of_run' 8 (by kernel_rfl) (by kernel_rfl)) (by kernel_rfl) (by kernel_rfl)
set_option maxRecDepth 100000 in
set_option maxHeartbeats 1000000 in
theorem lifted (P : FieldCombinesLinearly.Pure) (os : Os) (started : os.Started) (H : Type) (enc : TypeId × Value → H) :
    ReturnsInHanded {} Tryd.checked os 7 .any (fun w args => (Rows.fieldCombinesLinearlySpec.pre enc Tryd.prog Tryd.f7 [] false w args ∧ laidMetH Tryd.prog [("quietus/gf.high", Rows.laid_quietus_gf_high)] w) ∧ sizedMet enc Tryd.prog Tryd.f7 (OpenSpec.ofChange Rows.fieldCombinesLinearlySpec) false w args) (Rows.fieldCombinesLinearlySpec.post enc Tryd.prog Tryd.f7 false true false false) := by
  refine returnsInHanded_of_change_and (C := Tryd.checked) (X := fun w _ => laidMetH Tryd.prog [("quietus/gf.high", Rows.laid_quietus_gf_high)] w) (fun _ _ _ hh h => h.of_heap hh) own started (by kernel_rfl) Tryd.func7
    (ChangeSpec.witness_shaped (enc := enc) (C := Tryd.checked) (os := os) (X := fun w _ => laidMetH Tryd.prog [("quietus/gf.high", Rows.laid_quietus_gf_high)] w) false (World.doorLaid Tryd.prog 400 os) #[.slice none 0 0, .agg #[.slice none 0 0, .slice none 0 0], .int .u8 0] 8 rfl (World.shaped_of_RefB (by kernel_rfl) (by kernel_rfl)) (by kernel_rfl) (by kernel_rfl) (by kernel_rfl) (door_met os _)) ?_
  intro W base args ds gs before hval0 hW _ hsz0 hL _
  have hrG := of_laid hL
  have hsz : (DataW.weightsEach Tryd.prog (Tryd.f7.params.toList ++ Rows.fieldCombinesLinearlySpec.plain.varTypes Tryd.prog) (ds ++ gs)).all (· ≤ reachBytes) = true := hsz0
  have hval : ∀ (j : Nat) t v, Tryd.f7.params[j]? = some t → args[j]? = some v → Value.okWide Tryd.prog W .any base t v := hval0
  have hW' := hW
  obtain ⟨p, q, hA0, hV, rfl, hfz, hnd⟩ := hW
  have hA : DataW.TrodAll enc Tryd.prog W 0 (fun _ => true) true Tryd.f7.params.toList args.toList ds p := hA0
  rw [Tryd.params7] at hA hval hsz
  obtain ⟨v0, vs0, d0, ds0, p0, q0, hargs, rfl, rfl, h0, r0⟩ := trodAll_cons hA
  obtain ⟨v1, vs1, d1, ds1, p1, q1, rfl, rfl, rfl, h1, r1⟩ := trodAll_cons r0
  obtain ⟨v2, vs2, d2, ds2, p2, q2, rfl, rfl, rfl, h2, r2⟩ := trodAll_cons r1
  obtain ⟨rfl, rfl, rfl⟩ := trodAll_nil r2
  obtain rfl : args = #[v0, v1, v2] := by cases args; simp_all
  obtain ⟨rfl, rfl⟩ := trodVars_none hV
  have k0 := h0
  have lt0 : ∀ x ∈ p0, x.block < W.heap.size := by obtain ⟨m, hm⟩ := k0; exact DataW.trod_lt m _ _ _ hm
  have o0 := opens_arg (opens_slice (P := Tryd.prog) Tryd.underlying46 (by kernel_rfl) (B := 2) (by kernel_rfl) (show Opens Tryd.prog 48 k48 _ from opens_iso (opens_from (from_cons (by have h := sec_array (P := Tryd.prog) Tryd.underlying48 0 (by decide); rw [show Tryd.prog.cellsOf 5 = 1 from by kernel_rfl] at h; exact h) (opens_int (P := Tryd.prog) Tryd.underlying5 (by kernel_rfl)) (from_last (by have h := sec_array (P := Tryd.prog) Tryd.underlying48 1 (by decide); rw [show Tryd.prog.cellsOf 5 = 1 from by kernel_rfl] at h; exact h) (opens_int (P := Tryd.prog) Tryd.underlying5 (by kernel_rfl)) (by kernel_rfl)))) (fun x : S48 => (x.f0, x.f1)) (fun p => (⟨p.1, p.2⟩ : S48)) (fun _ => rfl))) h0 hsz 0 rfl rfl
  obtain ⟨A0, n0, c0, rfl⟩ := okWide_slice Tryd.underlying46 (hval 0 46 v0 rfl rfl)
  obtain ⟨l0, ⟨A0', c0', e0, hc0, hr0⟩, g0⟩ := o0
  obtain ⟨rfl, rfl, rfl⟩ : A0 = A0' ∧ n0 = l0.length ∧ c0 = c0' := by simpa [Value.cells] using e0
  have k1 := h1
  have lt1 : ∀ x ∈ p1, x.block < W.heap.size := by obtain ⟨m, hm⟩ := k1; exact DataW.trod_lt m _ _ _ hm
  have o1 := opens_arg (opens_from (from_cons (by have h := sec_array (P := Tryd.prog) Tryd.underlying47 0 (by decide); rw [show Tryd.prog.cellsOf 37 = 1 from by kernel_rfl] at h; exact h) (opens_slice (P := Tryd.prog) Tryd.underlying37 (by kernel_rfl) (B := 16) (by kernel_rfl) (opens_string (P := Tryd.prog) Tryd.underlying9 (by kernel_rfl))) (from_last (by have h := sec_array (P := Tryd.prog) Tryd.underlying47 1 (by decide); rw [show Tryd.prog.cellsOf 37 = 1 from by kernel_rfl] at h; exact h) (opens_slice (P := Tryd.prog) Tryd.underlying37 (by kernel_rfl) (B := 16) (by kernel_rfl) (opens_string (P := Tryd.prog) Tryd.underlying9 (by kernel_rfl))) (by kernel_rfl)))) h1 hsz 1 rfl rfl
  obtain ⟨cs1, rfl, z1⟩ := okWide_array_ Tryd.underlying47 (hval 1 47 v1 rfl rfl)
  obtain ⟨⟨l1_0, l1_1⟩, ⟨_, _, e1, ⟨A1_0, c1_0, rfl, hc1_0, hr1_0⟩, ⟨A1_1, c1_1, rfl, hc1_1, hr1_1⟩⟩, g1⟩ := o1
  obtain rfl : cs1 = #[.slice A1_0 l1_0.length c1_0, .slice A1_1 l1_1.length c1_1] := Array.toList_inj.1 (by have h := e1; simp only [Value.cells] at h; rw [h]; rfl)
  have k2 := h2
  have lt2 : ∀ x ∈ p2, x.block < W.heap.size := by obtain ⟨m, hm⟩ := k2; exact DataW.trod_lt m _ _ _ hm
  have o2 := opens_arg (opens_int (P := Tryd.prog) Tryd.underlying5 (by kernel_rfl)) h2 hsz 2 rfl rfl
  obtain ⟨a2, rfl⟩ := okWide_int_ Tryd.underlying5 (hval 2 5 v2 rfl rfl)
  obtain ⟨a2', e2, g2⟩ := o2
  obtain rfl : a2 = a2' := by simpa [Value.cells, Kd.int, Kd.scalar] using e2
  clear hA0 hval0 hsz0 hsz
  have hp := P l0 l1_0 l1_1 a2 g0 g1 g2
  obtain ⟨k, hp⟩ := hp
  refine (quietuslaw04_FieldCombinesLinearly.calls k _ _ l0 _ _ l1_0 _ _ l1_1 a2 true W hr0 hc0 hr1_0 hc1_0 hr1_1 hc1_1 hrG hp).mono ?_
  rintro e W' ⟨rfl, bel0⟩
  have bel : Below W.heap.size W W' := bel0
  exact ⟨_, rfl, _, _, _, [], _, [], hW', trodAll_mk1 (shut_bool Tryd.underlying4 _), (trodAll_cons_mk (Below.trod laidOut (by kernel_rfl) (of_decide_eq_true (by kernel_rfl)) k0 bel lt0) (trodAll_cons_mk (Below.trod laidOut (by kernel_rfl) (of_decide_eq_true (by kernel_rfl)) k1 bel lt1) (trodAll_cons_mk (Below.trod laidOut (by kernel_rfl) (of_decide_eq_true (by kernel_rfl)) k2 bel lt2) trodAll_mk0))), rfl, bel.frame _, fun h => by cases h⟩
theorem proved (P : FieldCombinesLinearly.Pure) : Rows.FieldCombinesLinearlySaid :=
  OpenClaim.holds_of_wide 7 Tryd.f7 rfl rfl rfl rfl rfl rfl rfl ⟨rfl, rfl, rfl, rfl, rfl⟩ rfl rfl rfl rfl rfl (by kernel_rfl) Tryd.func7 (by kernel_rfl)
    (of_decide_eq_true (by kernel_rfl)) (by unfold Func.isWrapper; first | (rw [if_pos (by decide +kernel)]; kernel_rfl) | (rw [if_neg (by decide +kernel)]; exact ⟨rfl, rfl⟩))
    (fun os started H enc _ => lifted P os started H enc)
theorem card (P : FieldCombinesLinearly.Pure) : Rows.FieldCombinesLinearlyCardSaid :=
  Claim7.holds_tied_plain_at .later [] [.data] true (true, "6a96fc426ec6e0043b8f70025b6e581c3defaef859c14952ad6133676aec8733") false
    (proved P) (fun _ h => by cases h) (by kernel_rfl) (fun _ h => by cases h) fieldCombinesLinearly_row_tie rfl ⟨rfl, rfl⟩ (by kernel_rfl) rfl
    (fun f fn hf hfn => by
      obtain rfl : f = 7 := Option.some.inj ((show Tryd.prog.funcNamed "quietus/quietuslaw04.FieldCombinesLinearly" = some 7 by kernel_rfl).symm.trans hf) |>.symm
      obtain rfl : fn = Tryd.f7 := (Option.some.inj (Tryd.func7.symm.trans hfn)).symm
      exact ⟨by kernel_rfl, fun j t ht => by
        rw [Tryd.params7] at ht
        have hm : t ∈ [46, 47, 5] := by simpa using Array.mem_of_getElem? ht
        have hall : ([46, 47, 5].all fun u => !Tryd.prog.wantsStandIn u) = true := by kernel_rfl
        exact (show Tryd.prog.wantsStandIn t = false by simpa using List.all_eq_true.1 hall t hm)⟩)
    (by kernel_rfl)
end Go.Proofs.YtgfnllaajaoljaaDoor.fieldCombinesLinearly
namespace Go.Proofs.YtgfnllaajaoljaaDoor
theorem fieldCombinesLinearly_holds : Rows.FieldCombinesLinearlyCardSaid := fieldCombinesLinearly.card QA.PureFieldCombinesLinearly.proof
#print axioms fieldCombinesLinearly_holds
end Go.Proofs.YtgfnllaajaoljaaDoor
