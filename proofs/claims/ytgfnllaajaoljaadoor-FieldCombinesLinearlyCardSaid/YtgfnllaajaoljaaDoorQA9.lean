-- What this claim does not use was left out by prune.py, a program of this session.
import Derived.Test.YtgfnllaajaoljaaDoorQA9d
import Derived.Test.YtgfnllaajaoljaaDoorQA0
import Derived.Test.YtgfnllaajaoljaaDoorQA2
import Derived.Test.YtgfnllaajaoljaaDoorQA3
import Derived.Test.YtgfnllaajaoljaaDoorQA7
namespace Go.Proofs.YtgfnllaajaoljaaDoor.QA
open Go.RowKit Go.Proofs.YtgfnllaajaoljaaDoorW.PrintWords Go.Proofs.YtgfnllaajaoljaaDoorW.PrintLast Go.Proofs.YtgfnllaajaoljaaDoorW.PrintMore
attribute [local go_sem] max2_int min2_int max_two min_two max_three min_three max_four min_four
open Bool renaming true → Y, false → Z
open List renaming setIfInBounds_toArray → zA_, set_cons_zero → zB_, set_cons_succ → zC_
set_option linter.unusedVariables false
set_option linter.unusedSimpArgs false
open Go.Proofs.YtgfnllaajaoljaaDoorW.PrintWords.Kd renaming R_drewN → zb_, R_drew → zc_, R_mono → zd_, R_far → ze_, R_types → zf_, R_lower → zg_, R_new' → zh_, R_lt → zi_, R_elder' → zj_, R_base → zk_, R_reads' → zl_
open Go.Proofs.YtgfnllaajaoljaaDoorW.PrintWords renaming blk_drewN → zm_, blk_drew → zn_, blk_far → zp_, blk_below → zq_, below_set → zr_, pw_below_drewN → zt_, below_drew1 → zu_, below_step → zv_, below_size → zw_
open quietuslaw04_FieldCombinesLinearly renaming j2 → Fcj2, j3 → Fcj3, l0 → Fcl0
set_option maxHeartbeats 8000000 in
set_option maxRecDepth 100000 in
theorem quietuslaw04_FieldCombinesLinearly.calls (k : Nat) (A0 : Option Addr) (c0 : Nat) (l0 : List (S48)) (A1_0 : Option Addr) (c1_0 : Nat) (l1_0 : List ByteArray) (A1_1 : Option Addr) (c1_1 : Nat) (l1_1 : List ByteArray) (a2 : Int) (r : Bool) (w : World) (hr0 : Kd.C k48 w A0 l0.length l0) (hc0 : l0.length ≤ c0) (hr1_0 : Kd.C Kd.string w A1_0 l1_0.length l1_0) (hc1_0 : l1_0.length ≤ c1_0) (hr1_1 : Kd.C Kd.string w A1_1 l1_1.length l1_1) (hc1_1 : l1_1.length ≤ c1_1) (hrG : Kd.C (Kd.int .u8) w (some ⟨0, 0, none⟩) 16 highTbl) (h : quietuslaw04_FieldCombinesLinearly.f k l0 l1_0 l1_1 a2 = some r) :
  Calls Tryd.prog 7 #[.slice A0 l0.length c0, .agg #[.slice A1_0 l1_0.length c1_0, .slice A1_1 l1_1.length c1_1], .int .u8 a2] w fun e w' => e = .returned (.bool r) ∧ Below w.heap.size w w' := by
 have HRG := Aside0.mk hrG
 clear hrG
 have hu47 := Tryd.underlying47
 have hu48 := Tryd.underlying48
 have HR0 := Aside0.mk hr0
 have HC0 := Aside0.mk hc0
 clear hr0 hc0
 have HR1_0 := Aside0.mk hr1_0
 have HC1_0 := Aside0.mk hc1_0
 clear hr1_0 hc1_0
 have HR1_1 := Aside0.mk hr1_1
 have HC1_1 := Aside0.mk hc1_1
 clear hr1_1 hc1_1
 have HB := Aside0.mk (Below.refl w.heap.size w)
 have H : (if (l0.length : Int) > 8 then (quietuslaw04_FieldCombinesLinearly.j0 k l0 a2 l1_0 l1_1 true) else (if (l1_0.length : Int) = (l0.length : Int) then (quietuslaw04_FieldCombinesLinearly.j0 k l0 a2 l1_0 l1_1 ((l1_1.length : Int) != (l0.length : Int))) else (quietuslaw04_FieldCombinesLinearly.j0 k l0 a2 l1_0 l1_1 true))) = some r := h
 clear h
 have HC4 := Aside0.mk H
 clear H
 go_enter Tryd.func7, Tryd.ntmps7
 try go_wp2_with ((((with_reducible refine gate_dst (N := 4) rfl ?_); (try (refine gate_guard (by rfl) ?_; dsimp only)); refine box_event ?hg (N := 4) ?hd (cs := #[.slice A1_0 l1_0.length c1_0, .slice A1_1 l1_1.length c1_1]) (t := 47) ?hr ?_; (case hd => rfl); (case hg => rfl); (case hr => (go_simp; done)); intro gb242 hg w5 hbox hb; have n0_ := Aside0.mk (zv_ (by repeat (((with_reducible (exact HB.out))))) hb); have n1_ := Aside0.mk (hbox); have n2_ := Aside0.mk ((by rw [hg]; exact (zw_ (by repeat (((with_reducible (exact HB.out)))))) : w.heap.size ≤ gb242)); have n3_ := Aside0.mk ((by rw [hg]; exact (zw_ (by repeat (((with_reducible (exact HB.out)))))) : w.heap.size ≤ gb242)); clear HB; have HB := n0_; have BK242 := n1_; have GW242 := n2_; have GE242 := n3_; clear n0_ n1_ n2_ n3_; clear hb hbox hg)))
 have n0_ := Aside0.mk (zn_ BK242.out)
 have n1_ := Aside0.mk (zu_ HB.out)
 clear BK242 HB
 revert n0_ n1_
 intro BK242 HB
 refine start_ (n := 6) (S := fun w' => w'.cell? ⟨gb242, 0, none⟩ = some (.slice A1_0 l1_0.length c1_0) ∧ w'.cell? ⟨gb242, 1, none⟩ = some (.slice A1_1 l1_1.length c1_1)) (ds := []) #[Z,Z,Z,Z,Z,Z] (by kernel_rfl) rfl rfl ⟨(blk_cell BK242.out 0).trans rfl, (blk_cell BK242.out 1).trans rfl⟩ (fun hHeld => ?_)
 generalize w5.drew = w6 at BK242 HB hHeld ⊢
 refine pure_ (i := 0) (N := some 28) (v := ?_) (a' := ?_) #[Y,Z,Z,Z,Z,Z] rfl rfl (by kernel_rfl) (fun _ _ _ h => h) (Or.inl ⟨by rfl, ?_⟩) ?_ ?_
 rotate_left
 ·intro w'
  go_simp
  with_reducible rfl
 rotate_left
 ·simp only [Act.put, zA_, zB_, zC_, i64_w, i32_w]
  rfl
 refine pure_ (i := 2) (N := some 30) (v := ?_) (a' := ?_) #[Y,Z,Y,Z,Z,Z] rfl rfl (by kernel_rfl) (fun _ _ _ h => h) (Or.inl ⟨by rfl, ?_⟩) ?_ ?_
 rotate_left
 ·intro w'
  go_simp
  with_reducible rfl
 rotate_left
 ·simp only [Act.put, zA_, zB_, zC_, i64_w, i32_w]
  rfl
 refine take_ (i := 1) (N := some 29) (v := ?_) (a' := ?_) #[Y,Y,Y,Z,Z,Z] rfl rfl (by kernel_rfl) (fun _ _ _ h => h) (Or.inl ⟨by rfl, ?_⟩) hHeld ?_ ?_
 rotate_left
 ·rintro w' ⟨s0, s1⟩
  go_simp
  with_reducible rfl
 rotate_left
 ·simp only [Act.put, zA_, zB_, zC_, i64_w, i32_w]
  rfl
 refine pure_ (i := 4) (N := some 7) (v := ?_) (a' := ?_) #[Y,Y,Y,Z,Y,Z] rfl rfl (by kernel_rfl) (fun _ _ _ h => h) (Or.inl ⟨by rfl, ?_⟩) ?_ ?_
 rotate_left
 ·intro w'
  go_simp
  with_reducible rfl
 rotate_left
 ·simp only [Act.put, zA_, zB_, zC_, i64_w, i32_w]
  rfl
 refine take_ (i := 3) (N := some 31) (v := ?_) (a' := ?_) #[Y,Y,Y,Y,Y,Z] rfl rfl (by kernel_rfl) (fun _ _ _ h => h) (Or.inl ⟨by rfl, ?_⟩) hHeld ?_ ?_
 rotate_left
 ·rintro w' ⟨s0, s1⟩
  go_simp
  with_reducible rfl
 rotate_left
 ·simp only [Act.put, zA_, zB_, zC_, i64_w, i32_w]
  rfl
 refine pure_ (i := 5) (N := some 8) (v := ?_) (a' := ?_) #[Y,Y,Y,Y,Y,Y] rfl rfl (by kernel_rfl) (fun _ _ _ h => h) (Or.inl ⟨by rfl, ?_⟩) ?_ ?_
 rotate_left
 ·intro w'
  go_simp
  with_reducible rfl
 rotate_left
 ·simp only [Act.put, zA_, zB_, zC_, i64_w, i32_w]
  rfl
 refine done_ (by kernel_rfl) ?_
 go_upto_region 2 with (fail)
 go_cut [48] (fun v48 wc => ∃ (kq : Nat) (x48_3 : Bool), v48 = .bool x48_3 ∧ Aside0 (quietuslaw04_FieldCombinesLinearly.j0 kq l0 a2 l1_0 l1_1 x48_3 = some r) ∧ Aside0 (kq ≤ k) ∧ Aside0 (wc.heap[gb242]? = some (.cells #[(.slice A1_0 l1_0.length c1_0), (.slice A1_1 l1_1.length c1_1)] 47 (0, 0))) ∧ Aside0 (Below w.heap.size w wc))
 case first =>
  have H := HC4.out
  clear HC4
  by_cases c7 : (l0.length : Int) > 8
  ·rw [if_pos c7] at H
   have c7b0 : decide (8 < (l0.length : Int)) = true := decide_eq_true c7
   have c7b1 : decide (8 < l0.length) = true := decide_eq_true (by omega)
   clear c7
   (skip)
   have H' := Aside0.mk H
   clear H
   go_wp2
   go_meet
   case rel => exact ⟨_, (true), (by (rfl)), H', ⟨by (omega)⟩, ⟨by exact BK242.out⟩, ⟨by repeat (((with_reducible (exact HB.out))))⟩⟩
  rw [if_neg c7] at H
  have c7b0 : decide (8 < (l0.length : Int)) = false := decide_eq_false c7
  have c7b1 : decide (8 < l0.length) = false := decide_eq_false (by omega)
  clear c7
  (skip)
  by_cases c8 : (l1_0.length : Int) = (l0.length : Int)
  rotate_left
  ·rw [if_neg c8] at H
   have c8b0 : ((l1_0.length : Int) == (l0.length : Int)) = false := beq_eq_false_iff_ne.mpr c8
   have c8b1 : ((l1_0.length : Int) != (l0.length : Int)) = true := bne_iff_ne.mpr c8
   have c8b2 : (l1_0.length == l0.length) = false := by (simp at c8 ⊢; omega)
   have H' := Aside0.mk H
   clear H
   go_wp2
   go_meet
   case rel => exact ⟨_, (true), (by (rfl)), H', ⟨by (omega)⟩, ⟨by exact BK242.out⟩, ⟨by repeat (((with_reducible (exact HB.out))))⟩⟩
  rw [if_pos c8] at H
  have c8b0 : ((l1_0.length : Int) == (l0.length : Int)) = true := beq_iff_eq.mpr c8
  have c8b1 : ((l1_0.length : Int) != (l0.length : Int)) = false := bne_eq_false_iff_eq.mpr c8
  have c8b2 : (l1_0.length == l0.length) = true := by (simp at c8 ⊢; omega)
  clear c8
  have H' := Aside0.mk H
  clear H
  go_wp2
  go_meet
  case rel => exact ⟨_, (((l1_1.length : Int) != (l0.length : Int))), (by (rfl)), H', ⟨by (omega)⟩, ⟨by exact BK242.out⟩, ⟨by repeat (((with_reducible (exact HB.out))))⟩⟩
 case rest =>
  clear HC4
  try clear c1
  try clear p2
  try clear c7
  try clear c7b0
  try clear c7b1
  try clear c8
  try clear c8b0
  try clear c8b1
  try clear c8b2
  obtain ⟨kq, x48_3, rfl, HA, HJ3, BK242, HB⟩ := hcut
  cases kq with
  | zero => exact absurd HA.out (by simp [quietuslaw04_FieldCombinesLinearly.j0])
  | succ kj3 =>
   have H := HA.out
   clear HA
   simp only [quietuslaw04_FieldCombinesLinearly.j0] at H
   by_cases c9 : x48_3 = true
   ·subst c9
    have H1 : ((quietuslaw04_sanity.f kj3).bind fun t243 => (some t243)) = some r := by rw [if_pos rfl] at H; exact H
    clear H
    have H := H1
    clear H1
    replace H := Option.bind_eq_some_iff.mp H
    obtain ⟨t243, A100, H⟩ := H
    replace H : (some t243) = some r := H
    have A10 := Aside0.mk A100
    clear A100
    obtain rfl := Option.some.inj H
    go_wp2_with ((((with_reducible refine gate_callee (f := 15) rfl ?_); refine goesL_ (some 49) rfl rfl Tryd.func15 (by kernel_rfl) rfl #[] rfl (by (try simp only [List.map_toArray, List.map_cons, List.map_nil]); (done)) ?_; (with_reducible refine (quietuslaw04_sanity.calls kj3  t243 _ ?sideG A10.out).mono ?_); (case sideG => repeat ((exact (Kd.C_below HRG.out HB.out)))); rintro e w11 ⟨rfl, hb⟩; refine ⟨_, rfl, ?_⟩; have n0_ := Aside0.mk (zq_ BK242.out hb); have n1_ := Aside0.mk (zv_ (by repeat (((with_reducible (exact HB.out))))) hb); clear BK242 HB; have BK242 := n0_; have HB := n1_; clear n0_ n1_; (try clear hb); (try clear hb2); (try clear hk); (try clear hi))))
    go_ret
    exact ⟨by (rfl), by repeat (((with_reducible (exact HB.out))))⟩
   replace c9 := Bool.eq_false_iff.mpr c9
   subst c9
   have H1 : (Fcl0 kj3 a2 l1_0 l1_1 ([] : List Int) ([] : List Int) ([] : List Int) ([] : List Int) ([] : List ByteArray) l0 (l0.length : Int) 0) = some r := by rw [if_neg (show ¬ (false = true) by decide)] at H; exact H
   clear H
   have H := H1
   clear H1
   have H' := Aside0.mk H
   clear H
   go_wp2
   go_loopg [9, 10, 11, 12, 13, 52] kj3 (fun kq v9 v10 v11 v12 v13 v52 w' => ∃ (x9_2 : List Int) (x10_2 : List Int) (x11_2 : List Int) (x12_2 : List Int) (x13_2 : List ByteArray) (x52_2 : Int), v52 = .int .i64 x52_2 ∧ Aside0 (Fcl0 kq a2 l1_0 l1_1 x9_2 x10_2 x11_2 x12_2 x13_2 l0 (l0.length : Int) x52_2 = some r) ∧ Aside0 (kq ≤ kj3) ∧ Aside0 (Kd.R (Kd.int .u8) 5 w' w.heap.size (fun k_ => some k_ ≠ (v10 : Value).ownBlock ∧ some k_ ≠ (v11 : Value).ownBlock ∧ some k_ ≠ (v12 : Value).ownBlock) v9 x9_2) ∧ Aside0 (Kd.R (Kd.int .u8) 5 w' w.heap.size (fun k_ => some k_ ≠ (v9 : Value).ownBlock ∧ some k_ ≠ (v11 : Value).ownBlock ∧ some k_ ≠ (v12 : Value).ownBlock) v10 x10_2) ∧ Aside0 (Kd.R (Kd.int .u8) 5 w' w.heap.size (fun k_ => some k_ ≠ (v9 : Value).ownBlock ∧ some k_ ≠ (v10 : Value).ownBlock ∧ some k_ ≠ (v12 : Value).ownBlock) v11 x11_2) ∧ Aside0 (Kd.R (Kd.int .u8) 5 w' w.heap.size (fun k_ => some k_ ≠ (v9 : Value).ownBlock ∧ some k_ ≠ (v10 : Value).ownBlock ∧ some k_ ≠ (v11 : Value).ownBlock) v12 x12_2) ∧ Aside0 (Kd.R Kd.string 9 w' w.heap.size (fun _ => True) v13 x13_2) ∧ Aside0 (w'.heap[gb242]? = some (.cells #[(.slice A1_0 l1_0.length c1_0), (.slice A1_1 l1_1.length c1_1)] 47 (0, 0))) ∧ Aside0 (Below w.heap.size w w'))
   case atStart => exact ⟨([] : List Int), ([] : List Int), ([] : List Int), ([] : List Int), ([] : List ByteArray), (0), (by (rfl)), H', ⟨Nat.le_refl _⟩, ⟨by (exact Kd.R_nil _ _ _ _ _)⟩, ⟨by (exact Kd.R_nil _ _ _ _ _)⟩, ⟨by (exact Kd.R_nil _ _ _ _ _)⟩, ⟨by (exact Kd.R_nil _ _ _ _ _)⟩, ⟨by (exact Kd.R_nil _ _ _ _ _)⟩, ⟨by exact BK242.out⟩, ⟨by repeat (((with_reducible (exact HB.out))))⟩⟩
   case round =>
    clear H'
    try clear c1
    try clear p2
    try clear c7
    try clear c7b0
    try clear c7b1
    try clear c8
    try clear c8b0
    try clear c8b1
    try clear c8b2
    try clear c9
    try clear p2
    obtain ⟨x9_2, x10_2, x11_2, x12_2, x13_2, x52_2, rfl, HA, HK2, HO_9, HO_10, HO_11, HO_12, HO_13, BK242, HB⟩ := hrel
    cases gk with
    | zero => exact absurd HA.out (by simp [Fcl0])
    | succ k2 =>
     have H := HA.out
     clear HA
     simp only [Fcl0] at H
     by_cases c12 : x52_2 < (l0.length : Int)
     rotate_left
     ·rw [if_neg c12] at H
      have c12b0 : decide (x52_2 < (l0.length : Int)) = false := decide_eq_false c12
      clear c12
      replace H := Option.bind_eq_some_iff.mp H
      obtain ⟨⟨t286, t287⟩, A710, H⟩ := H
      replace H : ((gf_Combine.f x10_2 l1_0).bind fun bt288 => ((gf_Combine.f x11_2 l1_0).bind fun bt290 => ((gf_Combine.f x9_2 l1_1).bind fun bt292 => ((gf_Combine.f x9_2 x13_2).bind fun bt294 => ((gf_Combine.f x12_2 l1_0).bind fun bt296 => (if t287 = 0 then (if bt288.2 = 0 then (if bt290.2 = 0 then (if bt292.2 = 0 then (if bt294.2 = 0 then (Fcj3 k2 a2 t286 bt288.1 bt290.1 bt292.1 bt294.1 bt296.1 (bt296.2 != 0)) else (none)) else (none)) else (none)) else (none)) else (none))))))) = some r := H
      have A71 := Aside0.mk A710
      clear A710
      replace H := Option.bind_eq_some_iff.mp H
      obtain ⟨⟨t288, t289⟩, A720, H⟩ := H
      replace H : ((gf_Combine.f x11_2 l1_0).bind fun bt290 => ((gf_Combine.f x9_2 l1_1).bind fun bt292 => ((gf_Combine.f x9_2 x13_2).bind fun bt294 => ((gf_Combine.f x12_2 l1_0).bind fun bt296 => (if t287 = 0 then (if t289 = 0 then (if bt290.2 = 0 then (if bt292.2 = 0 then (if bt294.2 = 0 then (Fcj3 k2 a2 t286 t288 bt290.1 bt292.1 bt294.1 bt296.1 (bt296.2 != 0)) else (none)) else (none)) else (none)) else (none)) else (none)))))) = some r := H
      have A72 := Aside0.mk A720
      clear A720
      replace H := Option.bind_eq_some_iff.mp H
      obtain ⟨⟨t290, t291⟩, A730, H⟩ := H
      replace H : ((gf_Combine.f x9_2 l1_1).bind fun bt292 => ((gf_Combine.f x9_2 x13_2).bind fun bt294 => ((gf_Combine.f x12_2 l1_0).bind fun bt296 => (if t287 = 0 then (if t289 = 0 then (if t291 = 0 then (if bt292.2 = 0 then (if bt294.2 = 0 then (Fcj3 k2 a2 t286 t288 t290 bt292.1 bt294.1 bt296.1 (bt296.2 != 0)) else (none)) else (none)) else (none)) else (none)) else (none))))) = some r := H
      have A73 := Aside0.mk A730
      clear A730
      replace H := Option.bind_eq_some_iff.mp H
      obtain ⟨⟨t292, t293⟩, A740, H⟩ := H
      replace H : ((gf_Combine.f x9_2 x13_2).bind fun bt294 => ((gf_Combine.f x12_2 l1_0).bind fun bt296 => (if t287 = 0 then (if t289 = 0 then (if t291 = 0 then (if t293 = 0 then (if bt294.2 = 0 then (Fcj3 k2 a2 t286 t288 t290 t292 bt294.1 bt296.1 (bt296.2 != 0)) else (none)) else (none)) else (none)) else (none)) else (none)))) = some r := H
      have A74 := Aside0.mk A740
      clear A740
      replace H := Option.bind_eq_some_iff.mp H
      obtain ⟨⟨t294, t295⟩, A750, H⟩ := H
      replace H : ((gf_Combine.f x12_2 l1_0).bind fun bt296 => (if t287 = 0 then (if t289 = 0 then (if t291 = 0 then (if t293 = 0 then (if t295 = 0 then (Fcj3 k2 a2 t286 t288 t290 t292 t294 bt296.1 (bt296.2 != 0)) else (none)) else (none)) else (none)) else (none)) else (none))) = some r := H
      have A75 := Aside0.mk A750
      clear A750
      replace H := Option.bind_eq_some_iff.mp H
      obtain ⟨⟨t296, t297⟩, A760, H⟩ := H
      replace H : (if t287 = 0 then (if t289 = 0 then (if t291 = 0 then (if t293 = 0 then (if t295 = 0 then (Fcj3 k2 a2 t286 t288 t290 t292 t294 t296 (t297 != 0)) else (none)) else (none)) else (none)) else (none)) else (none)) = some r := H
      have A76 := Aside0.mk A760
      clear A760
      have HC77 := Aside0.mk H
      clear H
      obtain ⟨Ao78, co78, eo78⟩ := Kd.R_slice HO_9.out
      subst eo78
      go_upto_region 20 with (first | ((with_reducible refine gate_callee (f := 24) rfl ?_); refine goesL_ (some 129) rfl rfl Tryd.func24 (by kernel_rfl) rfl #[.slice Ao78 x9_2.length co78, .slice A1_0 l1_0.length c1_0] rfl (by (try simp only [List.map_toArray, List.map_cons, List.map_nil]); (rfl)) ?_; (with_reducible refine (gf_Combine.calls _ _ x9_2 _ _ l1_0 t286 t287 _ ?side1 ?side2 ?side3 ?side4 ?sideG A71.out).mono ?_); (case sideG => repeat ((exact (Kd.C_below HRG.out HB.out)))); (case side1 => repeat ((exact (zl_ HO_9.out).2.2))); (case side2 => exact (zl_ HO_9.out).2.1); (case side3 => repeat ((exact (Kd.C_below HR1_0.out HB.out)))); (case side4 => exact HC1_0.out); rintro e w79 ⟨rfl, hb⟩; refine ⟨_, rfl, ?_⟩; have n0_ := Aside0.mk (Kd.R_below HO_9.out hb); have n1_ := Aside0.mk (Kd.R_below HO_10.out hb); have n2_ := Aside0.mk (Kd.R_below HO_11.out hb); have n3_ := Aside0.mk (Kd.R_below HO_12.out hb); have n4_ := Aside0.mk (Kd.R_below HO_13.out hb); have n5_ := Aside0.mk (zq_ BK242.out hb); have n6_ := Aside0.mk (zv_ (by repeat (((with_reducible (exact HB.out))))) hb); clear HO_9 HO_10 HO_11 HO_12 HO_13 BK242 HB; have HO_9 := n0_; have HO_10 := n1_; have HO_11 := n2_; have HO_12 := n3_; have HO_13 := n4_; have BK242 := n5_; have HB := n6_; clear n0_ n1_ n2_ n3_ n4_ n5_ n6_; (try clear hb); (try clear hb2); (try clear hk); (try clear hi); obtain ⟨Ao80, co80, eo80⟩ := Kd.R_slice HO_10.out; subst eo80) | ((with_reducible refine gate_callee (f := 24) rfl ?_); refine goesL_ (some 135) rfl rfl Tryd.func24 (by kernel_rfl) rfl #[.slice Ao80 x10_2.length co80, .slice A1_0 l1_0.length c1_0] rfl (by (try simp only [List.map_toArray, List.map_cons, List.map_nil]); (rfl)) ?_; (with_reducible refine (gf_Combine.calls _ _ x10_2 _ _ l1_0 t288 t289 _ ?side1 ?side2 ?side3 ?side4 ?sideG A72.out).mono ?_); (case sideG => repeat ((exact (Kd.C_below HRG.out HB.out)))); (case side1 => repeat ((exact (zl_ HO_10.out).2.2))); (case side2 => exact (zl_ HO_10.out).2.1); (case side3 => repeat ((exact (Kd.C_below HR1_0.out HB.out)))); (case side4 => exact HC1_0.out); rintro e w81 ⟨rfl, hb⟩; refine ⟨_, rfl, ?_⟩; have n0_ := Aside0.mk (Kd.R_below HO_9.out hb); have n1_ := Aside0.mk (Kd.R_below HO_10.out hb); have n2_ := Aside0.mk (Kd.R_below HO_11.out hb); have n3_ := Aside0.mk (Kd.R_below HO_12.out hb); have n4_ := Aside0.mk (Kd.R_below HO_13.out hb); have n5_ := Aside0.mk (zq_ BK242.out hb); have n6_ := Aside0.mk (zv_ (by repeat (((with_reducible (exact HB.out))))) hb); clear HO_9 HO_10 HO_11 HO_12 HO_13 BK242 HB; have HO_9 := n0_; have HO_10 := n1_; have HO_11 := n2_; have HO_12 := n3_; have HO_13 := n4_; have BK242 := n5_; have HB := n6_; clear n0_ n1_ n2_ n3_ n4_ n5_ n6_; (try clear hb); (try clear hb2); (try clear hk); (try clear hi); obtain ⟨Ao82, co82, eo82⟩ := Kd.R_slice HO_11.out; subst eo82) | ((with_reducible refine gate_callee (f := 24) rfl ?_); refine goesL_ (some 141) rfl rfl Tryd.func24 (by kernel_rfl) rfl #[.slice Ao82 x11_2.length co82, .slice A1_0 l1_0.length c1_0] rfl (by (try simp only [List.map_toArray, List.map_cons, List.map_nil]); (rfl)) ?_; (with_reducible refine (gf_Combine.calls _ _ x11_2 _ _ l1_0 t290 t291 _ ?side1 ?side2 ?side3 ?side4 ?sideG A73.out).mono ?_); (case sideG => repeat ((exact (Kd.C_below HRG.out HB.out)))); (case side1 => repeat ((exact (zl_ HO_11.out).2.2))); (case side2 => exact (zl_ HO_11.out).2.1); (case side3 => repeat ((exact (Kd.C_below HR1_0.out HB.out)))); (case side4 => exact HC1_0.out); rintro e w83 ⟨rfl, hb⟩; refine ⟨_, rfl, ?_⟩; have n0_ := Aside0.mk (Kd.R_below HO_9.out hb); have n1_ := Aside0.mk (Kd.R_below HO_10.out hb); have n2_ := Aside0.mk (Kd.R_below HO_11.out hb); have n3_ := Aside0.mk (Kd.R_below HO_12.out hb); have n4_ := Aside0.mk (Kd.R_below HO_13.out hb); have n5_ := Aside0.mk (zq_ BK242.out hb); have n6_ := Aside0.mk (zv_ (by repeat (((with_reducible (exact HB.out))))) hb); clear HO_9 HO_10 HO_11 HO_12 HO_13 BK242 HB; have HO_9 := n0_; have HO_10 := n1_; have HO_11 := n2_; have HO_12 := n3_; have HO_13 := n4_; have BK242 := n5_; have HB := n6_; clear n0_ n1_ n2_ n3_ n4_ n5_ n6_; (try clear hb); (try clear hb2); (try clear hk); (try clear hi)) | ((with_reducible refine gate_callee (f := 24) rfl ?_); refine goesL_ (some 147) rfl rfl Tryd.func24 (by kernel_rfl) rfl #[.slice Ao78 x9_2.length co78, .slice A1_1 l1_1.length c1_1] rfl (by (try simp only [List.map_toArray, List.map_cons, List.map_nil]); (rfl)) ?_; (with_reducible refine (gf_Combine.calls _ _ x9_2 _ _ l1_1 t292 t293 _ ?side1 ?side2 ?side3 ?side4 ?sideG A74.out).mono ?_); (case sideG => repeat ((exact (Kd.C_below HRG.out HB.out)))); (case side1 => repeat ((exact (zl_ HO_9.out).2.2))); (case side2 => exact (zl_ HO_9.out).2.1); (case side3 => repeat ((exact (Kd.C_below HR1_1.out HB.out)))); (case side4 => exact HC1_1.out); rintro e w84 ⟨rfl, hb⟩; refine ⟨_, rfl, ?_⟩; have n0_ := Aside0.mk (Kd.R_below HO_9.out hb); have n1_ := Aside0.mk (Kd.R_below HO_10.out hb); have n2_ := Aside0.mk (Kd.R_below HO_11.out hb); have n3_ := Aside0.mk (Kd.R_below HO_12.out hb); have n4_ := Aside0.mk (Kd.R_below HO_13.out hb); have n5_ := Aside0.mk (zq_ BK242.out hb); have n6_ := Aside0.mk (zv_ (by repeat (((with_reducible (exact HB.out))))) hb); clear HO_9 HO_10 HO_11 HO_12 HO_13 BK242 HB; have HO_9 := n0_; have HO_10 := n1_; have HO_11 := n2_; have HO_12 := n3_; have HO_13 := n4_; have BK242 := n5_; have HB := n6_; clear n0_ n1_ n2_ n3_ n4_ n5_ n6_; (try clear hb); (try clear hb2); (try clear hk); (try clear hi); obtain ⟨Ao85, co85, eo85⟩ := Kd.R_slice HO_13.out; subst eo85) | ((with_reducible refine gate_callee (f := 24) rfl ?_); refine goesL_ (some 153) rfl rfl Tryd.func24 (by kernel_rfl) rfl #[.slice Ao78 x9_2.length co78, .slice Ao85 x13_2.length co85] rfl (by (try simp only [List.map_toArray, List.map_cons, List.map_nil]); (rfl)) ?_; (with_reducible refine (gf_Combine.calls _ _ x9_2 _ _ x13_2 t294 t295 _ ?side1 ?side2 ?side3 ?side4 ?sideG A75.out).mono ?_); (case sideG => repeat ((exact (Kd.C_below HRG.out HB.out)))); (case side1 => repeat ((exact (zl_ HO_9.out).2.2))); (case side2 => exact (zl_ HO_9.out).2.1); (case side3 => repeat ((exact (zl_ HO_13.out).2.2))); (case side4 => exact (zl_ HO_13.out).2.1); rintro e w86 ⟨rfl, hb⟩; refine ⟨_, rfl, ?_⟩; have n0_ := Aside0.mk (Kd.R_below HO_9.out hb); have n1_ := Aside0.mk (Kd.R_below HO_10.out hb); have n2_ := Aside0.mk (Kd.R_below HO_11.out hb); have n3_ := Aside0.mk (Kd.R_below HO_12.out hb); have n4_ := Aside0.mk (Kd.R_below HO_13.out hb); have n5_ := Aside0.mk (zq_ BK242.out hb); have n6_ := Aside0.mk (zv_ (by repeat (((with_reducible (exact HB.out))))) hb); clear HO_9 HO_10 HO_11 HO_12 HO_13 BK242 HB; have HO_9 := n0_; have HO_10 := n1_; have HO_11 := n2_; have HO_12 := n3_; have HO_13 := n4_; have BK242 := n5_; have HB := n6_; clear n0_ n1_ n2_ n3_ n4_ n5_ n6_; (try clear hb); (try clear hb2); (try clear hk); (try clear hi); obtain ⟨Ao87, co87, eo87⟩ := Kd.R_slice HO_12.out; subst eo87) | ((with_reducible refine gate_callee (f := 24) rfl ?_); refine goesL_ (some 159) rfl rfl Tryd.func24 (by kernel_rfl) rfl #[.slice Ao87 x12_2.length co87, .slice A1_0 l1_0.length c1_0] rfl (by (try simp only [List.map_toArray, List.map_cons, List.map_nil]); (rfl)) ?_; (with_reducible refine (gf_Combine.calls _ _ x12_2 _ _ l1_0 t296 t297 _ ?side1 ?side2 ?side3 ?side4 ?sideG A76.out).mono ?_); (case sideG => repeat ((exact (Kd.C_below HRG.out HB.out)))); (case side1 => repeat ((exact (zl_ HO_12.out).2.2))); (case side2 => exact (zl_ HO_12.out).2.1); (case side3 => repeat ((exact (Kd.C_below HR1_0.out HB.out)))); (case side4 => exact HC1_0.out); rintro e w88 ⟨rfl, hb⟩; refine ⟨_, rfl, ?_⟩; have n0_ := Aside0.mk (Kd.R_below HO_9.out hb); have n1_ := Aside0.mk (Kd.R_below HO_10.out hb); have n2_ := Aside0.mk (Kd.R_below HO_11.out hb); have n3_ := Aside0.mk (Kd.R_below HO_12.out hb); have n4_ := Aside0.mk (Kd.R_below HO_13.out hb); have n5_ := Aside0.mk (zq_ BK242.out hb); have n6_ := Aside0.mk (zv_ (by repeat (((with_reducible (exact HB.out))))) hb); clear HO_9 HO_10 HO_11 HO_12 HO_13 BK242 HB; have HO_9 := n0_; have HO_10 := n1_; have HO_11 := n2_; have HO_12 := n3_; have HO_13 := n4_; have BK242 := n5_; have HB := n6_; clear n0_ n1_ n2_ n3_ n4_ n5_ n6_; (try clear hb); (try clear hb2); (try clear hk); (try clear hi)))
      (try simp only [Act.put, zA_, zB_, zC_])
      go_cut [183] (fun v183 wc => ∃ (kq : Nat) (x183_76 : Bool), v183 = .bool x183_76 ∧ Aside0 (Fcj3 kq a2 t286 t288 t290 t292 t294 t296 x183_76 = some r) ∧ Aside0 (kq ≤ k2) ∧ Aside0 (wc.heap[gb242]? = some (.cells #[(.slice A1_0 l1_0.length c1_0), (.slice A1_1 l1_1.length c1_1)] 47 (0, 0))) ∧ Aside0 (Below w.heap.size w wc))
      case first =>
       have H := HC77.out
       clear HC77
       by_cases c89 : t287 = 0
       rotate_left
       ·rw [if_neg c89] at H
        exact absurd H (by simp)
       rw [if_pos c89] at H
       have c89b0 : (t287 == 0) = true := beq_iff_eq.mpr c89
       have c89b1 : (t287 != 0) = false := bne_eq_false_iff_eq.mpr c89
       clear c89
       (skip)
       by_cases c90 : t289 = 0
       rotate_left
       ·rw [if_neg c90] at H
        exact absurd H (by simp)
       rw [if_pos c90] at H
       have c90b0 : (t289 == 0) = true := beq_iff_eq.mpr c90
       have c90b1 : (t289 != 0) = false := bne_eq_false_iff_eq.mpr c90
       clear c90
       by_cases c91 : t291 = 0
       rotate_left
       ·rw [if_neg c91] at H
        exact absurd H (by simp)
       rw [if_pos c91] at H
       have c91b0 : (t291 == 0) = true := beq_iff_eq.mpr c91
       have c91b1 : (t291 != 0) = false := bne_eq_false_iff_eq.mpr c91
       clear c91
       by_cases c92 : t293 = 0
       rotate_left
       ·rw [if_neg c92] at H
        exact absurd H (by simp)
       rw [if_pos c92] at H
       have c92b0 : (t293 == 0) = true := beq_iff_eq.mpr c92
       have c92b1 : (t293 != 0) = false := bne_eq_false_iff_eq.mpr c92
       clear c92
       by_cases c93 : t295 = 0
       rotate_left
       ·rw [if_neg c93] at H
        exact absurd H (by simp)
       rw [if_pos c93] at H
       have c93b0 : (t295 == 0) = true := beq_iff_eq.mpr c93
       have c93b1 : (t295 != 0) = false := bne_eq_false_iff_eq.mpr c93
       clear c93
       have H' := Aside0.mk H
       clear H
       go_wp2
       go_meet
       case rel => exact ⟨_, (t297 != 0), (by (rfl)), H', ⟨by have := HJ3.out; have := HK2.out; (omega)⟩, ⟨by exact BK242.out⟩, ⟨by repeat (((with_reducible (exact HB.out))))⟩⟩
      case rest =>
       clear HC77
       try clear c1
       try clear c2
       try clear p2
       try clear q2
       try clear hx2
       try clear c3
       try clear c4
       try clear p6
       try clear c8
       try clear c9
       try clear c12
       try clear c12b0
       try clear c13
       try clear c14
       try clear c16
       try clear c24
       try clear c26
       try clear p27
       try clear q27
       try clear hx27
       try clear c33
       try clear c34
       try clear c35
       try clear c37
       try clear c38
       try clear c39
       try clear c40
       try clear c42
       try clear p64
       try clear c89
       try clear c89b0
       try clear c89b1
       try clear c90
       try clear c90b0
       try clear c90b1
       try clear c91
       try clear c91b0
       try clear c91b1
       try clear c92
       try clear c92b0
       try clear c92b1
       try clear c93
       try clear c93b0
       try clear c93b1
       try clear hx277_0
       try clear hx278_0
       try clear p277
       try clear p278
       try clear q277
       try clear q278
       obtain ⟨kq, x183_76, rfl, HA, HJ76, BK242, HB⟩ := hcut
       cases kq with
       | zero => exact absurd HA.out (by simp [Fcj3])
       | succ kj76 =>
        have H := HA.out
        clear HA
        simp only [Fcj3] at H
        by_cases c94 : x183_76 = true
        ·subst c94
         have H1 : (none) = some r := by rw [if_pos rfl] at H; exact H
         clear H
         have H := H1
         clear H1
         exact absurd H (by simp)
        replace c94 := Bool.eq_false_iff.mpr c94
        subst c94
        have H1 : ((quietuslaw04_sanity.f kj76).bind fun t298 => (if t298 = true then ((gf_Sum.f t286 t288).bind fun t299 => (if t290.toList = t299.toList then ((gf_Sum.f t286 t292).bind fun t300 => (if t294.toList = t300.toList then ((gf_Scale.f a2 t286).bind fun t301 => (some (t296.toList == t301.toList))) else (none))) else (none))) else (none))) = some r := by rw [if_neg (show ¬ (false = true) by decide)] at H; exact H
        clear H
        have H := H1
        clear H1
        replace H := Option.bind_eq_some_iff.mp H
        obtain ⟨t298, A950, H⟩ := H
        replace H : (if t298 = true then ((gf_Sum.f t286 t288).bind fun t299 => (if t290.toList = t299.toList then ((gf_Sum.f t286 t292).bind fun t300 => (if t294.toList = t300.toList then ((gf_Scale.f a2 t286).bind fun t301 => (some (t296.toList == t301.toList))) else (none))) else (none))) else (none)) = some r := H
        have A95 := Aside0.mk A950
        clear A950
        by_cases c96 : t298 = true
        rotate_left
        ·replace c96 := Bool.eq_false_iff.mpr c96
         subst c96
         have H1 : (none) = some r := by rw [if_neg (show ¬ (false = true) by decide)] at H; exact H
         clear H
         have H := H1
         clear H1
         exact absurd H (by simp)
        subst c96
        have H1 : ((gf_Sum.f t286 t288).bind fun t299 => (if t290.toList = t299.toList then ((gf_Sum.f t286 t292).bind fun t300 => (if t294.toList = t300.toList then ((gf_Scale.f a2 t286).bind fun t301 => (some (t296.toList == t301.toList))) else (none))) else (none))) = some r := by rw [if_pos rfl] at H; exact H
        clear H
        have H := H1
        clear H1
        replace H := Option.bind_eq_some_iff.mp H
        obtain ⟨t299, A970, H⟩ := H
        replace H : (if t290.toList = t299.toList then ((gf_Sum.f t286 t292).bind fun t300 => (if t294.toList = t300.toList then ((gf_Scale.f a2 t286).bind fun t301 => (some (t296.toList == t301.toList))) else (none))) else (none)) = some r := H
        have A97 := Aside0.mk A970
        clear A970
        by_cases c98 : t290.toList = t299.toList
        rotate_left
        ·rw [if_neg c98] at H
         exact absurd H (by simp)
        rw [if_pos c98] at H
        have c98b0 : (t290.toList == t299.toList) = true := beq_iff_eq.mpr c98
        have c98b1 : (t290.toList != t299.toList) = false := bne_eq_false_iff_eq.mpr c98
        clear c98
        replace H := Option.bind_eq_some_iff.mp H
        obtain ⟨t300, A990, H⟩ := H
        replace H : (if t294.toList = t300.toList then ((gf_Scale.f a2 t286).bind fun t301 => (some (t296.toList == t301.toList))) else (none)) = some r := H
        have A99 := Aside0.mk A990
        clear A990
        by_cases c100 : t294.toList = t300.toList
        rotate_left
        ·rw [if_neg c100] at H
         exact absurd H (by simp)
        rw [if_pos c100] at H
        have c100b0 : (t294.toList == t300.toList) = true := beq_iff_eq.mpr c100
        have c100b1 : (t294.toList != t300.toList) = false := bne_eq_false_iff_eq.mpr c100
        clear c100
        replace H := Option.bind_eq_some_iff.mp H
        obtain ⟨t301, A1010, H⟩ := H
        replace H : (some (t296.toList == t301.toList)) = some r := H
        have A101 := Aside0.mk A1010
        clear A1010
        obtain rfl := Option.some.inj H
        go_wp2_with (first | ((with_reducible refine gate_callee (f := 15) rfl ?_); refine goesL_ (some 184) rfl rfl Tryd.func15 (by kernel_rfl) rfl #[] rfl (by (try simp only [List.map_toArray, List.map_cons, List.map_nil]); (done)) ?_; (with_reducible refine (quietuslaw04_sanity.calls kj76  true _ ?sideG A95.out).mono ?_); (case sideG => repeat ((exact (Kd.C_below HRG.out HB.out)))); rintro e w102 ⟨rfl, hb⟩; refine ⟨_, rfl, ?_⟩; have n0_ := Aside0.mk (zq_ BK242.out hb); have n1_ := Aside0.mk (zv_ (by repeat (((with_reducible (exact HB.out))))) hb); clear BK242 HB; have BK242 := n0_; have HB := n1_; clear n0_ n1_; (try clear hb); (try clear hb2); (try clear hk); (try clear hi)) | (go_at_call 26; (with_reducible refine (gf_Sum.calls t286 t288 t299 _ A97.out).mono ?_); rintro e w103 ⟨rfl, hb⟩; have n0_ := Aside0.mk (zq_ BK242.out hb); have n1_ := Aside0.mk (zv_ (by repeat (((with_reducible (exact HB.out))))) hb); clear BK242 HB; have BK242 := n0_; have HB := n1_; clear n0_ n1_; (try clear hb); (try clear hb2); (try clear hk); (try clear hi)) | (go_at_call 26; (with_reducible refine (gf_Sum.calls t286 t292 t300 _ A99.out).mono ?_); rintro e w104 ⟨rfl, hb⟩; have n0_ := Aside0.mk (zq_ BK242.out hb); have n1_ := Aside0.mk (zv_ (by repeat (((with_reducible (exact HB.out))))) hb); clear BK242 HB; have BK242 := n0_; have HB := n1_; clear n0_ n1_; (try clear hb); (try clear hb2); (try clear hk); (try clear hi)) | (go_at_call 28; (with_reducible refine (gf_Scale.calls a2 t286 t301 _ ?sideG A101.out).mono ?_); (case sideG => repeat ((exact (Kd.C_below HRG.out HB.out)))); rintro e w105 ⟨rfl, hb⟩; have n0_ := Aside0.mk (zq_ BK242.out hb); have n1_ := Aside0.mk (zv_ (by repeat (((with_reducible (exact HB.out))))) hb); clear BK242 HB; have BK242 := n0_; have HB := n1_; clear n0_ n1_; (try clear hb); (try clear hb2); (try clear hk); (try clear hi)))
        go_ret
        exact ⟨by (rfl), by repeat (((with_reducible (exact HB.out))))⟩
     rw [if_pos c12] at H
     have c12b0 : decide (x52_2 < (l0.length : Int)) = true := decide_eq_true c12
     clear c12
     by_cases c13 : 0 ≤ x52_2
     rotate_left
     ·rw [if_neg c13] at H
      exact absurd H (by simp)
     rw [if_pos c13] at H
     have c13b0 : decide (0 ≤ x52_2) = true := decide_eq_true c13
     clear c13
     by_cases c14 : x52_2 < (l0.length : Int)
     rotate_left
     ·rw [if_neg c14] at H
      exact absurd H (by simp)
     rw [if_pos c14] at H
     have c14b0 : decide (x52_2 < (l0.length : Int)) = true := decide_eq_true c14
     clear c14
     have HC15 := Aside0.mk H
     clear H
     have p244 : 0 ≤ (x52_2 : Int) := of_decide_eq_true (by (with_reducible assumption))
     have q244 : x52_2 < (l0.length : Int) := of_decide_eq_true (by (with_reducible assumption))
     obtain ⟨ad244, e244, hx244_0, hx244_1⟩ := at_T48 HR0.out x52_2 p244 q244
     cases e244
     replace hx244_0 := (HB.out.cell (World.block_lt_of_cell? w _ hx244_0)).trans hx244_0
     replace hx244_1 := (HB.out.cell (World.block_lt_of_cell? w _ hx244_1)).trans hx244_1
     replace p244 := eq_true p244
     replace q244 := eq_true q244
     go_upto_region 9 with ((((with_reducible refine gate_dst (N := 15) rfl ?_); (try (refine gate_guard (by rfl) ?_; dsimp only)); refine box_event ?hg (N := 15) ?hd (cs := #[.int .u8 0, .int .u8 0]) (t := 48) ?hr ?_; (case hd => rfl); (case hg => rfl); (case hr => (go_simp; done)); intro gb245 hg w16 hbox hb; have n0_ := Aside0.mk (Kd.R_below HO_9.out hb); have n1_ := Aside0.mk (Kd.R_below HO_10.out hb); have n2_ := Aside0.mk (Kd.R_below HO_11.out hb); have n3_ := Aside0.mk (Kd.R_below HO_12.out hb); have n4_ := Aside0.mk (Kd.R_below HO_13.out hb); have n5_ := Aside0.mk (zq_ BK242.out hb); have n6_ := Aside0.mk (zv_ (by repeat (((with_reducible (exact HB.out))))) hb); have n7_ := Aside0.mk (hbox); have n8_ := Aside0.mk ((by rw [hg]; exact (zw_ (by repeat (((with_reducible (exact HB.out)))))) : w.heap.size ≤ gb245)); have n9_ := Aside0.mk ((by rw [hg]; exact (zw_ (by repeat (((with_reducible (exact HB.out)))))) : w.heap.size ≤ gb245)); have n10_ := Aside0.mk ((by rw [hg]; exact Nat.ne_of_lt (blk_lt BK242.out) : gb242 ≠ gb245)); have n11_ := Aside0.mk ((by rw [hg]; exact Nat.ne_of_gt (blk_lt BK242.out) : gb245 ≠ gb242)); clear HO_9 HO_10 HO_11 HO_12 HO_13 BK242 HB; have HO_9 := n0_; have HO_10 := n1_; have HO_11 := n2_; have HO_12 := n3_; have HO_13 := n4_; have BK242 := n5_; have HB := n6_; have BK245 := n7_; have GW245 := n8_; have GE245 := n9_; have NB242_245 := n10_; have NB245_242 := n11_; clear n0_ n1_ n2_ n3_ n4_ n5_ n6_ n7_ n8_ n9_ n10_ n11_; clear hb hbox hg; have hnb17 := NB245_242.out; have hnc17 := NB242_245.out; have hcz18_0 : w16.cell? ⟨gb245, 0, none⟩ = some (.int .u8 0) := (blk_cell BK245.out 0).trans rfl; have hcz18_1 : w16.cell? ⟨gb245, 1, none⟩ = some (.int .u8 0) := (blk_cell BK245.out 1).trans rfl; have hfz18_0 := blk_frozen BK245.out 0; have hfz18_1 := blk_frozen BK245.out 1)))
     (try simp only [Act.put, zA_, zB_, zC_])
     go_cut [86] (fun v86 wc => ∃ (kq : Nat) (x86_14 : Bool), v86 = .bool x86_14 ∧ Aside0 (Fcj2 kq a2 l1_0 l1_1 x9_2 x10_2 x11_2 x12_2 x13_2 x52_2 l0 (l0.length : Int) x52_2 x86_14 ((rd_T48 l0 x52_2).f0) ((rd_T48 l0 x52_2).f1) = some r) ∧ Aside0 (kq ≤ k2) ∧ Aside0 (Kd.R (Kd.int .u8) 5 wc w.heap.size (fun k_ => some k_ ≠ (u10 : Value).ownBlock ∧ some k_ ≠ (u11 : Value).ownBlock ∧ some k_ ≠ (u12 : Value).ownBlock) u9 x9_2) ∧ Aside0 (Kd.R (Kd.int .u8) 5 wc w.heap.size (fun k_ => some k_ ≠ (u9 : Value).ownBlock ∧ some k_ ≠ (u11 : Value).ownBlock ∧ some k_ ≠ (u12 : Value).ownBlock) u10 x10_2) ∧ Aside0 (Kd.R (Kd.int .u8) 5 wc w.heap.size (fun k_ => some k_ ≠ (u9 : Value).ownBlock ∧ some k_ ≠ (u10 : Value).ownBlock ∧ some k_ ≠ (u12 : Value).ownBlock) u11 x11_2) ∧ Aside0 (Kd.R (Kd.int .u8) 5 wc w.heap.size (fun k_ => some k_ ≠ (u9 : Value).ownBlock ∧ some k_ ≠ (u10 : Value).ownBlock ∧ some k_ ≠ (u11 : Value).ownBlock) u12 x12_2) ∧ Aside0 (Kd.R Kd.string 9 wc w.heap.size (fun _ => True) u13 x13_2) ∧ Aside0 (wc.heap[gb242]? = some (.cells #[(.slice A1_0 l1_0.length c1_0), (.slice A1_1 l1_1.length c1_1)] 47 (0, 0))) ∧ Aside0 (wc.heap[gb245]? = some (.cells #[.int .u8 ((rd_T48 l0 x52_2).f0), .int .u8 ((rd_T48 l0 x52_2).f1)] 48 (0, 0))) ∧ Aside0 (Below w.heap.size w wc))
     case first =>
      have H := HC15.out
      clear HC15
      by_cases c19 : x52_2 < (l1_0.length : Int)
      rotate_left
      ·rw [if_neg c19] at H
       exact absurd H (by simp)
      rw [if_pos c19] at H
      have c19b0 : decide (x52_2 < (l1_0.length : Int)) = true := decide_eq_true c19
      clear c19
      (skip)
      by_cases c20 : 0 < (l1_0.length : Int)
      rotate_left
      ·rw [if_neg c20] at H
       exact absurd H (by simp)
      rw [if_pos c20] at H
      have c20b0 : decide (0 < (l1_0.length : Int)) = true := decide_eq_true c20
      have c20b1 : decide (0 < l1_0.length) = true := decide_eq_true (by omega)
      clear c20
      by_cases c21 : ((rdOf ByteArray.empty l1_0 x52_2).size : Int) = ((rdOf ByteArray.empty l1_0 0).size : Int)
      rotate_left
      ·rw [if_neg c21] at H
       have c21b0 : (((rdOf ByteArray.empty l1_0 x52_2).size : Int) == ((rdOf ByteArray.empty l1_0 0).size : Int)) = false := beq_eq_false_iff_ne.mpr c21
       have c21b1 : (((rdOf ByteArray.empty l1_0 x52_2).size : Int) != ((rdOf ByteArray.empty l1_0 0).size : Int)) = true := bne_iff_ne.mpr c21
       have c21b2 : ((rdOf ByteArray.empty l1_0 x52_2).size == (rdOf ByteArray.empty l1_0 0).size) = false := by (simp at c21 ⊢; omega)
       have H' := Aside0.mk H
       clear H
       try go_wp2
       have n0_ : Aside0 (Kd.R (Kd.int .u8) 5 ((w16.setCell ⟨gb245, 0, none⟩ (.int .u8 ((rd_T48 l0 x52_2).f0))).setCell ⟨gb245, 1, none⟩ (.int .u8 ((rd_T48 l0 x52_2).f1))) w.heap.size (fun k_ => some k_ ≠ (u10 : Value).ownBlock ∧ some k_ ≠ (u11 : Value).ownBlock ∧ some k_ ≠ (u12 : Value).ownBlock) u9 x9_2) := ⟨by exact zd_ (ze_ (p := ⟨gb245, 1, none⟩) (ze_ (p := ⟨gb245, 0, none⟩) (zf_ HO_9.out BK245.out (by decide)) (fun _ hk => hk.2) (.int .u8 ((rd_T48 l0 x52_2).f0))) (fun _ hk => hk.2) (.int .u8 ((rd_T48 l0 x52_2).f1))) (fun _ hk => ⟨hk.1.1, ⟨hk.1.2.1, hk.1.2.2⟩⟩)⟩
       have n1_ : Aside0 (Kd.R (Kd.int .u8) 5 ((w16.setCell ⟨gb245, 0, none⟩ (.int .u8 ((rd_T48 l0 x52_2).f0))).setCell ⟨gb245, 1, none⟩ (.int .u8 ((rd_T48 l0 x52_2).f1))) w.heap.size (fun k_ => some k_ ≠ (u9 : Value).ownBlock ∧ some k_ ≠ (u11 : Value).ownBlock ∧ some k_ ≠ (u12 : Value).ownBlock) u10 x10_2) := ⟨by exact zd_ (ze_ (p := ⟨gb245, 1, none⟩) (ze_ (p := ⟨gb245, 0, none⟩) (zf_ HO_10.out BK245.out (by decide)) (fun _ hk => hk.2) (.int .u8 ((rd_T48 l0 x52_2).f0))) (fun _ hk => hk.2) (.int .u8 ((rd_T48 l0 x52_2).f1))) (fun _ hk => ⟨hk.1.1, ⟨hk.1.2.1, hk.1.2.2⟩⟩)⟩
       have n2_ : Aside0 (Kd.R (Kd.int .u8) 5 ((w16.setCell ⟨gb245, 0, none⟩ (.int .u8 ((rd_T48 l0 x52_2).f0))).setCell ⟨gb245, 1, none⟩ (.int .u8 ((rd_T48 l0 x52_2).f1))) w.heap.size (fun k_ => some k_ ≠ (u9 : Value).ownBlock ∧ some k_ ≠ (u10 : Value).ownBlock ∧ some k_ ≠ (u12 : Value).ownBlock) u11 x11_2) := ⟨by exact zd_ (ze_ (p := ⟨gb245, 1, none⟩) (ze_ (p := ⟨gb245, 0, none⟩) (zf_ HO_11.out BK245.out (by decide)) (fun _ hk => hk.2) (.int .u8 ((rd_T48 l0 x52_2).f0))) (fun _ hk => hk.2) (.int .u8 ((rd_T48 l0 x52_2).f1))) (fun _ hk => ⟨hk.1.1, ⟨hk.1.2.1, hk.1.2.2⟩⟩)⟩
       have n3_ : Aside0 (Kd.R (Kd.int .u8) 5 ((w16.setCell ⟨gb245, 0, none⟩ (.int .u8 ((rd_T48 l0 x52_2).f0))).setCell ⟨gb245, 1, none⟩ (.int .u8 ((rd_T48 l0 x52_2).f1))) w.heap.size (fun k_ => some k_ ≠ (u9 : Value).ownBlock ∧ some k_ ≠ (u10 : Value).ownBlock ∧ some k_ ≠ (u11 : Value).ownBlock) u12 x12_2) := ⟨by exact zd_ (ze_ (p := ⟨gb245, 1, none⟩) (ze_ (p := ⟨gb245, 0, none⟩) (zf_ HO_12.out BK245.out (by decide)) (fun _ hk => hk.2) (.int .u8 ((rd_T48 l0 x52_2).f0))) (fun _ hk => hk.2) (.int .u8 ((rd_T48 l0 x52_2).f1))) (fun _ hk => ⟨hk.1.1, ⟨hk.1.2.1, hk.1.2.2⟩⟩)⟩
       have n4_ : Aside0 (Kd.R Kd.string 9 ((w16.setCell ⟨gb245, 0, none⟩ (.int .u8 ((rd_T48 l0 x52_2).f0))).setCell ⟨gb245, 1, none⟩ (.int .u8 ((rd_T48 l0 x52_2).f1))) w.heap.size (fun _ => True) u13 x13_2) := ⟨by exact zd_ (ze_ (p := ⟨gb245, 1, none⟩) (ze_ (p := ⟨gb245, 0, none⟩) (zf_ HO_13.out BK245.out (by decide)) (fun _ hk => hk.2) (.int .u8 ((rd_T48 l0 x52_2).f0))) (fun _ hk => hk.2) (.int .u8 ((rd_T48 l0 x52_2).f1))) (fun _ hk => trivial)⟩
       have n5_ : Aside0 (((w16.setCell ⟨gb245, 0, none⟩ (.int .u8 ((rd_T48 l0 x52_2).f0))).setCell ⟨gb245, 1, none⟩ (.int .u8 ((rd_T48 l0 x52_2).f1))).heap[gb242]? = some (.cells #[.slice A1_0 l1_0.length c1_0, .slice A1_1 l1_1.length c1_1] 47 (0, 0))) := ⟨by refine zp_ ?_ NB242_245.out _; refine zp_ ?_ NB242_245.out _; exact BK242.out⟩
       have n6_ : Aside0 (((w16.setCell ⟨gb245, 0, none⟩ (.int .u8 ((rd_T48 l0 x52_2).f0))).setCell ⟨gb245, 1, none⟩ (.int .u8 ((rd_T48 l0 x52_2).f1))).heap[gb245]? = some (.cells #[.int .u8 ((rd_T48 l0 x52_2).f0), .int .u8 ((rd_T48 l0 x52_2).f1)] 48 (0, 0))) := ⟨by refine blk_put (cs := #[.int .u8 ((rd_T48 l0 x52_2).f0), .int .u8 0]) ?_ 1 _ rfl; refine blk_put (cs := #[.int .u8 0, .int .u8 0]) ?_ 0 _ rfl; exact BK245.out⟩
       have n7_ : Aside0 (Below w.heap.size w ((w16.setCell ⟨gb245, 0, none⟩ (.int .u8 ((rd_T48 l0 x52_2).f0))).setCell ⟨gb245, 1, none⟩ (.int .u8 ((rd_T48 l0 x52_2).f1)))) := ⟨by repeat (with_reducible first | exact HB.out | refine zr_ ?_ GE245.out)⟩
       (try clear HO_9)
       (try clear HO_10)
       (try clear HO_11)
       (try clear HO_12)
       (try clear HO_13)
       (try clear BK242)
       (try clear BK245)
       (try clear HB)
       generalize ((w16.setCell ⟨gb245, 0, none⟩ (.int .u8 ((rd_T48 l0 x52_2).f0))).setCell ⟨gb245, 1, none⟩ (.int .u8 ((rd_T48 l0 x52_2).f1))) = w28 at n0_ n1_ n2_ n3_ n4_ n5_ n6_ n7_ ⊢
       have HO_9 := n0_
       have HO_10 := n1_
       have HO_11 := n2_
       have HO_12 := n3_
       have HO_13 := n4_
       have BK242 := n5_
       have BK245 := n6_
       have HB := n7_
       clear n0_ n1_ n2_ n3_ n4_ n5_ n6_ n7_
       have n0_ := Aside0.mk (zc_ HO_9.out)
       have n1_ := Aside0.mk (zc_ HO_10.out)
       have n2_ := Aside0.mk (zc_ HO_11.out)
       have n3_ := Aside0.mk (zc_ HO_12.out)
       have n4_ := Aside0.mk (zc_ HO_13.out)
       have n5_ := Aside0.mk (zn_ BK242.out)
       have n6_ := Aside0.mk (zn_ BK245.out)
       have n7_ := Aside0.mk (zu_ HB.out)
       clear HO_9 HO_10 HO_11 HO_12 HO_13 BK242 BK245 HB
       revert n0_ n1_ n2_ n3_ n4_ n5_ n6_ n7_
       intro HO_9 HO_10 HO_11 HO_12 HO_13 BK242 BK245 HB
       have p246 : 0 ≤ (x52_2 : Int) := of_decide_eq_true (by (with_reducible assumption))
       have q246 : x52_2 < (l1_0.length : Int) := of_decide_eq_true (by (with_reducible assumption))
       obtain ⟨ad246, e246, hx246_0⟩ := Kd.at_string HR1_0.out x52_2 p246 q246
       have hw246_0 := hx246_0
       cases e246
       replace hx246_0 := (HB.out.cell (World.block_lt_of_cell? w _ hx246_0)).trans hx246_0
       replace p246 := eq_true p246
       replace q246 := eq_true q246
       have p247 : 0 ≤ (0 : Int) := (by omega)
       have q247 : 0 < (l1_0.length : Int) := of_decide_eq_true (by (with_reducible assumption))
       obtain ⟨ad247, e247, hx247_0⟩ := Kd.at_string HR1_0.out 0 p247 q247
       have hw247_0 := hx247_0
       (try rw [show (0 : Int).toNat = 0 from rfl] at hw247_0)
       (try rw [show 0 * 1 = 0 from rfl] at hw247_0)
       (try rw [Addr.add_zero'] at hw247_0)
       obtain rfl : ad246 = ad247 := (by injection e247)
       have qi247 : (0 < l1_0.length) = True := eq_true (by omega)
       (try rw [show (0 : Int).toNat = 0 from rfl] at hx247_0)
       (try rw [Addr.add_zero'] at hx247_0)
       replace hx247_0 := (HB.out.cell (World.block_lt_of_cell? w _ hx247_0)).trans hx247_0
       replace p247 := eq_true p247
       replace q247 := eq_true q247
       refine start_ (n := 30) (S := fun w' => w'.cell? (ad246.add (x52_2).toNat) = some (.string (rdOf ByteArray.empty l1_0 x52_2)) ∧ w'.cell? ad246 = some (.string (rdOf ByteArray.empty l1_0 0))) (ds := []) #[Z,Z,Z,Z,Z,Z,Z,Z,Z,Z,Z,Z,Z,Z,Z,Z,Z,Z,Z,Z,Z,Z,Z,Z,Z,Z,Z,Z,Z,Z] (by kernel_rfl) rfl rfl ⟨((HB.out.cell (World.block_lt_of_cell? w _ hw246_0)).trans hw246_0), ((HB.out.cell (World.block_lt_of_cell? w _ hw247_0)).trans hw247_0)⟩ (fun hHeld => ?_); refine with_tabW quietuslaw04_FieldCombinesLinearly.tab9 quietuslaw04_FieldCombinesLinearly.bits9 (fun HT_ HW_ => ?_)
       generalize w28.drew = w29 at HO_9 HO_10 HO_11 HO_12 HO_13 BK242 BK245 HB hx246_0 hx247_0 hHeld ⊢
       refine pure_ (i := 0) (N := some 57) (v := ?_) (a' := ?_) #[Y,Z,Z,Z,Z,Z,Z,Z,Z,Z,Z,Z,Z,Z,Z,Z,Z,Z,Z,Z,Z,Z,Z,Z,Z,Z,Z,Z,Z,Z] rfl rfl (any_of HT_.out (by kernel_rfl)) (fun _ _ _ h => h) (Or.inl ⟨by rfl, ?_⟩) ?_ ?_
       rotate_left
       ·intro w'
        go_simp
        with_reducible rfl
       rotate_left
       ·simp only [Act.put, zA_, zB_, zC_, i64_w, i32_w]
        rfl
       refine pure_ (i := 1) (N := some 58) (v := ?_) (a' := ?_) #[Y,Y,Z,Z,Z,Z,Z,Z,Z,Z,Z,Z,Z,Z,Z,Z,Z,Z,Z,Z,Z,Z,Z,Z,Z,Z,Z,Z,Z,Z] rfl rfl (any_of HT_.out (by kernel_rfl)) (fun _ _ _ h => h) (Or.inl ⟨by rfl, ?_⟩) ?_ ?_
       rotate_left
       ·intro w'
        go_simp
        with_reducible rfl
       rotate_left
       ·simp only [Act.put, zA_, zB_, zC_, i64_w, i32_w]
        rfl
       refine pure_ (i := 2) (N := some 59) (v := ?_) (a' := ?_) #[Y,Y,Y,Z,Z,Z,Z,Z,Z,Z,Z,Z,Z,Z,Z,Z,Z,Z,Z,Z,Z,Z,Z,Z,Z,Z,Z,Z,Z,Z] rfl rfl (any_of HT_.out (by kernel_rfl)) (fun _ _ _ h => h) (Or.inl ⟨by rfl, ?_⟩) ?_ ?_
       rotate_left
       ·intro w'
        go_simp
        with_reducible rfl
       rotate_left
       ·simp only [Act.put, zA_, zB_, zC_, i64_w, i32_w]
        rfl
       refine pure_ (i := 5) (N := some 62) (v := ?_) (a' := ?_) #[Y,Y,Y,Z,Z,Y,Z,Z,Z,Z,Z,Z,Z,Z,Z,Z,Z,Z,Z,Z,Z,Z,Z,Z,Z,Z,Z,Z,Z,Z] rfl rfl (any_of HT_.out (by kernel_rfl)) (fun _ _ _ h => h) (Or.inl ⟨by rfl, ?_⟩) ?_ ?_
       rotate_left
       ·intro w'
        go_simp
        with_reducible rfl
       rotate_left
       ·simp only [Act.put, zA_, zB_, zC_, i64_w, i32_w]
        rfl
       refine pure_ (i := 6) (N := some 63) (v := ?_) (a' := ?_) #[Y,Y,Y,Z,Z,Y,Y,Z,Z,Z,Z,Z,Z,Z,Z,Z,Z,Z,Z,Z,Z,Z,Z,Z,Z,Z,Z,Z,Z,Z] rfl rfl (any_of HT_.out (by kernel_rfl)) (fun _ _ _ h => h) (Or.inl ⟨by rfl, ?_⟩) ?_ ?_
       rotate_left
       ·intro w'
        go_simp
        with_reducible rfl
       rotate_left
       ·simp only [Act.put, zA_, zB_, zC_, i64_w, i32_w]
        rfl
       refine take_ (i := 3) (N := some 60) (v := ?_) (a' := ?_) #[Y,Y,Y,Y,Z,Y,Y,Z,Z,Z,Z,Z,Z,Z,Z,Z,Z,Z,Z,Z,Z,Z,Z,Z,Z,Z,Z,Z,Z,Z] rfl rfl (take_ofW HT_.out HW_.out (by kernel_rfl)) (fun _ _ _ h => h) (Or.inl ⟨by rfl, ?_⟩) hHeld ?_ ?_
       rotate_left
       ·rintro w' ⟨s0, s1⟩
        go_simp
        with_reducible rfl
       rotate_left
       ·simp only [Act.put, zA_, zB_, zC_, i64_w, i32_w]
        rfl
       refine pure_ (i := 4) (N := some 61) (v := ?_) (a' := ?_) #[Y,Y,Y,Y,Y,Y,Y,Z,Z,Z,Z,Z,Z,Z,Z,Z,Z,Z,Z,Z,Z,Z,Z,Z,Z,Z,Z,Z,Z,Z] rfl rfl (any_of HT_.out (by kernel_rfl)) (fun _ _ _ h => h) (Or.inl ⟨by rfl, ?_⟩) ?_ ?_
       rotate_left
       ·intro w'
        go_simp
        with_reducible rfl
       rotate_left
       ·simp only [Act.put, zA_, zB_, zC_, i64_w, i32_w]
        rfl
       refine take_ (i := 7) (N := some 64) (v := ?_) (a' := ?_) #[Y,Y,Y,Y,Y,Y,Y,Y,Z,Z,Z,Z,Z,Z,Z,Z,Z,Z,Z,Z,Z,Z,Z,Z,Z,Z,Z,Z,Z,Z] rfl rfl (take_ofW HT_.out HW_.out (by kernel_rfl)) (fun _ _ _ h => h) (Or.inl ⟨by rfl, ?_⟩) hHeld ?_ ?_
       rotate_left
       ·rintro w' ⟨s0, s1⟩
        go_simp
        with_reducible rfl
       rotate_left
       ·simp only [Act.put, zA_, zB_, zC_, i64_w, i32_w]
        rfl
       refine pure_ (i := 8) (N := some 65) (v := ?_) (a' := ?_) #[Y,Y,Y,Y,Y,Y,Y,Y,Y,Z,Z,Z,Z,Z,Z,Z,Z,Z,Z,Z,Z,Z,Z,Z,Z,Z,Z,Z,Z,Z] rfl rfl (any_of HT_.out (by kernel_rfl)) (fun _ _ _ h => h) (Or.inl ⟨by rfl, ?_⟩) ?_ ?_
       rotate_left
       ·intro w'
        go_simp
        with_reducible rfl
       rotate_left
       ·simp only [Act.put, zA_, zB_, zC_, i64_w, i32_w]
        rfl
       refine pure_ (i := 9) (N := some 66) (v := ?_) (a' := ?_) #[Y,Y,Y,Y,Y,Y,Y,Y,Y,Y,Z,Z,Z,Z,Z,Z,Z,Z,Z,Z,Z,Z,Z,Z,Z,Z,Z,Z,Z,Z] rfl rfl (any_of HT_.out (by kernel_rfl)) (fun _ _ _ h => h) (Or.inl ⟨by rfl, ?_⟩) ?_ ?_
       rotate_left
       ·intro w'
        go_simp
        with_reducible rfl
       rotate_left
       ·simp only [Act.put, zA_, zB_, zC_, i64_w, i32_w]
        rfl
       refine pure_ (i := 10) (N := some 67) (v := ?_) (a' := ?_) #[Y,Y,Y,Y,Y,Y,Y,Y,Y,Y,Y,Z,Z,Z,Z,Z,Z,Z,Z,Z,Z,Z,Z,Z,Z,Z,Z,Z,Z,Z] rfl rfl (any_of HT_.out (by kernel_rfl)) (fun _ _ _ h => h) (Or.inl ⟨by rfl, ?_⟩) ?_ ?_
       rotate_left
       ·intro w'
        go_simp
        with_reducible rfl
       rotate_left
       ·simp only [Act.put, zA_, zB_, zC_, i64_w, i32_w]
        rfl
       refine pure_ (i := 11) (N := some 68) (v := undef) (a' := ?_) #[Y,Y,Y,Y,Y,Y,Y,Y,Y,Y,Y,Y,Z,Z,Z,Z,Z,Z,Z,Z,Z,Z,Z,Z,Z,Z,Z,Z,Z,Z] rfl rfl (any_of HT_.out (by kernel_rfl)) (fun _ _ _ h => h) (Or.inr ⟨by rfl, rfl⟩) ?_ ?_
       rotate_left
       ·simp only [Act.put, zA_, zB_, zC_, i64_w, i32_w]
        rfl
       refine pure_ (i := 12) (N := some 69) (v := undef) (a' := ?_) #[Y,Y,Y,Y,Y,Y,Y,Y,Y,Y,Y,Y,Y,Z,Z,Z,Z,Z,Z,Z,Z,Z,Z,Z,Z,Z,Z,Z,Z,Z] rfl rfl (any_of HT_.out (by kernel_rfl)) (fun _ _ _ h => h) (Or.inr ⟨by rfl, rfl⟩) ?_ ?_
       rotate_left
       ·simp only [Act.put, zA_, zB_, zC_, i64_w, i32_w]
        rfl
       refine pure_ (i := 13) (N := some 70) (v := undef) (a' := ?_) #[Y,Y,Y,Y,Y,Y,Y,Y,Y,Y,Y,Y,Y,Y,Z,Z,Z,Z,Z,Z,Z,Z,Z,Z,Z,Z,Z,Z,Z,Z] rfl rfl (any_of HT_.out (by kernel_rfl)) (fun _ _ _ h => h) (Or.inr ⟨by rfl, rfl⟩) ?_ ?_
       rotate_left
       ·simp only [Act.put, zA_, zB_, zC_, i64_w, i32_w]
        rfl
       refine pure_ (i := 14) (N := some 71) (v := undef) (a' := ?_) #[Y,Y,Y,Y,Y,Y,Y,Y,Y,Y,Y,Y,Y,Y,Y,Z,Z,Z,Z,Z,Z,Z,Z,Z,Z,Z,Z,Z,Z,Z] rfl rfl (any_of HT_.out (by kernel_rfl)) (fun _ _ _ h => h) (Or.inr ⟨by rfl, rfl⟩) ?_ ?_
       rotate_left
       ·simp only [Act.put, zA_, zB_, zC_, i64_w, i32_w]
        rfl
       refine pure_ (i := 15) (N := some 72) (v := undef) (a' := ?_) #[Y,Y,Y,Y,Y,Y,Y,Y,Y,Y,Y,Y,Y,Y,Y,Y,Z,Z,Z,Z,Z,Z,Z,Z,Z,Z,Z,Z,Z,Z] rfl rfl (any_of HT_.out (by kernel_rfl)) (fun _ _ _ h => h) (Or.inr ⟨by rfl, rfl⟩) ?_ ?_
       rotate_left
       ·simp only [Act.put, zA_, zB_, zC_, i64_w, i32_w]
        rfl
       refine pure_ (i := 16) (N := some 73) (v := undef) (a' := ?_) #[Y,Y,Y,Y,Y,Y,Y,Y,Y,Y,Y,Y,Y,Y,Y,Y,Y,Z,Z,Z,Z,Z,Z,Z,Z,Z,Z,Z,Z,Z] rfl rfl (any_of HT_.out (by kernel_rfl)) (fun _ _ _ h => h) (Or.inr ⟨by rfl, rfl⟩) ?_ ?_
       rotate_left
       ·simp only [Act.put, zA_, zB_, zC_, i64_w, i32_w]
        rfl
       refine pure_ (i := 17) (N := some 74) (v := undef) (a' := ?_) #[Y,Y,Y,Y,Y,Y,Y,Y,Y,Y,Y,Y,Y,Y,Y,Y,Y,Y,Z,Z,Z,Z,Z,Z,Z,Z,Z,Z,Z,Z] rfl rfl (any_of HT_.out (by kernel_rfl)) (fun _ _ _ h => h) (Or.inr ⟨by rfl, rfl⟩) ?_ ?_
       rotate_left
       ·simp only [Act.put, zA_, zB_, zC_, i64_w, i32_w]
        rfl
       refine pure_ (i := 18) (N := some 75) (v := undef) (a' := ?_) #[Y,Y,Y,Y,Y,Y,Y,Y,Y,Y,Y,Y,Y,Y,Y,Y,Y,Y,Y,Z,Z,Z,Z,Z,Z,Z,Z,Z,Z,Z] rfl rfl (any_of HT_.out (by kernel_rfl)) (fun _ _ _ h => h) (Or.inr ⟨by rfl, rfl⟩) ?_ ?_
       rotate_left
       ·simp only [Act.put, zA_, zB_, zC_, i64_w, i32_w]
        rfl
       refine pure_ (i := 19) (N := some 76) (v := undef) (a' := ?_) #[Y,Y,Y,Y,Y,Y,Y,Y,Y,Y,Y,Y,Y,Y,Y,Y,Y,Y,Y,Y,Z,Z,Z,Z,Z,Z,Z,Z,Z,Z] rfl rfl (any_of HT_.out (by kernel_rfl)) (fun _ _ _ h => h) (Or.inr ⟨by rfl, rfl⟩) ?_ ?_
       rotate_left
       ·simp only [Act.put, zA_, zB_, zC_, i64_w, i32_w]
        rfl
       refine pure_ (i := 20) (N := some 77) (v := undef) (a' := ?_) #[Y,Y,Y,Y,Y,Y,Y,Y,Y,Y,Y,Y,Y,Y,Y,Y,Y,Y,Y,Y,Y,Z,Z,Z,Z,Z,Z,Z,Z,Z] rfl rfl (any_of HT_.out (by kernel_rfl)) (fun _ _ _ h => h) (Or.inr ⟨by rfl, rfl⟩) ?_ ?_
       rotate_left
       ·simp only [Act.put, zA_, zB_, zC_, i64_w, i32_w]
        rfl
       refine pure_ (i := 21) (N := some 78) (v := ?_) (a' := ?_) #[Y,Y,Y,Y,Y,Y,Y,Y,Y,Y,Y,Y,Y,Y,Y,Y,Y,Y,Y,Y,Y,Y,Z,Z,Z,Z,Z,Z,Z,Z] rfl rfl (any_of HT_.out (by kernel_rfl)) (fun _ _ _ h => h) (Or.inl ⟨by rfl, ?_⟩) ?_ ?_
       rotate_left
       ·intro w'
        go_simp
        with_reducible rfl
       rotate_left
       ·simp only [Act.put, zA_, zB_, zC_, i64_w, i32_w]
        rfl
       refine pure_ (i := 22) (N := some 79) (v := ?_) (a' := ?_) #[Y,Y,Y,Y,Y,Y,Y,Y,Y,Y,Y,Y,Y,Y,Y,Y,Y,Y,Y,Y,Y,Y,Y,Z,Z,Z,Z,Z,Z,Z] rfl rfl (any_of HT_.out (by kernel_rfl)) (fun _ _ _ h => h) (Or.inl ⟨by rfl, ?_⟩) ?_ ?_
       rotate_left
       ·intro w'
        go_simp
        with_reducible rfl
       rotate_left
       ·simp only [Act.put, zA_, zB_, zC_, i64_w, i32_w]
        rfl
       refine pure_ (i := 23) (N := some 80) (v := undef) (a' := ?_) #[Y,Y,Y,Y,Y,Y,Y,Y,Y,Y,Y,Y,Y,Y,Y,Y,Y,Y,Y,Y,Y,Y,Y,Y,Z,Z,Z,Z,Z,Z] rfl rfl (any_of HT_.out (by kernel_rfl)) (fun _ _ _ h => h) (Or.inr ⟨by rfl, rfl⟩) ?_ ?_
       rotate_left
       ·simp only [Act.put, zA_, zB_, zC_, i64_w, i32_w]
        rfl
       refine pure_ (i := 24) (N := some 81) (v := undef) (a' := ?_) #[Y,Y,Y,Y,Y,Y,Y,Y,Y,Y,Y,Y,Y,Y,Y,Y,Y,Y,Y,Y,Y,Y,Y,Y,Y,Z,Z,Z,Z,Z] rfl rfl (any_of HT_.out (by kernel_rfl)) (fun _ _ _ h => h) (Or.inr ⟨by rfl, rfl⟩) ?_ ?_
       rotate_left
       ·simp only [Act.put, zA_, zB_, zC_, i64_w, i32_w]
        rfl
       refine pure_ (i := 25) (N := some 82) (v := undef) (a' := ?_) #[Y,Y,Y,Y,Y,Y,Y,Y,Y,Y,Y,Y,Y,Y,Y,Y,Y,Y,Y,Y,Y,Y,Y,Y,Y,Y,Z,Z,Z,Z] rfl rfl (any_of HT_.out (by kernel_rfl)) (fun _ _ _ h => h) (Or.inr ⟨by rfl, rfl⟩) ?_ ?_
       rotate_left
       ·simp only [Act.put, zA_, zB_, zC_, i64_w, i32_w]
        rfl
       refine pure_ (i := 26) (N := some 83) (v := undef) (a' := ?_) #[Y,Y,Y,Y,Y,Y,Y,Y,Y,Y,Y,Y,Y,Y,Y,Y,Y,Y,Y,Y,Y,Y,Y,Y,Y,Y,Y,Z,Z,Z] rfl rfl (any_of HT_.out (by kernel_rfl)) (fun _ _ _ h => h) (Or.inr ⟨by rfl, rfl⟩) ?_ ?_
       rotate_left
       ·simp only [Act.put, zA_, zB_, zC_, i64_w, i32_w]
        rfl
       refine pure_ (i := 27) (N := some 84) (v := undef) (a' := ?_) #[Y,Y,Y,Y,Y,Y,Y,Y,Y,Y,Y,Y,Y,Y,Y,Y,Y,Y,Y,Y,Y,Y,Y,Y,Y,Y,Y,Y,Z,Z] rfl rfl (any_of HT_.out (by kernel_rfl)) (fun _ _ _ h => h) (Or.inr ⟨by rfl, rfl⟩) ?_ ?_
       rotate_left
       ·simp only [Act.put, zA_, zB_, zC_, i64_w, i32_w]
        rfl
       refine pure_ (i := 28) (N := some 85) (v := undef) (a' := ?_) #[Y,Y,Y,Y,Y,Y,Y,Y,Y,Y,Y,Y,Y,Y,Y,Y,Y,Y,Y,Y,Y,Y,Y,Y,Y,Y,Y,Y,Y,Z] rfl rfl (any_of HT_.out (by kernel_rfl)) (fun _ _ _ h => h) (Or.inr ⟨by rfl, rfl⟩) ?_ ?_
       rotate_left
       ·simp only [Act.put, zA_, zB_, zC_, i64_w, i32_w]
        rfl
       refine pure_ (i := 29) (N := some 86) (v := ?_) (a' := ?_) #[Y,Y,Y,Y,Y,Y,Y,Y,Y,Y,Y,Y,Y,Y,Y,Y,Y,Y,Y,Y,Y,Y,Y,Y,Y,Y,Y,Y,Y,Y] rfl rfl (any_of HT_.out (by kernel_rfl)) (fun _ _ _ h => h) (Or.inl ⟨by rfl, ?_⟩) ?_ ?_
       rotate_left
       ·intro w'
        go_simp
        with_reducible rfl
       rotate_left
       ·simp only [Act.put, zA_, zB_, zC_, i64_w, i32_w]
        rfl
       refine done_ (done_of HT_.out (by kernel_rfl)) ?_
       try go_wp2
       go_meet
       case rel => exact ⟨_, (true), (by (rfl)), H', ⟨by have := HJ3.out; have := HK2.out; (omega)⟩, ⟨by exact HO_9.out⟩, ⟨by exact HO_10.out⟩, ⟨by exact HO_11.out⟩, ⟨by exact HO_12.out⟩, ⟨by exact HO_13.out⟩, ⟨by exact BK242.out⟩, ⟨by exact BK245.out⟩, ⟨by repeat (((with_reducible (exact HB.out))))⟩⟩
      rw [if_pos c21] at H
      have c21b0 : (((rdOf ByteArray.empty l1_0 x52_2).size : Int) == ((rdOf ByteArray.empty l1_0 0).size : Int)) = true := beq_iff_eq.mpr c21
      have c21b1 : (((rdOf ByteArray.empty l1_0 x52_2).size : Int) != ((rdOf ByteArray.empty l1_0 0).size : Int)) = false := bne_eq_false_iff_eq.mpr c21
      have c21b2 : ((rdOf ByteArray.empty l1_0 x52_2).size == (rdOf ByteArray.empty l1_0 0).size) = true := by (simp at c21 ⊢; omega)
      clear c21
      by_cases c22 : x52_2 < (l1_1.length : Int)
      rotate_left
      ·rw [if_neg c22] at H
       exact absurd H (by simp)
      rw [if_pos c22] at H
      have c22b0 : decide (x52_2 < (l1_1.length : Int)) = true := decide_eq_true c22
      clear c22
      by_cases c23 : ((rdOf ByteArray.empty l1_1 x52_2).size : Int) = ((rdOf ByteArray.empty l1_0 0).size : Int)
      rotate_left
      ·rw [if_neg c23] at H
       have c23b0 : (((rdOf ByteArray.empty l1_1 x52_2).size : Int) == ((rdOf ByteArray.empty l1_0 0).size : Int)) = false := beq_eq_false_iff_ne.mpr c23
       have c23b1 : (((rdOf ByteArray.empty l1_1 x52_2).size : Int) != ((rdOf ByteArray.empty l1_0 0).size : Int)) = true := bne_iff_ne.mpr c23
       have c23b2 : ((rdOf ByteArray.empty l1_1 x52_2).size == (rdOf ByteArray.empty l1_0 0).size) = false := by (simp at c23 ⊢; omega)
       have H' := Aside0.mk H
       clear H
       try go_wp2
       have n0_ : Aside0 (Kd.R (Kd.int .u8) 5 ((w16.setCell ⟨gb245, 0, none⟩ (.int .u8 ((rd_T48 l0 x52_2).f0))).setCell ⟨gb245, 1, none⟩ (.int .u8 ((rd_T48 l0 x52_2).f1))) w.heap.size (fun k_ => some k_ ≠ (u10 : Value).ownBlock ∧ some k_ ≠ (u11 : Value).ownBlock ∧ some k_ ≠ (u12 : Value).ownBlock) u9 x9_2) := ⟨by exact zd_ (ze_ (p := ⟨gb245, 1, none⟩) (ze_ (p := ⟨gb245, 0, none⟩) (zf_ HO_9.out BK245.out (by decide)) (fun _ hk => hk.2) (.int .u8 ((rd_T48 l0 x52_2).f0))) (fun _ hk => hk.2) (.int .u8 ((rd_T48 l0 x52_2).f1))) (fun _ hk => ⟨hk.1.1, ⟨hk.1.2.1, hk.1.2.2⟩⟩)⟩
       have n1_ : Aside0 (Kd.R (Kd.int .u8) 5 ((w16.setCell ⟨gb245, 0, none⟩ (.int .u8 ((rd_T48 l0 x52_2).f0))).setCell ⟨gb245, 1, none⟩ (.int .u8 ((rd_T48 l0 x52_2).f1))) w.heap.size (fun k_ => some k_ ≠ (u9 : Value).ownBlock ∧ some k_ ≠ (u11 : Value).ownBlock ∧ some k_ ≠ (u12 : Value).ownBlock) u10 x10_2) := ⟨by exact zd_ (ze_ (p := ⟨gb245, 1, none⟩) (ze_ (p := ⟨gb245, 0, none⟩) (zf_ HO_10.out BK245.out (by decide)) (fun _ hk => hk.2) (.int .u8 ((rd_T48 l0 x52_2).f0))) (fun _ hk => hk.2) (.int .u8 ((rd_T48 l0 x52_2).f1))) (fun _ hk => ⟨hk.1.1, ⟨hk.1.2.1, hk.1.2.2⟩⟩)⟩
       have n2_ : Aside0 (Kd.R (Kd.int .u8) 5 ((w16.setCell ⟨gb245, 0, none⟩ (.int .u8 ((rd_T48 l0 x52_2).f0))).setCell ⟨gb245, 1, none⟩ (.int .u8 ((rd_T48 l0 x52_2).f1))) w.heap.size (fun k_ => some k_ ≠ (u9 : Value).ownBlock ∧ some k_ ≠ (u10 : Value).ownBlock ∧ some k_ ≠ (u12 : Value).ownBlock) u11 x11_2) := ⟨by exact zd_ (ze_ (p := ⟨gb245, 1, none⟩) (ze_ (p := ⟨gb245, 0, none⟩) (zf_ HO_11.out BK245.out (by decide)) (fun _ hk => hk.2) (.int .u8 ((rd_T48 l0 x52_2).f0))) (fun _ hk => hk.2) (.int .u8 ((rd_T48 l0 x52_2).f1))) (fun _ hk => ⟨hk.1.1, ⟨hk.1.2.1, hk.1.2.2⟩⟩)⟩
       have n3_ : Aside0 (Kd.R (Kd.int .u8) 5 ((w16.setCell ⟨gb245, 0, none⟩ (.int .u8 ((rd_T48 l0 x52_2).f0))).setCell ⟨gb245, 1, none⟩ (.int .u8 ((rd_T48 l0 x52_2).f1))) w.heap.size (fun k_ => some k_ ≠ (u9 : Value).ownBlock ∧ some k_ ≠ (u10 : Value).ownBlock ∧ some k_ ≠ (u11 : Value).ownBlock) u12 x12_2) := ⟨by exact zd_ (ze_ (p := ⟨gb245, 1, none⟩) (ze_ (p := ⟨gb245, 0, none⟩) (zf_ HO_12.out BK245.out (by decide)) (fun _ hk => hk.2) (.int .u8 ((rd_T48 l0 x52_2).f0))) (fun _ hk => hk.2) (.int .u8 ((rd_T48 l0 x52_2).f1))) (fun _ hk => ⟨hk.1.1, ⟨hk.1.2.1, hk.1.2.2⟩⟩)⟩
       have n4_ : Aside0 (Kd.R Kd.string 9 ((w16.setCell ⟨gb245, 0, none⟩ (.int .u8 ((rd_T48 l0 x52_2).f0))).setCell ⟨gb245, 1, none⟩ (.int .u8 ((rd_T48 l0 x52_2).f1))) w.heap.size (fun _ => True) u13 x13_2) := ⟨by exact zd_ (ze_ (p := ⟨gb245, 1, none⟩) (ze_ (p := ⟨gb245, 0, none⟩) (zf_ HO_13.out BK245.out (by decide)) (fun _ hk => hk.2) (.int .u8 ((rd_T48 l0 x52_2).f0))) (fun _ hk => hk.2) (.int .u8 ((rd_T48 l0 x52_2).f1))) (fun _ hk => trivial)⟩
       have n5_ : Aside0 (((w16.setCell ⟨gb245, 0, none⟩ (.int .u8 ((rd_T48 l0 x52_2).f0))).setCell ⟨gb245, 1, none⟩ (.int .u8 ((rd_T48 l0 x52_2).f1))).heap[gb242]? = some (.cells #[.slice A1_0 l1_0.length c1_0, .slice A1_1 l1_1.length c1_1] 47 (0, 0))) := ⟨by refine zp_ ?_ NB242_245.out _; refine zp_ ?_ NB242_245.out _; exact BK242.out⟩
       have n6_ : Aside0 (((w16.setCell ⟨gb245, 0, none⟩ (.int .u8 ((rd_T48 l0 x52_2).f0))).setCell ⟨gb245, 1, none⟩ (.int .u8 ((rd_T48 l0 x52_2).f1))).heap[gb245]? = some (.cells #[.int .u8 ((rd_T48 l0 x52_2).f0), .int .u8 ((rd_T48 l0 x52_2).f1)] 48 (0, 0))) := ⟨by refine blk_put (cs := #[.int .u8 ((rd_T48 l0 x52_2).f0), .int .u8 0]) ?_ 1 _ rfl; refine blk_put (cs := #[.int .u8 0, .int .u8 0]) ?_ 0 _ rfl; exact BK245.out⟩
       have n7_ : Aside0 (Below w.heap.size w ((w16.setCell ⟨gb245, 0, none⟩ (.int .u8 ((rd_T48 l0 x52_2).f0))).setCell ⟨gb245, 1, none⟩ (.int .u8 ((rd_T48 l0 x52_2).f1)))) := ⟨by repeat (with_reducible first | exact HB.out | refine zr_ ?_ GE245.out)⟩
       (try clear HO_9)
       (try clear HO_10)
       (try clear HO_11)
       (try clear HO_12)
       (try clear HO_13)
       (try clear BK242)
       (try clear BK245)
       (try clear HB)
       generalize ((w16.setCell ⟨gb245, 0, none⟩ (.int .u8 ((rd_T48 l0 x52_2).f0))).setCell ⟨gb245, 1, none⟩ (.int .u8 ((rd_T48 l0 x52_2).f1))) = w26 at n0_ n1_ n2_ n3_ n4_ n5_ n6_ n7_ ⊢
       have HO_9 := n0_
       have HO_10 := n1_
       have HO_11 := n2_
       have HO_12 := n3_
       have HO_13 := n4_
       have BK242 := n5_
       have BK245 := n6_
       have HB := n7_
       clear n0_ n1_ n2_ n3_ n4_ n5_ n6_ n7_
       have n0_ := Aside0.mk (zc_ HO_9.out)
       have n1_ := Aside0.mk (zc_ HO_10.out)
       have n2_ := Aside0.mk (zc_ HO_11.out)
       have n3_ := Aside0.mk (zc_ HO_12.out)
       have n4_ := Aside0.mk (zc_ HO_13.out)
       have n5_ := Aside0.mk (zn_ BK242.out)
       have n6_ := Aside0.mk (zn_ BK245.out)
       have n7_ := Aside0.mk (zu_ HB.out)
       clear HO_9 HO_10 HO_11 HO_12 HO_13 BK242 BK245 HB
       revert n0_ n1_ n2_ n3_ n4_ n5_ n6_ n7_
       intro HO_9 HO_10 HO_11 HO_12 HO_13 BK242 BK245 HB
       have p246 : 0 ≤ (x52_2 : Int) := of_decide_eq_true (by (with_reducible assumption))
       have q246 : x52_2 < (l1_0.length : Int) := of_decide_eq_true (by (with_reducible assumption))
       obtain ⟨ad246, e246, hx246_0⟩ := Kd.at_string HR1_0.out x52_2 p246 q246
       have hw246_0 := hx246_0
       cases e246
       replace hx246_0 := (HB.out.cell (World.block_lt_of_cell? w _ hx246_0)).trans hx246_0
       replace p246 := eq_true p246
       replace q246 := eq_true q246
       have p247 : 0 ≤ (0 : Int) := (by omega)
       have q247 : 0 < (l1_0.length : Int) := of_decide_eq_true (by (with_reducible assumption))
       obtain ⟨ad247, e247, hx247_0⟩ := Kd.at_string HR1_0.out 0 p247 q247
       have hw247_0 := hx247_0
       (try rw [show (0 : Int).toNat = 0 from rfl] at hw247_0)
       (try rw [show 0 * 1 = 0 from rfl] at hw247_0)
       (try rw [Addr.add_zero'] at hw247_0)
       obtain rfl : ad246 = ad247 := (by injection e247)
       have qi247 : (0 < l1_0.length) = True := eq_true (by omega)
       (try rw [show (0 : Int).toNat = 0 from rfl] at hx247_0)
       (try rw [Addr.add_zero'] at hx247_0)
       replace hx247_0 := (HB.out.cell (World.block_lt_of_cell? w _ hx247_0)).trans hx247_0
       replace p247 := eq_true p247
       replace q247 := eq_true q247
       have p248 : 0 ≤ (x52_2 : Int) := of_decide_eq_true (by (with_reducible assumption))
       have q248 : x52_2 < (l1_1.length : Int) := of_decide_eq_true (by (with_reducible assumption))
       obtain ⟨ad248, e248, hx248_0⟩ := Kd.at_string HR1_1.out x52_2 p248 q248
       have hw248_0 := hx248_0
       cases e248
       replace hx248_0 := (HB.out.cell (World.block_lt_of_cell? w _ hx248_0)).trans hx248_0
       replace p248 := eq_true p248
       replace q248 := eq_true q248
       have p249 : 0 ≤ (0 : Int) := (by omega)
       have q249 : 0 < (l1_0.length : Int) := of_decide_eq_true (by (with_reducible assumption))
       obtain ⟨ad249, e249, hx249_0⟩ := Kd.at_string HR1_0.out 0 p249 q249
       have hw249_0 := hx249_0
       (try rw [show (0 : Int).toNat = 0 from rfl] at hw249_0)
       (try rw [show 0 * 1 = 0 from rfl] at hw249_0)
       (try rw [Addr.add_zero'] at hw249_0)
       obtain rfl : ad246 = ad249 := (by injection e249)
       have qi249 : (0 < l1_0.length) = True := eq_true (by omega)
       (try rw [show (0 : Int).toNat = 0 from rfl] at hx249_0)
       (try rw [Addr.add_zero'] at hx249_0)
       replace hx249_0 := (HB.out.cell (World.block_lt_of_cell? w _ hx249_0)).trans hx249_0
       replace p249 := eq_true p249
       replace q249 := eq_true q249
       refine start_ (n := 30) (S := fun w' => w'.cell? (ad246.add (x52_2).toNat) = some (.string (rdOf ByteArray.empty l1_0 x52_2)) ∧ w'.cell? ad246 = some (.string (rdOf ByteArray.empty l1_0 0)) ∧ w'.cell? (ad248.add (x52_2).toNat) = some (.string (rdOf ByteArray.empty l1_1 x52_2)) ∧ w'.cell? ad246 = some (.string (rdOf ByteArray.empty l1_0 0))) (ds := []) #[Z,Z,Z,Z,Z,Z,Z,Z,Z,Z,Z,Z,Z,Z,Z,Z,Z,Z,Z,Z,Z,Z,Z,Z,Z,Z,Z,Z,Z,Z] (by kernel_rfl) rfl rfl ⟨((HB.out.cell (World.block_lt_of_cell? w _ hw246_0)).trans hw246_0), ((HB.out.cell (World.block_lt_of_cell? w _ hw247_0)).trans hw247_0), ((HB.out.cell (World.block_lt_of_cell? w _ hw248_0)).trans hw248_0), ((HB.out.cell (World.block_lt_of_cell? w _ hw249_0)).trans hw249_0)⟩ (fun hHeld => ?_); refine with_tabW quietuslaw04_FieldCombinesLinearly.tab9 quietuslaw04_FieldCombinesLinearly.bits9 (fun HT_ HW_ => ?_)
       generalize w26.drew = w27 at HO_9 HO_10 HO_11 HO_12 HO_13 BK242 BK245 HB hx246_0 hx247_0 hx248_0 hx249_0 hHeld ⊢
       refine pure_ (i := 0) (N := some 57) (v := ?_) (a' := ?_) #[Y,Z,Z,Z,Z,Z,Z,Z,Z,Z,Z,Z,Z,Z,Z,Z,Z,Z,Z,Z,Z,Z,Z,Z,Z,Z,Z,Z,Z,Z] rfl rfl (any_of HT_.out (by kernel_rfl)) (fun _ _ _ h => h) (Or.inl ⟨by rfl, ?_⟩) ?_ ?_
       rotate_left
       ·intro w'
        go_simp
        with_reducible rfl
       rotate_left
       ·simp only [Act.put, zA_, zB_, zC_, i64_w, i32_w]
        rfl
       refine pure_ (i := 1) (N := some 58) (v := ?_) (a' := ?_) #[Y,Y,Z,Z,Z,Z,Z,Z,Z,Z,Z,Z,Z,Z,Z,Z,Z,Z,Z,Z,Z,Z,Z,Z,Z,Z,Z,Z,Z,Z] rfl rfl (any_of HT_.out (by kernel_rfl)) (fun _ _ _ h => h) (Or.inl ⟨by rfl, ?_⟩) ?_ ?_
       rotate_left
       ·intro w'
        go_simp
        with_reducible rfl
       rotate_left
       ·simp only [Act.put, zA_, zB_, zC_, i64_w, i32_w]
        rfl
       refine pure_ (i := 2) (N := some 59) (v := ?_) (a' := ?_) #[Y,Y,Y,Z,Z,Z,Z,Z,Z,Z,Z,Z,Z,Z,Z,Z,Z,Z,Z,Z,Z,Z,Z,Z,Z,Z,Z,Z,Z,Z] rfl rfl (any_of HT_.out (by kernel_rfl)) (fun _ _ _ h => h) (Or.inl ⟨by rfl, ?_⟩) ?_ ?_
       rotate_left
       ·intro w'
        go_simp
        with_reducible rfl
       rotate_left
       ·simp only [Act.put, zA_, zB_, zC_, i64_w, i32_w]
        rfl
       refine pure_ (i := 5) (N := some 62) (v := ?_) (a' := ?_) #[Y,Y,Y,Z,Z,Y,Z,Z,Z,Z,Z,Z,Z,Z,Z,Z,Z,Z,Z,Z,Z,Z,Z,Z,Z,Z,Z,Z,Z,Z] rfl rfl (any_of HT_.out (by kernel_rfl)) (fun _ _ _ h => h) (Or.inl ⟨by rfl, ?_⟩) ?_ ?_
       rotate_left
       ·intro w'
        go_simp
        with_reducible rfl
       rotate_left
       ·simp only [Act.put, zA_, zB_, zC_, i64_w, i32_w]
        rfl
       refine pure_ (i := 6) (N := some 63) (v := ?_) (a' := ?_) #[Y,Y,Y,Z,Z,Y,Y,Z,Z,Z,Z,Z,Z,Z,Z,Z,Z,Z,Z,Z,Z,Z,Z,Z,Z,Z,Z,Z,Z,Z] rfl rfl (any_of HT_.out (by kernel_rfl)) (fun _ _ _ h => h) (Or.inl ⟨by rfl, ?_⟩) ?_ ?_
       rotate_left
       ·intro w'
        go_simp
        with_reducible rfl
       rotate_left
       ·simp only [Act.put, zA_, zB_, zC_, i64_w, i32_w]
        rfl
       refine take_ (i := 3) (N := some 60) (v := ?_) (a' := ?_) #[Y,Y,Y,Y,Z,Y,Y,Z,Z,Z,Z,Z,Z,Z,Z,Z,Z,Z,Z,Z,Z,Z,Z,Z,Z,Z,Z,Z,Z,Z] rfl rfl (take_ofW HT_.out HW_.out (by kernel_rfl)) (fun _ _ _ h => h) (Or.inl ⟨by rfl, ?_⟩) hHeld ?_ ?_
       rotate_left
       ·rintro w' ⟨s0, s1, s2, s3⟩
        go_simp
        with_reducible rfl
       rotate_left
       ·simp only [Act.put, zA_, zB_, zC_, i64_w, i32_w]
        rfl
       refine pure_ (i := 4) (N := some 61) (v := ?_) (a' := ?_) #[Y,Y,Y,Y,Y,Y,Y,Z,Z,Z,Z,Z,Z,Z,Z,Z,Z,Z,Z,Z,Z,Z,Z,Z,Z,Z,Z,Z,Z,Z] rfl rfl (any_of HT_.out (by kernel_rfl)) (fun _ _ _ h => h) (Or.inl ⟨by rfl, ?_⟩) ?_ ?_
       rotate_left
       ·intro w'
        go_simp
        with_reducible rfl
       rotate_left
       ·simp only [Act.put, zA_, zB_, zC_, i64_w, i32_w]
        rfl
       refine take_ (i := 7) (N := some 64) (v := ?_) (a' := ?_) #[Y,Y,Y,Y,Y,Y,Y,Y,Z,Z,Z,Z,Z,Z,Z,Z,Z,Z,Z,Z,Z,Z,Z,Z,Z,Z,Z,Z,Z,Z] rfl rfl (take_ofW HT_.out HW_.out (by kernel_rfl)) (fun _ _ _ h => h) (Or.inl ⟨by rfl, ?_⟩) hHeld ?_ ?_
       rotate_left
       ·rintro w' ⟨s0, s1, s2, s3⟩
        go_simp
        with_reducible rfl
       rotate_left
       ·simp only [Act.put, zA_, zB_, zC_, i64_w, i32_w]
        rfl
       refine pure_ (i := 8) (N := some 65) (v := ?_) (a' := ?_) #[Y,Y,Y,Y,Y,Y,Y,Y,Y,Z,Z,Z,Z,Z,Z,Z,Z,Z,Z,Z,Z,Z,Z,Z,Z,Z,Z,Z,Z,Z] rfl rfl (any_of HT_.out (by kernel_rfl)) (fun _ _ _ h => h) (Or.inl ⟨by rfl, ?_⟩) ?_ ?_
       rotate_left
       ·intro w'
        go_simp
        with_reducible rfl
       rotate_left
       ·simp only [Act.put, zA_, zB_, zC_, i64_w, i32_w]
        rfl
       refine pure_ (i := 9) (N := some 66) (v := ?_) (a' := ?_) #[Y,Y,Y,Y,Y,Y,Y,Y,Y,Y,Z,Z,Z,Z,Z,Z,Z,Z,Z,Z,Z,Z,Z,Z,Z,Z,Z,Z,Z,Z] rfl rfl (any_of HT_.out (by kernel_rfl)) (fun _ _ _ h => h) (Or.inl ⟨by rfl, ?_⟩) ?_ ?_
       rotate_left
       ·intro w'
        go_simp
        with_reducible rfl
       rotate_left
       ·simp only [Act.put, zA_, zB_, zC_, i64_w, i32_w]
        rfl
       refine pure_ (i := 10) (N := some 67) (v := ?_) (a' := ?_) #[Y,Y,Y,Y,Y,Y,Y,Y,Y,Y,Y,Z,Z,Z,Z,Z,Z,Z,Z,Z,Z,Z,Z,Z,Z,Z,Z,Z,Z,Z] rfl rfl (any_of HT_.out (by kernel_rfl)) (fun _ _ _ h => h) (Or.inl ⟨by rfl, ?_⟩) ?_ ?_
       rotate_left
       ·intro w'
        go_simp
        with_reducible rfl
       rotate_left
       ·simp only [Act.put, zA_, zB_, zC_, i64_w, i32_w]
        rfl
       refine pure_ (i := 11) (N := some 68) (v := ?_) (a' := ?_) #[Y,Y,Y,Y,Y,Y,Y,Y,Y,Y,Y,Y,Z,Z,Z,Z,Z,Z,Z,Z,Z,Z,Z,Z,Z,Z,Z,Z,Z,Z] rfl rfl (any_of HT_.out (by kernel_rfl)) (fun _ _ _ h => h) (Or.inl ⟨by rfl, ?_⟩) ?_ ?_
       rotate_left
       ·intro w'
        go_simp
        with_reducible rfl
       rotate_left
       ·simp only [Act.put, zA_, zB_, zC_, i64_w, i32_w]
        rfl
       refine pure_ (i := 12) (N := some 69) (v := ?_) (a' := ?_) #[Y,Y,Y,Y,Y,Y,Y,Y,Y,Y,Y,Y,Y,Z,Z,Z,Z,Z,Z,Z,Z,Z,Z,Z,Z,Z,Z,Z,Z,Z] rfl rfl (any_of HT_.out (by kernel_rfl)) (fun _ _ _ h => h) (Or.inl ⟨by rfl, ?_⟩) ?_ ?_
       rotate_left
       ·intro w'
        go_simp
        with_reducible rfl
       rotate_left
       ·simp only [Act.put, zA_, zB_, zC_, i64_w, i32_w]
        rfl
       refine pure_ (i := 13) (N := some 70) (v := ?_) (a' := ?_) #[Y,Y,Y,Y,Y,Y,Y,Y,Y,Y,Y,Y,Y,Y,Z,Z,Z,Z,Z,Z,Z,Z,Z,Z,Z,Z,Z,Z,Z,Z] rfl rfl (any_of HT_.out (by kernel_rfl)) (fun _ _ _ h => h) (Or.inl ⟨by rfl, ?_⟩) ?_ ?_
       rotate_left
       ·intro w'
        go_simp
        with_reducible rfl
       rotate_left
       ·simp only [Act.put, zA_, zB_, zC_, i64_w, i32_w]
        rfl
       refine pure_ (i := 16) (N := some 73) (v := ?_) (a' := ?_) #[Y,Y,Y,Y,Y,Y,Y,Y,Y,Y,Y,Y,Y,Y,Z,Z,Y,Z,Z,Z,Z,Z,Z,Z,Z,Z,Z,Z,Z,Z] rfl rfl (any_of HT_.out (by kernel_rfl)) (fun _ _ _ h => h) (Or.inl ⟨by rfl, ?_⟩) ?_ ?_
       rotate_left
       ·intro w'
        go_simp
        with_reducible rfl
       rotate_left
       ·simp only [Act.put, zA_, zB_, zC_, i64_w, i32_w]
        rfl
       refine pure_ (i := 17) (N := some 74) (v := ?_) (a' := ?_) #[Y,Y,Y,Y,Y,Y,Y,Y,Y,Y,Y,Y,Y,Y,Z,Z,Y,Y,Z,Z,Z,Z,Z,Z,Z,Z,Z,Z,Z,Z] rfl rfl (any_of HT_.out (by kernel_rfl)) (fun _ _ _ h => h) (Or.inl ⟨by rfl, ?_⟩) ?_ ?_
       rotate_left
       ·intro w'
        go_simp
        with_reducible rfl
       rotate_left
       ·simp only [Act.put, zA_, zB_, zC_, i64_w, i32_w]
        rfl
       refine take_ (i := 14) (N := some 71) (v := ?_) (a' := ?_) #[Y,Y,Y,Y,Y,Y,Y,Y,Y,Y,Y,Y,Y,Y,Y,Z,Y,Y,Z,Z,Z,Z,Z,Z,Z,Z,Z,Z,Z,Z] rfl rfl (take_ofW HT_.out HW_.out (by kernel_rfl)) (fun _ _ _ h => h) (Or.inl ⟨by rfl, ?_⟩) hHeld ?_ ?_
       rotate_left
       ·rintro w' ⟨s0, s1, s2, s3⟩
        go_simp
        with_reducible rfl
       rotate_left
       ·simp only [Act.put, zA_, zB_, zC_, i64_w, i32_w]
        rfl
       refine pure_ (i := 15) (N := some 72) (v := ?_) (a' := ?_) #[Y,Y,Y,Y,Y,Y,Y,Y,Y,Y,Y,Y,Y,Y,Y,Y,Y,Y,Z,Z,Z,Z,Z,Z,Z,Z,Z,Z,Z,Z] rfl rfl (any_of HT_.out (by kernel_rfl)) (fun _ _ _ h => h) (Or.inl ⟨by rfl, ?_⟩) ?_ ?_
       rotate_left
       ·intro w'
        go_simp
        with_reducible rfl
       rotate_left
       ·simp only [Act.put, zA_, zB_, zC_, i64_w, i32_w]
        rfl
       refine take_ (i := 18) (N := some 75) (v := ?_) (a' := ?_) #[Y,Y,Y,Y,Y,Y,Y,Y,Y,Y,Y,Y,Y,Y,Y,Y,Y,Y,Y,Z,Z,Z,Z,Z,Z,Z,Z,Z,Z,Z] rfl rfl (take_ofW HT_.out HW_.out (by kernel_rfl)) (fun _ _ _ h => h) (Or.inl ⟨by rfl, ?_⟩) hHeld ?_ ?_
       rotate_left
       ·rintro w' ⟨s0, s1, s2, s3⟩
        go_simp
        with_reducible rfl
       rotate_left
       ·simp only [Act.put, zA_, zB_, zC_, i64_w, i32_w]
        rfl
       refine pure_ (i := 19) (N := some 76) (v := ?_) (a' := ?_) #[Y,Y,Y,Y,Y,Y,Y,Y,Y,Y,Y,Y,Y,Y,Y,Y,Y,Y,Y,Y,Z,Z,Z,Z,Z,Z,Z,Z,Z,Z] rfl rfl (any_of HT_.out (by kernel_rfl)) (fun _ _ _ h => h) (Or.inl ⟨by rfl, ?_⟩) ?_ ?_
       rotate_left
       ·intro w'
        go_simp
        with_reducible rfl
       rotate_left
       ·simp only [Act.put, zA_, zB_, zC_, i64_w, i32_w]
        rfl
       refine pure_ (i := 20) (N := some 77) (v := ?_) (a' := ?_) #[Y,Y,Y,Y,Y,Y,Y,Y,Y,Y,Y,Y,Y,Y,Y,Y,Y,Y,Y,Y,Y,Z,Z,Z,Z,Z,Z,Z,Z,Z] rfl rfl (any_of HT_.out (by kernel_rfl)) (fun _ _ _ h => h) (Or.inl ⟨by rfl, ?_⟩) ?_ ?_
       rotate_left
       ·intro w'
        go_simp
        with_reducible rfl
       rotate_left
       ·simp only [Act.put, zA_, zB_, zC_, i64_w, i32_w]
        rfl
       refine pure_ (i := 21) (N := some 78) (v := ?_) (a' := ?_) #[Y,Y,Y,Y,Y,Y,Y,Y,Y,Y,Y,Y,Y,Y,Y,Y,Y,Y,Y,Y,Y,Y,Z,Z,Z,Z,Z,Z,Z,Z] rfl rfl (any_of HT_.out (by kernel_rfl)) (fun _ _ _ h => h) (Or.inl ⟨by rfl, ?_⟩) ?_ ?_
       rotate_left
       ·intro w'
        go_simp
        with_reducible rfl
       rotate_left
       ·simp only [Act.put, zA_, zB_, zC_, i64_w, i32_w]
        rfl
       refine pure_ (i := 22) (N := some 79) (v := ?_) (a' := ?_) #[Y,Y,Y,Y,Y,Y,Y,Y,Y,Y,Y,Y,Y,Y,Y,Y,Y,Y,Y,Y,Y,Y,Y,Z,Z,Z,Z,Z,Z,Z] rfl rfl (any_of HT_.out (by kernel_rfl)) (fun _ _ _ h => h) (Or.inl ⟨by rfl, ?_⟩) ?_ ?_
       rotate_left
       ·intro w'
        go_simp
        with_reducible rfl
       rotate_left
       ·simp only [Act.put, zA_, zB_, zC_, i64_w, i32_w]
        rfl
       refine pure_ (i := 23) (N := some 80) (v := undef) (a' := ?_) #[Y,Y,Y,Y,Y,Y,Y,Y,Y,Y,Y,Y,Y,Y,Y,Y,Y,Y,Y,Y,Y,Y,Y,Y,Z,Z,Z,Z,Z,Z] rfl rfl (any_of HT_.out (by kernel_rfl)) (fun _ _ _ h => h) (Or.inr ⟨by rfl, rfl⟩) ?_ ?_
       rotate_left
       ·simp only [Act.put, zA_, zB_, zC_, i64_w, i32_w]
        rfl
       refine pure_ (i := 24) (N := some 81) (v := undef) (a' := ?_) #[Y,Y,Y,Y,Y,Y,Y,Y,Y,Y,Y,Y,Y,Y,Y,Y,Y,Y,Y,Y,Y,Y,Y,Y,Y,Z,Z,Z,Z,Z] rfl rfl (any_of HT_.out (by kernel_rfl)) (fun _ _ _ h => h) (Or.inr ⟨by rfl, rfl⟩) ?_ ?_
       rotate_left
       ·simp only [Act.put, zA_, zB_, zC_, i64_w, i32_w]
        rfl
       refine pure_ (i := 25) (N := some 82) (v := undef) (a' := ?_) #[Y,Y,Y,Y,Y,Y,Y,Y,Y,Y,Y,Y,Y,Y,Y,Y,Y,Y,Y,Y,Y,Y,Y,Y,Y,Y,Z,Z,Z,Z] rfl rfl (any_of HT_.out (by kernel_rfl)) (fun _ _ _ h => h) (Or.inr ⟨by rfl, rfl⟩) ?_ ?_
       rotate_left
       ·simp only [Act.put, zA_, zB_, zC_, i64_w, i32_w]
        rfl
       refine pure_ (i := 26) (N := some 83) (v := undef) (a' := ?_) #[Y,Y,Y,Y,Y,Y,Y,Y,Y,Y,Y,Y,Y,Y,Y,Y,Y,Y,Y,Y,Y,Y,Y,Y,Y,Y,Y,Z,Z,Z] rfl rfl (any_of HT_.out (by kernel_rfl)) (fun _ _ _ h => h) (Or.inr ⟨by rfl, rfl⟩) ?_ ?_
       rotate_left
       ·simp only [Act.put, zA_, zB_, zC_, i64_w, i32_w]
        rfl
       refine pure_ (i := 27) (N := some 84) (v := undef) (a' := ?_) #[Y,Y,Y,Y,Y,Y,Y,Y,Y,Y,Y,Y,Y,Y,Y,Y,Y,Y,Y,Y,Y,Y,Y,Y,Y,Y,Y,Y,Z,Z] rfl rfl (any_of HT_.out (by kernel_rfl)) (fun _ _ _ h => h) (Or.inr ⟨by rfl, rfl⟩) ?_ ?_
       rotate_left
       ·simp only [Act.put, zA_, zB_, zC_, i64_w, i32_w]
        rfl
       refine pure_ (i := 28) (N := some 85) (v := undef) (a' := ?_) #[Y,Y,Y,Y,Y,Y,Y,Y,Y,Y,Y,Y,Y,Y,Y,Y,Y,Y,Y,Y,Y,Y,Y,Y,Y,Y,Y,Y,Y,Z] rfl rfl (any_of HT_.out (by kernel_rfl)) (fun _ _ _ h => h) (Or.inr ⟨by rfl, rfl⟩) ?_ ?_
       rotate_left
       ·simp only [Act.put, zA_, zB_, zC_, i64_w, i32_w]
        rfl
       refine pure_ (i := 29) (N := some 86) (v := ?_) (a' := ?_) #[Y,Y,Y,Y,Y,Y,Y,Y,Y,Y,Y,Y,Y,Y,Y,Y,Y,Y,Y,Y,Y,Y,Y,Y,Y,Y,Y,Y,Y,Y] rfl rfl (any_of HT_.out (by kernel_rfl)) (fun _ _ _ h => h) (Or.inl ⟨by rfl, ?_⟩) ?_ ?_
       rotate_left
       ·intro w'
        go_simp
        with_reducible rfl
       rotate_left
       ·simp only [Act.put, zA_, zB_, zC_, i64_w, i32_w]
        rfl
       refine done_ (done_of HT_.out (by kernel_rfl)) ?_
       try go_wp2
       go_meet
       case rel => exact ⟨_, (true), (by (rfl)), H', ⟨by have := HJ3.out; have := HK2.out; (omega)⟩, ⟨by exact HO_9.out⟩, ⟨by exact HO_10.out⟩, ⟨by exact HO_11.out⟩, ⟨by exact HO_12.out⟩, ⟨by exact HO_13.out⟩, ⟨by exact BK242.out⟩, ⟨by exact BK245.out⟩, ⟨by repeat (((with_reducible (exact HB.out))))⟩⟩
      rw [if_pos c23] at H
      have c23b0 : (((rdOf ByteArray.empty l1_1 x52_2).size : Int) == ((rdOf ByteArray.empty l1_0 0).size : Int)) = true := beq_iff_eq.mpr c23
      have c23b1 : (((rdOf ByteArray.empty l1_1 x52_2).size : Int) != ((rdOf ByteArray.empty l1_0 0).size : Int)) = false := bne_eq_false_iff_eq.mpr c23
      have c23b2 : ((rdOf ByteArray.empty l1_1 x52_2).size == (rdOf ByteArray.empty l1_0 0).size) = true := by (simp at c23 ⊢; omega)
      clear c23
      have H' := Aside0.mk H
      clear H
      try go_wp2
      have n0_ : Aside0 (Kd.R (Kd.int .u8) 5 ((w16.setCell ⟨gb245, 0, none⟩ (.int .u8 ((rd_T48 l0 x52_2).f0))).setCell ⟨gb245, 1, none⟩ (.int .u8 ((rd_T48 l0 x52_2).f1))) w.heap.size (fun k_ => some k_ ≠ (u10 : Value).ownBlock ∧ some k_ ≠ (u11 : Value).ownBlock ∧ some k_ ≠ (u12 : Value).ownBlock) u9 x9_2) := ⟨by exact zd_ (ze_ (p := ⟨gb245, 1, none⟩) (ze_ (p := ⟨gb245, 0, none⟩) (zf_ HO_9.out BK245.out (by decide)) (fun _ hk => hk.2) (.int .u8 ((rd_T48 l0 x52_2).f0))) (fun _ hk => hk.2) (.int .u8 ((rd_T48 l0 x52_2).f1))) (fun _ hk => ⟨hk.1.1, ⟨hk.1.2.1, hk.1.2.2⟩⟩)⟩
      have n1_ : Aside0 (Kd.R (Kd.int .u8) 5 ((w16.setCell ⟨gb245, 0, none⟩ (.int .u8 ((rd_T48 l0 x52_2).f0))).setCell ⟨gb245, 1, none⟩ (.int .u8 ((rd_T48 l0 x52_2).f1))) w.heap.size (fun k_ => some k_ ≠ (u9 : Value).ownBlock ∧ some k_ ≠ (u11 : Value).ownBlock ∧ some k_ ≠ (u12 : Value).ownBlock) u10 x10_2) := ⟨by exact zd_ (ze_ (p := ⟨gb245, 1, none⟩) (ze_ (p := ⟨gb245, 0, none⟩) (zf_ HO_10.out BK245.out (by decide)) (fun _ hk => hk.2) (.int .u8 ((rd_T48 l0 x52_2).f0))) (fun _ hk => hk.2) (.int .u8 ((rd_T48 l0 x52_2).f1))) (fun _ hk => ⟨hk.1.1, ⟨hk.1.2.1, hk.1.2.2⟩⟩)⟩
      have n2_ : Aside0 (Kd.R (Kd.int .u8) 5 ((w16.setCell ⟨gb245, 0, none⟩ (.int .u8 ((rd_T48 l0 x52_2).f0))).setCell ⟨gb245, 1, none⟩ (.int .u8 ((rd_T48 l0 x52_2).f1))) w.heap.size (fun k_ => some k_ ≠ (u9 : Value).ownBlock ∧ some k_ ≠ (u10 : Value).ownBlock ∧ some k_ ≠ (u12 : Value).ownBlock) u11 x11_2) := ⟨by exact zd_ (ze_ (p := ⟨gb245, 1, none⟩) (ze_ (p := ⟨gb245, 0, none⟩) (zf_ HO_11.out BK245.out (by decide)) (fun _ hk => hk.2) (.int .u8 ((rd_T48 l0 x52_2).f0))) (fun _ hk => hk.2) (.int .u8 ((rd_T48 l0 x52_2).f1))) (fun _ hk => ⟨hk.1.1, ⟨hk.1.2.1, hk.1.2.2⟩⟩)⟩
      have n3_ : Aside0 (Kd.R (Kd.int .u8) 5 ((w16.setCell ⟨gb245, 0, none⟩ (.int .u8 ((rd_T48 l0 x52_2).f0))).setCell ⟨gb245, 1, none⟩ (.int .u8 ((rd_T48 l0 x52_2).f1))) w.heap.size (fun k_ => some k_ ≠ (u9 : Value).ownBlock ∧ some k_ ≠ (u10 : Value).ownBlock ∧ some k_ ≠ (u11 : Value).ownBlock) u12 x12_2) := ⟨by exact zd_ (ze_ (p := ⟨gb245, 1, none⟩) (ze_ (p := ⟨gb245, 0, none⟩) (zf_ HO_12.out BK245.out (by decide)) (fun _ hk => hk.2) (.int .u8 ((rd_T48 l0 x52_2).f0))) (fun _ hk => hk.2) (.int .u8 ((rd_T48 l0 x52_2).f1))) (fun _ hk => ⟨hk.1.1, ⟨hk.1.2.1, hk.1.2.2⟩⟩)⟩
      have n4_ : Aside0 (Kd.R Kd.string 9 ((w16.setCell ⟨gb245, 0, none⟩ (.int .u8 ((rd_T48 l0 x52_2).f0))).setCell ⟨gb245, 1, none⟩ (.int .u8 ((rd_T48 l0 x52_2).f1))) w.heap.size (fun _ => True) u13 x13_2) := ⟨by exact zd_ (ze_ (p := ⟨gb245, 1, none⟩) (ze_ (p := ⟨gb245, 0, none⟩) (zf_ HO_13.out BK245.out (by decide)) (fun _ hk => hk.2) (.int .u8 ((rd_T48 l0 x52_2).f0))) (fun _ hk => hk.2) (.int .u8 ((rd_T48 l0 x52_2).f1))) (fun _ hk => trivial)⟩
      have n5_ : Aside0 (((w16.setCell ⟨gb245, 0, none⟩ (.int .u8 ((rd_T48 l0 x52_2).f0))).setCell ⟨gb245, 1, none⟩ (.int .u8 ((rd_T48 l0 x52_2).f1))).heap[gb242]? = some (.cells #[.slice A1_0 l1_0.length c1_0, .slice A1_1 l1_1.length c1_1] 47 (0, 0))) := ⟨by refine zp_ ?_ NB242_245.out _; refine zp_ ?_ NB242_245.out _; exact BK242.out⟩
      have n6_ : Aside0 (((w16.setCell ⟨gb245, 0, none⟩ (.int .u8 ((rd_T48 l0 x52_2).f0))).setCell ⟨gb245, 1, none⟩ (.int .u8 ((rd_T48 l0 x52_2).f1))).heap[gb245]? = some (.cells #[.int .u8 ((rd_T48 l0 x52_2).f0), .int .u8 ((rd_T48 l0 x52_2).f1)] 48 (0, 0))) := ⟨by refine blk_put (cs := #[.int .u8 ((rd_T48 l0 x52_2).f0), .int .u8 0]) ?_ 1 _ rfl; refine blk_put (cs := #[.int .u8 0, .int .u8 0]) ?_ 0 _ rfl; exact BK245.out⟩
      have n7_ : Aside0 (Below w.heap.size w ((w16.setCell ⟨gb245, 0, none⟩ (.int .u8 ((rd_T48 l0 x52_2).f0))).setCell ⟨gb245, 1, none⟩ (.int .u8 ((rd_T48 l0 x52_2).f1)))) := ⟨by repeat (with_reducible first | exact HB.out | refine zr_ ?_ GE245.out)⟩
      (try clear HO_9)
      (try clear HO_10)
      (try clear HO_11)
      (try clear HO_12)
      (try clear HO_13)
      (try clear BK242)
      (try clear BK245)
      (try clear HB)
      generalize ((w16.setCell ⟨gb245, 0, none⟩ (.int .u8 ((rd_T48 l0 x52_2).f0))).setCell ⟨gb245, 1, none⟩ (.int .u8 ((rd_T48 l0 x52_2).f1))) = w24 at n0_ n1_ n2_ n3_ n4_ n5_ n6_ n7_ ⊢
      have HO_9 := n0_
      have HO_10 := n1_
      have HO_11 := n2_
      have HO_12 := n3_
      have HO_13 := n4_
      have BK242 := n5_
      have BK245 := n6_
      have HB := n7_
      clear n0_ n1_ n2_ n3_ n4_ n5_ n6_ n7_
      have n0_ := Aside0.mk (zc_ HO_9.out)
      have n1_ := Aside0.mk (zc_ HO_10.out)
      have n2_ := Aside0.mk (zc_ HO_11.out)
      have n3_ := Aside0.mk (zc_ HO_12.out)
      have n4_ := Aside0.mk (zc_ HO_13.out)
      have n5_ := Aside0.mk (zn_ BK242.out)
      have n6_ := Aside0.mk (zn_ BK245.out)
      have n7_ := Aside0.mk (zu_ HB.out)
      clear HO_9 HO_10 HO_11 HO_12 HO_13 BK242 BK245 HB
      revert n0_ n1_ n2_ n3_ n4_ n5_ n6_ n7_
      intro HO_9 HO_10 HO_11 HO_12 HO_13 BK242 BK245 HB
      have p246 : 0 ≤ (x52_2 : Int) := of_decide_eq_true (by (with_reducible assumption))
      have q246 : x52_2 < (l1_0.length : Int) := of_decide_eq_true (by (with_reducible assumption))
      obtain ⟨ad246, e246, hx246_0⟩ := Kd.at_string HR1_0.out x52_2 p246 q246
      have hw246_0 := hx246_0
      cases e246
      replace hx246_0 := (HB.out.cell (World.block_lt_of_cell? w _ hx246_0)).trans hx246_0
      replace p246 := eq_true p246
      replace q246 := eq_true q246
      have p247 : 0 ≤ (0 : Int) := (by omega)
      have q247 : 0 < (l1_0.length : Int) := of_decide_eq_true (by (with_reducible assumption))
      obtain ⟨ad247, e247, hx247_0⟩ := Kd.at_string HR1_0.out 0 p247 q247
      have hw247_0 := hx247_0
      (try rw [show (0 : Int).toNat = 0 from rfl] at hw247_0)
      (try rw [show 0 * 1 = 0 from rfl] at hw247_0)
      (try rw [Addr.add_zero'] at hw247_0)
      obtain rfl : ad246 = ad247 := (by injection e247)
      have qi247 : (0 < l1_0.length) = True := eq_true (by omega)
      (try rw [show (0 : Int).toNat = 0 from rfl] at hx247_0)
      (try rw [Addr.add_zero'] at hx247_0)
      replace hx247_0 := (HB.out.cell (World.block_lt_of_cell? w _ hx247_0)).trans hx247_0
      replace p247 := eq_true p247
      replace q247 := eq_true q247
      have p248 : 0 ≤ (x52_2 : Int) := of_decide_eq_true (by (with_reducible assumption))
      have q248 : x52_2 < (l1_1.length : Int) := of_decide_eq_true (by (with_reducible assumption))
      obtain ⟨ad248, e248, hx248_0⟩ := Kd.at_string HR1_1.out x52_2 p248 q248
      have hw248_0 := hx248_0
      cases e248
      replace hx248_0 := (HB.out.cell (World.block_lt_of_cell? w _ hx248_0)).trans hx248_0
      replace p248 := eq_true p248
      replace q248 := eq_true q248
      have p249 : 0 ≤ (0 : Int) := (by omega)
      have q249 : 0 < (l1_0.length : Int) := of_decide_eq_true (by (with_reducible assumption))
      obtain ⟨ad249, e249, hx249_0⟩ := Kd.at_string HR1_0.out 0 p249 q249
      have hw249_0 := hx249_0
      (try rw [show (0 : Int).toNat = 0 from rfl] at hw249_0)
      (try rw [show 0 * 1 = 0 from rfl] at hw249_0)
      (try rw [Addr.add_zero'] at hw249_0)
      obtain rfl : ad246 = ad249 := (by injection e249)
      have qi249 : (0 < l1_0.length) = True := eq_true (by omega)
      (try rw [show (0 : Int).toNat = 0 from rfl] at hx249_0)
      (try rw [Addr.add_zero'] at hx249_0)
      replace hx249_0 := (HB.out.cell (World.block_lt_of_cell? w _ hx249_0)).trans hx249_0
      replace p249 := eq_true p249
      replace q249 := eq_true q249
      have p250 : 0 ≤ (x52_2 : Int) := of_decide_eq_true (by (with_reducible assumption))
      have q250 : x52_2 < (l1_0.length : Int) := of_decide_eq_true (by (with_reducible assumption))
      obtain ⟨ad250, e250, hx250_0⟩ := Kd.at_string HR1_0.out x52_2 p250 q250
      have hw250_0 := hx250_0
      obtain rfl : ad246 = ad250 := (by injection e250)
      replace hx250_0 := (HB.out.cell (World.block_lt_of_cell? w _ hx250_0)).trans hx250_0
      replace p250 := eq_true p250
      replace q250 := eq_true q250
      refine start_ (n := 30) (S := fun w' => w'.cell? (ad246.add (x52_2).toNat) = some (.string (rdOf ByteArray.empty l1_0 x52_2)) ∧ w'.cell? ad246 = some (.string (rdOf ByteArray.empty l1_0 0)) ∧ w'.cell? (ad248.add (x52_2).toNat) = some (.string (rdOf ByteArray.empty l1_1 x52_2)) ∧ w'.cell? ad246 = some (.string (rdOf ByteArray.empty l1_0 0)) ∧ w'.cell? (ad246.add (x52_2).toNat) = some (.string (rdOf ByteArray.empty l1_0 x52_2))) (ds := []) #[Z,Z,Z,Z,Z,Z,Z,Z,Z,Z,Z,Z,Z,Z,Z,Z,Z,Z,Z,Z,Z,Z,Z,Z,Z,Z,Z,Z,Z,Z] (by kernel_rfl) rfl rfl ⟨((HB.out.cell (World.block_lt_of_cell? w _ hw246_0)).trans hw246_0), ((HB.out.cell (World.block_lt_of_cell? w _ hw247_0)).trans hw247_0), ((HB.out.cell (World.block_lt_of_cell? w _ hw248_0)).trans hw248_0), ((HB.out.cell (World.block_lt_of_cell? w _ hw249_0)).trans hw249_0), ((HB.out.cell (World.block_lt_of_cell? w _ hw250_0)).trans hw250_0)⟩ (fun hHeld => ?_); refine with_tabW quietuslaw04_FieldCombinesLinearly.tab9 quietuslaw04_FieldCombinesLinearly.bits9 (fun HT_ HW_ => ?_)
      generalize w24.drew = w25 at HO_9 HO_10 HO_11 HO_12 HO_13 BK242 BK245 HB hx246_0 hx247_0 hx248_0 hx249_0 hx250_0 hHeld ⊢
      refine pure_ (i := 0) (N := some 57) (v := ?_) (a' := ?_) #[Y,Z,Z,Z,Z,Z,Z,Z,Z,Z,Z,Z,Z,Z,Z,Z,Z,Z,Z,Z,Z,Z,Z,Z,Z,Z,Z,Z,Z,Z] rfl rfl (any_of HT_.out (by kernel_rfl)) (fun _ _ _ h => h) (Or.inl ⟨by rfl, ?_⟩) ?_ ?_
      rotate_left
      ·intro w'
       go_simp
       with_reducible rfl
      rotate_left
      ·simp only [Act.put, zA_, zB_, zC_, i64_w, i32_w]
       rfl
      refine pure_ (i := 1) (N := some 58) (v := ?_) (a' := ?_) #[Y,Y,Z,Z,Z,Z,Z,Z,Z,Z,Z,Z,Z,Z,Z,Z,Z,Z,Z,Z,Z,Z,Z,Z,Z,Z,Z,Z,Z,Z] rfl rfl (any_of HT_.out (by kernel_rfl)) (fun _ _ _ h => h) (Or.inl ⟨by rfl, ?_⟩) ?_ ?_
      rotate_left
      ·intro w'
       go_simp
       with_reducible rfl
      rotate_left
      ·simp only [Act.put, zA_, zB_, zC_, i64_w, i32_w]
       rfl
      refine pure_ (i := 2) (N := some 59) (v := ?_) (a' := ?_) #[Y,Y,Y,Z,Z,Z,Z,Z,Z,Z,Z,Z,Z,Z,Z,Z,Z,Z,Z,Z,Z,Z,Z,Z,Z,Z,Z,Z,Z,Z] rfl rfl (any_of HT_.out (by kernel_rfl)) (fun _ _ _ h => h) (Or.inl ⟨by rfl, ?_⟩) ?_ ?_
      rotate_left
      ·intro w'
       go_simp
       with_reducible rfl
      rotate_left
      ·simp only [Act.put, zA_, zB_, zC_, i64_w, i32_w]
       rfl
      refine pure_ (i := 5) (N := some 62) (v := ?_) (a' := ?_) #[Y,Y,Y,Z,Z,Y,Z,Z,Z,Z,Z,Z,Z,Z,Z,Z,Z,Z,Z,Z,Z,Z,Z,Z,Z,Z,Z,Z,Z,Z] rfl rfl (any_of HT_.out (by kernel_rfl)) (fun _ _ _ h => h) (Or.inl ⟨by rfl, ?_⟩) ?_ ?_
      rotate_left
      ·intro w'
       go_simp
       with_reducible rfl
      rotate_left
      ·simp only [Act.put, zA_, zB_, zC_, i64_w, i32_w]
       rfl
      refine pure_ (i := 6) (N := some 63) (v := ?_) (a' := ?_) #[Y,Y,Y,Z,Z,Y,Y,Z,Z,Z,Z,Z,Z,Z,Z,Z,Z,Z,Z,Z,Z,Z,Z,Z,Z,Z,Z,Z,Z,Z] rfl rfl (any_of HT_.out (by kernel_rfl)) (fun _ _ _ h => h) (Or.inl ⟨by rfl, ?_⟩) ?_ ?_
      rotate_left
      ·intro w'
       go_simp
       with_reducible rfl
      rotate_left
      ·simp only [Act.put, zA_, zB_, zC_, i64_w, i32_w]
       rfl
      refine take_ (i := 3) (N := some 60) (v := ?_) (a' := ?_) #[Y,Y,Y,Y,Z,Y,Y,Z,Z,Z,Z,Z,Z,Z,Z,Z,Z,Z,Z,Z,Z,Z,Z,Z,Z,Z,Z,Z,Z,Z] rfl rfl (take_ofW HT_.out HW_.out (by kernel_rfl)) (fun _ _ _ h => h) (Or.inl ⟨by rfl, ?_⟩) hHeld ?_ ?_
      rotate_left
      ·rintro w' ⟨s0, s1, s2, s3, s4⟩
       go_simp
       with_reducible rfl
      rotate_left
      ·simp only [Act.put, zA_, zB_, zC_, i64_w, i32_w]
       rfl
      refine pure_ (i := 4) (N := some 61) (v := ?_) (a' := ?_) #[Y,Y,Y,Y,Y,Y,Y,Z,Z,Z,Z,Z,Z,Z,Z,Z,Z,Z,Z,Z,Z,Z,Z,Z,Z,Z,Z,Z,Z,Z] rfl rfl (any_of HT_.out (by kernel_rfl)) (fun _ _ _ h => h) (Or.inl ⟨by rfl, ?_⟩) ?_ ?_
      rotate_left
      ·intro w'
       go_simp
       with_reducible rfl
      rotate_left
      ·simp only [Act.put, zA_, zB_, zC_, i64_w, i32_w]
       rfl
      refine take_ (i := 7) (N := some 64) (v := ?_) (a' := ?_) #[Y,Y,Y,Y,Y,Y,Y,Y,Z,Z,Z,Z,Z,Z,Z,Z,Z,Z,Z,Z,Z,Z,Z,Z,Z,Z,Z,Z,Z,Z] rfl rfl (take_ofW HT_.out HW_.out (by kernel_rfl)) (fun _ _ _ h => h) (Or.inl ⟨by rfl, ?_⟩) hHeld ?_ ?_
      rotate_left
      ·rintro w' ⟨s0, s1, s2, s3, s4⟩
       go_simp
       with_reducible rfl
      rotate_left
      ·simp only [Act.put, zA_, zB_, zC_, i64_w, i32_w]
       rfl
      refine pure_ (i := 8) (N := some 65) (v := ?_) (a' := ?_) #[Y,Y,Y,Y,Y,Y,Y,Y,Y,Z,Z,Z,Z,Z,Z,Z,Z,Z,Z,Z,Z,Z,Z,Z,Z,Z,Z,Z,Z,Z] rfl rfl (any_of HT_.out (by kernel_rfl)) (fun _ _ _ h => h) (Or.inl ⟨by rfl, ?_⟩) ?_ ?_
      rotate_left
      ·intro w'
       go_simp
       with_reducible rfl
      rotate_left
      ·simp only [Act.put, zA_, zB_, zC_, i64_w, i32_w]
       rfl
      refine pure_ (i := 9) (N := some 66) (v := ?_) (a' := ?_) #[Y,Y,Y,Y,Y,Y,Y,Y,Y,Y,Z,Z,Z,Z,Z,Z,Z,Z,Z,Z,Z,Z,Z,Z,Z,Z,Z,Z,Z,Z] rfl rfl (any_of HT_.out (by kernel_rfl)) (fun _ _ _ h => h) (Or.inl ⟨by rfl, ?_⟩) ?_ ?_
      rotate_left
      ·intro w'
       go_simp
       with_reducible rfl
      rotate_left
      ·simp only [Act.put, zA_, zB_, zC_, i64_w, i32_w]
       rfl
      refine pure_ (i := 10) (N := some 67) (v := ?_) (a' := ?_) #[Y,Y,Y,Y,Y,Y,Y,Y,Y,Y,Y,Z,Z,Z,Z,Z,Z,Z,Z,Z,Z,Z,Z,Z,Z,Z,Z,Z,Z,Z] rfl rfl (any_of HT_.out (by kernel_rfl)) (fun _ _ _ h => h) (Or.inl ⟨by rfl, ?_⟩) ?_ ?_
      rotate_left
      ·intro w'
       go_simp
       with_reducible rfl
      rotate_left
      ·simp only [Act.put, zA_, zB_, zC_, i64_w, i32_w]
       rfl
      refine pure_ (i := 11) (N := some 68) (v := ?_) (a' := ?_) #[Y,Y,Y,Y,Y,Y,Y,Y,Y,Y,Y,Y,Z,Z,Z,Z,Z,Z,Z,Z,Z,Z,Z,Z,Z,Z,Z,Z,Z,Z] rfl rfl (any_of HT_.out (by kernel_rfl)) (fun _ _ _ h => h) (Or.inl ⟨by rfl, ?_⟩) ?_ ?_
      rotate_left
      ·intro w'
       go_simp
       with_reducible rfl
      rotate_left
      ·simp only [Act.put, zA_, zB_, zC_, i64_w, i32_w]
       rfl
      refine pure_ (i := 12) (N := some 69) (v := ?_) (a' := ?_) #[Y,Y,Y,Y,Y,Y,Y,Y,Y,Y,Y,Y,Y,Z,Z,Z,Z,Z,Z,Z,Z,Z,Z,Z,Z,Z,Z,Z,Z,Z] rfl rfl (any_of HT_.out (by kernel_rfl)) (fun _ _ _ h => h) (Or.inl ⟨by rfl, ?_⟩) ?_ ?_
      rotate_left
      ·intro w'
       go_simp
       with_reducible rfl
      rotate_left
      ·simp only [Act.put, zA_, zB_, zC_, i64_w, i32_w]
       rfl
      refine pure_ (i := 13) (N := some 70) (v := ?_) (a' := ?_) #[Y,Y,Y,Y,Y,Y,Y,Y,Y,Y,Y,Y,Y,Y,Z,Z,Z,Z,Z,Z,Z,Z,Z,Z,Z,Z,Z,Z,Z,Z] rfl rfl (any_of HT_.out (by kernel_rfl)) (fun _ _ _ h => h) (Or.inl ⟨by rfl, ?_⟩) ?_ ?_
      rotate_left
      ·intro w'
       go_simp
       with_reducible rfl
      rotate_left
      ·simp only [Act.put, zA_, zB_, zC_, i64_w, i32_w]
       rfl
      refine pure_ (i := 16) (N := some 73) (v := ?_) (a' := ?_) #[Y,Y,Y,Y,Y,Y,Y,Y,Y,Y,Y,Y,Y,Y,Z,Z,Y,Z,Z,Z,Z,Z,Z,Z,Z,Z,Z,Z,Z,Z] rfl rfl (any_of HT_.out (by kernel_rfl)) (fun _ _ _ h => h) (Or.inl ⟨by rfl, ?_⟩) ?_ ?_
      rotate_left
      ·intro w'
       go_simp
       with_reducible rfl
      rotate_left
      ·simp only [Act.put, zA_, zB_, zC_, i64_w, i32_w]
       rfl
      refine pure_ (i := 17) (N := some 74) (v := ?_) (a' := ?_) #[Y,Y,Y,Y,Y,Y,Y,Y,Y,Y,Y,Y,Y,Y,Z,Z,Y,Y,Z,Z,Z,Z,Z,Z,Z,Z,Z,Z,Z,Z] rfl rfl (any_of HT_.out (by kernel_rfl)) (fun _ _ _ h => h) (Or.inl ⟨by rfl, ?_⟩) ?_ ?_
      rotate_left
      ·intro w'
       go_simp
       with_reducible rfl
      rotate_left
      ·simp only [Act.put, zA_, zB_, zC_, i64_w, i32_w]
       rfl
      refine take_ (i := 14) (N := some 71) (v := ?_) (a' := ?_) #[Y,Y,Y,Y,Y,Y,Y,Y,Y,Y,Y,Y,Y,Y,Y,Z,Y,Y,Z,Z,Z,Z,Z,Z,Z,Z,Z,Z,Z,Z] rfl rfl (take_ofW HT_.out HW_.out (by kernel_rfl)) (fun _ _ _ h => h) (Or.inl ⟨by rfl, ?_⟩) hHeld ?_ ?_
      rotate_left
      ·rintro w' ⟨s0, s1, s2, s3, s4⟩
       go_simp
       with_reducible rfl
      rotate_left
      ·simp only [Act.put, zA_, zB_, zC_, i64_w, i32_w]
       rfl
      refine pure_ (i := 15) (N := some 72) (v := ?_) (a' := ?_) #[Y,Y,Y,Y,Y,Y,Y,Y,Y,Y,Y,Y,Y,Y,Y,Y,Y,Y,Z,Z,Z,Z,Z,Z,Z,Z,Z,Z,Z,Z] rfl rfl (any_of HT_.out (by kernel_rfl)) (fun _ _ _ h => h) (Or.inl ⟨by rfl, ?_⟩) ?_ ?_
      rotate_left
      ·intro w'
       go_simp
       with_reducible rfl
      rotate_left
      ·simp only [Act.put, zA_, zB_, zC_, i64_w, i32_w]
       rfl
      refine take_ (i := 18) (N := some 75) (v := ?_) (a' := ?_) #[Y,Y,Y,Y,Y,Y,Y,Y,Y,Y,Y,Y,Y,Y,Y,Y,Y,Y,Y,Z,Z,Z,Z,Z,Z,Z,Z,Z,Z,Z] rfl rfl (take_ofW HT_.out HW_.out (by kernel_rfl)) (fun _ _ _ h => h) (Or.inl ⟨by rfl, ?_⟩) hHeld ?_ ?_
      rotate_left
      ·rintro w' ⟨s0, s1, s2, s3, s4⟩
       go_simp
       with_reducible rfl
      rotate_left
      ·simp only [Act.put, zA_, zB_, zC_, i64_w, i32_w]
       rfl
      refine pure_ (i := 19) (N := some 76) (v := ?_) (a' := ?_) #[Y,Y,Y,Y,Y,Y,Y,Y,Y,Y,Y,Y,Y,Y,Y,Y,Y,Y,Y,Y,Z,Z,Z,Z,Z,Z,Z,Z,Z,Z] rfl rfl (any_of HT_.out (by kernel_rfl)) (fun _ _ _ h => h) (Or.inl ⟨by rfl, ?_⟩) ?_ ?_
      rotate_left
      ·intro w'
       go_simp
       with_reducible rfl
      rotate_left
      ·simp only [Act.put, zA_, zB_, zC_, i64_w, i32_w]
       rfl
      refine pure_ (i := 20) (N := some 77) (v := ?_) (a' := ?_) #[Y,Y,Y,Y,Y,Y,Y,Y,Y,Y,Y,Y,Y,Y,Y,Y,Y,Y,Y,Y,Y,Z,Z,Z,Z,Z,Z,Z,Z,Z] rfl rfl (any_of HT_.out (by kernel_rfl)) (fun _ _ _ h => h) (Or.inl ⟨by rfl, ?_⟩) ?_ ?_
      rotate_left
      ·intro w'
       go_simp
       with_reducible rfl
      rotate_left
      ·simp only [Act.put, zA_, zB_, zC_, i64_w, i32_w]
       rfl
      refine pure_ (i := 21) (N := some 78) (v := ?_) (a' := ?_) #[Y,Y,Y,Y,Y,Y,Y,Y,Y,Y,Y,Y,Y,Y,Y,Y,Y,Y,Y,Y,Y,Y,Z,Z,Z,Z,Z,Z,Z,Z] rfl rfl (any_of HT_.out (by kernel_rfl)) (fun _ _ _ h => h) (Or.inl ⟨by rfl, ?_⟩) ?_ ?_
      rotate_left
      ·intro w'
       go_simp
       with_reducible rfl
      rotate_left
      ·simp only [Act.put, zA_, zB_, zC_, i64_w, i32_w]
       rfl
      refine pure_ (i := 22) (N := some 79) (v := ?_) (a' := ?_) #[Y,Y,Y,Y,Y,Y,Y,Y,Y,Y,Y,Y,Y,Y,Y,Y,Y,Y,Y,Y,Y,Y,Y,Z,Z,Z,Z,Z,Z,Z] rfl rfl (any_of HT_.out (by kernel_rfl)) (fun _ _ _ h => h) (Or.inl ⟨by rfl, ?_⟩) ?_ ?_
      rotate_left
      ·intro w'
       go_simp
       with_reducible rfl
      rotate_left
      ·simp only [Act.put, zA_, zB_, zC_, i64_w, i32_w]
       rfl
      refine pure_ (i := 23) (N := some 80) (v := ?_) (a' := ?_) #[Y,Y,Y,Y,Y,Y,Y,Y,Y,Y,Y,Y,Y,Y,Y,Y,Y,Y,Y,Y,Y,Y,Y,Y,Z,Z,Z,Z,Z,Z] rfl rfl (any_of HT_.out (by kernel_rfl)) (fun _ _ _ h => h) (Or.inl ⟨by rfl, ?_⟩) ?_ ?_
      rotate_left
      ·intro w'
       go_simp
       with_reducible rfl
      rotate_left
      ·simp only [Act.put, zA_, zB_, zC_, i64_w, i32_w]
       rfl
      refine pure_ (i := 24) (N := some 81) (v := ?_) (a' := ?_) #[Y,Y,Y,Y,Y,Y,Y,Y,Y,Y,Y,Y,Y,Y,Y,Y,Y,Y,Y,Y,Y,Y,Y,Y,Y,Z,Z,Z,Z,Z] rfl rfl (any_of HT_.out (by kernel_rfl)) (fun _ _ _ h => h) (Or.inl ⟨by rfl, ?_⟩) ?_ ?_
      rotate_left
      ·intro w'
       go_simp
       with_reducible rfl
      rotate_left
      ·simp only [Act.put, zA_, zB_, zC_, i64_w, i32_w]
       rfl
      refine pure_ (i := 25) (N := some 82) (v := ?_) (a' := ?_) #[Y,Y,Y,Y,Y,Y,Y,Y,Y,Y,Y,Y,Y,Y,Y,Y,Y,Y,Y,Y,Y,Y,Y,Y,Y,Y,Z,Z,Z,Z] rfl rfl (any_of HT_.out (by kernel_rfl)) (fun _ _ _ h => h) (Or.inl ⟨by rfl, ?_⟩) ?_ ?_
      rotate_left
      ·intro w'
       go_simp
       with_reducible rfl
      rotate_left
      ·simp only [Act.put, zA_, zB_, zC_, i64_w, i32_w]
       rfl
      refine take_ (i := 26) (N := some 83) (v := ?_) (a' := ?_) #[Y,Y,Y,Y,Y,Y,Y,Y,Y,Y,Y,Y,Y,Y,Y,Y,Y,Y,Y,Y,Y,Y,Y,Y,Y,Y,Y,Z,Z,Z] rfl rfl (take_ofW HT_.out HW_.out (by kernel_rfl)) (fun _ _ _ h => h) (Or.inl ⟨by rfl, ?_⟩) hHeld ?_ ?_
      rotate_left
      ·rintro w' ⟨s0, s1, s2, s3, s4⟩
       go_simp
       with_reducible rfl
      rotate_left
      ·simp only [Act.put, zA_, zB_, zC_, i64_w, i32_w]
       rfl
      refine pure_ (i := 27) (N := some 84) (v := ?_) (a' := ?_) #[Y,Y,Y,Y,Y,Y,Y,Y,Y,Y,Y,Y,Y,Y,Y,Y,Y,Y,Y,Y,Y,Y,Y,Y,Y,Y,Y,Y,Z,Z] rfl rfl (any_of HT_.out (by kernel_rfl)) (fun _ _ _ h => h) (Or.inl ⟨by rfl, ?_⟩) ?_ ?_
      rotate_left
      ·intro w'
       go_simp
       with_reducible rfl
      rotate_left
      ·simp only [Act.put, zA_, zB_, zC_, i64_w, i32_w]
       rfl
      refine pure_ (i := 28) (N := some 85) (v := ?_) (a' := ?_) #[Y,Y,Y,Y,Y,Y,Y,Y,Y,Y,Y,Y,Y,Y,Y,Y,Y,Y,Y,Y,Y,Y,Y,Y,Y,Y,Y,Y,Y,Z] rfl rfl (any_of HT_.out (by kernel_rfl)) (fun _ _ _ h => h) (Or.inl ⟨by rfl, ?_⟩) ?_ ?_
      rotate_left
      ·intro w'
       go_simp
       with_reducible rfl
      rotate_left
      ·simp only [Act.put, zA_, zB_, zC_, i64_w, i32_w]
       rfl
      refine pure_ (i := 29) (N := some 86) (v := ?_) (a' := ?_) #[Y,Y,Y,Y,Y,Y,Y,Y,Y,Y,Y,Y,Y,Y,Y,Y,Y,Y,Y,Y,Y,Y,Y,Y,Y,Y,Y,Y,Y,Y] rfl rfl (any_of HT_.out (by kernel_rfl)) (fun _ _ _ h => h) (Or.inl ⟨by rfl, ?_⟩) ?_ ?_
      rotate_left
      ·intro w'
       go_simp
       with_reducible rfl
      rotate_left
      ·simp only [Act.put, zA_, zB_, zC_, i64_w, i32_w]
       rfl
      refine done_ (done_of HT_.out (by kernel_rfl)) ?_
      try go_wp2
      go_meet
      case rel => exact ⟨_, (decide (((rdOf ByteArray.empty l1_0 x52_2).size : Int) > 100)), (by (rfl)), H', ⟨by have := HJ3.out; have := HK2.out; (omega)⟩, ⟨by exact HO_9.out⟩, ⟨by exact HO_10.out⟩, ⟨by exact HO_11.out⟩, ⟨by exact HO_12.out⟩, ⟨by exact HO_13.out⟩, ⟨by exact BK242.out⟩, ⟨by exact BK245.out⟩, ⟨by repeat (((with_reducible (exact HB.out))))⟩⟩
     case rest =>
      clear HC15
      try clear c1
      try clear c2
      try clear p2
      try clear q2
      try clear hx2
      try clear qi2
      try clear c19
      try clear c20
      try clear c21
      try clear c21b0
      try clear c21b1
      try clear c21b2
      try clear c22
      try clear c23
      try clear c23b0
      try clear c23b1
      try clear c23b2
      try clear p24
      try clear q24
      try clear hx24
      try clear qi24
      try clear hx246_0
      try clear hx247_0
      try clear hx248_0
      try clear hx249_0
      try clear p246
      try clear p247
      try clear p248
      try clear p249
      try clear q246
      try clear q247
      try clear q248
      try clear q249
      obtain ⟨kq, x86_14, rfl, HA, HJ14, HO_9, HO_10, HO_11, HO_12, HO_13, BK242, BK245, HB⟩ := hcut
      cases kq with
      | zero => exact absurd HA.out (by simp [Fcj2])
      | succ kj14 =>
       have H := HA.out
       clear HA
       simp only [Fcj2] at H
       by_cases c30 : x86_14 = true
       ·subst c30
        have H1 : ((quietuslaw04_sanity.f kj14).bind fun t251 => (some t251)) = some r := by rw [if_pos rfl] at H; exact H
        clear H
        have H := H1
        clear H1
        replace H := Option.bind_eq_some_iff.mp H
        obtain ⟨t251, A310, H⟩ := H
        replace H : (some t251) = some r := H
        have A31 := Aside0.mk A310
        clear A310
        obtain rfl := Option.some.inj H
        go_wp2_with ((((with_reducible refine gate_callee (f := 15) rfl ?_); refine goesL_ (some 87) rfl rfl Tryd.func15 (by kernel_rfl) rfl #[] rfl (by (try simp only [List.map_toArray, List.map_cons, List.map_nil]); (done)) ?_; (with_reducible refine (quietuslaw04_sanity.calls kj14  t251 _ ?sideG A31.out).mono ?_); (case sideG => repeat ((exact (Kd.C_below HRG.out HB.out)))); rintro e w32 ⟨rfl, hb⟩; refine ⟨_, rfl, ?_⟩; have n0_ := Aside0.mk (Kd.R_below HO_9.out hb); have n1_ := Aside0.mk (Kd.R_below HO_10.out hb); have n2_ := Aside0.mk (Kd.R_below HO_11.out hb); have n3_ := Aside0.mk (Kd.R_below HO_12.out hb); have n4_ := Aside0.mk (Kd.R_below HO_13.out hb); have n5_ := Aside0.mk (zq_ BK242.out hb); have n6_ := Aside0.mk (zq_ BK245.out hb); have n7_ := Aside0.mk (zv_ (by repeat (((with_reducible (exact HB.out))))) hb); clear HO_9 HO_10 HO_11 HO_12 HO_13 BK242 BK245 HB; have HO_9 := n0_; have HO_10 := n1_; have HO_11 := n2_; have HO_12 := n3_; have HO_13 := n4_; have BK242 := n5_; have BK245 := n6_; have HB := n7_; clear n0_ n1_ n2_ n3_ n4_ n5_ n6_ n7_; (try clear hb); (try clear hb2); (try clear hk); (try clear hi))))
        go_ret
        exact ⟨by (rfl), by repeat (((with_reducible (exact HB.out))))⟩
       replace c30 := Bool.eq_false_iff.mpr c30
       subst c30
       have H1 : ((some (([((rd_T48 l0 x52_2).f0)] : List Int) : List Int)).bind fun y252 => (if x9_2.length + y252.length < 140737488355328 then ((some (([((rd_T48 l0 x52_2).f1)] : List Int) : List Int)).bind fun y258 => (if x10_2.length + y258.length < 140737488355328 then ((some (([Go.bits .xor .u8 ((rd_T48 l0 x52_2).f0) ((rd_T48 l0 x52_2).f1)] : List Int) : List Int)).bind fun y264 => (if x11_2.length + y264.length < 140737488355328 then ((gf_MulW.f a2 ((rd_T48 l0 x52_2).f0)).bind fun t270 => ((some (([t270] : List Int) : List Int)).bind fun y271 => (if x12_2.length + y271.length < 140737488355328 then (if 0 ≤ x52_2 then (if x52_2 < (l1_0.length : Int) then (if x52_2 < (l1_1.length : Int) then ((gf_Sum.f (rdOf ByteArray.empty l1_0 x52_2) (rdOf ByteArray.empty l1_1 x52_2)).bind fun t279 => ((some (([t279] : List ByteArray) : List ByteArray)).bind fun y280 => (if x13_2.length + y280.length < 8796093022208 then (Fcl0 kj14 a2 l1_0 l1_1 (x9_2 ++ y252) (x10_2 ++ y258) (x11_2 ++ y264) (x12_2 ++ y271) (x13_2 ++ y280) l0 (l0.length : Int) (wrap64 (x52_2 + 1))) else (none)))) else (none)) else (none)) else (none)) else (none)))) else (none))) else (none))) else (none))) = some r := by rw [if_neg (show ¬ (false = true) by decide)] at H; exact H
       clear H
       have H := H1
       clear H1
       obtain ⟨y252, hy252⟩ : ∃ y_ : List Int, y_ = (([((rd_T48 l0 x52_2).f0)] : List Int)) := ⟨_, rfl⟩
       replace H : (if x9_2.length + y252.length < 140737488355328 then ((some (([((rd_T48 l0 x52_2).f1)] : List Int) : List Int)).bind fun y258 => (if x10_2.length + y258.length < 140737488355328 then ((some (([Go.bits .xor .u8 ((rd_T48 l0 x52_2).f0) ((rd_T48 l0 x52_2).f1)] : List Int) : List Int)).bind fun y264 => (if x11_2.length + y264.length < 140737488355328 then ((gf_MulW.f a2 ((rd_T48 l0 x52_2).f0)).bind fun t270 => ((some (([t270] : List Int) : List Int)).bind fun y271 => (if x12_2.length + y271.length < 140737488355328 then (if 0 ≤ x52_2 then (if x52_2 < (l1_0.length : Int) then (if x52_2 < (l1_1.length : Int) then ((gf_Sum.f (rdOf ByteArray.empty l1_0 x52_2) (rdOf ByteArray.empty l1_1 x52_2)).bind fun t279 => ((some (([t279] : List ByteArray) : List ByteArray)).bind fun y280 => (if x13_2.length + y280.length < 8796093022208 then (Fcl0 kj14 a2 l1_0 l1_1 (x9_2 ++ y252) (x10_2 ++ y258) (x11_2 ++ y264) (x12_2 ++ y271) (x13_2 ++ y280) l0 (l0.length : Int) (wrap64 (x52_2 + 1))) else (none)))) else (none)) else (none)) else (none)) else (none)))) else (none))) else (none))) else (none)) = some r := by ((have H2_ := (Option.bind_some _ _).symm.trans H; rw [hy252]; with_reducible exact H2_))
       have Ny252 := Aside0.mk hy252
       clear hy252
       by_cases c33 : x9_2.length + y252.length < 140737488355328
       rotate_left
       ·rw [if_neg c33] at H
        exact absurd H (by simp)
       rw [if_pos c33] at H
       have LMc33 := Aside0.mk c33
       clear c33
       obtain ⟨y255, hy255⟩ : ∃ y_ : List Int, y_ = (x9_2 ++ y252) := ⟨_, rfl⟩
       replace H : ((some (([((rd_T48 l0 x52_2).f1)] : List Int) : List Int)).bind fun y258 => (if x10_2.length + y258.length < 140737488355328 then ((some (([Go.bits .xor .u8 ((rd_T48 l0 x52_2).f0) ((rd_T48 l0 x52_2).f1)] : List Int) : List Int)).bind fun y264 => (if x11_2.length + y264.length < 140737488355328 then ((gf_MulW.f a2 ((rd_T48 l0 x52_2).f0)).bind fun t270 => ((some (([t270] : List Int) : List Int)).bind fun y271 => (if x12_2.length + y271.length < 140737488355328 then (if 0 ≤ x52_2 then (if x52_2 < (l1_0.length : Int) then (if x52_2 < (l1_1.length : Int) then ((gf_Sum.f (rdOf ByteArray.empty l1_0 x52_2) (rdOf ByteArray.empty l1_1 x52_2)).bind fun t279 => ((some (([t279] : List ByteArray) : List ByteArray)).bind fun y280 => (if x13_2.length + y280.length < 8796093022208 then (Fcl0 kj14 a2 l1_0 l1_1 y255 (x10_2 ++ y258) (x11_2 ++ y264) (x12_2 ++ y271) (x13_2 ++ y280) l0 (l0.length : Int) (wrap64 (x52_2 + 1))) else (none)))) else (none)) else (none)) else (none)) else (none)))) else (none))) else (none))) = some r := by (rw [hy255]; with_reducible exact H)
       have Ny255 := Aside0.mk hy255
       clear hy255
       obtain ⟨y258, hy258⟩ : ∃ y_ : List Int, y_ = (([((rd_T48 l0 x52_2).f1)] : List Int)) := ⟨_, rfl⟩
       replace H : (if x10_2.length + y258.length < 140737488355328 then ((some (([Go.bits .xor .u8 ((rd_T48 l0 x52_2).f0) ((rd_T48 l0 x52_2).f1)] : List Int) : List Int)).bind fun y264 => (if x11_2.length + y264.length < 140737488355328 then ((gf_MulW.f a2 ((rd_T48 l0 x52_2).f0)).bind fun t270 => ((some (([t270] : List Int) : List Int)).bind fun y271 => (if x12_2.length + y271.length < 140737488355328 then (if 0 ≤ x52_2 then (if x52_2 < (l1_0.length : Int) then (if x52_2 < (l1_1.length : Int) then ((gf_Sum.f (rdOf ByteArray.empty l1_0 x52_2) (rdOf ByteArray.empty l1_1 x52_2)).bind fun t279 => ((some (([t279] : List ByteArray) : List ByteArray)).bind fun y280 => (if x13_2.length + y280.length < 8796093022208 then (Fcl0 kj14 a2 l1_0 l1_1 y255 (x10_2 ++ y258) (x11_2 ++ y264) (x12_2 ++ y271) (x13_2 ++ y280) l0 (l0.length : Int) (wrap64 (x52_2 + 1))) else (none)))) else (none)) else (none)) else (none)) else (none)))) else (none))) else (none)) = some r := by ((have H2_ := (Option.bind_some _ _).symm.trans H; rw [hy258]; with_reducible exact H2_))
       have Ny258 := Aside0.mk hy258
       clear hy258
       by_cases c34 : x10_2.length + y258.length < 140737488355328
       rotate_left
       ·rw [if_neg c34] at H
        exact absurd H (by simp)
       rw [if_pos c34] at H
       have LMc34 := Aside0.mk c34
       clear c34
       obtain ⟨y261, hy261⟩ : ∃ y_ : List Int, y_ = (x10_2 ++ y258) := ⟨_, rfl⟩
       replace H : ((some (([Go.bits .xor .u8 ((rd_T48 l0 x52_2).f0) ((rd_T48 l0 x52_2).f1)] : List Int) : List Int)).bind fun y264 => (if x11_2.length + y264.length < 140737488355328 then ((gf_MulW.f a2 ((rd_T48 l0 x52_2).f0)).bind fun t270 => ((some (([t270] : List Int) : List Int)).bind fun y271 => (if x12_2.length + y271.length < 140737488355328 then (if 0 ≤ x52_2 then (if x52_2 < (l1_0.length : Int) then (if x52_2 < (l1_1.length : Int) then ((gf_Sum.f (rdOf ByteArray.empty l1_0 x52_2) (rdOf ByteArray.empty l1_1 x52_2)).bind fun t279 => ((some (([t279] : List ByteArray) : List ByteArray)).bind fun y280 => (if x13_2.length + y280.length < 8796093022208 then (Fcl0 kj14 a2 l1_0 l1_1 y255 y261 (x11_2 ++ y264) (x12_2 ++ y271) (x13_2 ++ y280) l0 (l0.length : Int) (wrap64 (x52_2 + 1))) else (none)))) else (none)) else (none)) else (none)) else (none)))) else (none))) = some r := by (rw [hy261]; with_reducible exact H)
       have Ny261 := Aside0.mk hy261
       clear hy261
       obtain ⟨y264, hy264⟩ : ∃ y_ : List Int, y_ = (([Go.bits .xor .u8 ((rd_T48 l0 x52_2).f0) ((rd_T48 l0 x52_2).f1)] : List Int)) := ⟨_, rfl⟩
       replace H : (if x11_2.length + y264.length < 140737488355328 then ((gf_MulW.f a2 ((rd_T48 l0 x52_2).f0)).bind fun t270 => ((some (([t270] : List Int) : List Int)).bind fun y271 => (if x12_2.length + y271.length < 140737488355328 then (if 0 ≤ x52_2 then (if x52_2 < (l1_0.length : Int) then (if x52_2 < (l1_1.length : Int) then ((gf_Sum.f (rdOf ByteArray.empty l1_0 x52_2) (rdOf ByteArray.empty l1_1 x52_2)).bind fun t279 => ((some (([t279] : List ByteArray) : List ByteArray)).bind fun y280 => (if x13_2.length + y280.length < 8796093022208 then (Fcl0 kj14 a2 l1_0 l1_1 y255 y261 (x11_2 ++ y264) (x12_2 ++ y271) (x13_2 ++ y280) l0 (l0.length : Int) (wrap64 (x52_2 + 1))) else (none)))) else (none)) else (none)) else (none)) else (none)))) else (none)) = some r := by ((have H2_ := (Option.bind_some _ _).symm.trans H; rw [hy264]; with_reducible exact H2_))
       have Ny264 := Aside0.mk hy264
       clear hy264
       by_cases c35 : x11_2.length + y264.length < 140737488355328
       rotate_left
       ·rw [if_neg c35] at H
        exact absurd H (by simp)
       rw [if_pos c35] at H
       have LMc35 := Aside0.mk c35
       clear c35
       obtain ⟨y267, hy267⟩ : ∃ y_ : List Int, y_ = (x11_2 ++ y264) := ⟨_, rfl⟩
       replace H : ((gf_MulW.f a2 ((rd_T48 l0 x52_2).f0)).bind fun t270 => ((some (([t270] : List Int) : List Int)).bind fun y271 => (if x12_2.length + y271.length < 140737488355328 then (if 0 ≤ x52_2 then (if x52_2 < (l1_0.length : Int) then (if x52_2 < (l1_1.length : Int) then ((gf_Sum.f (rdOf ByteArray.empty l1_0 x52_2) (rdOf ByteArray.empty l1_1 x52_2)).bind fun t279 => ((some (([t279] : List ByteArray) : List ByteArray)).bind fun y280 => (if x13_2.length + y280.length < 8796093022208 then (Fcl0 kj14 a2 l1_0 l1_1 y255 y261 y267 (x12_2 ++ y271) (x13_2 ++ y280) l0 (l0.length : Int) (wrap64 (x52_2 + 1))) else (none)))) else (none)) else (none)) else (none)) else (none)))) = some r := by (rw [hy267]; with_reducible exact H)
       have Ny267 := Aside0.mk hy267
       clear hy267
       replace H := Option.bind_eq_some_iff.mp H
       obtain ⟨t270, A360, H⟩ := H
       replace H : ((some (([t270] : List Int) : List Int)).bind fun y271 => (if x12_2.length + y271.length < 140737488355328 then (if 0 ≤ x52_2 then (if x52_2 < (l1_0.length : Int) then (if x52_2 < (l1_1.length : Int) then ((gf_Sum.f (rdOf ByteArray.empty l1_0 x52_2) (rdOf ByteArray.empty l1_1 x52_2)).bind fun t279 => ((some (([t279] : List ByteArray) : List ByteArray)).bind fun y280 => (if x13_2.length + y280.length < 8796093022208 then (Fcl0 kj14 a2 l1_0 l1_1 y255 y261 y267 (x12_2 ++ y271) (x13_2 ++ y280) l0 (l0.length : Int) (wrap64 (x52_2 + 1))) else (none)))) else (none)) else (none)) else (none)) else (none))) = some r := H
       have A36 := Aside0.mk A360
       clear A360
       obtain ⟨y271, hy271⟩ : ∃ y_ : List Int, y_ = ([t270] : List Int) := ⟨_, rfl⟩
       replace H : (if x12_2.length + y271.length < 140737488355328 then (if 0 ≤ x52_2 then (if x52_2 < (l1_0.length : Int) then (if x52_2 < (l1_1.length : Int) then ((gf_Sum.f (rdOf ByteArray.empty l1_0 x52_2) (rdOf ByteArray.empty l1_1 x52_2)).bind fun t279 => ((some (([t279] : List ByteArray) : List ByteArray)).bind fun y280 => (if x13_2.length + y280.length < 8796093022208 then (Fcl0 kj14 a2 l1_0 l1_1 y255 y261 y267 (x12_2 ++ y271) (x13_2 ++ y280) l0 (l0.length : Int) (wrap64 (x52_2 + 1))) else (none)))) else (none)) else (none)) else (none)) else (none)) = some r := by ((have H2_ := (Option.bind_some _ _).symm.trans H; rw [hy271]; with_reducible exact H2_))
       have Ny271 := Aside0.mk hy271
       clear hy271
       by_cases c37 : x12_2.length + y271.length < 140737488355328
       rotate_left
       ·rw [if_neg c37] at H
        exact absurd H (by simp)
       rw [if_pos c37] at H
       have LMc37 := Aside0.mk c37
       clear c37
       obtain ⟨y274, hy274⟩ : ∃ y_ : List Int, y_ = (x12_2 ++ y271) := ⟨_, rfl⟩
       replace H : (if 0 ≤ x52_2 then (if x52_2 < (l1_0.length : Int) then (if x52_2 < (l1_1.length : Int) then ((gf_Sum.f (rdOf ByteArray.empty l1_0 x52_2) (rdOf ByteArray.empty l1_1 x52_2)).bind fun t279 => ((some (([t279] : List ByteArray) : List ByteArray)).bind fun y280 => (if x13_2.length + y280.length < 8796093022208 then (Fcl0 kj14 a2 l1_0 l1_1 y255 y261 y267 y274 (x13_2 ++ y280) l0 (l0.length : Int) (wrap64 (x52_2 + 1))) else (none)))) else (none)) else (none)) else (none)) = some r := by (rw [hy274]; with_reducible exact H)
       have Ny274 := Aside0.mk hy274
       clear hy274
       by_cases c38 : 0 ≤ x52_2
       rotate_left
       ·rw [if_neg c38] at H
        exact absurd H (by simp)
       rw [if_pos c38] at H
       have c38b0 : decide (0 ≤ x52_2) = true := decide_eq_true c38
       clear c38
       by_cases c39 : x52_2 < (l1_0.length : Int)
       rotate_left
       ·rw [if_neg c39] at H
        exact absurd H (by simp)
       rw [if_pos c39] at H
       have c39b0 : decide (x52_2 < (l1_0.length : Int)) = true := decide_eq_true c39
       clear c39
       by_cases c40 : x52_2 < (l1_1.length : Int)
       rotate_left
       ·rw [if_neg c40] at H
        exact absurd H (by simp)
       rw [if_pos c40] at H
       have c40b0 : decide (x52_2 < (l1_1.length : Int)) = true := decide_eq_true c40
       clear c40
       replace H := Option.bind_eq_some_iff.mp H
       obtain ⟨t279, A410, H⟩ := H
       replace H : ((some (([t279] : List ByteArray) : List ByteArray)).bind fun y280 => (if x13_2.length + y280.length < 8796093022208 then (Fcl0 kj14 a2 l1_0 l1_1 y255 y261 y267 y274 (x13_2 ++ y280) l0 (l0.length : Int) (wrap64 (x52_2 + 1))) else (none))) = some r := H
       have A41 := Aside0.mk A410
       clear A410
       obtain ⟨y280, hy280⟩ : ∃ y_ : List ByteArray, y_ = ([t279] : List ByteArray) := ⟨_, rfl⟩
       replace H : (if x13_2.length + y280.length < 8796093022208 then (Fcl0 kj14 a2 l1_0 l1_1 y255 y261 y267 y274 (x13_2 ++ y280) l0 (l0.length : Int) (wrap64 (x52_2 + 1))) else (none)) = some r := by ((have H2_ := (Option.bind_some _ _).symm.trans H; rw [hy280]; with_reducible exact H2_))
       have Ny280 := Aside0.mk hy280
       clear hy280
       by_cases c42 : x13_2.length + y280.length < 8796093022208
       rotate_left
       ·rw [if_neg c42] at H
        exact absurd H (by simp)
       rw [if_pos c42] at H
       have LMc42 := Aside0.mk c42
       clear c42
       obtain ⟨y283, hy283⟩ : ∃ y_ : List ByteArray, y_ = (x13_2 ++ y280) := ⟨_, rfl⟩
       replace H : (Fcl0 kj14 a2 l1_0 l1_1 y255 y261 y267 y274 y283 l0 (l0.length : Int) (wrap64 (x52_2 + 1))) = some r := by (rw [hy283]; with_reducible exact H)
       have Ny283 := Aside0.mk hy283
       clear hy283
       have H' := Aside0.mk H
       clear H
       obtain ⟨Ao43, co43, eo43⟩ := Kd.R_slice HO_9.out
       subst eo43
       obtain ⟨Ao44, co44, eo44⟩ := Kd.R_slice HO_10.out
       subst eo44
       obtain ⟨Ao45, co45, eo45⟩ := Kd.R_slice HO_11.out
       subst eo45
       obtain ⟨Ao46, co46, eo46⟩ := Kd.R_slice HO_12.out
       subst eo46
       try go_wp2
       have n0_ := Aside0.mk (zc_ HO_9.out)
       have n1_ := Aside0.mk (zc_ HO_10.out)
       have n2_ := Aside0.mk (zc_ HO_11.out)
       have n3_ := Aside0.mk (zc_ HO_12.out)
       have n4_ := Aside0.mk (zc_ HO_13.out)
       have n5_ := Aside0.mk (zn_ BK242.out)
       have n6_ := Aside0.mk (zn_ BK245.out)
       have n7_ := Aside0.mk (zu_ HB.out)
       clear HO_9 HO_10 HO_11 HO_12 HO_13 BK242 BK245 HB
       revert n0_ n1_ n2_ n3_ n4_ n5_ n6_ n7_
       intro HO_9 HO_10 HO_11 HO_12 HO_13 BK242 BK245 HB
       refine start_ (n := 29) (S := fun w' => w'.cell? ⟨gb245, 0, none⟩ = some (.int .u8 ((rd_T48 l0 x52_2).f0)) ∧ w'.cell? ⟨gb245, 1, none⟩ = some (.int .u8 ((rd_T48 l0 x52_2).f1))) (ds := []) #[Z,Z,Z,Z,Z,Z,Z,Z,Z,Z,Z,Z,Z,Z,Z,Z,Z,Z,Z,Z,Z,Z,Z,Z,Z,Z,Z,Z,Z] (by kernel_rfl) rfl rfl ⟨(blk_cell BK245.out 0).trans rfl, (blk_cell BK245.out 1).trans rfl⟩ (fun hHeld => ?_); refine with_tabW quietuslaw04_FieldCombinesLinearly.tab11 quietuslaw04_FieldCombinesLinearly.bits11 (fun HT_ HW_ => ?_)
       generalize wc.drew = w47 at HO_9 HO_10 HO_11 HO_12 HO_13 BK242 BK245 HB hHeld ⊢
       refine pure_ (i := 0) (N := some 88) (v := ?_) (a' := ?_) #[Y,Z,Z,Z,Z,Z,Z,Z,Z,Z,Z,Z,Z,Z,Z,Z,Z,Z,Z,Z,Z,Z,Z,Z,Z,Z,Z,Z,Z] rfl rfl (any_of HT_.out (by kernel_rfl)) (fun _ _ _ h => h) (Or.inl ⟨by rfl, ?_⟩) ?_ ?_
       rotate_left
       ·intro w'
        go_simp
        with_reducible rfl
       rotate_left
       ·simp only [Act.put, zA_, zB_, zC_, i64_w, i32_w]
        rfl
       refine pure_ (i := 1) (N := some 89) (v := ?_) (a' := ?_) #[Y,Y,Z,Z,Z,Z,Z,Z,Z,Z,Z,Z,Z,Z,Z,Z,Z,Z,Z,Z,Z,Z,Z,Z,Z,Z,Z,Z,Z] rfl rfl (any_of HT_.out (by kernel_rfl)) (fun _ _ _ h => h) (Or.inl ⟨by rfl, ?_⟩) ?_ ?_
       rotate_left
       ·intro w'
        go_simp
        with_reducible rfl
       rotate_left
       ·simp only [Act.put, zA_, zB_, zC_, i64_w, i32_w]
        rfl
       refine pure_ (i := 5) (N := some 93) (v := ?_) (a' := ?_) #[Y,Y,Z,Z,Z,Y,Z,Z,Z,Z,Z,Z,Z,Z,Z,Z,Z,Z,Z,Z,Z,Z,Z,Z,Z,Z,Z,Z,Z] rfl rfl (any_of HT_.out (by kernel_rfl)) (fun _ _ _ h => h) (Or.inl ⟨by rfl, ?_⟩) ?_ ?_
       rotate_left
       ·intro w'
        go_simp
        with_reducible rfl
       rotate_left
       ·simp only [Act.put, zA_, zB_, zC_, i64_w, i32_w]
        rfl
       refine pure_ (i := 6) (N := some 94) (v := ?_) (a' := ?_) #[Y,Y,Z,Z,Z,Y,Y,Z,Z,Z,Z,Z,Z,Z,Z,Z,Z,Z,Z,Z,Z,Z,Z,Z,Z,Z,Z,Z,Z] rfl rfl (any_of HT_.out (by kernel_rfl)) (fun _ _ _ h => h) (Or.inl ⟨by rfl, ?_⟩) ?_ ?_
       rotate_left
       ·intro w'
        go_simp
        with_reducible rfl
       rotate_left
       ·simp only [Act.put, zA_, zB_, zC_, i64_w, i32_w]
        rfl
       refine pure_ (i := 10) (N := some 98) (v := ?_) (a' := ?_) #[Y,Y,Z,Z,Z,Y,Y,Z,Z,Z,Y,Z,Z,Z,Z,Z,Z,Z,Z,Z,Z,Z,Z,Z,Z,Z,Z,Z,Z] rfl rfl (any_of HT_.out (by kernel_rfl)) (fun _ _ _ h => h) (Or.inl ⟨by rfl, ?_⟩) ?_ ?_
       rotate_left
       ·intro w'
        go_simp
        with_reducible rfl
       rotate_left
       ·simp only [Act.put, zA_, zB_, zC_, i64_w, i32_w]
        rfl
       refine pure_ (i := 11) (N := some 99) (v := ?_) (a' := ?_) #[Y,Y,Z,Z,Z,Y,Y,Z,Z,Z,Y,Y,Z,Z,Z,Z,Z,Z,Z,Z,Z,Z,Z,Z,Z,Z,Z,Z,Z] rfl rfl (any_of HT_.out (by kernel_rfl)) (fun _ _ _ h => h) (Or.inl ⟨by rfl, ?_⟩) ?_ ?_
       rotate_left
       ·intro w'
        go_simp
        with_reducible rfl
       rotate_left
       ·simp only [Act.put, zA_, zB_, zC_, i64_w, i32_w]
        rfl
       refine pure_ (i := 13) (N := some 101) (v := ?_) (a' := ?_) #[Y,Y,Z,Z,Z,Y,Y,Z,Z,Z,Y,Y,Z,Y,Z,Z,Z,Z,Z,Z,Z,Z,Z,Z,Z,Z,Z,Z,Z] rfl rfl (any_of HT_.out (by kernel_rfl)) (fun _ _ _ h => h) (Or.inl ⟨by rfl, ?_⟩) ?_ ?_
       rotate_left
       ·intro w'
        go_simp
        with_reducible rfl
       rotate_left
       ·simp only [Act.put, zA_, zB_, zC_, i64_w, i32_w]
        rfl
       refine pure_ (i := 18) (N := some 106) (v := ?_) (a' := ?_) #[Y,Y,Z,Z,Z,Y,Y,Z,Z,Z,Y,Y,Z,Y,Z,Z,Z,Z,Y,Z,Z,Z,Z,Z,Z,Z,Z,Z,Z] rfl rfl (any_of HT_.out (by kernel_rfl)) (fun _ _ _ h => h) (Or.inl ⟨by rfl, ?_⟩) ?_ ?_
       rotate_left
       ·intro w'
        go_simp
        with_reducible rfl
       rotate_left
       ·simp only [Act.put, zA_, zB_, zC_, i64_w, i32_w]
        rfl
       refine pure_ (i := 19) (N := some 107) (v := ?_) (a' := ?_) #[Y,Y,Z,Z,Z,Y,Y,Z,Z,Z,Y,Y,Z,Y,Z,Z,Z,Z,Y,Y,Z,Z,Z,Z,Z,Z,Z,Z,Z] rfl rfl (any_of HT_.out (by kernel_rfl)) (fun _ _ _ h => h) (Or.inl ⟨by rfl, ?_⟩) ?_ ?_
       rotate_left
       ·intro w'
        go_simp
        with_reducible rfl
       rotate_left
       ·simp only [Act.put, zA_, zB_, zC_, i64_w, i32_w]
        rfl
       refine pure_ (i := 20) (N := some 108) (v := ?_) (a' := ?_) #[Y,Y,Z,Z,Z,Y,Y,Z,Z,Z,Y,Y,Z,Y,Z,Z,Z,Z,Y,Y,Y,Z,Z,Z,Z,Z,Z,Z,Z] rfl rfl (any_of HT_.out (by kernel_rfl)) (fun _ _ _ h => h) (Or.inl ⟨by rfl, ?_⟩) ?_ ?_
       rotate_left
       ·intro w'
        go_simp
        with_reducible rfl
       rotate_left
       ·simp only [Act.put, zA_, zB_, zC_, i64_w, i32_w]
        rfl
       refine take_ (i := 2) (N := some 90) (v := ?_) (a' := ?_) #[Y,Y,Y,Z,Z,Y,Y,Z,Z,Z,Y,Y,Z,Y,Z,Z,Z,Z,Y,Y,Y,Z,Z,Z,Z,Z,Z,Z,Z] rfl rfl (take_ofW HT_.out HW_.out (by kernel_rfl)) (fun _ _ _ h => h) (Or.inl ⟨by rfl, ?_⟩) hHeld ?_ ?_
       rotate_left
       ·rintro w' ⟨s0, s1⟩
        go_simp
        with_reducible rfl
       rotate_left
       ·simp only [Act.put, zA_, zB_, zC_, i64_w, i32_w]
        rfl
       refine take_ (i := 7) (N := some 95) (v := ?_) (a' := ?_) #[Y,Y,Y,Z,Z,Y,Y,Y,Z,Z,Y,Y,Z,Y,Z,Z,Z,Z,Y,Y,Y,Z,Z,Z,Z,Z,Z,Z,Z] rfl rfl (take_ofW HT_.out HW_.out (by kernel_rfl)) (fun _ _ _ h => h) (Or.inl ⟨by rfl, ?_⟩) hHeld ?_ ?_
       rotate_left
       ·rintro w' ⟨s0, s1⟩
        go_simp
        with_reducible rfl
       rotate_left
       ·simp only [Act.put, zA_, zB_, zC_, i64_w, i32_w]
        rfl
       refine take_ (i := 12) (N := some 100) (v := ?_) (a' := ?_) #[Y,Y,Y,Z,Z,Y,Y,Y,Z,Z,Y,Y,Y,Y,Z,Z,Z,Z,Y,Y,Y,Z,Z,Z,Z,Z,Z,Z,Z] rfl rfl (take_ofW HT_.out HW_.out (by kernel_rfl)) (fun _ _ _ h => h) (Or.inl ⟨by rfl, ?_⟩) hHeld ?_ ?_
       rotate_left
       ·rintro w' ⟨s0, s1⟩
        go_simp
        with_reducible rfl
       rotate_left
       ·simp only [Act.put, zA_, zB_, zC_, i64_w, i32_w]
        rfl
       refine take_ (i := 14) (N := some 102) (v := ?_) (a' := ?_) #[Y,Y,Y,Z,Z,Y,Y,Y,Z,Z,Y,Y,Y,Y,Y,Z,Z,Z,Y,Y,Y,Z,Z,Z,Z,Z,Z,Z,Z] rfl rfl (take_ofW HT_.out HW_.out (by kernel_rfl)) (fun _ _ _ h => h) (Or.inl ⟨by rfl, ?_⟩) hHeld ?_ ?_
       rotate_left
       ·rintro w' ⟨s0, s1⟩
        go_simp
        with_reducible rfl
       rotate_left
       ·simp only [Act.put, zA_, zB_, zC_, i64_w, i32_w]
        rfl
       refine pure_ (i := 15) (N := some 103) (v := ?_) (a' := ?_) #[Y,Y,Y,Z,Z,Y,Y,Y,Z,Z,Y,Y,Y,Y,Y,Y,Z,Z,Y,Y,Y,Z,Z,Z,Z,Z,Z,Z,Z] rfl rfl (any_of HT_.out (by kernel_rfl)) (fun _ _ _ h => h) (Or.inl ⟨by rfl, ?_⟩) ?_ ?_
       rotate_left
       ·intro w'
        go_simp
        with_reducible rfl
       rotate_left
       ·simp only [Act.put, zA_, zB_, zC_, i64_w, i32_w]
        rfl
       refine take_ (i := 21) (N := some 109) (v := ?_) (a' := ?_) #[Y,Y,Y,Z,Z,Y,Y,Y,Z,Z,Y,Y,Y,Y,Y,Y,Z,Z,Y,Y,Y,Y,Z,Z,Z,Z,Z,Z,Z] rfl rfl (take_ofW HT_.out HW_.out (by kernel_rfl)) (fun _ _ _ h => h) (Or.inl ⟨by rfl, ?_⟩) hHeld ?_ ?_
       rotate_left
       ·rintro w' ⟨s0, s1⟩
        go_simp
        with_reducible rfl
       rotate_left
       ·simp only [Act.put, zA_, zB_, zC_, i64_w, i32_w]
        rfl
       refine join_ (σ := Value × Value × Value × Value × Value) 8 #[Y,Y,Y,Y,Y,Y,Y,Y,Y,Y,Y,Y,Y,Y,Y,Y,Y,Z,Y,Y,Y,Y,Z,Z,Z,Z,Z,Z,Z] (fun s_ => [(91, s_.1), (92, s_.2.1), (96, s_.2.2.1), (97, s_.2.2.2.1), (104, s_.2.2.2.2)]) (fun s_ w' => (w'.cell? ⟨gb245, 0, none⟩ = some (.int .u8 ((rd_T48 l0 x52_2).f0)) ∧ w'.cell? ⟨gb245, 1, none⟩ = some (.int .u8 ((rd_T48 l0 x52_2).f1))) ∧ (Kd.R (Kd.int .u8) 5 w' w.heap.size (fun k_ => some k_ ≠ (s_.2.1 : Value).ownBlock ∧ some k_ ≠ (s_.2.2.1 : Value).ownBlock ∧ some k_ ≠ (s_.2.2.2.1 : Value).ownBlock ∧ some k_ ≠ (s_.2.2.2.2 : Value).ownBlock ∧ some k_ ≠ (.slice Ao45 x11_2.length co45 : Value).ownBlock ∧ some k_ ≠ (.slice Ao46 x12_2.length co46 : Value).ownBlock) s_.1 y252) ∧ (Kd.R (Kd.int .u8) 5 w' w.heap.size (fun k_ => some k_ ≠ (s_.1 : Value).ownBlock ∧ some k_ ≠ (s_.2.2.1 : Value).ownBlock ∧ some k_ ≠ (s_.2.2.2.1 : Value).ownBlock ∧ some k_ ≠ (s_.2.2.2.2 : Value).ownBlock ∧ some k_ ≠ (.slice Ao45 x11_2.length co45 : Value).ownBlock ∧ some k_ ≠ (.slice Ao46 x12_2.length co46 : Value).ownBlock) s_.2.1 y255) ∧ (Kd.R (Kd.int .u8) 5 w' w.heap.size (fun k_ => some k_ ≠ (s_.1 : Value).ownBlock ∧ some k_ ≠ (s_.2.1 : Value).ownBlock ∧ some k_ ≠ (s_.2.2.2.1 : Value).ownBlock ∧ some k_ ≠ (s_.2.2.2.2 : Value).ownBlock ∧ some k_ ≠ (.slice Ao45 x11_2.length co45 : Value).ownBlock ∧ some k_ ≠ (.slice Ao46 x12_2.length co46 : Value).ownBlock) s_.2.2.1 y258) ∧ (Kd.R (Kd.int .u8) 5 w' w.heap.size (fun k_ => some k_ ≠ (s_.1 : Value).ownBlock ∧ some k_ ≠ (s_.2.1 : Value).ownBlock ∧ some k_ ≠ (s_.2.2.1 : Value).ownBlock ∧ some k_ ≠ (s_.2.2.2.2 : Value).ownBlock ∧ some k_ ≠ (.slice Ao45 x11_2.length co45 : Value).ownBlock ∧ some k_ ≠ (.slice Ao46 x12_2.length co46 : Value).ownBlock) s_.2.2.2.1 y261) ∧ (Kd.R (Kd.int .u8) 5 w' w.heap.size (fun k_ => some k_ ≠ (s_.1 : Value).ownBlock ∧ some k_ ≠ (s_.2.1 : Value).ownBlock ∧ some k_ ≠ (s_.2.2.1 : Value).ownBlock ∧ some k_ ≠ (s_.2.2.2.1 : Value).ownBlock ∧ some k_ ≠ (.slice Ao45 x11_2.length co45 : Value).ownBlock ∧ some k_ ≠ (.slice Ao46 x12_2.length co46 : Value).ownBlock) s_.2.2.2.2 y264) ∧ (Kd.R (Kd.int .u8) 5 w' w.heap.size (fun k_ => some k_ ≠ (s_.1 : Value).ownBlock ∧ some k_ ≠ (s_.2.1 : Value).ownBlock ∧ some k_ ≠ (s_.2.2.1 : Value).ownBlock ∧ some k_ ≠ (s_.2.2.2.1 : Value).ownBlock ∧ some k_ ≠ (s_.2.2.2.2 : Value).ownBlock ∧ some k_ ≠ (.slice Ao46 x12_2.length co46 : Value).ownBlock) (.slice Ao45 x11_2.length co45) x11_2) ∧ (Kd.R (Kd.int .u8) 5 w' w.heap.size (fun k_ => some k_ ≠ (s_.1 : Value).ownBlock ∧ some k_ ≠ (s_.2.1 : Value).ownBlock ∧ some k_ ≠ (s_.2.2.1 : Value).ownBlock ∧ some k_ ≠ (s_.2.2.2.1 : Value).ownBlock ∧ some k_ ≠ (s_.2.2.2.2 : Value).ownBlock ∧ some k_ ≠ (.slice Ao45 x11_2.length co45 : Value).ownBlock) (.slice Ao46 x12_2.length co46) x12_2) ∧ (Kd.R Kd.string 9 w' w.heap.size (fun _ => True) u13 x13_2) ∧ (w'.heap[gb242]? = some (.cells #[.slice A1_0 l1_0.length c1_0, .slice A1_1 l1_1.length c1_1] 47 (0, 0))) ∧ (w'.heap[gb245]? = some (.cells #[.int .u8 ((rd_T48 l0 x52_2).f0), .int .u8 ((rd_T48 l0 x52_2).f1)] 48 (0, 0))) ∧ (Below w.heap.size w w')) ?_ ?_
       rotate_left
       ·intro hJ3_4_8_9_16
        refine join_ (σ := Value × Value × Value × Value) 9 #[Y,Y,Y,Y,Y,Y,Y,Y,Y,Y,Y,Y,Y,Y,Y,Y,Z,Z,Y,Y,Y,Y,Z,Z,Z,Z,Z,Z,Z] (fun s_ => [(91, s_.1), (92, s_.2.1), (96, s_.2.2.1), (97, s_.2.2.2)]) (fun s_ w' => (w'.cell? ⟨gb245, 0, none⟩ = some (.int .u8 ((rd_T48 l0 x52_2).f0)) ∧ w'.cell? ⟨gb245, 1, none⟩ = some (.int .u8 ((rd_T48 l0 x52_2).f1))) ∧ (Kd.R (Kd.int .u8) 5 w' w.heap.size (fun k_ => some k_ ≠ (s_.2.1 : Value).ownBlock ∧ some k_ ≠ (s_.2.2.1 : Value).ownBlock ∧ some k_ ≠ (s_.2.2.2 : Value).ownBlock ∧ some k_ ≠ (.slice Ao45 x11_2.length co45 : Value).ownBlock ∧ some k_ ≠ (.slice Ao46 x12_2.length co46 : Value).ownBlock) s_.1 y252) ∧ (Kd.R (Kd.int .u8) 5 w' w.heap.size (fun k_ => some k_ ≠ (s_.1 : Value).ownBlock ∧ some k_ ≠ (s_.2.2.1 : Value).ownBlock ∧ some k_ ≠ (s_.2.2.2 : Value).ownBlock ∧ some k_ ≠ (.slice Ao45 x11_2.length co45 : Value).ownBlock ∧ some k_ ≠ (.slice Ao46 x12_2.length co46 : Value).ownBlock) s_.2.1 y255) ∧ (Kd.R (Kd.int .u8) 5 w' w.heap.size (fun k_ => some k_ ≠ (s_.1 : Value).ownBlock ∧ some k_ ≠ (s_.2.1 : Value).ownBlock ∧ some k_ ≠ (s_.2.2.2 : Value).ownBlock ∧ some k_ ≠ (.slice Ao45 x11_2.length co45 : Value).ownBlock ∧ some k_ ≠ (.slice Ao46 x12_2.length co46 : Value).ownBlock) s_.2.2.1 y258) ∧ (Kd.R (Kd.int .u8) 5 w' w.heap.size (fun k_ => some k_ ≠ (s_.1 : Value).ownBlock ∧ some k_ ≠ (s_.2.1 : Value).ownBlock ∧ some k_ ≠ (s_.2.2.1 : Value).ownBlock ∧ some k_ ≠ (.slice Ao45 x11_2.length co45 : Value).ownBlock ∧ some k_ ≠ (.slice Ao46 x12_2.length co46 : Value).ownBlock) s_.2.2.2 y261) ∧ (Kd.R (Kd.int .u8) 5 w' w.heap.size (fun k_ => some k_ ≠ (s_.1 : Value).ownBlock ∧ some k_ ≠ (s_.2.1 : Value).ownBlock ∧ some k_ ≠ (s_.2.2.1 : Value).ownBlock ∧ some k_ ≠ (s_.2.2.2 : Value).ownBlock ∧ some k_ ≠ (.slice Ao46 x12_2.length co46 : Value).ownBlock) (.slice Ao45 x11_2.length co45) x11_2) ∧ (Kd.R (Kd.int .u8) 5 w' w.heap.size (fun k_ => some k_ ≠ (s_.1 : Value).ownBlock ∧ some k_ ≠ (s_.2.1 : Value).ownBlock ∧ some k_ ≠ (s_.2.2.1 : Value).ownBlock ∧ some k_ ≠ (s_.2.2.2 : Value).ownBlock ∧ some k_ ≠ (.slice Ao45 x11_2.length co45 : Value).ownBlock) (.slice Ao46 x12_2.length co46) x12_2) ∧ (Kd.R Kd.string 9 w' w.heap.size (fun _ => True) u13 x13_2) ∧ (w'.heap[gb242]? = some (.cells #[.slice A1_0 l1_0.length c1_0, .slice A1_1 l1_1.length c1_1] 47 (0, 0))) ∧ (w'.heap[gb245]? = some (.cells #[.int .u8 ((rd_T48 l0 x52_2).f0), .int .u8 ((rd_T48 l0 x52_2).f1)] 48 (0, 0))) ∧ (Below w.heap.size w w')) ?_ ?_
        rotate_left
        rotate_left
        ·skip
         rintro ⟨v253, v256, v259, v262⟩ w56 ⟨hS_, h0_, h1_, h2_, h3_, h4_, h5_, h6_, h7_, h8_, h9_⟩
         have n0_ := Aside0.mk h0_
         try dsimp only at n0_
         have n1_ := Aside0.mk h1_
         try dsimp only at n1_
         have n2_ := Aside0.mk h2_
         try dsimp only at n2_
         have n3_ := Aside0.mk h3_
         try dsimp only at n3_
         have n4_ := Aside0.mk h4_
         try dsimp only at n4_
         have n5_ := Aside0.mk h5_
         try dsimp only at n5_
         have n6_ := Aside0.mk h6_
         try dsimp only at n6_
         have n7_ := Aside0.mk h7_
         try dsimp only at n7_
         have n8_ := Aside0.mk h8_
         try dsimp only at n8_
         have n9_ := Aside0.mk h9_
         try dsimp only at n9_
         clear HO_9 HO_10 HO_11 HO_12 HO_13 BK242 BK245 HB
         clear h0_ h1_ h2_ h3_ h4_ h5_ h6_ h7_ h8_ h9_
         have HO254 := n0_
         have HO257 := n1_
         have HO260 := n2_
         have HO263 := n3_
         have HO_11 := n4_
         have HO_12 := n5_
         have HO_13 := n6_
         have BK242 := n7_
         have BK245 := n8_
         have HB := n9_
         clear n0_ n1_ n2_ n3_ n4_ n5_ n6_ n7_ n8_ n9_
         have hHeld : w56.cell? ⟨gb245, 0, none⟩ = some (.int .u8 ((rd_T48 l0 x52_2).f0)) ∧ w56.cell? ⟨gb245, 1, none⟩ = some (.int .u8 ((rd_T48 l0 x52_2).f1)) := hS_
         refine norm_ (a' := ?_) ?_ ?_
         rotate_left
         ·simp only [putAll, Act.put, List.setIfInBounds_toArray, List.set_cons_zero, List.set_cons_succ]
          rfl
         refine one_ (i := 16) (N := some 104) #[Y,Y,Y,Y,Y,Y,Y,Y,Y,Y,Y,Y,Y,Y,Y,Y,Y,Z,Y,Y,Y,Y,Z,Z,Z,Z,Z,Z,Z] rfl rfl (one_of HT_.out (by kernel_rfl)) (by decide) (fun K hK => ?_)
         refine Kd.R_lit_step (Kd.int .u8) _ 5 ?hg (N := 104) ?hd (xs := ([Go.bits .xor .u8 ((rd_T48 l0 x52_2).f0) ((rd_T48 l0 x52_2).f1)] : List Int)) (inner := [.int .u8 (Go.bits .xor .u8 ((rd_T48 l0 x52_2).f0) ((rd_T48 l0 x52_2).f1))]) (ok := fun _ => True) (okp := fun _ => True) ?hr ?hp (fun _ hk => hk) trivial (Below.refl _ _) (Nat.le_refl _) (by simp) ?_; (case hd => rfl); (case hg => rfl); (case hr => (go_simp; done)); (case hp => exact (Reps.one (show Kd.M (Kd.int .u8) _ _ _ (Go.bits .xor .u8 ((rd_T48 l0 x52_2).f0) ((rd_T48 l0 x52_2).f1)) [.int .u8 (Go.bits .xor .u8 ((rd_T48 l0 x52_2).f0) ((rd_T48 l0 x52_2).f1))] from rfl) (Reps.none _ _)))
         intro v265 w57 ho58 hb hg_ hnew_
         clear hg_ hnew_
         (rw [← Ny264.out] at ho58)
         have n0_ := Aside0.mk (zj_ HO_11.out (zk_ ho58) hb)
         have n1_ := Aside0.mk (zj_ HO_12.out (zk_ ho58) hb)
         have n2_ := Aside0.mk (Kd.R_below HO_13.out hb)
         have n3_ := Aside0.mk (zj_ HO254.out (zk_ ho58) hb)
         have n4_ := Aside0.mk (zj_ HO257.out (zk_ ho58) hb)
         have n5_ := Aside0.mk (zj_ HO260.out (zk_ ho58) hb)
         have n6_ := Aside0.mk (zj_ HO263.out (zk_ ho58) hb)
         have n7_ := Aside0.mk (zg_ (zh_ (zh_ (zh_ (zh_ (zh_ (zh_ ho58 (zi_ HO_11.out)) (zi_ HO_12.out)) (zi_ HO254.out)) (zi_ HO257.out)) (zi_ HO260.out)) (zi_ HO263.out)) (zw_ (by repeat (((with_reducible (exact HB.out)))))))
         have n8_ := Aside0.mk (zq_ BK242.out hb)
         have n9_ := Aside0.mk (zq_ BK245.out hb)
         have n10_ := Aside0.mk (zv_ (by repeat (((with_reducible (exact HB.out))))) hb)
         clear HO_11 HO_12 HO_13 HO254 HO257 HO260 HO263 BK242 BK245 HB
         revert n0_ n1_ n2_ n3_ n4_ n5_ n6_ n7_ n8_ n9_ n10_
         intro HO_11 HO_12 HO_13 HO254 HO257 HO260 HO263 HO266 BK242 BK245 HB
         clear hb ho58
         refine hK.out _ _ ⟨(blk_cell BK245.out 0).trans rfl, (blk_cell BK245.out 1).trans rfl⟩ (fun hHeld => ?_)
         clear hK K
         refine norm_ (a' := ?_) ?_ ?_
         rotate_left
         ·show Act.put _ (some 104) _ = _
          simp only [Act.put, zA_, zB_, zC_, i64_w, i32_w]
          rfl
         exact norm_ (by (simp only [putAll, Act.put, List.setIfInBounds_toArray, List.set_cons_zero, List.set_cons_succ]; done)) (hJ3_4_8_9_16 (v253, v256, v259, v262, v265) _ ⟨hHeld, (by exact zd_ HO254.out (fun _ hk => ⟨hk.1.1, ⟨hk.1.2.1, ⟨hk.1.2.2.1, ⟨hk.2, ⟨hk.1.2.2.2.1, hk.1.2.2.2.2⟩⟩⟩⟩⟩)), (by exact zd_ HO257.out (fun _ hk => ⟨hk.1.1, ⟨hk.1.2.1, ⟨hk.1.2.2.1, ⟨hk.2, ⟨hk.1.2.2.2.1, hk.1.2.2.2.2⟩⟩⟩⟩⟩)), (by exact zd_ HO260.out (fun _ hk => ⟨hk.1.1, ⟨hk.1.2.1, ⟨hk.1.2.2.1, ⟨hk.2, ⟨hk.1.2.2.2.1, hk.1.2.2.2.2⟩⟩⟩⟩⟩)), (by exact zd_ HO263.out (fun _ hk => ⟨hk.1.1, ⟨hk.1.2.1, ⟨hk.1.2.2.1, ⟨hk.2, ⟨hk.1.2.2.2.1, hk.1.2.2.2.2⟩⟩⟩⟩⟩)), (by exact zd_ HO266.out (fun _ hk => ⟨hk.1.1.1.2, ⟨hk.1.1.2, ⟨hk.1.2, ⟨hk.2, ⟨hk.1.1.1.1.1.2, hk.1.1.1.1.2⟩⟩⟩⟩⟩)), (by exact zd_ HO_11.out (fun _ hk => ⟨hk.1.1, ⟨hk.1.2.1, ⟨hk.1.2.2.1, ⟨hk.1.2.2.2.1, ⟨hk.2, hk.1.2.2.2.2⟩⟩⟩⟩⟩)), (by exact zd_ HO_12.out (fun _ hk => ⟨hk.1.1, ⟨hk.1.2.1, ⟨hk.1.2.2.1, ⟨hk.1.2.2.2.1, ⟨hk.2, hk.1.2.2.2.2⟩⟩⟩⟩⟩)), HO_13.out, BK242.out, BK245.out, (by repeat (((with_reducible (exact HB.out)))))⟩)
        intro hJ3_4_8_9
        refine join_ (σ := Value × Value × Value × Value) 9 #[Y,Y,Y,Y,Y,Y,Y,Y,Y,Z,Y,Y,Y,Y,Y,Y,Y,Z,Y,Y,Y,Y,Z,Z,Z,Z,Z,Z,Z] (fun s_ => [(91, s_.1), (92, s_.2.1), (96, s_.2.2.1), (104, s_.2.2.2)]) (fun s_ w' => (w'.cell? ⟨gb245, 0, none⟩ = some (.int .u8 ((rd_T48 l0 x52_2).f0)) ∧ w'.cell? ⟨gb245, 1, none⟩ = some (.int .u8 ((rd_T48 l0 x52_2).f1))) ∧ (Kd.R (Kd.int .u8) 5 w' w.heap.size (fun k_ => some k_ ≠ (s_.2.1 : Value).ownBlock ∧ some k_ ≠ (s_.2.2.1 : Value).ownBlock ∧ some k_ ≠ (s_.2.2.2 : Value).ownBlock ∧ some k_ ≠ (.slice Ao44 x10_2.length co44 : Value).ownBlock ∧ some k_ ≠ (.slice Ao45 x11_2.length co45 : Value).ownBlock ∧ some k_ ≠ (.slice Ao46 x12_2.length co46 : Value).ownBlock) s_.1 y252) ∧ (Kd.R (Kd.int .u8) 5 w' w.heap.size (fun k_ => some k_ ≠ (s_.1 : Value).ownBlock ∧ some k_ ≠ (s_.2.2.1 : Value).ownBlock ∧ some k_ ≠ (s_.2.2.2 : Value).ownBlock ∧ some k_ ≠ (.slice Ao44 x10_2.length co44 : Value).ownBlock ∧ some k_ ≠ (.slice Ao45 x11_2.length co45 : Value).ownBlock ∧ some k_ ≠ (.slice Ao46 x12_2.length co46 : Value).ownBlock) s_.2.1 y255) ∧ (Kd.R (Kd.int .u8) 5 w' w.heap.size (fun k_ => some k_ ≠ (s_.1 : Value).ownBlock ∧ some k_ ≠ (s_.2.1 : Value).ownBlock ∧ some k_ ≠ (s_.2.2.2 : Value).ownBlock ∧ some k_ ≠ (.slice Ao44 x10_2.length co44 : Value).ownBlock ∧ some k_ ≠ (.slice Ao45 x11_2.length co45 : Value).ownBlock ∧ some k_ ≠ (.slice Ao46 x12_2.length co46 : Value).ownBlock) s_.2.2.1 y258) ∧ (Kd.R (Kd.int .u8) 5 w' w.heap.size (fun k_ => some k_ ≠ (s_.1 : Value).ownBlock ∧ some k_ ≠ (s_.2.1 : Value).ownBlock ∧ some k_ ≠ (s_.2.2.1 : Value).ownBlock ∧ some k_ ≠ (.slice Ao44 x10_2.length co44 : Value).ownBlock ∧ some k_ ≠ (.slice Ao45 x11_2.length co45 : Value).ownBlock ∧ some k_ ≠ (.slice Ao46 x12_2.length co46 : Value).ownBlock) s_.2.2.2 y264) ∧ (Kd.R (Kd.int .u8) 5 w' w.heap.size (fun k_ => some k_ ≠ (s_.1 : Value).ownBlock ∧ some k_ ≠ (s_.2.1 : Value).ownBlock ∧ some k_ ≠ (s_.2.2.1 : Value).ownBlock ∧ some k_ ≠ (s_.2.2.2 : Value).ownBlock ∧ some k_ ≠ (.slice Ao45 x11_2.length co45 : Value).ownBlock ∧ some k_ ≠ (.slice Ao46 x12_2.length co46 : Value).ownBlock) (.slice Ao44 x10_2.length co44) x10_2) ∧ (Kd.R (Kd.int .u8) 5 w' w.heap.size (fun k_ => some k_ ≠ (s_.1 : Value).ownBlock ∧ some k_ ≠ (s_.2.1 : Value).ownBlock ∧ some k_ ≠ (s_.2.2.1 : Value).ownBlock ∧ some k_ ≠ (s_.2.2.2 : Value).ownBlock ∧ some k_ ≠ (.slice Ao44 x10_2.length co44 : Value).ownBlock ∧ some k_ ≠ (.slice Ao46 x12_2.length co46 : Value).ownBlock) (.slice Ao45 x11_2.length co45) x11_2) ∧ (Kd.R (Kd.int .u8) 5 w' w.heap.size (fun k_ => some k_ ≠ (s_.1 : Value).ownBlock ∧ some k_ ≠ (s_.2.1 : Value).ownBlock ∧ some k_ ≠ (s_.2.2.1 : Value).ownBlock ∧ some k_ ≠ (s_.2.2.2 : Value).ownBlock ∧ some k_ ≠ (.slice Ao44 x10_2.length co44 : Value).ownBlock ∧ some k_ ≠ (.slice Ao45 x11_2.length co45 : Value).ownBlock) (.slice Ao46 x12_2.length co46) x12_2) ∧ (Kd.R Kd.string 9 w' w.heap.size (fun _ => True) u13 x13_2) ∧ (w'.heap[gb242]? = some (.cells #[.slice A1_0 l1_0.length c1_0, .slice A1_1 l1_1.length c1_1] 47 (0, 0))) ∧ (w'.heap[gb245]? = some (.cells #[.int .u8 ((rd_T48 l0 x52_2).f0), .int .u8 ((rd_T48 l0 x52_2).f1)] 48 (0, 0))) ∧ (Below w.heap.size w w')) ?_ ?_
        rotate_left
        rotate_left
        ·skip
         rintro ⟨v253, v256, v259, v265⟩ w56 ⟨hS_, h0_, h1_, h2_, h3_, h4_, h5_, h6_, h7_, h8_, h9_, h10_⟩
         have n0_ := Aside0.mk h0_
         try dsimp only at n0_
         have n1_ := Aside0.mk h1_
         try dsimp only at n1_
         have n2_ := Aside0.mk h2_
         try dsimp only at n2_
         have n3_ := Aside0.mk h3_
         try dsimp only at n3_
         have n4_ := Aside0.mk h4_
         try dsimp only at n4_
         have n5_ := Aside0.mk h5_
         try dsimp only at n5_
         have n6_ := Aside0.mk h6_
         try dsimp only at n6_
         have n7_ := Aside0.mk h7_
         try dsimp only at n7_
         have n8_ := Aside0.mk h8_
         try dsimp only at n8_
         have n9_ := Aside0.mk h9_
         try dsimp only at n9_
         have n10_ := Aside0.mk h10_
         try dsimp only at n10_
         clear HO_9 HO_10 HO_11 HO_12 HO_13 BK242 BK245 HB
         clear h0_ h1_ h2_ h3_ h4_ h5_ h6_ h7_ h8_ h9_ h10_
         have HO254 := n0_
         have HO257 := n1_
         have HO260 := n2_
         have HO266 := n3_
         have HO_10 := n4_
         have HO_11 := n5_
         have HO_12 := n6_
         have HO_13 := n7_
         have BK242 := n8_
         have BK245 := n9_
         have HB := n10_
         clear n0_ n1_ n2_ n3_ n4_ n5_ n6_ n7_ n8_ n9_ n10_
         have hHeld : w56.cell? ⟨gb245, 0, none⟩ = some (.int .u8 ((rd_T48 l0 x52_2).f0)) ∧ w56.cell? ⟨gb245, 1, none⟩ = some (.int .u8 ((rd_T48 l0 x52_2).f1)) := hS_
         obtain ⟨Ao58, co58, eo58⟩ := Kd.R_slice HO260.out
         (subst eo58)
         refine norm_ (a' := ?_) ?_ ?_
         rotate_left
         ·simp only [putAll, Act.put, List.setIfInBounds_toArray, List.set_cons_zero, List.set_cons_succ]
          rfl
         refine one_ (i := 9) (N := some 97) #[Y,Y,Y,Y,Y,Y,Y,Y,Y,Y,Y,Y,Y,Y,Y,Y,Y,Z,Y,Y,Y,Y,Z,Z,Z,Z,Z,Z,Z] rfl rfl (one_of HT_.out (by kernel_rfl)) (by decide) (fun K hK => ?_)
         refine Kd.R_append_rows_step (Kd.int .u8) (w0 := w) w.heap.size (by rfl) (.tmp 93) (.tmp 96) 36 5 (.int .u8 0) 1 rfl Tryd.underlying36 info5 rfl (by decide) (by omega) (.slice Ao44 x10_2.length co44) x10_2 y258 _ _ _ (fun k_ => some k_ ≠ (.slice Ao45 x11_2.length co45 : Value).ownBlock ∧ some k_ ≠ (.slice Ao46 x12_2.length co46 : Value).ownBlock ∧ some k_ ≠ (v253 : Value).ownBlock ∧ some k_ ≠ (v256 : Value).ownBlock ∧ some k_ ≠ (.slice Ao58 y258.length co58 : Value).ownBlock ∧ some k_ ≠ (v265 : Value).ownBlock) (fun _ => False) rfl rfl ?aO ?aR (fun _ _ h => h) (fun _ h => h.elim) ?aF ?aB ?aS ?aL ?_
         (case aR => repeat ((exact (zl_ HO260.out).2.2)))
         (case aB => exact (by repeat (((with_reducible (exact HB.out))))))
         (case aF => exact (fun k_ hk => ⟨Kd.fresh' (zi_ HO_11.out) k_ hk, Kd.fresh' (zi_ HO_12.out) k_ hk, Kd.fresh' (zi_ HO254.out) k_ hk, Kd.fresh' (zi_ HO257.out) k_ hk, Kd.fresh' (zi_ HO260.out) k_ hk, Kd.fresh' (zi_ HO266.out) k_ hk⟩))
         (case aO => exact (by exact zd_ HO_10.out (fun _ hk => ⟨hk.2.2.2.2.1, ⟨hk.2.2.2.2.2, ⟨hk.1, ⟨hk.2.1, ⟨hk.2.2.1, hk.2.2.2.1⟩⟩⟩⟩⟩)))
         (case aS => exact (zw_ (by repeat (((with_reducible (exact HB.out)))))))
         (case aL => have := LMc34.out; omega)
         intro v262 w57 ho hb hg hat
         rw [← Ny261.out] at ho
         have n0_ := Aside0.mk (Kd.R_after (ok := (fun k_ => some k_ ≠ (.slice Ao46 x12_2.length co46 : Value).ownBlock ∧ some k_ ≠ (v253 : Value).ownBlock ∧ some k_ ≠ (v256 : Value).ownBlock ∧ some k_ ≠ (.slice Ao58 y258.length co58 : Value).ownBlock ∧ some k_ ≠ (v265 : Value).ownBlock)) (by exact zd_ HO_11.out (fun _ hk => ⟨⟨hk.2.2.2.2.2, ⟨hk.1, ⟨hk.2.1, ⟨hk.2.2.1, hk.2.2.2.1⟩⟩⟩⟩, hk.2.2.2.2.1⟩)) hg hat)
         have n1_ := Aside0.mk (Kd.R_after (ok := (fun k_ => some k_ ≠ (.slice Ao45 x11_2.length co45 : Value).ownBlock ∧ some k_ ≠ (v253 : Value).ownBlock ∧ some k_ ≠ (v256 : Value).ownBlock ∧ some k_ ≠ (.slice Ao58 y258.length co58 : Value).ownBlock ∧ some k_ ≠ (v265 : Value).ownBlock)) (by exact zd_ HO_12.out (fun _ hk => ⟨⟨hk.2.2.2.2.2, ⟨hk.1, ⟨hk.2.1, ⟨hk.2.2.1, hk.2.2.2.1⟩⟩⟩⟩, hk.2.2.2.2.1⟩)) hg hat)
         have n2_ := Aside0.mk (Kd.R_over' HO_13.out (Kd.R_typed HO_10.out) (by decide) hg)
         have n3_ := Aside0.mk (blk_grown BK242.out hg (Kd.R_ne HO_10.out BK242.out (by decide)))
         have n4_ := Aside0.mk (blk_grown BK245.out hg (Kd.R_ne HO_10.out BK245.out (by decide)))
         have n5_ := Aside0.mk (Kd.R_after (ok := (fun k_ => some k_ ≠ (.slice Ao45 x11_2.length co45 : Value).ownBlock ∧ some k_ ≠ (.slice Ao46 x12_2.length co46 : Value).ownBlock ∧ some k_ ≠ (v256 : Value).ownBlock ∧ some k_ ≠ (.slice Ao58 y258.length co58 : Value).ownBlock ∧ some k_ ≠ (v265 : Value).ownBlock)) (by exact zd_ HO254.out (fun _ hk => ⟨⟨hk.2.2.2.2.1, ⟨hk.2.2.2.2.2, ⟨hk.1, ⟨hk.2.1, hk.2.2.1⟩⟩⟩⟩, hk.2.2.2.1⟩)) hg hat)
         have n6_ := Aside0.mk (Kd.R_after (ok := (fun k_ => some k_ ≠ (.slice Ao45 x11_2.length co45 : Value).ownBlock ∧ some k_ ≠ (.slice Ao46 x12_2.length co46 : Value).ownBlock ∧ some k_ ≠ (v253 : Value).ownBlock ∧ some k_ ≠ (.slice Ao58 y258.length co58 : Value).ownBlock ∧ some k_ ≠ (v265 : Value).ownBlock)) (by exact zd_ HO257.out (fun _ hk => ⟨⟨hk.2.2.2.2.1, ⟨hk.2.2.2.2.2, ⟨hk.1, ⟨hk.2.1, hk.2.2.1⟩⟩⟩⟩, hk.2.2.2.1⟩)) hg hat)
         have n7_ := Aside0.mk (Kd.R_after (ok := (fun k_ => some k_ ≠ (.slice Ao45 x11_2.length co45 : Value).ownBlock ∧ some k_ ≠ (.slice Ao46 x12_2.length co46 : Value).ownBlock ∧ some k_ ≠ (v253 : Value).ownBlock ∧ some k_ ≠ (v256 : Value).ownBlock ∧ some k_ ≠ (v265 : Value).ownBlock)) (by exact zd_ HO260.out (fun _ hk => ⟨⟨hk.2.2.2.2.1, ⟨hk.2.2.2.2.2, ⟨hk.1, ⟨hk.2.1, hk.2.2.1⟩⟩⟩⟩, hk.2.2.2.1⟩)) hg hat)
         have n8_ := Aside0.mk (Kd.R_after (ok := (fun k_ => some k_ ≠ (.slice Ao45 x11_2.length co45 : Value).ownBlock ∧ some k_ ≠ (.slice Ao46 x12_2.length co46 : Value).ownBlock ∧ some k_ ≠ (v253 : Value).ownBlock ∧ some k_ ≠ (v256 : Value).ownBlock ∧ some k_ ≠ (.slice Ao58 y258.length co58 : Value).ownBlock)) (by exact zd_ HO266.out (fun _ hk => ⟨⟨hk.2.2.2.2.1, ⟨hk.2.2.2.2.2, ⟨hk.1, ⟨hk.2.1, hk.2.2.1⟩⟩⟩⟩, hk.2.2.2.1⟩)) hg hat)
         have n9_ := Aside0.mk (hb)
         have n10_ := Aside0.mk (ho)
         clear HO_11 HO_12 HO_13 BK242 BK245 HO254 HO257 HO260 HO266 HB HO_10
         revert n0_ n1_ n2_ n3_ n4_ n5_ n6_ n7_ n8_ n9_ n10_
         intro HO_11 HO_12 HO_13 BK242 BK245 HO254 HO257 HO260 HO266 HB HO263
         clear ho hb hg hat
         refine hK.out _ _ ⟨(blk_cell BK245.out 0).trans rfl, (blk_cell BK245.out 1).trans rfl⟩ (fun hHeld => ?_)
         clear hK K
         refine norm_ (a' := ?_) ?_ ?_
         rotate_left
         ·show Act.put _ (some 97) _ = _
          simp only [Act.put, zA_, zB_, zC_, i64_w, i32_w]
          rfl
         exact norm_ (by (simp only [putAll, Act.put, List.setIfInBounds_toArray, List.set_cons_zero, List.set_cons_succ]; done)) (hJ3_4_8_9_16 (v253, v256, .slice Ao58 y258.length co58, v262, v265) _ ⟨hHeld, (by exact zd_ HO254.out (fun _ hk => ⟨hk.1.2.2.1, ⟨hk.1.2.2.2.1, ⟨hk.2, ⟨hk.1.2.2.2.2, ⟨hk.1.1, hk.1.2.1⟩⟩⟩⟩⟩)), (by exact zd_ HO257.out (fun _ hk => ⟨hk.1.2.2.1, ⟨hk.1.2.2.2.1, ⟨hk.2, ⟨hk.1.2.2.2.2, ⟨hk.1.1, hk.1.2.1⟩⟩⟩⟩⟩)), (by exact zd_ HO260.out (fun _ hk => ⟨hk.1.2.2.1, ⟨hk.1.2.2.2.1, ⟨hk.2, ⟨hk.1.2.2.2.2, ⟨hk.1.1, hk.1.2.1⟩⟩⟩⟩⟩)), (by exact zd_ HO263.out (fun _ hk => ⟨hk.2.2.1, ⟨hk.2.2.2.1, ⟨hk.2.2.2.2.1, ⟨hk.2.2.2.2.2, ⟨hk.1, hk.2.1⟩⟩⟩⟩⟩)), (by exact zd_ HO266.out (fun _ hk => ⟨hk.1.2.2.1, ⟨hk.1.2.2.2.1, ⟨hk.1.2.2.2.2, ⟨hk.2, ⟨hk.1.1, hk.1.2.1⟩⟩⟩⟩⟩)), (by exact zd_ HO_11.out (fun _ hk => ⟨hk.1.2.1, ⟨hk.1.2.2.1, ⟨hk.1.2.2.2.1, ⟨hk.2, ⟨hk.1.2.2.2.2, hk.1.1⟩⟩⟩⟩⟩)), (by exact zd_ HO_12.out (fun _ hk => ⟨hk.1.2.1, ⟨hk.1.2.2.1, ⟨hk.1.2.2.2.1, ⟨hk.2, ⟨hk.1.2.2.2.2, hk.1.1⟩⟩⟩⟩⟩)), HO_13.out, BK242.out, BK245.out, (by repeat (((with_reducible (exact HB.out)))))⟩)
        intro hJ3_4_8_16
        refine join_ (σ := Value × Value × Value) 10 #[Y,Y,Y,Y,Y,Y,Y,Y,Y,Z,Y,Y,Y,Y,Y,Y,Z,Z,Y,Y,Y,Y,Z,Z,Z,Z,Z,Z,Z] (fun s_ => [(91, s_.1), (92, s_.2.1), (96, s_.2.2)]) (fun s_ w' => (w'.cell? ⟨gb245, 0, none⟩ = some (.int .u8 ((rd_T48 l0 x52_2).f0)) ∧ w'.cell? ⟨gb245, 1, none⟩ = some (.int .u8 ((rd_T48 l0 x52_2).f1))) ∧ (Kd.R (Kd.int .u8) 5 w' w.heap.size (fun k_ => some k_ ≠ (s_.2.1 : Value).ownBlock ∧ some k_ ≠ (s_.2.2 : Value).ownBlock ∧ some k_ ≠ (.slice Ao44 x10_2.length co44 : Value).ownBlock ∧ some k_ ≠ (.slice Ao45 x11_2.length co45 : Value).ownBlock ∧ some k_ ≠ (.slice Ao46 x12_2.length co46 : Value).ownBlock) s_.1 y252) ∧ (Kd.R (Kd.int .u8) 5 w' w.heap.size (fun k_ => some k_ ≠ (s_.1 : Value).ownBlock ∧ some k_ ≠ (s_.2.2 : Value).ownBlock ∧ some k_ ≠ (.slice Ao44 x10_2.length co44 : Value).ownBlock ∧ some k_ ≠ (.slice Ao45 x11_2.length co45 : Value).ownBlock ∧ some k_ ≠ (.slice Ao46 x12_2.length co46 : Value).ownBlock) s_.2.1 y255) ∧ (Kd.R (Kd.int .u8) 5 w' w.heap.size (fun k_ => some k_ ≠ (s_.1 : Value).ownBlock ∧ some k_ ≠ (s_.2.1 : Value).ownBlock ∧ some k_ ≠ (.slice Ao44 x10_2.length co44 : Value).ownBlock ∧ some k_ ≠ (.slice Ao45 x11_2.length co45 : Value).ownBlock ∧ some k_ ≠ (.slice Ao46 x12_2.length co46 : Value).ownBlock) s_.2.2 y258) ∧ (Kd.R (Kd.int .u8) 5 w' w.heap.size (fun k_ => some k_ ≠ (s_.1 : Value).ownBlock ∧ some k_ ≠ (s_.2.1 : Value).ownBlock ∧ some k_ ≠ (s_.2.2 : Value).ownBlock ∧ some k_ ≠ (.slice Ao45 x11_2.length co45 : Value).ownBlock ∧ some k_ ≠ (.slice Ao46 x12_2.length co46 : Value).ownBlock) (.slice Ao44 x10_2.length co44) x10_2) ∧ (Kd.R (Kd.int .u8) 5 w' w.heap.size (fun k_ => some k_ ≠ (s_.1 : Value).ownBlock ∧ some k_ ≠ (s_.2.1 : Value).ownBlock ∧ some k_ ≠ (s_.2.2 : Value).ownBlock ∧ some k_ ≠ (.slice Ao44 x10_2.length co44 : Value).ownBlock ∧ some k_ ≠ (.slice Ao46 x12_2.length co46 : Value).ownBlock) (.slice Ao45 x11_2.length co45) x11_2) ∧ (Kd.R (Kd.int .u8) 5 w' w.heap.size (fun k_ => some k_ ≠ (s_.1 : Value).ownBlock ∧ some k_ ≠ (s_.2.1 : Value).ownBlock ∧ some k_ ≠ (s_.2.2 : Value).ownBlock ∧ some k_ ≠ (.slice Ao44 x10_2.length co44 : Value).ownBlock ∧ some k_ ≠ (.slice Ao45 x11_2.length co45 : Value).ownBlock) (.slice Ao46 x12_2.length co46) x12_2) ∧ (Kd.R Kd.string 9 w' w.heap.size (fun _ => True) u13 x13_2) ∧ (w'.heap[gb242]? = some (.cells #[.slice A1_0 l1_0.length c1_0, .slice A1_1 l1_1.length c1_1] 47 (0, 0))) ∧ (w'.heap[gb245]? = some (.cells #[.int .u8 ((rd_T48 l0 x52_2).f0), .int .u8 ((rd_T48 l0 x52_2).f1)] 48 (0, 0))) ∧ (Below w.heap.size w w')) ?_ ?_
        rotate_left
        rotate_left
        ·skip
         rintro ⟨v253, v256, v259⟩ w54 ⟨hS_, h0_, h1_, h2_, h3_, h4_, h5_, h6_, h7_, h8_, h9_⟩
         have n0_ := Aside0.mk h0_
         try dsimp only at n0_
         have n1_ := Aside0.mk h1_
         try dsimp only at n1_
         have n2_ := Aside0.mk h2_
         try dsimp only at n2_
         have n3_ := Aside0.mk h3_
         try dsimp only at n3_
         have n4_ := Aside0.mk h4_
         try dsimp only at n4_
         have n5_ := Aside0.mk h5_
         try dsimp only at n5_
         have n6_ := Aside0.mk h6_
         try dsimp only at n6_
         have n7_ := Aside0.mk h7_
         try dsimp only at n7_
         have n8_ := Aside0.mk h8_
         try dsimp only at n8_
         have n9_ := Aside0.mk h9_
         try dsimp only at n9_
         clear HO_9 HO_10 HO_11 HO_12 HO_13 BK242 BK245 HB
         clear h0_ h1_ h2_ h3_ h4_ h5_ h6_ h7_ h8_ h9_
         have HO254 := n0_
         have HO257 := n1_
         have HO260 := n2_
         have HO_10 := n3_
         have HO_11 := n4_
         have HO_12 := n5_
         have HO_13 := n6_
         have BK242 := n7_
         have BK245 := n8_
         have HB := n9_
         clear n0_ n1_ n2_ n3_ n4_ n5_ n6_ n7_ n8_ n9_
         have hHeld : w54.cell? ⟨gb245, 0, none⟩ = some (.int .u8 ((rd_T48 l0 x52_2).f0)) ∧ w54.cell? ⟨gb245, 1, none⟩ = some (.int .u8 ((rd_T48 l0 x52_2).f1)) := hS_
         obtain ⟨Ao56, co56, eo56⟩ := Kd.R_slice HO260.out
         (subst eo56)
         refine norm_ (a' := ?_) ?_ ?_
         rotate_left
         ·simp only [putAll, Act.put, List.setIfInBounds_toArray, List.set_cons_zero, List.set_cons_succ]
          rfl
         refine two_ (i := 9) (j := 16) (Ni := some 97) (Nj := some 104) #[Y,Y,Y,Y,Y,Y,Y,Y,Y,Y,Y,Y,Y,Y,Y,Y,Z,Z,Y,Y,Y,Y,Z,Z,Z,Z,Z,Z,Z] #[Y,Y,Y,Y,Y,Y,Y,Y,Y,Z,Y,Y,Y,Y,Y,Y,Y,Z,Y,Y,Y,Y,Z,Z,Z,Z,Z,Z,Z] rfl rfl rfl rfl (two_of HT_.out (by kernel_rfl)) (by decide) (by decide) (fun K hK => ?_) (fun K hK => ?_)
         rotate_left
         ·skip
          refine Kd.R_lit_step (Kd.int .u8) _ 5 ?hg (N := 104) ?hd (xs := ([Go.bits .xor .u8 ((rd_T48 l0 x52_2).f0) ((rd_T48 l0 x52_2).f1)] : List Int)) (inner := [.int .u8 (Go.bits .xor .u8 ((rd_T48 l0 x52_2).f0) ((rd_T48 l0 x52_2).f1))]) (ok := fun _ => True) (okp := fun _ => True) ?hr ?hp (fun _ hk => hk) trivial (Below.refl _ _) (Nat.le_refl _) (by simp) ?_; (case hd => rfl); (case hg => rfl); (case hr => (go_simp; done)); (case hp => exact (Reps.one (show Kd.M (Kd.int .u8) _ _ _ (Go.bits .xor .u8 ((rd_T48 l0 x52_2).f0) ((rd_T48 l0 x52_2).f1)) [.int .u8 (Go.bits .xor .u8 ((rd_T48 l0 x52_2).f0) ((rd_T48 l0 x52_2).f1))] from rfl) (Reps.none _ _)))
          intro v265 w55 ho56 hb hg_ hnew_
          clear hg_ hnew_
          (rw [← Ny264.out] at ho56)
          have n0_ := Aside0.mk (zj_ HO_10.out (zk_ ho56) hb)
          have n1_ := Aside0.mk (zj_ HO_11.out (zk_ ho56) hb)
          have n2_ := Aside0.mk (zj_ HO_12.out (zk_ ho56) hb)
          have n3_ := Aside0.mk (Kd.R_below HO_13.out hb)
          have n4_ := Aside0.mk (zj_ HO254.out (zk_ ho56) hb)
          have n5_ := Aside0.mk (zj_ HO257.out (zk_ ho56) hb)
          have n6_ := Aside0.mk (zj_ HO260.out (zk_ ho56) hb)
          have n7_ := Aside0.mk (zg_ (zh_ (zh_ (zh_ (zh_ (zh_ (zh_ ho56 (zi_ HO_10.out)) (zi_ HO_11.out)) (zi_ HO_12.out)) (zi_ HO254.out)) (zi_ HO257.out)) (zi_ HO260.out)) (zw_ (by repeat (((with_reducible (exact HB.out)))))))
          have n8_ := Aside0.mk (zq_ BK242.out hb)
          have n9_ := Aside0.mk (zq_ BK245.out hb)
          have n10_ := Aside0.mk (zv_ (by repeat (((with_reducible (exact HB.out))))) hb)
          clear HO_10 HO_11 HO_12 HO_13 HO254 HO257 HO260 BK242 BK245 HB
          revert n0_ n1_ n2_ n3_ n4_ n5_ n6_ n7_ n8_ n9_ n10_
          intro HO_10 HO_11 HO_12 HO_13 HO254 HO257 HO260 HO266 BK242 BK245 HB
          clear hb ho56
          refine hK.out _ _ ⟨(blk_cell BK245.out 0).trans rfl, (blk_cell BK245.out 1).trans rfl⟩ (fun hHeld => ?_)
          clear hK K
          refine norm_ (a' := ?_) ?_ ?_
          rotate_left
          ·show Act.put _ (some 104) _ = _
           simp only [Act.put, zA_, zB_, zC_, i64_w, i32_w]
           rfl
          exact norm_ (by (simp only [putAll, Act.put, List.setIfInBounds_toArray, List.set_cons_zero, List.set_cons_succ]; done)) (hJ3_4_8_16 (v253, v256, (.slice Ao56 y258.length co56), v265) _ ⟨hHeld, (by exact zd_ HO254.out (fun _ hk => ⟨hk.1.1, ⟨hk.1.2.1, ⟨hk.2, ⟨hk.1.2.2.1, ⟨hk.1.2.2.2.1, hk.1.2.2.2.2⟩⟩⟩⟩⟩)), (by exact zd_ HO257.out (fun _ hk => ⟨hk.1.1, ⟨hk.1.2.1, ⟨hk.2, ⟨hk.1.2.2.1, ⟨hk.1.2.2.2.1, hk.1.2.2.2.2⟩⟩⟩⟩⟩)), (by exact zd_ HO260.out (fun _ hk => ⟨hk.1.1, ⟨hk.1.2.1, ⟨hk.2, ⟨hk.1.2.2.1, ⟨hk.1.2.2.2.1, hk.1.2.2.2.2⟩⟩⟩⟩⟩)), (by exact zd_ HO266.out (fun _ hk => ⟨hk.1.1.2, ⟨hk.1.2, ⟨hk.2, ⟨hk.1.1.1.1.1.2, ⟨hk.1.1.1.1.2, hk.1.1.1.2⟩⟩⟩⟩⟩)), (by exact zd_ HO_10.out (fun _ hk => ⟨hk.1.1, ⟨hk.1.2.1, ⟨hk.1.2.2.1, ⟨hk.2, ⟨hk.1.2.2.2.1, hk.1.2.2.2.2⟩⟩⟩⟩⟩)), (by exact zd_ HO_11.out (fun _ hk => ⟨hk.1.1, ⟨hk.1.2.1, ⟨hk.1.2.2.1, ⟨hk.2, ⟨hk.1.2.2.2.1, hk.1.2.2.2.2⟩⟩⟩⟩⟩)), (by exact zd_ HO_12.out (fun _ hk => ⟨hk.1.1, ⟨hk.1.2.1, ⟨hk.1.2.2.1, ⟨hk.2, ⟨hk.1.2.2.2.1, hk.1.2.2.2.2⟩⟩⟩⟩⟩)), HO_13.out, BK242.out, BK245.out, (by repeat (((with_reducible (exact HB.out)))))⟩)
         skip
         refine Kd.R_append_rows_step (Kd.int .u8) (w0 := w) w.heap.size (by rfl) (.tmp 93) (.tmp 96) 36 5 (.int .u8 0) 1 rfl Tryd.underlying36 info5 rfl (by decide) (by omega) (.slice Ao44 x10_2.length co44) x10_2 y258 _ _ _ (fun k_ => some k_ ≠ (.slice Ao45 x11_2.length co45 : Value).ownBlock ∧ some k_ ≠ (.slice Ao46 x12_2.length co46 : Value).ownBlock ∧ some k_ ≠ (v253 : Value).ownBlock ∧ some k_ ≠ (v256 : Value).ownBlock ∧ some k_ ≠ (.slice Ao56 y258.length co56 : Value).ownBlock) (fun _ => False) rfl rfl ?aO ?aR (fun _ _ h => h) (fun _ h => h.elim) ?aF ?aB ?aS ?aL ?_
         (case aR => repeat ((exact (zl_ HO260.out).2.2)))
         (case aB => exact (by repeat (((with_reducible (exact HB.out))))))
         (case aF => exact (fun k_ hk => ⟨Kd.fresh' (zi_ HO_11.out) k_ hk, Kd.fresh' (zi_ HO_12.out) k_ hk, Kd.fresh' (zi_ HO254.out) k_ hk, Kd.fresh' (zi_ HO257.out) k_ hk, Kd.fresh' (zi_ HO260.out) k_ hk⟩))
         (case aO => exact (by exact zd_ HO_10.out (fun _ hk => ⟨hk.2.2.2.1, ⟨hk.2.2.2.2, ⟨hk.1, ⟨hk.2.1, hk.2.2.1⟩⟩⟩⟩)))
         (case aS => exact (zw_ (by repeat (((with_reducible (exact HB.out)))))))
         (case aL => have := LMc34.out; omega)
         intro v262 w55 ho hb hg hat
         rw [← Ny261.out] at ho
         have n0_ := Aside0.mk (Kd.R_after (ok := (fun k_ => some k_ ≠ (.slice Ao46 x12_2.length co46 : Value).ownBlock ∧ some k_ ≠ (v253 : Value).ownBlock ∧ some k_ ≠ (v256 : Value).ownBlock ∧ some k_ ≠ (.slice Ao56 y258.length co56 : Value).ownBlock)) (by exact zd_ HO_11.out (fun _ hk => ⟨⟨hk.2.2.2.2, ⟨hk.1, ⟨hk.2.1, hk.2.2.1⟩⟩⟩, hk.2.2.2.1⟩)) hg hat)
         have n1_ := Aside0.mk (Kd.R_after (ok := (fun k_ => some k_ ≠ (.slice Ao45 x11_2.length co45 : Value).ownBlock ∧ some k_ ≠ (v253 : Value).ownBlock ∧ some k_ ≠ (v256 : Value).ownBlock ∧ some k_ ≠ (.slice Ao56 y258.length co56 : Value).ownBlock)) (by exact zd_ HO_12.out (fun _ hk => ⟨⟨hk.2.2.2.2, ⟨hk.1, ⟨hk.2.1, hk.2.2.1⟩⟩⟩, hk.2.2.2.1⟩)) hg hat)
         have n2_ := Aside0.mk (Kd.R_over' HO_13.out (Kd.R_typed HO_10.out) (by decide) hg)
         have n3_ := Aside0.mk (blk_grown BK242.out hg (Kd.R_ne HO_10.out BK242.out (by decide)))
         have n4_ := Aside0.mk (blk_grown BK245.out hg (Kd.R_ne HO_10.out BK245.out (by decide)))
         have n5_ := Aside0.mk (Kd.R_after (ok := (fun k_ => some k_ ≠ (.slice Ao45 x11_2.length co45 : Value).ownBlock ∧ some k_ ≠ (.slice Ao46 x12_2.length co46 : Value).ownBlock ∧ some k_ ≠ (v256 : Value).ownBlock ∧ some k_ ≠ (.slice Ao56 y258.length co56 : Value).ownBlock)) (by exact zd_ HO254.out (fun _ hk => ⟨⟨hk.2.2.2.1, ⟨hk.2.2.2.2, ⟨hk.1, hk.2.1⟩⟩⟩, hk.2.2.1⟩)) hg hat)
         have n6_ := Aside0.mk (Kd.R_after (ok := (fun k_ => some k_ ≠ (.slice Ao45 x11_2.length co45 : Value).ownBlock ∧ some k_ ≠ (.slice Ao46 x12_2.length co46 : Value).ownBlock ∧ some k_ ≠ (v253 : Value).ownBlock ∧ some k_ ≠ (.slice Ao56 y258.length co56 : Value).ownBlock)) (by exact zd_ HO257.out (fun _ hk => ⟨⟨hk.2.2.2.1, ⟨hk.2.2.2.2, ⟨hk.1, hk.2.1⟩⟩⟩, hk.2.2.1⟩)) hg hat)
         have n7_ := Aside0.mk (Kd.R_after (ok := (fun k_ => some k_ ≠ (.slice Ao45 x11_2.length co45 : Value).ownBlock ∧ some k_ ≠ (.slice Ao46 x12_2.length co46 : Value).ownBlock ∧ some k_ ≠ (v253 : Value).ownBlock ∧ some k_ ≠ (v256 : Value).ownBlock)) (by exact zd_ HO260.out (fun _ hk => ⟨⟨hk.2.2.2.1, ⟨hk.2.2.2.2, ⟨hk.1, hk.2.1⟩⟩⟩, hk.2.2.1⟩)) hg hat)
         have n8_ := Aside0.mk (hb)
         have n9_ := Aside0.mk (ho)
         clear HO_11 HO_12 HO_13 BK242 BK245 HO254 HO257 HO260 HB HO_10
         revert n0_ n1_ n2_ n3_ n4_ n5_ n6_ n7_ n8_ n9_
         intro HO_11 HO_12 HO_13 BK242 BK245 HO254 HO257 HO260 HB HO263
         clear ho hb hg hat
         refine hK.out _ _ ⟨(blk_cell BK245.out 0).trans rfl, (blk_cell BK245.out 1).trans rfl⟩ (fun hHeld => ?_)
         clear hK K
         refine norm_ (a' := ?_) ?_ ?_
         rotate_left
         ·show Act.put _ (some 97) _ = _
          simp only [Act.put, zA_, zB_, zC_, i64_w, i32_w]
          rfl
         exact norm_ (by (simp only [putAll, Act.put, List.setIfInBounds_toArray, List.set_cons_zero, List.set_cons_succ]; done)) (hJ3_4_8_9 (v253, v256, .slice Ao56 y258.length co56, v262) _ ⟨hHeld, (by exact zd_ HO254.out (fun _ hk => ⟨hk.1.2.2.1, ⟨hk.1.2.2.2, ⟨hk.2, ⟨hk.1.1, hk.1.2.1⟩⟩⟩⟩)), (by exact zd_ HO257.out (fun _ hk => ⟨hk.1.2.2.1, ⟨hk.1.2.2.2, ⟨hk.2, ⟨hk.1.1, hk.1.2.1⟩⟩⟩⟩)), (by exact zd_ HO260.out (fun _ hk => ⟨hk.1.2.2.1, ⟨hk.1.2.2.2, ⟨hk.2, ⟨hk.1.1, hk.1.2.1⟩⟩⟩⟩)), (by exact zd_ HO263.out (fun _ hk => ⟨hk.2.2.1, ⟨hk.2.2.2.1, ⟨hk.2.2.2.2, ⟨hk.1, hk.2.1⟩⟩⟩⟩)), (by exact zd_ HO_11.out (fun _ hk => ⟨hk.1.2.1, ⟨hk.1.2.2.1, ⟨hk.1.2.2.2, ⟨hk.2, hk.1.1⟩⟩⟩⟩)), (by exact zd_ HO_12.out (fun _ hk => ⟨hk.1.2.1, ⟨hk.1.2.2.1, ⟨hk.1.2.2.2, ⟨hk.2, hk.1.1⟩⟩⟩⟩)), HO_13.out, BK242.out, BK245.out, (by repeat (((with_reducible (exact HB.out)))))⟩)
        intro hJ3_4_8
        refine join_ (σ := Value × Value × Value) 10 #[Y,Y,Y,Y,Y,Y,Y,Y,Z,Z,Y,Y,Y,Y,Y,Y,Y,Z,Y,Y,Y,Y,Z,Z,Z,Z,Z,Z,Z] (fun s_ => [(91, s_.1), (92, s_.2.1), (104, s_.2.2)]) (fun s_ w' => (w'.cell? ⟨gb245, 0, none⟩ = some (.int .u8 ((rd_T48 l0 x52_2).f0)) ∧ w'.cell? ⟨gb245, 1, none⟩ = some (.int .u8 ((rd_T48 l0 x52_2).f1))) ∧ (Kd.R (Kd.int .u8) 5 w' w.heap.size (fun k_ => some k_ ≠ (s_.2.1 : Value).ownBlock ∧ some k_ ≠ (s_.2.2 : Value).ownBlock ∧ some k_ ≠ (.slice Ao44 x10_2.length co44 : Value).ownBlock ∧ some k_ ≠ (.slice Ao45 x11_2.length co45 : Value).ownBlock ∧ some k_ ≠ (.slice Ao46 x12_2.length co46 : Value).ownBlock) s_.1 y252) ∧ (Kd.R (Kd.int .u8) 5 w' w.heap.size (fun k_ => some k_ ≠ (s_.1 : Value).ownBlock ∧ some k_ ≠ (s_.2.2 : Value).ownBlock ∧ some k_ ≠ (.slice Ao44 x10_2.length co44 : Value).ownBlock ∧ some k_ ≠ (.slice Ao45 x11_2.length co45 : Value).ownBlock ∧ some k_ ≠ (.slice Ao46 x12_2.length co46 : Value).ownBlock) s_.2.1 y255) ∧ (Kd.R (Kd.int .u8) 5 w' w.heap.size (fun k_ => some k_ ≠ (s_.1 : Value).ownBlock ∧ some k_ ≠ (s_.2.1 : Value).ownBlock ∧ some k_ ≠ (.slice Ao44 x10_2.length co44 : Value).ownBlock ∧ some k_ ≠ (.slice Ao45 x11_2.length co45 : Value).ownBlock ∧ some k_ ≠ (.slice Ao46 x12_2.length co46 : Value).ownBlock) s_.2.2 y264) ∧ (Kd.R (Kd.int .u8) 5 w' w.heap.size (fun k_ => some k_ ≠ (s_.1 : Value).ownBlock ∧ some k_ ≠ (s_.2.1 : Value).ownBlock ∧ some k_ ≠ (s_.2.2 : Value).ownBlock ∧ some k_ ≠ (.slice Ao45 x11_2.length co45 : Value).ownBlock ∧ some k_ ≠ (.slice Ao46 x12_2.length co46 : Value).ownBlock) (.slice Ao44 x10_2.length co44) x10_2) ∧ (Kd.R (Kd.int .u8) 5 w' w.heap.size (fun k_ => some k_ ≠ (s_.1 : Value).ownBlock ∧ some k_ ≠ (s_.2.1 : Value).ownBlock ∧ some k_ ≠ (s_.2.2 : Value).ownBlock ∧ some k_ ≠ (.slice Ao44 x10_2.length co44 : Value).ownBlock ∧ some k_ ≠ (.slice Ao46 x12_2.length co46 : Value).ownBlock) (.slice Ao45 x11_2.length co45) x11_2) ∧ (Kd.R (Kd.int .u8) 5 w' w.heap.size (fun k_ => some k_ ≠ (s_.1 : Value).ownBlock ∧ some k_ ≠ (s_.2.1 : Value).ownBlock ∧ some k_ ≠ (s_.2.2 : Value).ownBlock ∧ some k_ ≠ (.slice Ao44 x10_2.length co44 : Value).ownBlock ∧ some k_ ≠ (.slice Ao45 x11_2.length co45 : Value).ownBlock) (.slice Ao46 x12_2.length co46) x12_2) ∧ (Kd.R Kd.string 9 w' w.heap.size (fun _ => True) u13 x13_2) ∧ (w'.heap[gb242]? = some (.cells #[.slice A1_0 l1_0.length c1_0, .slice A1_1 l1_1.length c1_1] 47 (0, 0))) ∧ (w'.heap[gb245]? = some (.cells #[.int .u8 ((rd_T48 l0 x52_2).f0), .int .u8 ((rd_T48 l0 x52_2).f1)] 48 (0, 0))) ∧ (Below w.heap.size w w')) ?_ ?_
        rotate_left
        rotate_left
        ·skip
         rintro ⟨v253, v256, v265⟩ w54 ⟨hS_, h0_, h1_, h2_, h3_, h4_, h5_, h6_, h7_, h8_, h9_⟩
         have n0_ := Aside0.mk h0_
         try dsimp only at n0_
         have n1_ := Aside0.mk h1_
         try dsimp only at n1_
         have n2_ := Aside0.mk h2_
         try dsimp only at n2_
         have n3_ := Aside0.mk h3_
         try dsimp only at n3_
         have n4_ := Aside0.mk h4_
         try dsimp only at n4_
         have n5_ := Aside0.mk h5_
         try dsimp only at n5_
         have n6_ := Aside0.mk h6_
         try dsimp only at n6_
         have n7_ := Aside0.mk h7_
         try dsimp only at n7_
         have n8_ := Aside0.mk h8_
         try dsimp only at n8_
         have n9_ := Aside0.mk h9_
         try dsimp only at n9_
         clear HO_9 HO_10 HO_11 HO_12 HO_13 BK242 BK245 HB
         clear h0_ h1_ h2_ h3_ h4_ h5_ h6_ h7_ h8_ h9_
         have HO254 := n0_
         have HO257 := n1_
         have HO266 := n2_
         have HO_10 := n3_
         have HO_11 := n4_
         have HO_12 := n5_
         have HO_13 := n6_
         have BK242 := n7_
         have BK245 := n8_
         have HB := n9_
         clear n0_ n1_ n2_ n3_ n4_ n5_ n6_ n7_ n8_ n9_
         have hHeld : w54.cell? ⟨gb245, 0, none⟩ = some (.int .u8 ((rd_T48 l0 x52_2).f0)) ∧ w54.cell? ⟨gb245, 1, none⟩ = some (.int .u8 ((rd_T48 l0 x52_2).f1)) := hS_
         refine norm_ (a' := ?_) ?_ ?_
         rotate_left
         ·simp only [putAll, Act.put, List.setIfInBounds_toArray, List.set_cons_zero, List.set_cons_succ]
          rfl
         refine one_ (i := 8) (N := some 96) #[Y,Y,Y,Y,Y,Y,Y,Y,Y,Z,Y,Y,Y,Y,Y,Y,Y,Z,Y,Y,Y,Y,Z,Z,Z,Z,Z,Z,Z] rfl rfl (one_of HT_.out (by kernel_rfl)) (by decide) (fun K hK => ?_)
         refine Kd.R_lit_step (Kd.int .u8) _ 5 ?hg (N := 96) ?hd (xs := ([((rd_T48 l0 x52_2).f1)] : List Int)) (inner := [.int .u8 ((rd_T48 l0 x52_2).f1)]) (ok := fun _ => True) (okp := fun _ => True) ?hr ?hp (fun _ hk => hk) trivial (Below.refl _ _) (Nat.le_refl _) (by simp) ?_; (case hd => rfl); (case hg => rfl); (case hr => (go_simp; done)); (case hp => exact (Reps.one (show Kd.M (Kd.int .u8) _ _ _ ((rd_T48 l0 x52_2).f1) [.int .u8 ((rd_T48 l0 x52_2).f1)] from rfl) (Reps.none _ _)))
         intro v259 w55 ho56 hb hg_ hnew_
         clear hg_ hnew_
         (rw [← Ny258.out] at ho56)
         have n0_ := Aside0.mk (zj_ HO_10.out (zk_ ho56) hb)
         have n1_ := Aside0.mk (zj_ HO_11.out (zk_ ho56) hb)
         have n2_ := Aside0.mk (zj_ HO_12.out (zk_ ho56) hb)
         have n3_ := Aside0.mk (Kd.R_below HO_13.out hb)
         have n4_ := Aside0.mk (zj_ HO254.out (zk_ ho56) hb)
         have n5_ := Aside0.mk (zj_ HO257.out (zk_ ho56) hb)
         have n6_ := Aside0.mk (zj_ HO266.out (zk_ ho56) hb)
         have n7_ := Aside0.mk (zg_ (zh_ (zh_ (zh_ (zh_ (zh_ (zh_ ho56 (zi_ HO_10.out)) (zi_ HO_11.out)) (zi_ HO_12.out)) (zi_ HO254.out)) (zi_ HO257.out)) (zi_ HO266.out)) (zw_ (by repeat (((with_reducible (exact HB.out)))))))
         have n8_ := Aside0.mk (zq_ BK242.out hb)
         have n9_ := Aside0.mk (zq_ BK245.out hb)
         have n10_ := Aside0.mk (zv_ (by repeat (((with_reducible (exact HB.out))))) hb)
         clear HO_10 HO_11 HO_12 HO_13 HO254 HO257 HO266 BK242 BK245 HB
         revert n0_ n1_ n2_ n3_ n4_ n5_ n6_ n7_ n8_ n9_ n10_
         intro HO_10 HO_11 HO_12 HO_13 HO254 HO257 HO266 HO260 BK242 BK245 HB
         clear hb ho56
         refine hK.out _ _ ⟨(blk_cell BK245.out 0).trans rfl, (blk_cell BK245.out 1).trans rfl⟩ (fun hHeld => ?_)
         clear hK K
         refine norm_ (a' := ?_) ?_ ?_
         rotate_left
         ·show Act.put _ (some 96) _ = _
          simp only [Act.put, zA_, zB_, zC_, i64_w, i32_w]
          rfl
         exact norm_ (by (simp only [putAll, Act.put, List.setIfInBounds_toArray, List.set_cons_zero, List.set_cons_succ]; done)) (hJ3_4_8_16 (v253, v256, v259, v265) _ ⟨hHeld, (by exact zd_ HO254.out (fun _ hk => ⟨hk.1.1, ⟨hk.2, ⟨hk.1.2.1, ⟨hk.1.2.2.1, ⟨hk.1.2.2.2.1, hk.1.2.2.2.2⟩⟩⟩⟩⟩)), (by exact zd_ HO257.out (fun _ hk => ⟨hk.1.1, ⟨hk.2, ⟨hk.1.2.1, ⟨hk.1.2.2.1, ⟨hk.1.2.2.2.1, hk.1.2.2.2.2⟩⟩⟩⟩⟩)), (by exact zd_ HO260.out (fun _ hk => ⟨hk.1.1.2, ⟨hk.1.2, ⟨hk.2, ⟨hk.1.1.1.1.1.2, ⟨hk.1.1.1.1.2, hk.1.1.1.2⟩⟩⟩⟩⟩)), (by exact zd_ HO266.out (fun _ hk => ⟨hk.1.1, ⟨hk.1.2.1, ⟨hk.2, ⟨hk.1.2.2.1, ⟨hk.1.2.2.2.1, hk.1.2.2.2.2⟩⟩⟩⟩⟩)), (by exact zd_ HO_10.out (fun _ hk => ⟨hk.1.1, ⟨hk.1.2.1, ⟨hk.2, ⟨hk.1.2.2.1, ⟨hk.1.2.2.2.1, hk.1.2.2.2.2⟩⟩⟩⟩⟩)), (by exact zd_ HO_11.out (fun _ hk => ⟨hk.1.1, ⟨hk.1.2.1, ⟨hk.2, ⟨hk.1.2.2.1, ⟨hk.1.2.2.2.1, hk.1.2.2.2.2⟩⟩⟩⟩⟩)), (by exact zd_ HO_12.out (fun _ hk => ⟨hk.1.1, ⟨hk.1.2.1, ⟨hk.2, ⟨hk.1.2.2.1, ⟨hk.1.2.2.2.1, hk.1.2.2.2.2⟩⟩⟩⟩⟩)), HO_13.out, BK242.out, BK245.out, (by repeat (((with_reducible (exact HB.out)))))⟩)
        intro hJ3_4_16
        refine join_ (σ := Value × Value × Value) 10 #[Y,Y,Y,Y,Z,Y,Y,Y,Y,Z,Y,Y,Y,Y,Y,Y,Y,Z,Y,Y,Y,Y,Z,Z,Z,Z,Z,Z,Z] (fun s_ => [(91, s_.1), (96, s_.2.1), (104, s_.2.2)]) (fun s_ w' => (w'.cell? ⟨gb245, 0, none⟩ = some (.int .u8 ((rd_T48 l0 x52_2).f0)) ∧ w'.cell? ⟨gb245, 1, none⟩ = some (.int .u8 ((rd_T48 l0 x52_2).f1))) ∧ (Kd.R (Kd.int .u8) 5 w' w.heap.size (fun k_ => some k_ ≠ (s_.2.1 : Value).ownBlock ∧ some k_ ≠ (s_.2.2 : Value).ownBlock ∧ some k_ ≠ (.slice Ao44 x10_2.length co44 : Value).ownBlock ∧ some k_ ≠ (.slice Ao45 x11_2.length co45 : Value).ownBlock ∧ some k_ ≠ (.slice Ao46 x12_2.length co46 : Value).ownBlock ∧ some k_ ≠ (.slice Ao43 x9_2.length co43 : Value).ownBlock) s_.1 y252) ∧ (Kd.R (Kd.int .u8) 5 w' w.heap.size (fun k_ => some k_ ≠ (s_.1 : Value).ownBlock ∧ some k_ ≠ (s_.2.2 : Value).ownBlock ∧ some k_ ≠ (.slice Ao44 x10_2.length co44 : Value).ownBlock ∧ some k_ ≠ (.slice Ao45 x11_2.length co45 : Value).ownBlock ∧ some k_ ≠ (.slice Ao46 x12_2.length co46 : Value).ownBlock ∧ some k_ ≠ (.slice Ao43 x9_2.length co43 : Value).ownBlock) s_.2.1 y258) ∧ (Kd.R (Kd.int .u8) 5 w' w.heap.size (fun k_ => some k_ ≠ (s_.1 : Value).ownBlock ∧ some k_ ≠ (s_.2.1 : Value).ownBlock ∧ some k_ ≠ (.slice Ao44 x10_2.length co44 : Value).ownBlock ∧ some k_ ≠ (.slice Ao45 x11_2.length co45 : Value).ownBlock ∧ some k_ ≠ (.slice Ao46 x12_2.length co46 : Value).ownBlock ∧ some k_ ≠ (.slice Ao43 x9_2.length co43 : Value).ownBlock) s_.2.2 y264) ∧ (Kd.R (Kd.int .u8) 5 w' w.heap.size (fun k_ => some k_ ≠ (s_.1 : Value).ownBlock ∧ some k_ ≠ (s_.2.1 : Value).ownBlock ∧ some k_ ≠ (s_.2.2 : Value).ownBlock ∧ some k_ ≠ (.slice Ao45 x11_2.length co45 : Value).ownBlock ∧ some k_ ≠ (.slice Ao46 x12_2.length co46 : Value).ownBlock ∧ some k_ ≠ (.slice Ao43 x9_2.length co43 : Value).ownBlock) (.slice Ao44 x10_2.length co44) x10_2) ∧ (Kd.R (Kd.int .u8) 5 w' w.heap.size (fun k_ => some k_ ≠ (s_.1 : Value).ownBlock ∧ some k_ ≠ (s_.2.1 : Value).ownBlock ∧ some k_ ≠ (s_.2.2 : Value).ownBlock ∧ some k_ ≠ (.slice Ao44 x10_2.length co44 : Value).ownBlock ∧ some k_ ≠ (.slice Ao46 x12_2.length co46 : Value).ownBlock ∧ some k_ ≠ (.slice Ao43 x9_2.length co43 : Value).ownBlock) (.slice Ao45 x11_2.length co45) x11_2) ∧ (Kd.R (Kd.int .u8) 5 w' w.heap.size (fun k_ => some k_ ≠ (s_.1 : Value).ownBlock ∧ some k_ ≠ (s_.2.1 : Value).ownBlock ∧ some k_ ≠ (s_.2.2 : Value).ownBlock ∧ some k_ ≠ (.slice Ao44 x10_2.length co44 : Value).ownBlock ∧ some k_ ≠ (.slice Ao45 x11_2.length co45 : Value).ownBlock ∧ some k_ ≠ (.slice Ao43 x9_2.length co43 : Value).ownBlock) (.slice Ao46 x12_2.length co46) x12_2) ∧ (Kd.R Kd.string 9 w' w.heap.size (fun _ => True) u13 x13_2) ∧ (Kd.R (Kd.int .u8) 5 w' w.heap.size (fun k_ => some k_ ≠ (s_.1 : Value).ownBlock ∧ some k_ ≠ (s_.2.1 : Value).ownBlock ∧ some k_ ≠ (s_.2.2 : Value).ownBlock ∧ some k_ ≠ (.slice Ao44 x10_2.length co44 : Value).ownBlock ∧ some k_ ≠ (.slice Ao45 x11_2.length co45 : Value).ownBlock ∧ some k_ ≠ (.slice Ao46 x12_2.length co46 : Value).ownBlock) (.slice Ao43 x9_2.length co43) x9_2) ∧ (w'.heap[gb242]? = some (.cells #[.slice A1_0 l1_0.length c1_0, .slice A1_1 l1_1.length c1_1] 47 (0, 0))) ∧ (w'.heap[gb245]? = some (.cells #[.int .u8 ((rd_T48 l0 x52_2).f0), .int .u8 ((rd_T48 l0 x52_2).f1)] 48 (0, 0))) ∧ (Below w.heap.size w w')) ?_ ?_
        rotate_left
        rotate_left
        ·skip
         rintro ⟨v253, v259, v265⟩ w54 ⟨hS_, h0_, h1_, h2_, h3_, h4_, h5_, h6_, h7_, h8_, h9_, h10_⟩
         have n0_ := Aside0.mk h0_
         try dsimp only at n0_
         have n1_ := Aside0.mk h1_
         try dsimp only at n1_
         have n2_ := Aside0.mk h2_
         try dsimp only at n2_
         have n3_ := Aside0.mk h3_
         try dsimp only at n3_
         have n4_ := Aside0.mk h4_
         try dsimp only at n4_
         have n5_ := Aside0.mk h5_
         try dsimp only at n5_
         have n6_ := Aside0.mk h6_
         try dsimp only at n6_
         have n7_ := Aside0.mk h7_
         try dsimp only at n7_
         have n8_ := Aside0.mk h8_
         try dsimp only at n8_
         have n9_ := Aside0.mk h9_
         try dsimp only at n9_
         have n10_ := Aside0.mk h10_
         try dsimp only at n10_
         clear HO_9 HO_10 HO_11 HO_12 HO_13 BK242 BK245 HB
         clear h0_ h1_ h2_ h3_ h4_ h5_ h6_ h7_ h8_ h9_ h10_
         have HO254 := n0_
         have HO260 := n1_
         have HO266 := n2_
         have HO_10 := n3_
         have HO_11 := n4_
         have HO_12 := n5_
         have HO_13 := n6_
         have HO_9 := n7_
         have BK242 := n8_
         have BK245 := n9_
         have HB := n10_
         clear n0_ n1_ n2_ n3_ n4_ n5_ n6_ n7_ n8_ n9_ n10_
         have hHeld : w54.cell? ⟨gb245, 0, none⟩ = some (.int .u8 ((rd_T48 l0 x52_2).f0)) ∧ w54.cell? ⟨gb245, 1, none⟩ = some (.int .u8 ((rd_T48 l0 x52_2).f1)) := hS_
         obtain ⟨Ao56, co56, eo56⟩ := Kd.R_slice HO254.out
         (subst eo56)
         refine norm_ (a' := ?_) ?_ ?_
         rotate_left
         ·simp only [putAll, Act.put, List.setIfInBounds_toArray, List.set_cons_zero, List.set_cons_succ]
          rfl
         refine one_ (i := 4) (N := some 92) #[Y,Y,Y,Y,Y,Y,Y,Y,Y,Z,Y,Y,Y,Y,Y,Y,Y,Z,Y,Y,Y,Y,Z,Z,Z,Z,Z,Z,Z] rfl rfl (one_of HT_.out (by kernel_rfl)) (by decide) (fun K hK => ?_)
         refine Kd.R_append_rows_step (Kd.int .u8) (w0 := w) w.heap.size (by rfl) (.tmp 88) (.tmp 91) 36 5 (.int .u8 0) 1 rfl Tryd.underlying36 info5 rfl (by decide) (by omega) (.slice Ao43 x9_2.length co43) x9_2 y252 _ _ _ (fun k_ => some k_ ≠ (.slice Ao44 x10_2.length co44 : Value).ownBlock ∧ some k_ ≠ (.slice Ao45 x11_2.length co45 : Value).ownBlock ∧ some k_ ≠ (.slice Ao46 x12_2.length co46 : Value).ownBlock ∧ some k_ ≠ (.slice Ao56 y252.length co56 : Value).ownBlock ∧ some k_ ≠ (v259 : Value).ownBlock ∧ some k_ ≠ (v265 : Value).ownBlock) (fun _ => False) rfl rfl ?aO ?aR (fun _ _ h => h) (fun _ h => h.elim) ?aF ?aB ?aS ?aL ?_
         (case aR => repeat ((exact (zl_ HO254.out).2.2)))
         (case aB => exact (by repeat (((with_reducible (exact HB.out))))))
         (case aF => exact (fun k_ hk => ⟨Kd.fresh' (zi_ HO_10.out) k_ hk, Kd.fresh' (zi_ HO_11.out) k_ hk, Kd.fresh' (zi_ HO_12.out) k_ hk, Kd.fresh' (zi_ HO254.out) k_ hk, Kd.fresh' (zi_ HO260.out) k_ hk, Kd.fresh' (zi_ HO266.out) k_ hk⟩))
         (case aO => exact (by exact zd_ HO_9.out (fun _ hk => ⟨hk.2.2.2.1, ⟨hk.2.2.2.2.1, ⟨hk.2.2.2.2.2, ⟨hk.1, ⟨hk.2.1, hk.2.2.1⟩⟩⟩⟩⟩)))
         (case aS => exact (zw_ (by repeat (((with_reducible (exact HB.out)))))))
         (case aL => have := LMc33.out; omega)
         intro v256 w55 ho hb hg hat
         rw [← Ny255.out] at ho
         have n0_ := Aside0.mk (Kd.R_after (ok := (fun k_ => some k_ ≠ (.slice Ao45 x11_2.length co45 : Value).ownBlock ∧ some k_ ≠ (.slice Ao46 x12_2.length co46 : Value).ownBlock ∧ some k_ ≠ (.slice Ao56 y252.length co56 : Value).ownBlock ∧ some k_ ≠ (v259 : Value).ownBlock ∧ some k_ ≠ (v265 : Value).ownBlock)) (by exact zd_ HO_10.out (fun _ hk => ⟨⟨hk.2.2.2.1, ⟨hk.2.2.2.2.1, ⟨hk.1, ⟨hk.2.1, hk.2.2.1⟩⟩⟩⟩, hk.2.2.2.2.2⟩)) hg hat)
         have n1_ := Aside0.mk (Kd.R_after (ok := (fun k_ => some k_ ≠ (.slice Ao44 x10_2.length co44 : Value).ownBlock ∧ some k_ ≠ (.slice Ao46 x12_2.length co46 : Value).ownBlock ∧ some k_ ≠ (.slice Ao56 y252.length co56 : Value).ownBlock ∧ some k_ ≠ (v259 : Value).ownBlock ∧ some k_ ≠ (v265 : Value).ownBlock)) (by exact zd_ HO_11.out (fun _ hk => ⟨⟨hk.2.2.2.1, ⟨hk.2.2.2.2.1, ⟨hk.1, ⟨hk.2.1, hk.2.2.1⟩⟩⟩⟩, hk.2.2.2.2.2⟩)) hg hat)
         have n2_ := Aside0.mk (Kd.R_after (ok := (fun k_ => some k_ ≠ (.slice Ao44 x10_2.length co44 : Value).ownBlock ∧ some k_ ≠ (.slice Ao45 x11_2.length co45 : Value).ownBlock ∧ some k_ ≠ (.slice Ao56 y252.length co56 : Value).ownBlock ∧ some k_ ≠ (v259 : Value).ownBlock ∧ some k_ ≠ (v265 : Value).ownBlock)) (by exact zd_ HO_12.out (fun _ hk => ⟨⟨hk.2.2.2.1, ⟨hk.2.2.2.2.1, ⟨hk.1, ⟨hk.2.1, hk.2.2.1⟩⟩⟩⟩, hk.2.2.2.2.2⟩)) hg hat)
         have n3_ := Aside0.mk (Kd.R_over' HO_13.out (Kd.R_typed HO_9.out) (by decide) hg)
         have n4_ := Aside0.mk (blk_grown BK242.out hg (Kd.R_ne HO_9.out BK242.out (by decide)))
         have n5_ := Aside0.mk (blk_grown BK245.out hg (Kd.R_ne HO_9.out BK245.out (by decide)))
         have n6_ := Aside0.mk (Kd.R_after (ok := (fun k_ => some k_ ≠ (.slice Ao44 x10_2.length co44 : Value).ownBlock ∧ some k_ ≠ (.slice Ao45 x11_2.length co45 : Value).ownBlock ∧ some k_ ≠ (.slice Ao46 x12_2.length co46 : Value).ownBlock ∧ some k_ ≠ (v259 : Value).ownBlock ∧ some k_ ≠ (v265 : Value).ownBlock)) (by exact zd_ HO254.out (fun _ hk => ⟨⟨hk.2.2.1, ⟨hk.2.2.2.1, ⟨hk.2.2.2.2.1, ⟨hk.1, hk.2.1⟩⟩⟩⟩, hk.2.2.2.2.2⟩)) hg hat)
         have n7_ := Aside0.mk (Kd.R_after (ok := (fun k_ => some k_ ≠ (.slice Ao44 x10_2.length co44 : Value).ownBlock ∧ some k_ ≠ (.slice Ao45 x11_2.length co45 : Value).ownBlock ∧ some k_ ≠ (.slice Ao46 x12_2.length co46 : Value).ownBlock ∧ some k_ ≠ (.slice Ao56 y252.length co56 : Value).ownBlock ∧ some k_ ≠ (v265 : Value).ownBlock)) (by exact zd_ HO260.out (fun _ hk => ⟨⟨hk.2.2.1, ⟨hk.2.2.2.1, ⟨hk.2.2.2.2.1, ⟨hk.1, hk.2.1⟩⟩⟩⟩, hk.2.2.2.2.2⟩)) hg hat)
         have n8_ := Aside0.mk (Kd.R_after (ok := (fun k_ => some k_ ≠ (.slice Ao44 x10_2.length co44 : Value).ownBlock ∧ some k_ ≠ (.slice Ao45 x11_2.length co45 : Value).ownBlock ∧ some k_ ≠ (.slice Ao46 x12_2.length co46 : Value).ownBlock ∧ some k_ ≠ (.slice Ao56 y252.length co56 : Value).ownBlock ∧ some k_ ≠ (v259 : Value).ownBlock)) (by exact zd_ HO266.out (fun _ hk => ⟨⟨hk.2.2.1, ⟨hk.2.2.2.1, ⟨hk.2.2.2.2.1, ⟨hk.1, hk.2.1⟩⟩⟩⟩, hk.2.2.2.2.2⟩)) hg hat)
         have n9_ := Aside0.mk (hb)
         have n10_ := Aside0.mk (ho)
         clear HO_10 HO_11 HO_12 HO_13 BK242 BK245 HO254 HO260 HO266 HB HO_9
         revert n0_ n1_ n2_ n3_ n4_ n5_ n6_ n7_ n8_ n9_ n10_
         intro HO_10 HO_11 HO_12 HO_13 BK242 BK245 HO254 HO260 HO266 HB HO257
         clear ho hb hg hat
         refine hK.out _ _ ⟨(blk_cell BK245.out 0).trans rfl, (blk_cell BK245.out 1).trans rfl⟩ (fun hHeld => ?_)
         clear hK K
         refine norm_ (a' := ?_) ?_ ?_
         rotate_left
         ·show Act.put _ (some 92) _ = _
          simp only [Act.put, zA_, zB_, zC_, i64_w, i32_w]
          rfl
         exact norm_ (by (simp only [putAll, Act.put, List.setIfInBounds_toArray, List.set_cons_zero, List.set_cons_succ]; done)) (hJ3_4_8_16 (.slice Ao56 y252.length co56, v256, v259, v265) _ ⟨hHeld, (by exact zd_ HO254.out (fun _ hk => ⟨hk.2, ⟨hk.1.2.2.2.1, ⟨hk.1.2.2.2.2, ⟨hk.1.1, ⟨hk.1.2.1, hk.1.2.2.1⟩⟩⟩⟩⟩)), (by exact zd_ HO257.out (fun _ hk => ⟨hk.2.2.2.1, ⟨hk.2.2.2.2.1, ⟨hk.2.2.2.2.2, ⟨hk.1, ⟨hk.2.1, hk.2.2.1⟩⟩⟩⟩⟩)), (by exact zd_ HO260.out (fun _ hk => ⟨hk.1.2.2.2.1, ⟨hk.2, ⟨hk.1.2.2.2.2, ⟨hk.1.1, ⟨hk.1.2.1, hk.1.2.2.1⟩⟩⟩⟩⟩)), (by exact zd_ HO266.out (fun _ hk => ⟨hk.1.2.2.2.1, ⟨hk.2, ⟨hk.1.2.2.2.2, ⟨hk.1.1, ⟨hk.1.2.1, hk.1.2.2.1⟩⟩⟩⟩⟩)), (by exact zd_ HO_10.out (fun _ hk => ⟨hk.1.2.2.1, ⟨hk.2, ⟨hk.1.2.2.2.1, ⟨hk.1.2.2.2.2, ⟨hk.1.1, hk.1.2.1⟩⟩⟩⟩⟩)), (by exact zd_ HO_11.out (fun _ hk => ⟨hk.1.2.2.1, ⟨hk.2, ⟨hk.1.2.2.2.1, ⟨hk.1.2.2.2.2, ⟨hk.1.1, hk.1.2.1⟩⟩⟩⟩⟩)), (by exact zd_ HO_12.out (fun _ hk => ⟨hk.1.2.2.1, ⟨hk.2, ⟨hk.1.2.2.2.1, ⟨hk.1.2.2.2.2, ⟨hk.1.1, hk.1.2.1⟩⟩⟩⟩⟩)), HO_13.out, BK242.out, BK245.out, (by repeat (((with_reducible (exact HB.out)))))⟩)
        intro hJ3_8_16
        refine join_ (σ := Value × Value) 11 #[Y,Y,Y,Y,Y,Y,Y,Y,Z,Z,Y,Y,Y,Y,Y,Y,Z,Z,Y,Y,Y,Y,Z,Z,Z,Z,Z,Z,Z] (fun s_ => [(91, s_.1), (92, s_.2)]) (fun s_ w' => (w'.cell? ⟨gb245, 0, none⟩ = some (.int .u8 ((rd_T48 l0 x52_2).f0)) ∧ w'.cell? ⟨gb245, 1, none⟩ = some (.int .u8 ((rd_T48 l0 x52_2).f1))) ∧ (Kd.R (Kd.int .u8) 5 w' w.heap.size (fun k_ => some k_ ≠ (s_.2 : Value).ownBlock ∧ some k_ ≠ (.slice Ao44 x10_2.length co44 : Value).ownBlock ∧ some k_ ≠ (.slice Ao45 x11_2.length co45 : Value).ownBlock ∧ some k_ ≠ (.slice Ao46 x12_2.length co46 : Value).ownBlock) s_.1 y252) ∧ (Kd.R (Kd.int .u8) 5 w' w.heap.size (fun k_ => some k_ ≠ (s_.1 : Value).ownBlock ∧ some k_ ≠ (.slice Ao44 x10_2.length co44 : Value).ownBlock ∧ some k_ ≠ (.slice Ao45 x11_2.length co45 : Value).ownBlock ∧ some k_ ≠ (.slice Ao46 x12_2.length co46 : Value).ownBlock) s_.2 y255) ∧ (Kd.R (Kd.int .u8) 5 w' w.heap.size (fun k_ => some k_ ≠ (s_.1 : Value).ownBlock ∧ some k_ ≠ (s_.2 : Value).ownBlock ∧ some k_ ≠ (.slice Ao45 x11_2.length co45 : Value).ownBlock ∧ some k_ ≠ (.slice Ao46 x12_2.length co46 : Value).ownBlock) (.slice Ao44 x10_2.length co44) x10_2) ∧ (Kd.R (Kd.int .u8) 5 w' w.heap.size (fun k_ => some k_ ≠ (s_.1 : Value).ownBlock ∧ some k_ ≠ (s_.2 : Value).ownBlock ∧ some k_ ≠ (.slice Ao44 x10_2.length co44 : Value).ownBlock ∧ some k_ ≠ (.slice Ao46 x12_2.length co46 : Value).ownBlock) (.slice Ao45 x11_2.length co45) x11_2) ∧ (Kd.R (Kd.int .u8) 5 w' w.heap.size (fun k_ => some k_ ≠ (s_.1 : Value).ownBlock ∧ some k_ ≠ (s_.2 : Value).ownBlock ∧ some k_ ≠ (.slice Ao44 x10_2.length co44 : Value).ownBlock ∧ some k_ ≠ (.slice Ao45 x11_2.length co45 : Value).ownBlock) (.slice Ao46 x12_2.length co46) x12_2) ∧ (Kd.R Kd.string 9 w' w.heap.size (fun _ => True) u13 x13_2) ∧ (w'.heap[gb242]? = some (.cells #[.slice A1_0 l1_0.length c1_0, .slice A1_1 l1_1.length c1_1] 47 (0, 0))) ∧ (w'.heap[gb245]? = some (.cells #[.int .u8 ((rd_T48 l0 x52_2).f0), .int .u8 ((rd_T48 l0 x52_2).f1)] 48 (0, 0))) ∧ (Below w.heap.size w w')) ?_ ?_
        rotate_left
        rotate_left
        ·skip
         rintro ⟨v253, v256⟩ w52 ⟨hS_, h0_, h1_, h2_, h3_, h4_, h5_, h6_, h7_, h8_⟩
         have n0_ := Aside0.mk h0_
         try dsimp only at n0_
         have n1_ := Aside0.mk h1_
         try dsimp only at n1_
         have n2_ := Aside0.mk h2_
         try dsimp only at n2_
         have n3_ := Aside0.mk h3_
         try dsimp only at n3_
         have n4_ := Aside0.mk h4_
         try dsimp only at n4_
         have n5_ := Aside0.mk h5_
         try dsimp only at n5_
         have n6_ := Aside0.mk h6_
         try dsimp only at n6_
         have n7_ := Aside0.mk h7_
         try dsimp only at n7_
         have n8_ := Aside0.mk h8_
         try dsimp only at n8_
         clear HO_9 HO_10 HO_11 HO_12 HO_13 BK242 BK245 HB
         clear h0_ h1_ h2_ h3_ h4_ h5_ h6_ h7_ h8_
         have HO254 := n0_
         have HO257 := n1_
         have HO_10 := n2_
         have HO_11 := n3_
         have HO_12 := n4_
         have HO_13 := n5_
         have BK242 := n6_
         have BK245 := n7_
         have HB := n8_
         clear n0_ n1_ n2_ n3_ n4_ n5_ n6_ n7_ n8_
         have hHeld : w52.cell? ⟨gb245, 0, none⟩ = some (.int .u8 ((rd_T48 l0 x52_2).f0)) ∧ w52.cell? ⟨gb245, 1, none⟩ = some (.int .u8 ((rd_T48 l0 x52_2).f1)) := hS_
         refine norm_ (a' := ?_) ?_ ?_
         rotate_left
         ·simp only [putAll, Act.put, List.setIfInBounds_toArray, List.set_cons_zero, List.set_cons_succ]
          rfl
         refine two_ (i := 8) (j := 16) (Ni := some 96) (Nj := some 104) #[Y,Y,Y,Y,Y,Y,Y,Y,Y,Z,Y,Y,Y,Y,Y,Y,Z,Z,Y,Y,Y,Y,Z,Z,Z,Z,Z,Z,Z] #[Y,Y,Y,Y,Y,Y,Y,Y,Z,Z,Y,Y,Y,Y,Y,Y,Y,Z,Y,Y,Y,Y,Z,Z,Z,Z,Z,Z,Z] rfl rfl rfl rfl (two_of HT_.out (by kernel_rfl)) (by decide) (by decide) (fun K hK => ?_) (fun K hK => ?_)
         ·skip
          refine Kd.R_lit_step (Kd.int .u8) _ 5 ?hg (N := 96) ?hd (xs := ([((rd_T48 l0 x52_2).f1)] : List Int)) (inner := [.int .u8 ((rd_T48 l0 x52_2).f1)]) (ok := fun _ => True) (okp := fun _ => True) ?hr ?hp (fun _ hk => hk) trivial (Below.refl _ _) (Nat.le_refl _) (by simp) ?_; (case hd => rfl); (case hg => rfl); (case hr => (go_simp; done)); (case hp => exact (Reps.one (show Kd.M (Kd.int .u8) _ _ _ ((rd_T48 l0 x52_2).f1) [.int .u8 ((rd_T48 l0 x52_2).f1)] from rfl) (Reps.none _ _)))
          intro v259 w53 ho54 hb hg_ hnew_
          clear hg_ hnew_
          (rw [← Ny258.out] at ho54)
          have n0_ := Aside0.mk (zj_ HO_10.out (zk_ ho54) hb)
          have n1_ := Aside0.mk (zj_ HO_11.out (zk_ ho54) hb)
          have n2_ := Aside0.mk (zj_ HO_12.out (zk_ ho54) hb)
          have n3_ := Aside0.mk (Kd.R_below HO_13.out hb)
          have n4_ := Aside0.mk (zj_ HO254.out (zk_ ho54) hb)
          have n5_ := Aside0.mk (zj_ HO257.out (zk_ ho54) hb)
          have n6_ := Aside0.mk (zg_ (zh_ (zh_ (zh_ (zh_ (zh_ ho54 (zi_ HO_10.out)) (zi_ HO_11.out)) (zi_ HO_12.out)) (zi_ HO254.out)) (zi_ HO257.out)) (zw_ (by repeat (((with_reducible (exact HB.out)))))))
          have n7_ := Aside0.mk (zq_ BK242.out hb)
          have n8_ := Aside0.mk (zq_ BK245.out hb)
          have n9_ := Aside0.mk (zv_ (by repeat (((with_reducible (exact HB.out))))) hb)
          clear HO_10 HO_11 HO_12 HO_13 HO254 HO257 BK242 BK245 HB
          revert n0_ n1_ n2_ n3_ n4_ n5_ n6_ n7_ n8_ n9_
          intro HO_10 HO_11 HO_12 HO_13 HO254 HO257 HO260 BK242 BK245 HB
          clear hb ho54
          refine hK.out _ _ ⟨(blk_cell BK245.out 0).trans rfl, (blk_cell BK245.out 1).trans rfl⟩ (fun hHeld => ?_)
          clear hK K
          refine norm_ (a' := ?_) ?_ ?_
          rotate_left
          ·show Act.put _ (some 96) _ = _
           simp only [Act.put, zA_, zB_, zC_, i64_w, i32_w]
           rfl
          exact norm_ (by (simp only [putAll, Act.put, List.setIfInBounds_toArray, List.set_cons_zero, List.set_cons_succ]; done)) (hJ3_4_8 (v253, v256, v259) _ ⟨hHeld, (by exact zd_ HO254.out (fun _ hk => ⟨hk.1.1, ⟨hk.2, ⟨hk.1.2.1, ⟨hk.1.2.2.1, hk.1.2.2.2⟩⟩⟩⟩)), (by exact zd_ HO257.out (fun _ hk => ⟨hk.1.1, ⟨hk.2, ⟨hk.1.2.1, ⟨hk.1.2.2.1, hk.1.2.2.2⟩⟩⟩⟩)), (by exact zd_ HO260.out (fun _ hk => ⟨hk.1.2, ⟨hk.2, ⟨hk.1.1.1.1.2, ⟨hk.1.1.1.2, hk.1.1.2⟩⟩⟩⟩)), (by exact zd_ HO_10.out (fun _ hk => ⟨hk.1.1, ⟨hk.1.2.1, ⟨hk.2, ⟨hk.1.2.2.1, hk.1.2.2.2⟩⟩⟩⟩)), (by exact zd_ HO_11.out (fun _ hk => ⟨hk.1.1, ⟨hk.1.2.1, ⟨hk.2, ⟨hk.1.2.2.1, hk.1.2.2.2⟩⟩⟩⟩)), (by exact zd_ HO_12.out (fun _ hk => ⟨hk.1.1, ⟨hk.1.2.1, ⟨hk.2, ⟨hk.1.2.2.1, hk.1.2.2.2⟩⟩⟩⟩)), HO_13.out, BK242.out, BK245.out, (by repeat (((with_reducible (exact HB.out)))))⟩)
         skip
         refine Kd.R_lit_step (Kd.int .u8) _ 5 ?hg (N := 104) ?hd (xs := ([Go.bits .xor .u8 ((rd_T48 l0 x52_2).f0) ((rd_T48 l0 x52_2).f1)] : List Int)) (inner := [.int .u8 (Go.bits .xor .u8 ((rd_T48 l0 x52_2).f0) ((rd_T48 l0 x52_2).f1))]) (ok := fun _ => True) (okp := fun _ => True) ?hr ?hp (fun _ hk => hk) trivial (Below.refl _ _) (Nat.le_refl _) (by simp) ?_; (case hd => rfl); (case hg => rfl); (case hr => (go_simp; done)); (case hp => exact (Reps.one (show Kd.M (Kd.int .u8) _ _ _ (Go.bits .xor .u8 ((rd_T48 l0 x52_2).f0) ((rd_T48 l0 x52_2).f1)) [.int .u8 (Go.bits .xor .u8 ((rd_T48 l0 x52_2).f0) ((rd_T48 l0 x52_2).f1))] from rfl) (Reps.none _ _)))
         intro v265 w53 ho54 hb hg_ hnew_
         clear hg_ hnew_
         (rw [← Ny264.out] at ho54)
         have n0_ := Aside0.mk (zj_ HO_10.out (zk_ ho54) hb)
         have n1_ := Aside0.mk (zj_ HO_11.out (zk_ ho54) hb)
         have n2_ := Aside0.mk (zj_ HO_12.out (zk_ ho54) hb)
         have n3_ := Aside0.mk (Kd.R_below HO_13.out hb)
         have n4_ := Aside0.mk (zj_ HO254.out (zk_ ho54) hb)
         have n5_ := Aside0.mk (zj_ HO257.out (zk_ ho54) hb)
         have n6_ := Aside0.mk (zg_ (zh_ (zh_ (zh_ (zh_ (zh_ ho54 (zi_ HO_10.out)) (zi_ HO_11.out)) (zi_ HO_12.out)) (zi_ HO254.out)) (zi_ HO257.out)) (zw_ (by repeat (((with_reducible (exact HB.out)))))))
         have n7_ := Aside0.mk (zq_ BK242.out hb)
         have n8_ := Aside0.mk (zq_ BK245.out hb)
         have n9_ := Aside0.mk (zv_ (by repeat (((with_reducible (exact HB.out))))) hb)
         clear HO_10 HO_11 HO_12 HO_13 HO254 HO257 BK242 BK245 HB
         revert n0_ n1_ n2_ n3_ n4_ n5_ n6_ n7_ n8_ n9_
         intro HO_10 HO_11 HO_12 HO_13 HO254 HO257 HO266 BK242 BK245 HB
         clear hb ho54
         refine hK.out _ _ ⟨(blk_cell BK245.out 0).trans rfl, (blk_cell BK245.out 1).trans rfl⟩ (fun hHeld => ?_)
         clear hK K
         refine norm_ (a' := ?_) ?_ ?_
         rotate_left
         ·show Act.put _ (some 104) _ = _
          simp only [Act.put, zA_, zB_, zC_, i64_w, i32_w]
          rfl
         exact norm_ (by (simp only [putAll, Act.put, List.setIfInBounds_toArray, List.set_cons_zero, List.set_cons_succ]; done)) (hJ3_4_16 (v253, v256, v265) _ ⟨hHeld, (by exact zd_ HO254.out (fun _ hk => ⟨hk.1.1, ⟨hk.2, ⟨hk.1.2.1, ⟨hk.1.2.2.1, hk.1.2.2.2⟩⟩⟩⟩)), (by exact zd_ HO257.out (fun _ hk => ⟨hk.1.1, ⟨hk.2, ⟨hk.1.2.1, ⟨hk.1.2.2.1, hk.1.2.2.2⟩⟩⟩⟩)), (by exact zd_ HO266.out (fun _ hk => ⟨hk.1.2, ⟨hk.2, ⟨hk.1.1.1.1.2, ⟨hk.1.1.1.2, hk.1.1.2⟩⟩⟩⟩)), (by exact zd_ HO_10.out (fun _ hk => ⟨hk.1.1, ⟨hk.1.2.1, ⟨hk.2, ⟨hk.1.2.2.1, hk.1.2.2.2⟩⟩⟩⟩)), (by exact zd_ HO_11.out (fun _ hk => ⟨hk.1.1, ⟨hk.1.2.1, ⟨hk.2, ⟨hk.1.2.2.1, hk.1.2.2.2⟩⟩⟩⟩)), (by exact zd_ HO_12.out (fun _ hk => ⟨hk.1.1, ⟨hk.1.2.1, ⟨hk.2, ⟨hk.1.2.2.1, hk.1.2.2.2⟩⟩⟩⟩)), HO_13.out, BK242.out, BK245.out, (by repeat (((with_reducible (exact HB.out)))))⟩)
        intro hJ3_4
        refine join_ (σ := Value × Value) 11 #[Y,Y,Y,Y,Z,Y,Y,Y,Y,Z,Y,Y,Y,Y,Y,Y,Z,Z,Y,Y,Y,Y,Z,Z,Z,Z,Z,Z,Z] (fun s_ => [(91, s_.1), (96, s_.2)]) (fun s_ w' => (w'.cell? ⟨gb245, 0, none⟩ = some (.int .u8 ((rd_T48 l0 x52_2).f0)) ∧ w'.cell? ⟨gb245, 1, none⟩ = some (.int .u8 ((rd_T48 l0 x52_2).f1))) ∧ (Kd.R (Kd.int .u8) 5 w' w.heap.size (fun k_ => some k_ ≠ (s_.2 : Value).ownBlock ∧ some k_ ≠ (.slice Ao44 x10_2.length co44 : Value).ownBlock ∧ some k_ ≠ (.slice Ao45 x11_2.length co45 : Value).ownBlock ∧ some k_ ≠ (.slice Ao46 x12_2.length co46 : Value).ownBlock ∧ some k_ ≠ (.slice Ao43 x9_2.length co43 : Value).ownBlock) s_.1 y252) ∧ (Kd.R (Kd.int .u8) 5 w' w.heap.size (fun k_ => some k_ ≠ (s_.1 : Value).ownBlock ∧ some k_ ≠ (.slice Ao44 x10_2.length co44 : Value).ownBlock ∧ some k_ ≠ (.slice Ao45 x11_2.length co45 : Value).ownBlock ∧ some k_ ≠ (.slice Ao46 x12_2.length co46 : Value).ownBlock ∧ some k_ ≠ (.slice Ao43 x9_2.length co43 : Value).ownBlock) s_.2 y258) ∧ (Kd.R (Kd.int .u8) 5 w' w.heap.size (fun k_ => some k_ ≠ (s_.1 : Value).ownBlock ∧ some k_ ≠ (s_.2 : Value).ownBlock ∧ some k_ ≠ (.slice Ao45 x11_2.length co45 : Value).ownBlock ∧ some k_ ≠ (.slice Ao46 x12_2.length co46 : Value).ownBlock ∧ some k_ ≠ (.slice Ao43 x9_2.length co43 : Value).ownBlock) (.slice Ao44 x10_2.length co44) x10_2) ∧ (Kd.R (Kd.int .u8) 5 w' w.heap.size (fun k_ => some k_ ≠ (s_.1 : Value).ownBlock ∧ some k_ ≠ (s_.2 : Value).ownBlock ∧ some k_ ≠ (.slice Ao44 x10_2.length co44 : Value).ownBlock ∧ some k_ ≠ (.slice Ao46 x12_2.length co46 : Value).ownBlock ∧ some k_ ≠ (.slice Ao43 x9_2.length co43 : Value).ownBlock) (.slice Ao45 x11_2.length co45) x11_2) ∧ (Kd.R (Kd.int .u8) 5 w' w.heap.size (fun k_ => some k_ ≠ (s_.1 : Value).ownBlock ∧ some k_ ≠ (s_.2 : Value).ownBlock ∧ some k_ ≠ (.slice Ao44 x10_2.length co44 : Value).ownBlock ∧ some k_ ≠ (.slice Ao45 x11_2.length co45 : Value).ownBlock ∧ some k_ ≠ (.slice Ao43 x9_2.length co43 : Value).ownBlock) (.slice Ao46 x12_2.length co46) x12_2) ∧ (Kd.R Kd.string 9 w' w.heap.size (fun _ => True) u13 x13_2) ∧ (Kd.R (Kd.int .u8) 5 w' w.heap.size (fun k_ => some k_ ≠ (s_.1 : Value).ownBlock ∧ some k_ ≠ (s_.2 : Value).ownBlock ∧ some k_ ≠ (.slice Ao44 x10_2.length co44 : Value).ownBlock ∧ some k_ ≠ (.slice Ao45 x11_2.length co45 : Value).ownBlock ∧ some k_ ≠ (.slice Ao46 x12_2.length co46 : Value).ownBlock) (.slice Ao43 x9_2.length co43) x9_2) ∧ (w'.heap[gb242]? = some (.cells #[.slice A1_0 l1_0.length c1_0, .slice A1_1 l1_1.length c1_1] 47 (0, 0))) ∧ (w'.heap[gb245]? = some (.cells #[.int .u8 ((rd_T48 l0 x52_2).f0), .int .u8 ((rd_T48 l0 x52_2).f1)] 48 (0, 0))) ∧ (Below w.heap.size w w')) ?_ ?_
        rotate_left
        rotate_left
        ·skip
         rintro ⟨v253, v259⟩ w52 ⟨hS_, h0_, h1_, h2_, h3_, h4_, h5_, h6_, h7_, h8_, h9_⟩
         have n0_ := Aside0.mk h0_
         try dsimp only at n0_
         have n1_ := Aside0.mk h1_
         try dsimp only at n1_
         have n2_ := Aside0.mk h2_
         try dsimp only at n2_
         have n3_ := Aside0.mk h3_
         try dsimp only at n3_
         have n4_ := Aside0.mk h4_
         try dsimp only at n4_
         have n5_ := Aside0.mk h5_
         try dsimp only at n5_
         have n6_ := Aside0.mk h6_
         try dsimp only at n6_
         have n7_ := Aside0.mk h7_
         try dsimp only at n7_
         have n8_ := Aside0.mk h8_
         try dsimp only at n8_
         have n9_ := Aside0.mk h9_
         try dsimp only at n9_
         clear HO_9 HO_10 HO_11 HO_12 HO_13 BK242 BK245 HB
         clear h0_ h1_ h2_ h3_ h4_ h5_ h6_ h7_ h8_ h9_
         have HO254 := n0_
         have HO260 := n1_
         have HO_10 := n2_
         have HO_11 := n3_
         have HO_12 := n4_
         have HO_13 := n5_
         have HO_9 := n6_
         have BK242 := n7_
         have BK245 := n8_
         have HB := n9_
         clear n0_ n1_ n2_ n3_ n4_ n5_ n6_ n7_ n8_ n9_
         have hHeld : w52.cell? ⟨gb245, 0, none⟩ = some (.int .u8 ((rd_T48 l0 x52_2).f0)) ∧ w52.cell? ⟨gb245, 1, none⟩ = some (.int .u8 ((rd_T48 l0 x52_2).f1)) := hS_
         obtain ⟨Ao54, co54, eo54⟩ := Kd.R_slice HO254.out
         (subst eo54)
         refine norm_ (a' := ?_) ?_ ?_
         rotate_left
         ·simp only [putAll, Act.put, List.setIfInBounds_toArray, List.set_cons_zero, List.set_cons_succ]
          rfl
         refine two_ (i := 4) (j := 16) (Ni := some 92) (Nj := some 104) #[Y,Y,Y,Y,Y,Y,Y,Y,Y,Z,Y,Y,Y,Y,Y,Y,Z,Z,Y,Y,Y,Y,Z,Z,Z,Z,Z,Z,Z] #[Y,Y,Y,Y,Z,Y,Y,Y,Y,Z,Y,Y,Y,Y,Y,Y,Y,Z,Y,Y,Y,Y,Z,Z,Z,Z,Z,Z,Z] rfl rfl rfl rfl (two_of HT_.out (by kernel_rfl)) (by decide) (by decide) (fun K hK => ?_) (fun K hK => ?_)
         rotate_left
         ·skip
          refine Kd.R_lit_step (Kd.int .u8) _ 5 ?hg (N := 104) ?hd (xs := ([Go.bits .xor .u8 ((rd_T48 l0 x52_2).f0) ((rd_T48 l0 x52_2).f1)] : List Int)) (inner := [.int .u8 (Go.bits .xor .u8 ((rd_T48 l0 x52_2).f0) ((rd_T48 l0 x52_2).f1))]) (ok := fun _ => True) (okp := fun _ => True) ?hr ?hp (fun _ hk => hk) trivial (Below.refl _ _) (Nat.le_refl _) (by simp) ?_; (case hd => rfl); (case hg => rfl); (case hr => (go_simp; done)); (case hp => exact (Reps.one (show Kd.M (Kd.int .u8) _ _ _ (Go.bits .xor .u8 ((rd_T48 l0 x52_2).f0) ((rd_T48 l0 x52_2).f1)) [.int .u8 (Go.bits .xor .u8 ((rd_T48 l0 x52_2).f0) ((rd_T48 l0 x52_2).f1))] from rfl) (Reps.none _ _)))
          intro v265 w53 ho54 hb hg_ hnew_
          clear hg_ hnew_
          (rw [← Ny264.out] at ho54)
          have n0_ := Aside0.mk (zj_ HO_9.out (zk_ ho54) hb)
          have n1_ := Aside0.mk (zj_ HO_10.out (zk_ ho54) hb)
          have n2_ := Aside0.mk (zj_ HO_11.out (zk_ ho54) hb)
          have n3_ := Aside0.mk (zj_ HO_12.out (zk_ ho54) hb)
          have n4_ := Aside0.mk (Kd.R_below HO_13.out hb)
          have n5_ := Aside0.mk (zj_ HO254.out (zk_ ho54) hb)
          have n6_ := Aside0.mk (zj_ HO260.out (zk_ ho54) hb)
          have n7_ := Aside0.mk (zg_ (zh_ (zh_ (zh_ (zh_ (zh_ (zh_ ho54 (zi_ HO_9.out)) (zi_ HO_10.out)) (zi_ HO_11.out)) (zi_ HO_12.out)) (zi_ HO254.out)) (zi_ HO260.out)) (zw_ (by repeat (((with_reducible (exact HB.out)))))))
          have n8_ := Aside0.mk (zq_ BK242.out hb)
          have n9_ := Aside0.mk (zq_ BK245.out hb)
          have n10_ := Aside0.mk (zv_ (by repeat (((with_reducible (exact HB.out))))) hb)
          clear HO_9 HO_10 HO_11 HO_12 HO_13 HO254 HO260 BK242 BK245 HB
          revert n0_ n1_ n2_ n3_ n4_ n5_ n6_ n7_ n8_ n9_ n10_
          intro HO_9 HO_10 HO_11 HO_12 HO_13 HO254 HO260 HO266 BK242 BK245 HB
          clear hb ho54
          refine hK.out _ _ ⟨(blk_cell BK245.out 0).trans rfl, (blk_cell BK245.out 1).trans rfl⟩ (fun hHeld => ?_)
          clear hK K
          refine norm_ (a' := ?_) ?_ ?_
          rotate_left
          ·show Act.put _ (some 104) _ = _
           simp only [Act.put, zA_, zB_, zC_, i64_w, i32_w]
           rfl
          exact norm_ (by (simp only [putAll, Act.put, List.setIfInBounds_toArray, List.set_cons_zero, List.set_cons_succ]; done)) (hJ3_8_16 ((.slice Ao54 y252.length co54), v259, v265) _ ⟨hHeld, (by exact zd_ HO254.out (fun _ hk => ⟨hk.1.1, ⟨hk.2, ⟨hk.1.2.1, ⟨hk.1.2.2.1, ⟨hk.1.2.2.2.1, hk.1.2.2.2.2⟩⟩⟩⟩⟩)), (by exact zd_ HO260.out (fun _ hk => ⟨hk.1.1, ⟨hk.2, ⟨hk.1.2.1, ⟨hk.1.2.2.1, ⟨hk.1.2.2.2.1, hk.1.2.2.2.2⟩⟩⟩⟩⟩)), (by exact zd_ HO266.out (fun _ hk => ⟨hk.1.2, ⟨hk.2, ⟨hk.1.1.1.1.2, ⟨hk.1.1.1.2, ⟨hk.1.1.2, hk.1.1.1.1.1.2⟩⟩⟩⟩⟩)), (by exact zd_ HO_10.out (fun _ hk => ⟨hk.1.1, ⟨hk.1.2.1, ⟨hk.2, ⟨hk.1.2.2.1, ⟨hk.1.2.2.2.1, hk.1.2.2.2.2⟩⟩⟩⟩⟩)), (by exact zd_ HO_11.out (fun _ hk => ⟨hk.1.1, ⟨hk.1.2.1, ⟨hk.2, ⟨hk.1.2.2.1, ⟨hk.1.2.2.2.1, hk.1.2.2.2.2⟩⟩⟩⟩⟩)), (by exact zd_ HO_12.out (fun _ hk => ⟨hk.1.1, ⟨hk.1.2.1, ⟨hk.2, ⟨hk.1.2.2.1, ⟨hk.1.2.2.2.1, hk.1.2.2.2.2⟩⟩⟩⟩⟩)), HO_13.out, (by exact zd_ HO_9.out (fun _ hk => ⟨hk.1.1, ⟨hk.1.2.1, ⟨hk.2, ⟨hk.1.2.2.1, ⟨hk.1.2.2.2.1, hk.1.2.2.2.2⟩⟩⟩⟩⟩)), BK242.out, BK245.out, (by repeat (((with_reducible (exact HB.out)))))⟩)
         skip
         refine Kd.R_append_rows_step (Kd.int .u8) (w0 := w) w.heap.size (by rfl) (.tmp 88) (.tmp 91) 36 5 (.int .u8 0) 1 rfl Tryd.underlying36 info5 rfl (by decide) (by omega) (.slice Ao43 x9_2.length co43) x9_2 y252 _ _ _ (fun k_ => some k_ ≠ (.slice Ao44 x10_2.length co44 : Value).ownBlock ∧ some k_ ≠ (.slice Ao45 x11_2.length co45 : Value).ownBlock ∧ some k_ ≠ (.slice Ao46 x12_2.length co46 : Value).ownBlock ∧ some k_ ≠ (.slice Ao54 y252.length co54 : Value).ownBlock ∧ some k_ ≠ (v259 : Value).ownBlock) (fun _ => False) rfl rfl ?aO ?aR (fun _ _ h => h) (fun _ h => h.elim) ?aF ?aB ?aS ?aL ?_
         (case aR => repeat ((exact (zl_ HO254.out).2.2)))
         (case aB => exact (by repeat (((with_reducible (exact HB.out))))))
         (case aF => exact (fun k_ hk => ⟨Kd.fresh' (zi_ HO_10.out) k_ hk, Kd.fresh' (zi_ HO_11.out) k_ hk, Kd.fresh' (zi_ HO_12.out) k_ hk, Kd.fresh' (zi_ HO254.out) k_ hk, Kd.fresh' (zi_ HO260.out) k_ hk⟩))
         (case aO => exact (by exact zd_ HO_9.out (fun _ hk => ⟨hk.2.2.1, ⟨hk.2.2.2.1, ⟨hk.2.2.2.2, ⟨hk.1, hk.2.1⟩⟩⟩⟩)))
         (case aS => exact (zw_ (by repeat (((with_reducible (exact HB.out)))))))
         (case aL => have := LMc33.out; omega)
         intro v256 w53 ho hb hg hat
         rw [← Ny255.out] at ho
         have n0_ := Aside0.mk (Kd.R_after (ok := (fun k_ => some k_ ≠ (.slice Ao45 x11_2.length co45 : Value).ownBlock ∧ some k_ ≠ (.slice Ao46 x12_2.length co46 : Value).ownBlock ∧ some k_ ≠ (.slice Ao54 y252.length co54 : Value).ownBlock ∧ some k_ ≠ (v259 : Value).ownBlock)) (by exact zd_ HO_10.out (fun _ hk => ⟨⟨hk.2.2.1, ⟨hk.2.2.2.1, ⟨hk.1, hk.2.1⟩⟩⟩, hk.2.2.2.2⟩)) hg hat)
         have n1_ := Aside0.mk (Kd.R_after (ok := (fun k_ => some k_ ≠ (.slice Ao44 x10_2.length co44 : Value).ownBlock ∧ some k_ ≠ (.slice Ao46 x12_2.length co46 : Value).ownBlock ∧ some k_ ≠ (.slice Ao54 y252.length co54 : Value).ownBlock ∧ some k_ ≠ (v259 : Value).ownBlock)) (by exact zd_ HO_11.out (fun _ hk => ⟨⟨hk.2.2.1, ⟨hk.2.2.2.1, ⟨hk.1, hk.2.1⟩⟩⟩, hk.2.2.2.2⟩)) hg hat)
         have n2_ := Aside0.mk (Kd.R_after (ok := (fun k_ => some k_ ≠ (.slice Ao44 x10_2.length co44 : Value).ownBlock ∧ some k_ ≠ (.slice Ao45 x11_2.length co45 : Value).ownBlock ∧ some k_ ≠ (.slice Ao54 y252.length co54 : Value).ownBlock ∧ some k_ ≠ (v259 : Value).ownBlock)) (by exact zd_ HO_12.out (fun _ hk => ⟨⟨hk.2.2.1, ⟨hk.2.2.2.1, ⟨hk.1, hk.2.1⟩⟩⟩, hk.2.2.2.2⟩)) hg hat)
         have n3_ := Aside0.mk (Kd.R_over' HO_13.out (Kd.R_typed HO_9.out) (by decide) hg)
         have n4_ := Aside0.mk (blk_grown BK242.out hg (Kd.R_ne HO_9.out BK242.out (by decide)))
         have n5_ := Aside0.mk (blk_grown BK245.out hg (Kd.R_ne HO_9.out BK245.out (by decide)))
         have n6_ := Aside0.mk (Kd.R_after (ok := (fun k_ => some k_ ≠ (.slice Ao44 x10_2.length co44 : Value).ownBlock ∧ some k_ ≠ (.slice Ao45 x11_2.length co45 : Value).ownBlock ∧ some k_ ≠ (.slice Ao46 x12_2.length co46 : Value).ownBlock ∧ some k_ ≠ (v259 : Value).ownBlock)) (by exact zd_ HO254.out (fun _ hk => ⟨⟨hk.2.1, ⟨hk.2.2.1, ⟨hk.2.2.2.1, hk.1⟩⟩⟩, hk.2.2.2.2⟩)) hg hat)
         have n7_ := Aside0.mk (Kd.R_after (ok := (fun k_ => some k_ ≠ (.slice Ao44 x10_2.length co44 : Value).ownBlock ∧ some k_ ≠ (.slice Ao45 x11_2.length co45 : Value).ownBlock ∧ some k_ ≠ (.slice Ao46 x12_2.length co46 : Value).ownBlock ∧ some k_ ≠ (.slice Ao54 y252.length co54 : Value).ownBlock)) (by exact zd_ HO260.out (fun _ hk => ⟨⟨hk.2.1, ⟨hk.2.2.1, ⟨hk.2.2.2.1, hk.1⟩⟩⟩, hk.2.2.2.2⟩)) hg hat)
         have n8_ := Aside0.mk (hb)
         have n9_ := Aside0.mk (ho)
         clear HO_10 HO_11 HO_12 HO_13 BK242 BK245 HO254 HO260 HB HO_9
         revert n0_ n1_ n2_ n3_ n4_ n5_ n6_ n7_ n8_ n9_
         intro HO_10 HO_11 HO_12 HO_13 BK242 BK245 HO254 HO260 HB HO257
         clear ho hb hg hat
         refine hK.out _ _ ⟨(blk_cell BK245.out 0).trans rfl, (blk_cell BK245.out 1).trans rfl⟩ (fun hHeld => ?_)
         clear hK K
         refine norm_ (a' := ?_) ?_ ?_
         rotate_left
         ·show Act.put _ (some 92) _ = _
          simp only [Act.put, zA_, zB_, zC_, i64_w, i32_w]
          rfl
         exact norm_ (by (simp only [putAll, Act.put, List.setIfInBounds_toArray, List.set_cons_zero, List.set_cons_succ]; done)) (hJ3_4_8 (.slice Ao54 y252.length co54, v256, v259) _ ⟨hHeld, (by exact zd_ HO254.out (fun _ hk => ⟨hk.2, ⟨hk.1.2.2.2, ⟨hk.1.1, ⟨hk.1.2.1, hk.1.2.2.1⟩⟩⟩⟩)), (by exact zd_ HO257.out (fun _ hk => ⟨hk.2.2.2.1, ⟨hk.2.2.2.2, ⟨hk.1, ⟨hk.2.1, hk.2.2.1⟩⟩⟩⟩)), (by exact zd_ HO260.out (fun _ hk => ⟨hk.1.2.2.2, ⟨hk.2, ⟨hk.1.1, ⟨hk.1.2.1, hk.1.2.2.1⟩⟩⟩⟩)), (by exact zd_ HO_10.out (fun _ hk => ⟨hk.1.2.2.1, ⟨hk.2, ⟨hk.1.2.2.2, ⟨hk.1.1, hk.1.2.1⟩⟩⟩⟩)), (by exact zd_ HO_11.out (fun _ hk => ⟨hk.1.2.2.1, ⟨hk.2, ⟨hk.1.2.2.2, ⟨hk.1.1, hk.1.2.1⟩⟩⟩⟩)), (by exact zd_ HO_12.out (fun _ hk => ⟨hk.1.2.2.1, ⟨hk.2, ⟨hk.1.2.2.2, ⟨hk.1.1, hk.1.2.1⟩⟩⟩⟩)), HO_13.out, BK242.out, BK245.out, (by repeat (((with_reducible (exact HB.out)))))⟩)
        intro hJ3_8
        refine join_ (σ := Value × Value) 11 #[Y,Y,Y,Y,Z,Y,Y,Y,Z,Z,Y,Y,Y,Y,Y,Y,Y,Z,Y,Y,Y,Y,Z,Z,Z,Z,Z,Z,Z] (fun s_ => [(91, s_.1), (104, s_.2)]) (fun s_ w' => (w'.cell? ⟨gb245, 0, none⟩ = some (.int .u8 ((rd_T48 l0 x52_2).f0)) ∧ w'.cell? ⟨gb245, 1, none⟩ = some (.int .u8 ((rd_T48 l0 x52_2).f1))) ∧ (Kd.R (Kd.int .u8) 5 w' w.heap.size (fun k_ => some k_ ≠ (s_.2 : Value).ownBlock ∧ some k_ ≠ (.slice Ao44 x10_2.length co44 : Value).ownBlock ∧ some k_ ≠ (.slice Ao45 x11_2.length co45 : Value).ownBlock ∧ some k_ ≠ (.slice Ao46 x12_2.length co46 : Value).ownBlock ∧ some k_ ≠ (.slice Ao43 x9_2.length co43 : Value).ownBlock) s_.1 y252) ∧ (Kd.R (Kd.int .u8) 5 w' w.heap.size (fun k_ => some k_ ≠ (s_.1 : Value).ownBlock ∧ some k_ ≠ (.slice Ao44 x10_2.length co44 : Value).ownBlock ∧ some k_ ≠ (.slice Ao45 x11_2.length co45 : Value).ownBlock ∧ some k_ ≠ (.slice Ao46 x12_2.length co46 : Value).ownBlock ∧ some k_ ≠ (.slice Ao43 x9_2.length co43 : Value).ownBlock) s_.2 y264) ∧ (Kd.R (Kd.int .u8) 5 w' w.heap.size (fun k_ => some k_ ≠ (s_.1 : Value).ownBlock ∧ some k_ ≠ (s_.2 : Value).ownBlock ∧ some k_ ≠ (.slice Ao45 x11_2.length co45 : Value).ownBlock ∧ some k_ ≠ (.slice Ao46 x12_2.length co46 : Value).ownBlock ∧ some k_ ≠ (.slice Ao43 x9_2.length co43 : Value).ownBlock) (.slice Ao44 x10_2.length co44) x10_2) ∧ (Kd.R (Kd.int .u8) 5 w' w.heap.size (fun k_ => some k_ ≠ (s_.1 : Value).ownBlock ∧ some k_ ≠ (s_.2 : Value).ownBlock ∧ some k_ ≠ (.slice Ao44 x10_2.length co44 : Value).ownBlock ∧ some k_ ≠ (.slice Ao46 x12_2.length co46 : Value).ownBlock ∧ some k_ ≠ (.slice Ao43 x9_2.length co43 : Value).ownBlock) (.slice Ao45 x11_2.length co45) x11_2) ∧ (Kd.R (Kd.int .u8) 5 w' w.heap.size (fun k_ => some k_ ≠ (s_.1 : Value).ownBlock ∧ some k_ ≠ (s_.2 : Value).ownBlock ∧ some k_ ≠ (.slice Ao44 x10_2.length co44 : Value).ownBlock ∧ some k_ ≠ (.slice Ao45 x11_2.length co45 : Value).ownBlock ∧ some k_ ≠ (.slice Ao43 x9_2.length co43 : Value).ownBlock) (.slice Ao46 x12_2.length co46) x12_2) ∧ (Kd.R Kd.string 9 w' w.heap.size (fun _ => True) u13 x13_2) ∧ (Kd.R (Kd.int .u8) 5 w' w.heap.size (fun k_ => some k_ ≠ (s_.1 : Value).ownBlock ∧ some k_ ≠ (s_.2 : Value).ownBlock ∧ some k_ ≠ (.slice Ao44 x10_2.length co44 : Value).ownBlock ∧ some k_ ≠ (.slice Ao45 x11_2.length co45 : Value).ownBlock ∧ some k_ ≠ (.slice Ao46 x12_2.length co46 : Value).ownBlock) (.slice Ao43 x9_2.length co43) x9_2) ∧ (w'.heap[gb242]? = some (.cells #[.slice A1_0 l1_0.length c1_0, .slice A1_1 l1_1.length c1_1] 47 (0, 0))) ∧ (w'.heap[gb245]? = some (.cells #[.int .u8 ((rd_T48 l0 x52_2).f0), .int .u8 ((rd_T48 l0 x52_2).f1)] 48 (0, 0))) ∧ (Below w.heap.size w w')) ?_ ?_
        rotate_left
        rotate_left
        ·skip
         rintro ⟨v253, v265⟩ w52 ⟨hS_, h0_, h1_, h2_, h3_, h4_, h5_, h6_, h7_, h8_, h9_⟩
         have n0_ := Aside0.mk h0_
         try dsimp only at n0_
         have n1_ := Aside0.mk h1_
         try dsimp only at n1_
         have n2_ := Aside0.mk h2_
         try dsimp only at n2_
         have n3_ := Aside0.mk h3_
         try dsimp only at n3_
         have n4_ := Aside0.mk h4_
         try dsimp only at n4_
         have n5_ := Aside0.mk h5_
         try dsimp only at n5_
         have n6_ := Aside0.mk h6_
         try dsimp only at n6_
         have n7_ := Aside0.mk h7_
         try dsimp only at n7_
         have n8_ := Aside0.mk h8_
         try dsimp only at n8_
         have n9_ := Aside0.mk h9_
         try dsimp only at n9_
         clear HO_9 HO_10 HO_11 HO_12 HO_13 BK242 BK245 HB
         clear h0_ h1_ h2_ h3_ h4_ h5_ h6_ h7_ h8_ h9_
         have HO254 := n0_
         have HO266 := n1_
         have HO_10 := n2_
         have HO_11 := n3_
         have HO_12 := n4_
         have HO_13 := n5_
         have HO_9 := n6_
         have BK242 := n7_
         have BK245 := n8_
         have HB := n9_
         clear n0_ n1_ n2_ n3_ n4_ n5_ n6_ n7_ n8_ n9_
         have hHeld : w52.cell? ⟨gb245, 0, none⟩ = some (.int .u8 ((rd_T48 l0 x52_2).f0)) ∧ w52.cell? ⟨gb245, 1, none⟩ = some (.int .u8 ((rd_T48 l0 x52_2).f1)) := hS_
         obtain ⟨Ao54, co54, eo54⟩ := Kd.R_slice HO254.out
         (subst eo54)
         refine norm_ (a' := ?_) ?_ ?_
         rotate_left
         ·simp only [putAll, Act.put, List.setIfInBounds_toArray, List.set_cons_zero, List.set_cons_succ]
          rfl
         refine two_ (i := 4) (j := 8) (Ni := some 92) (Nj := some 96) #[Y,Y,Y,Y,Y,Y,Y,Y,Z,Z,Y,Y,Y,Y,Y,Y,Y,Z,Y,Y,Y,Y,Z,Z,Z,Z,Z,Z,Z] #[Y,Y,Y,Y,Z,Y,Y,Y,Y,Z,Y,Y,Y,Y,Y,Y,Y,Z,Y,Y,Y,Y,Z,Z,Z,Z,Z,Z,Z] rfl rfl rfl rfl (two_of HT_.out (by kernel_rfl)) (by decide) (by decide) (fun K hK => ?_) (fun K hK => ?_)
         rotate_left
         ·skip
          refine Kd.R_lit_step (Kd.int .u8) _ 5 ?hg (N := 96) ?hd (xs := ([((rd_T48 l0 x52_2).f1)] : List Int)) (inner := [.int .u8 ((rd_T48 l0 x52_2).f1)]) (ok := fun _ => True) (okp := fun _ => True) ?hr ?hp (fun _ hk => hk) trivial (Below.refl _ _) (Nat.le_refl _) (by simp) ?_; (case hd => rfl); (case hg => rfl); (case hr => (go_simp; done)); (case hp => exact (Reps.one (show Kd.M (Kd.int .u8) _ _ _ ((rd_T48 l0 x52_2).f1) [.int .u8 ((rd_T48 l0 x52_2).f1)] from rfl) (Reps.none _ _)))
          intro v259 w53 ho54 hb hg_ hnew_
          clear hg_ hnew_
          (rw [← Ny258.out] at ho54)
          have n0_ := Aside0.mk (zj_ HO_9.out (zk_ ho54) hb)
          have n1_ := Aside0.mk (zj_ HO_10.out (zk_ ho54) hb)
          have n2_ := Aside0.mk (zj_ HO_11.out (zk_ ho54) hb)
          have n3_ := Aside0.mk (zj_ HO_12.out (zk_ ho54) hb)
          have n4_ := Aside0.mk (Kd.R_below HO_13.out hb)
          have n5_ := Aside0.mk (zj_ HO254.out (zk_ ho54) hb)
          have n6_ := Aside0.mk (zj_ HO266.out (zk_ ho54) hb)
          have n7_ := Aside0.mk (zg_ (zh_ (zh_ (zh_ (zh_ (zh_ (zh_ ho54 (zi_ HO_9.out)) (zi_ HO_10.out)) (zi_ HO_11.out)) (zi_ HO_12.out)) (zi_ HO254.out)) (zi_ HO266.out)) (zw_ (by repeat (((with_reducible (exact HB.out)))))))
          have n8_ := Aside0.mk (zq_ BK242.out hb)
          have n9_ := Aside0.mk (zq_ BK245.out hb)
          have n10_ := Aside0.mk (zv_ (by repeat (((with_reducible (exact HB.out))))) hb)
          clear HO_9 HO_10 HO_11 HO_12 HO_13 HO254 HO266 BK242 BK245 HB
          revert n0_ n1_ n2_ n3_ n4_ n5_ n6_ n7_ n8_ n9_ n10_
          intro HO_9 HO_10 HO_11 HO_12 HO_13 HO254 HO266 HO260 BK242 BK245 HB
          clear hb ho54
          refine hK.out _ _ ⟨(blk_cell BK245.out 0).trans rfl, (blk_cell BK245.out 1).trans rfl⟩ (fun hHeld => ?_)
          clear hK K
          refine norm_ (a' := ?_) ?_ ?_
          rotate_left
          ·show Act.put _ (some 96) _ = _
           simp only [Act.put, zA_, zB_, zC_, i64_w, i32_w]
           rfl
          exact norm_ (by (simp only [putAll, Act.put, List.setIfInBounds_toArray, List.set_cons_zero, List.set_cons_succ]; done)) (hJ3_8_16 ((.slice Ao54 y252.length co54), v259, v265) _ ⟨hHeld, (by exact zd_ HO254.out (fun _ hk => ⟨hk.2, ⟨hk.1.1, ⟨hk.1.2.1, ⟨hk.1.2.2.1, ⟨hk.1.2.2.2.1, hk.1.2.2.2.2⟩⟩⟩⟩⟩)), (by exact zd_ HO260.out (fun _ hk => ⟨hk.1.2, ⟨hk.2, ⟨hk.1.1.1.1.2, ⟨hk.1.1.1.2, ⟨hk.1.1.2, hk.1.1.1.1.1.2⟩⟩⟩⟩⟩)), (by exact zd_ HO266.out (fun _ hk => ⟨hk.1.1, ⟨hk.2, ⟨hk.1.2.1, ⟨hk.1.2.2.1, ⟨hk.1.2.2.2.1, hk.1.2.2.2.2⟩⟩⟩⟩⟩)), (by exact zd_ HO_10.out (fun _ hk => ⟨hk.1.1, ⟨hk.2, ⟨hk.1.2.1, ⟨hk.1.2.2.1, ⟨hk.1.2.2.2.1, hk.1.2.2.2.2⟩⟩⟩⟩⟩)), (by exact zd_ HO_11.out (fun _ hk => ⟨hk.1.1, ⟨hk.2, ⟨hk.1.2.1, ⟨hk.1.2.2.1, ⟨hk.1.2.2.2.1, hk.1.2.2.2.2⟩⟩⟩⟩⟩)), (by exact zd_ HO_12.out (fun _ hk => ⟨hk.1.1, ⟨hk.2, ⟨hk.1.2.1, ⟨hk.1.2.2.1, ⟨hk.1.2.2.2.1, hk.1.2.2.2.2⟩⟩⟩⟩⟩)), HO_13.out, (by exact zd_ HO_9.out (fun _ hk => ⟨hk.1.1, ⟨hk.2, ⟨hk.1.2.1, ⟨hk.1.2.2.1, ⟨hk.1.2.2.2.1, hk.1.2.2.2.2⟩⟩⟩⟩⟩)), BK242.out, BK245.out, (by repeat (((with_reducible (exact HB.out)))))⟩)
         skip
         refine Kd.R_append_rows_step (Kd.int .u8) (w0 := w) w.heap.size (by rfl) (.tmp 88) (.tmp 91) 36 5 (.int .u8 0) 1 rfl Tryd.underlying36 info5 rfl (by decide) (by omega) (.slice Ao43 x9_2.length co43) x9_2 y252 _ _ _ (fun k_ => some k_ ≠ (.slice Ao44 x10_2.length co44 : Value).ownBlock ∧ some k_ ≠ (.slice Ao45 x11_2.length co45 : Value).ownBlock ∧ some k_ ≠ (.slice Ao46 x12_2.length co46 : Value).ownBlock ∧ some k_ ≠ (.slice Ao54 y252.length co54 : Value).ownBlock ∧ some k_ ≠ (v265 : Value).ownBlock) (fun _ => False) rfl rfl ?aO ?aR (fun _ _ h => h) (fun _ h => h.elim) ?aF ?aB ?aS ?aL ?_
         (case aR => repeat ((exact (zl_ HO254.out).2.2)))
         (case aB => exact (by repeat (((with_reducible (exact HB.out))))))
         (case aF => exact (fun k_ hk => ⟨Kd.fresh' (zi_ HO_10.out) k_ hk, Kd.fresh' (zi_ HO_11.out) k_ hk, Kd.fresh' (zi_ HO_12.out) k_ hk, Kd.fresh' (zi_ HO254.out) k_ hk, Kd.fresh' (zi_ HO266.out) k_ hk⟩))
         (case aO => exact (by exact zd_ HO_9.out (fun _ hk => ⟨hk.2.2.1, ⟨hk.2.2.2.1, ⟨hk.2.2.2.2, ⟨hk.1, hk.2.1⟩⟩⟩⟩)))
         (case aS => exact (zw_ (by repeat (((with_reducible (exact HB.out)))))))
         (case aL => have := LMc33.out; omega)
         intro v256 w53 ho hb hg hat
         rw [← Ny255.out] at ho
         have n0_ := Aside0.mk (Kd.R_after (ok := (fun k_ => some k_ ≠ (.slice Ao45 x11_2.length co45 : Value).ownBlock ∧ some k_ ≠ (.slice Ao46 x12_2.length co46 : Value).ownBlock ∧ some k_ ≠ (.slice Ao54 y252.length co54 : Value).ownBlock ∧ some k_ ≠ (v265 : Value).ownBlock)) (by exact zd_ HO_10.out (fun _ hk => ⟨⟨hk.2.2.1, ⟨hk.2.2.2.1, ⟨hk.1, hk.2.1⟩⟩⟩, hk.2.2.2.2⟩)) hg hat)
         have n1_ := Aside0.mk (Kd.R_after (ok := (fun k_ => some k_ ≠ (.slice Ao44 x10_2.length co44 : Value).ownBlock ∧ some k_ ≠ (.slice Ao46 x12_2.length co46 : Value).ownBlock ∧ some k_ ≠ (.slice Ao54 y252.length co54 : Value).ownBlock ∧ some k_ ≠ (v265 : Value).ownBlock)) (by exact zd_ HO_11.out (fun _ hk => ⟨⟨hk.2.2.1, ⟨hk.2.2.2.1, ⟨hk.1, hk.2.1⟩⟩⟩, hk.2.2.2.2⟩)) hg hat)
         have n2_ := Aside0.mk (Kd.R_after (ok := (fun k_ => some k_ ≠ (.slice Ao44 x10_2.length co44 : Value).ownBlock ∧ some k_ ≠ (.slice Ao45 x11_2.length co45 : Value).ownBlock ∧ some k_ ≠ (.slice Ao54 y252.length co54 : Value).ownBlock ∧ some k_ ≠ (v265 : Value).ownBlock)) (by exact zd_ HO_12.out (fun _ hk => ⟨⟨hk.2.2.1, ⟨hk.2.2.2.1, ⟨hk.1, hk.2.1⟩⟩⟩, hk.2.2.2.2⟩)) hg hat)
         have n3_ := Aside0.mk (Kd.R_over' HO_13.out (Kd.R_typed HO_9.out) (by decide) hg)
         have n4_ := Aside0.mk (blk_grown BK242.out hg (Kd.R_ne HO_9.out BK242.out (by decide)))
         have n5_ := Aside0.mk (blk_grown BK245.out hg (Kd.R_ne HO_9.out BK245.out (by decide)))
         have n6_ := Aside0.mk (Kd.R_after (ok := (fun k_ => some k_ ≠ (.slice Ao44 x10_2.length co44 : Value).ownBlock ∧ some k_ ≠ (.slice Ao45 x11_2.length co45 : Value).ownBlock ∧ some k_ ≠ (.slice Ao46 x12_2.length co46 : Value).ownBlock ∧ some k_ ≠ (v265 : Value).ownBlock)) (by exact zd_ HO254.out (fun _ hk => ⟨⟨hk.2.1, ⟨hk.2.2.1, ⟨hk.2.2.2.1, hk.1⟩⟩⟩, hk.2.2.2.2⟩)) hg hat)
         have n7_ := Aside0.mk (Kd.R_after (ok := (fun k_ => some k_ ≠ (.slice Ao44 x10_2.length co44 : Value).ownBlock ∧ some k_ ≠ (.slice Ao45 x11_2.length co45 : Value).ownBlock ∧ some k_ ≠ (.slice Ao46 x12_2.length co46 : Value).ownBlock ∧ some k_ ≠ (.slice Ao54 y252.length co54 : Value).ownBlock)) (by exact zd_ HO266.out (fun _ hk => ⟨⟨hk.2.1, ⟨hk.2.2.1, ⟨hk.2.2.2.1, hk.1⟩⟩⟩, hk.2.2.2.2⟩)) hg hat)
         have n8_ := Aside0.mk (hb)
         have n9_ := Aside0.mk (ho)
         clear HO_10 HO_11 HO_12 HO_13 BK242 BK245 HO254 HO266 HB HO_9
         revert n0_ n1_ n2_ n3_ n4_ n5_ n6_ n7_ n8_ n9_
         intro HO_10 HO_11 HO_12 HO_13 BK242 BK245 HO254 HO266 HB HO257
         clear ho hb hg hat
         refine hK.out _ _ ⟨(blk_cell BK245.out 0).trans rfl, (blk_cell BK245.out 1).trans rfl⟩ (fun hHeld => ?_)
         clear hK K
         refine norm_ (a' := ?_) ?_ ?_
         rotate_left
         ·show Act.put _ (some 92) _ = _
          simp only [Act.put, zA_, zB_, zC_, i64_w, i32_w]
          rfl
         exact norm_ (by (simp only [putAll, Act.put, List.setIfInBounds_toArray, List.set_cons_zero, List.set_cons_succ]; done)) (hJ3_4_16 (.slice Ao54 y252.length co54, v256, v265) _ ⟨hHeld, (by exact zd_ HO254.out (fun _ hk => ⟨hk.2, ⟨hk.1.2.2.2, ⟨hk.1.1, ⟨hk.1.2.1, hk.1.2.2.1⟩⟩⟩⟩)), (by exact zd_ HO257.out (fun _ hk => ⟨hk.2.2.2.1, ⟨hk.2.2.2.2, ⟨hk.1, ⟨hk.2.1, hk.2.2.1⟩⟩⟩⟩)), (by exact zd_ HO266.out (fun _ hk => ⟨hk.1.2.2.2, ⟨hk.2, ⟨hk.1.1, ⟨hk.1.2.1, hk.1.2.2.1⟩⟩⟩⟩)), (by exact zd_ HO_10.out (fun _ hk => ⟨hk.1.2.2.1, ⟨hk.2, ⟨hk.1.2.2.2, ⟨hk.1.1, hk.1.2.1⟩⟩⟩⟩)), (by exact zd_ HO_11.out (fun _ hk => ⟨hk.1.2.2.1, ⟨hk.2, ⟨hk.1.2.2.2, ⟨hk.1.1, hk.1.2.1⟩⟩⟩⟩)), (by exact zd_ HO_12.out (fun _ hk => ⟨hk.1.2.2.1, ⟨hk.2, ⟨hk.1.2.2.2, ⟨hk.1.1, hk.1.2.1⟩⟩⟩⟩)), HO_13.out, BK242.out, BK245.out, (by repeat (((with_reducible (exact HB.out)))))⟩)
        intro hJ3_16
        refine join_ (σ := Value × Value) 11 #[Y,Y,Y,Z,Z,Y,Y,Y,Y,Z,Y,Y,Y,Y,Y,Y,Y,Z,Y,Y,Y,Y,Z,Z,Z,Z,Z,Z,Z] (fun s_ => [(96, s_.1), (104, s_.2)]) (fun s_ w' => (w'.cell? ⟨gb245, 0, none⟩ = some (.int .u8 ((rd_T48 l0 x52_2).f0)) ∧ w'.cell? ⟨gb245, 1, none⟩ = some (.int .u8 ((rd_T48 l0 x52_2).f1))) ∧ (Kd.R (Kd.int .u8) 5 w' w.heap.size (fun k_ => some k_ ≠ (s_.2 : Value).ownBlock ∧ some k_ ≠ (.slice Ao44 x10_2.length co44 : Value).ownBlock ∧ some k_ ≠ (.slice Ao45 x11_2.length co45 : Value).ownBlock ∧ some k_ ≠ (.slice Ao46 x12_2.length co46 : Value).ownBlock ∧ some k_ ≠ (.slice Ao43 x9_2.length co43 : Value).ownBlock) s_.1 y258) ∧ (Kd.R (Kd.int .u8) 5 w' w.heap.size (fun k_ => some k_ ≠ (s_.1 : Value).ownBlock ∧ some k_ ≠ (.slice Ao44 x10_2.length co44 : Value).ownBlock ∧ some k_ ≠ (.slice Ao45 x11_2.length co45 : Value).ownBlock ∧ some k_ ≠ (.slice Ao46 x12_2.length co46 : Value).ownBlock ∧ some k_ ≠ (.slice Ao43 x9_2.length co43 : Value).ownBlock) s_.2 y264) ∧ (Kd.R (Kd.int .u8) 5 w' w.heap.size (fun k_ => some k_ ≠ (s_.1 : Value).ownBlock ∧ some k_ ≠ (s_.2 : Value).ownBlock ∧ some k_ ≠ (.slice Ao45 x11_2.length co45 : Value).ownBlock ∧ some k_ ≠ (.slice Ao46 x12_2.length co46 : Value).ownBlock ∧ some k_ ≠ (.slice Ao43 x9_2.length co43 : Value).ownBlock) (.slice Ao44 x10_2.length co44) x10_2) ∧ (Kd.R (Kd.int .u8) 5 w' w.heap.size (fun k_ => some k_ ≠ (s_.1 : Value).ownBlock ∧ some k_ ≠ (s_.2 : Value).ownBlock ∧ some k_ ≠ (.slice Ao44 x10_2.length co44 : Value).ownBlock ∧ some k_ ≠ (.slice Ao46 x12_2.length co46 : Value).ownBlock ∧ some k_ ≠ (.slice Ao43 x9_2.length co43 : Value).ownBlock) (.slice Ao45 x11_2.length co45) x11_2) ∧ (Kd.R (Kd.int .u8) 5 w' w.heap.size (fun k_ => some k_ ≠ (s_.1 : Value).ownBlock ∧ some k_ ≠ (s_.2 : Value).ownBlock ∧ some k_ ≠ (.slice Ao44 x10_2.length co44 : Value).ownBlock ∧ some k_ ≠ (.slice Ao45 x11_2.length co45 : Value).ownBlock ∧ some k_ ≠ (.slice Ao43 x9_2.length co43 : Value).ownBlock) (.slice Ao46 x12_2.length co46) x12_2) ∧ (Kd.R Kd.string 9 w' w.heap.size (fun _ => True) u13 x13_2) ∧ (Kd.R (Kd.int .u8) 5 w' w.heap.size (fun k_ => some k_ ≠ (s_.1 : Value).ownBlock ∧ some k_ ≠ (s_.2 : Value).ownBlock ∧ some k_ ≠ (.slice Ao44 x10_2.length co44 : Value).ownBlock ∧ some k_ ≠ (.slice Ao45 x11_2.length co45 : Value).ownBlock ∧ some k_ ≠ (.slice Ao46 x12_2.length co46 : Value).ownBlock) (.slice Ao43 x9_2.length co43) x9_2) ∧ (w'.heap[gb242]? = some (.cells #[.slice A1_0 l1_0.length c1_0, .slice A1_1 l1_1.length c1_1] 47 (0, 0))) ∧ (w'.heap[gb245]? = some (.cells #[.int .u8 ((rd_T48 l0 x52_2).f0), .int .u8 ((rd_T48 l0 x52_2).f1)] 48 (0, 0))) ∧ (Below w.heap.size w w')) ?_ ?_
        rotate_left
        rotate_left
        ·skip
         rintro ⟨v259, v265⟩ w52 ⟨hS_, h0_, h1_, h2_, h3_, h4_, h5_, h6_, h7_, h8_, h9_⟩
         have n0_ := Aside0.mk h0_
         try dsimp only at n0_
         have n1_ := Aside0.mk h1_
         try dsimp only at n1_
         have n2_ := Aside0.mk h2_
         try dsimp only at n2_
         have n3_ := Aside0.mk h3_
         try dsimp only at n3_
         have n4_ := Aside0.mk h4_
         try dsimp only at n4_
         have n5_ := Aside0.mk h5_
         try dsimp only at n5_
         have n6_ := Aside0.mk h6_
         try dsimp only at n6_
         have n7_ := Aside0.mk h7_
         try dsimp only at n7_
         have n8_ := Aside0.mk h8_
         try dsimp only at n8_
         have n9_ := Aside0.mk h9_
         try dsimp only at n9_
         clear HO_9 HO_10 HO_11 HO_12 HO_13 BK242 BK245 HB
         clear h0_ h1_ h2_ h3_ h4_ h5_ h6_ h7_ h8_ h9_
         have HO260 := n0_
         have HO266 := n1_
         have HO_10 := n2_
         have HO_11 := n3_
         have HO_12 := n4_
         have HO_13 := n5_
         have HO_9 := n6_
         have BK242 := n7_
         have BK245 := n8_
         have HB := n9_
         clear n0_ n1_ n2_ n3_ n4_ n5_ n6_ n7_ n8_ n9_
         have hHeld : w52.cell? ⟨gb245, 0, none⟩ = some (.int .u8 ((rd_T48 l0 x52_2).f0)) ∧ w52.cell? ⟨gb245, 1, none⟩ = some (.int .u8 ((rd_T48 l0 x52_2).f1)) := hS_
         refine norm_ (a' := ?_) ?_ ?_
         rotate_left
         ·simp only [putAll, Act.put, List.setIfInBounds_toArray, List.set_cons_zero, List.set_cons_succ]
          rfl
         refine one_ (i := 3) (N := some 91) #[Y,Y,Y,Y,Z,Y,Y,Y,Y,Z,Y,Y,Y,Y,Y,Y,Y,Z,Y,Y,Y,Y,Z,Z,Z,Z,Z,Z,Z] rfl rfl (one_of HT_.out (by kernel_rfl)) (by decide) (fun K hK => ?_)
         refine Kd.R_lit_step (Kd.int .u8) _ 5 ?hg (N := 91) ?hd (xs := ([((rd_T48 l0 x52_2).f0)] : List Int)) (inner := [.int .u8 ((rd_T48 l0 x52_2).f0)]) (ok := fun _ => True) (okp := fun _ => True) ?hr ?hp (fun _ hk => hk) trivial (Below.refl _ _) (Nat.le_refl _) (by simp) ?_; (case hd => rfl); (case hg => rfl); (case hr => (go_simp; done)); (case hp => exact (Reps.one (show Kd.M (Kd.int .u8) _ _ _ ((rd_T48 l0 x52_2).f0) [.int .u8 ((rd_T48 l0 x52_2).f0)] from rfl) (Reps.none _ _)))
         intro v253 w53 ho54 hb hg_ hnew_
         clear hg_ hnew_
         (rw [← Ny252.out] at ho54)
         have n0_ := Aside0.mk (zj_ HO_9.out (zk_ ho54) hb)
         have n1_ := Aside0.mk (zj_ HO_10.out (zk_ ho54) hb)
         have n2_ := Aside0.mk (zj_ HO_11.out (zk_ ho54) hb)
         have n3_ := Aside0.mk (zj_ HO_12.out (zk_ ho54) hb)
         have n4_ := Aside0.mk (Kd.R_below HO_13.out hb)
         have n5_ := Aside0.mk (zj_ HO260.out (zk_ ho54) hb)
         have n6_ := Aside0.mk (zj_ HO266.out (zk_ ho54) hb)
         have n7_ := Aside0.mk (zg_ (zh_ (zh_ (zh_ (zh_ (zh_ (zh_ ho54 (zi_ HO_9.out)) (zi_ HO_10.out)) (zi_ HO_11.out)) (zi_ HO_12.out)) (zi_ HO260.out)) (zi_ HO266.out)) (zw_ (by repeat (((with_reducible (exact HB.out)))))))
         have n8_ := Aside0.mk (zq_ BK242.out hb)
         have n9_ := Aside0.mk (zq_ BK245.out hb)
         have n10_ := Aside0.mk (zv_ (by repeat (((with_reducible (exact HB.out))))) hb)
         clear HO_9 HO_10 HO_11 HO_12 HO_13 HO260 HO266 BK242 BK245 HB
         revert n0_ n1_ n2_ n3_ n4_ n5_ n6_ n7_ n8_ n9_ n10_
         intro HO_9 HO_10 HO_11 HO_12 HO_13 HO260 HO266 HO254 BK242 BK245 HB
         clear hb ho54
         refine hK.out _ _ ⟨(blk_cell BK245.out 0).trans rfl, (blk_cell BK245.out 1).trans rfl⟩ (fun hHeld => ?_)
         clear hK K
         refine norm_ (a' := ?_) ?_ ?_
         rotate_left
         ·show Act.put _ (some 91) _ = _
          simp only [Act.put, zA_, zB_, zC_, i64_w, i32_w]
          rfl
         exact norm_ (by (simp only [putAll, Act.put, List.setIfInBounds_toArray, List.set_cons_zero, List.set_cons_succ]; done)) (hJ3_8_16 (v253, v259, v265) _ ⟨hHeld, (by exact zd_ HO254.out (fun _ hk => ⟨hk.1.2, ⟨hk.2, ⟨hk.1.1.1.1.2, ⟨hk.1.1.1.2, ⟨hk.1.1.2, hk.1.1.1.1.1.2⟩⟩⟩⟩⟩)), (by exact zd_ HO260.out (fun _ hk => ⟨hk.2, ⟨hk.1.1, ⟨hk.1.2.1, ⟨hk.1.2.2.1, ⟨hk.1.2.2.2.1, hk.1.2.2.2.2⟩⟩⟩⟩⟩)), (by exact zd_ HO266.out (fun _ hk => ⟨hk.2, ⟨hk.1.1, ⟨hk.1.2.1, ⟨hk.1.2.2.1, ⟨hk.1.2.2.2.1, hk.1.2.2.2.2⟩⟩⟩⟩⟩)), (by exact zd_ HO_10.out (fun _ hk => ⟨hk.2, ⟨hk.1.1, ⟨hk.1.2.1, ⟨hk.1.2.2.1, ⟨hk.1.2.2.2.1, hk.1.2.2.2.2⟩⟩⟩⟩⟩)), (by exact zd_ HO_11.out (fun _ hk => ⟨hk.2, ⟨hk.1.1, ⟨hk.1.2.1, ⟨hk.1.2.2.1, ⟨hk.1.2.2.2.1, hk.1.2.2.2.2⟩⟩⟩⟩⟩)), (by exact zd_ HO_12.out (fun _ hk => ⟨hk.2, ⟨hk.1.1, ⟨hk.1.2.1, ⟨hk.1.2.2.1, ⟨hk.1.2.2.2.1, hk.1.2.2.2.2⟩⟩⟩⟩⟩)), HO_13.out, (by exact zd_ HO_9.out (fun _ hk => ⟨hk.2, ⟨hk.1.1, ⟨hk.1.2.1, ⟨hk.1.2.2.1, ⟨hk.1.2.2.2.1, hk.1.2.2.2.2⟩⟩⟩⟩⟩)), BK242.out, BK245.out, (by repeat (((with_reducible (exact HB.out)))))⟩)
        intro hJ8_16
        refine join_ (σ := Value) 12 #[Y,Y,Y,Y,Z,Y,Y,Y,Z,Z,Y,Y,Y,Y,Y,Y,Z,Z,Y,Y,Y,Y,Z,Z,Z,Z,Z,Z,Z] (fun s_ => [(91, s_)]) (fun s_ w' => (w'.cell? ⟨gb245, 0, none⟩ = some (.int .u8 ((rd_T48 l0 x52_2).f0)) ∧ w'.cell? ⟨gb245, 1, none⟩ = some (.int .u8 ((rd_T48 l0 x52_2).f1))) ∧ (Kd.R (Kd.int .u8) 5 w' w.heap.size (fun k_ => some k_ ≠ (.slice Ao44 x10_2.length co44 : Value).ownBlock ∧ some k_ ≠ (.slice Ao45 x11_2.length co45 : Value).ownBlock ∧ some k_ ≠ (.slice Ao46 x12_2.length co46 : Value).ownBlock ∧ some k_ ≠ (.slice Ao43 x9_2.length co43 : Value).ownBlock) s_ y252) ∧ (Kd.R (Kd.int .u8) 5 w' w.heap.size (fun k_ => some k_ ≠ (s_ : Value).ownBlock ∧ some k_ ≠ (.slice Ao45 x11_2.length co45 : Value).ownBlock ∧ some k_ ≠ (.slice Ao46 x12_2.length co46 : Value).ownBlock ∧ some k_ ≠ (.slice Ao43 x9_2.length co43 : Value).ownBlock) (.slice Ao44 x10_2.length co44) x10_2) ∧ (Kd.R (Kd.int .u8) 5 w' w.heap.size (fun k_ => some k_ ≠ (s_ : Value).ownBlock ∧ some k_ ≠ (.slice Ao44 x10_2.length co44 : Value).ownBlock ∧ some k_ ≠ (.slice Ao46 x12_2.length co46 : Value).ownBlock ∧ some k_ ≠ (.slice Ao43 x9_2.length co43 : Value).ownBlock) (.slice Ao45 x11_2.length co45) x11_2) ∧ (Kd.R (Kd.int .u8) 5 w' w.heap.size (fun k_ => some k_ ≠ (s_ : Value).ownBlock ∧ some k_ ≠ (.slice Ao44 x10_2.length co44 : Value).ownBlock ∧ some k_ ≠ (.slice Ao45 x11_2.length co45 : Value).ownBlock ∧ some k_ ≠ (.slice Ao43 x9_2.length co43 : Value).ownBlock) (.slice Ao46 x12_2.length co46) x12_2) ∧ (Kd.R Kd.string 9 w' w.heap.size (fun _ => True) u13 x13_2) ∧ (Kd.R (Kd.int .u8) 5 w' w.heap.size (fun k_ => some k_ ≠ (s_ : Value).ownBlock ∧ some k_ ≠ (.slice Ao44 x10_2.length co44 : Value).ownBlock ∧ some k_ ≠ (.slice Ao45 x11_2.length co45 : Value).ownBlock ∧ some k_ ≠ (.slice Ao46 x12_2.length co46 : Value).ownBlock) (.slice Ao43 x9_2.length co43) x9_2) ∧ (w'.heap[gb242]? = some (.cells #[.slice A1_0 l1_0.length c1_0, .slice A1_1 l1_1.length c1_1] 47 (0, 0))) ∧ (w'.heap[gb245]? = some (.cells #[.int .u8 ((rd_T48 l0 x52_2).f0), .int .u8 ((rd_T48 l0 x52_2).f1)] 48 (0, 0))) ∧ (Below w.heap.size w w')) ?_ ?_
        rotate_left
        rotate_left
        ·skip
         rintro v253 w50 ⟨hS_, h0_, h1_, h2_, h3_, h4_, h5_, h6_, h7_, h8_⟩
         have n0_ := Aside0.mk h0_
         try dsimp only at n0_
         have n1_ := Aside0.mk h1_
         try dsimp only at n1_
         have n2_ := Aside0.mk h2_
         try dsimp only at n2_
         have n3_ := Aside0.mk h3_
         try dsimp only at n3_
         have n4_ := Aside0.mk h4_
         try dsimp only at n4_
         have n5_ := Aside0.mk h5_
         try dsimp only at n5_
         have n6_ := Aside0.mk h6_
         try dsimp only at n6_
         have n7_ := Aside0.mk h7_
         try dsimp only at n7_
         have n8_ := Aside0.mk h8_
         try dsimp only at n8_
         clear HO_9 HO_10 HO_11 HO_12 HO_13 BK242 BK245 HB
         clear h0_ h1_ h2_ h3_ h4_ h5_ h6_ h7_ h8_
         have HO254 := n0_
         have HO_10 := n1_
         have HO_11 := n2_
         have HO_12 := n3_
         have HO_13 := n4_
         have HO_9 := n5_
         have BK242 := n6_
         have BK245 := n7_
         have HB := n8_
         clear n0_ n1_ n2_ n3_ n4_ n5_ n6_ n7_ n8_
         have hHeld : w50.cell? ⟨gb245, 0, none⟩ = some (.int .u8 ((rd_T48 l0 x52_2).f0)) ∧ w50.cell? ⟨gb245, 1, none⟩ = some (.int .u8 ((rd_T48 l0 x52_2).f1)) := hS_
         obtain ⟨Ao52, co52, eo52⟩ := Kd.R_slice HO254.out
         (subst eo52)
         refine norm_ (a' := ?_) ?_ ?_
         rotate_left
         ·simp only [putAll, Act.put, List.setIfInBounds_toArray, List.set_cons_zero, List.set_cons_succ]
          rfl
         refine three_ (i := 4) (j := 8) (k := 16) (Ni := some 92) (Nj := some 96) (Nk := some 104) #[Y,Y,Y,Y,Y,Y,Y,Y,Z,Z,Y,Y,Y,Y,Y,Y,Z,Z,Y,Y,Y,Y,Z,Z,Z,Z,Z,Z,Z] #[Y,Y,Y,Y,Z,Y,Y,Y,Y,Z,Y,Y,Y,Y,Y,Y,Z,Z,Y,Y,Y,Y,Z,Z,Z,Z,Z,Z,Z] #[Y,Y,Y,Y,Z,Y,Y,Y,Z,Z,Y,Y,Y,Y,Y,Y,Y,Z,Y,Y,Y,Y,Z,Z,Z,Z,Z,Z,Z] rfl rfl rfl rfl rfl rfl (three_of HT_.out (by kernel_rfl)) (by decide) (by decide) (by decide) (fun K hK => ?_) (fun K hK => ?_) (fun K hK => ?_)
         rotate_left
         ·skip
          refine Kd.R_lit_step (Kd.int .u8) _ 5 ?hg (N := 96) ?hd (xs := ([((rd_T48 l0 x52_2).f1)] : List Int)) (inner := [.int .u8 ((rd_T48 l0 x52_2).f1)]) (ok := fun _ => True) (okp := fun _ => True) ?hr ?hp (fun _ hk => hk) trivial (Below.refl _ _) (Nat.le_refl _) (by simp) ?_; (case hd => rfl); (case hg => rfl); (case hr => (go_simp; done)); (case hp => exact (Reps.one (show Kd.M (Kd.int .u8) _ _ _ ((rd_T48 l0 x52_2).f1) [.int .u8 ((rd_T48 l0 x52_2).f1)] from rfl) (Reps.none _ _)))
          intro v259 w51 ho52 hb hg_ hnew_
          clear hg_ hnew_
          (rw [← Ny258.out] at ho52)
          have n0_ := Aside0.mk (zj_ HO_9.out (zk_ ho52) hb)
          have n1_ := Aside0.mk (zj_ HO_10.out (zk_ ho52) hb)
          have n2_ := Aside0.mk (zj_ HO_11.out (zk_ ho52) hb)
          have n3_ := Aside0.mk (zj_ HO_12.out (zk_ ho52) hb)
          have n4_ := Aside0.mk (Kd.R_below HO_13.out hb)
          have n5_ := Aside0.mk (zj_ HO254.out (zk_ ho52) hb)
          have n6_ := Aside0.mk (zg_ (zh_ (zh_ (zh_ (zh_ (zh_ ho52 (zi_ HO_9.out)) (zi_ HO_10.out)) (zi_ HO_11.out)) (zi_ HO_12.out)) (zi_ HO254.out)) (zw_ (by repeat (((with_reducible (exact HB.out)))))))
          have n7_ := Aside0.mk (zq_ BK242.out hb)
          have n8_ := Aside0.mk (zq_ BK245.out hb)
          have n9_ := Aside0.mk (zv_ (by repeat (((with_reducible (exact HB.out))))) hb)
          clear HO_9 HO_10 HO_11 HO_12 HO_13 HO254 BK242 BK245 HB
          revert n0_ n1_ n2_ n3_ n4_ n5_ n6_ n7_ n8_ n9_
          intro HO_9 HO_10 HO_11 HO_12 HO_13 HO254 HO260 BK242 BK245 HB
          clear hb ho52
          refine hK.out _ _ ⟨(blk_cell BK245.out 0).trans rfl, (blk_cell BK245.out 1).trans rfl⟩ (fun hHeld => ?_)
          clear hK K
          refine norm_ (a' := ?_) ?_ ?_
          rotate_left
          ·show Act.put _ (some 96) _ = _
           simp only [Act.put, zA_, zB_, zC_, i64_w, i32_w]
           rfl
          exact norm_ (by (simp only [putAll, Act.put, List.setIfInBounds_toArray, List.set_cons_zero, List.set_cons_succ]; done)) (hJ3_8 ((.slice Ao52 y252.length co52), v259) _ ⟨hHeld, (by exact zd_ HO254.out (fun _ hk => ⟨hk.2, ⟨hk.1.1, ⟨hk.1.2.1, ⟨hk.1.2.2.1, hk.1.2.2.2⟩⟩⟩⟩)), (by exact zd_ HO260.out (fun _ hk => ⟨hk.2, ⟨hk.1.1.1.2, ⟨hk.1.1.2, ⟨hk.1.2, hk.1.1.1.1.2⟩⟩⟩⟩)), (by exact zd_ HO_10.out (fun _ hk => ⟨hk.1.1, ⟨hk.2, ⟨hk.1.2.1, ⟨hk.1.2.2.1, hk.1.2.2.2⟩⟩⟩⟩)), (by exact zd_ HO_11.out (fun _ hk => ⟨hk.1.1, ⟨hk.2, ⟨hk.1.2.1, ⟨hk.1.2.2.1, hk.1.2.2.2⟩⟩⟩⟩)), (by exact zd_ HO_12.out (fun _ hk => ⟨hk.1.1, ⟨hk.2, ⟨hk.1.2.1, ⟨hk.1.2.2.1, hk.1.2.2.2⟩⟩⟩⟩)), HO_13.out, (by exact zd_ HO_9.out (fun _ hk => ⟨hk.1.1, ⟨hk.2, ⟨hk.1.2.1, ⟨hk.1.2.2.1, hk.1.2.2.2⟩⟩⟩⟩)), BK242.out, BK245.out, (by repeat (((with_reducible (exact HB.out)))))⟩)
         ·skip
          refine Kd.R_lit_step (Kd.int .u8) _ 5 ?hg (N := 104) ?hd (xs := ([Go.bits .xor .u8 ((rd_T48 l0 x52_2).f0) ((rd_T48 l0 x52_2).f1)] : List Int)) (inner := [.int .u8 (Go.bits .xor .u8 ((rd_T48 l0 x52_2).f0) ((rd_T48 l0 x52_2).f1))]) (ok := fun _ => True) (okp := fun _ => True) ?hr ?hp (fun _ hk => hk) trivial (Below.refl _ _) (Nat.le_refl _) (by simp) ?_; (case hd => rfl); (case hg => rfl); (case hr => (go_simp; done)); (case hp => exact (Reps.one (show Kd.M (Kd.int .u8) _ _ _ (Go.bits .xor .u8 ((rd_T48 l0 x52_2).f0) ((rd_T48 l0 x52_2).f1)) [.int .u8 (Go.bits .xor .u8 ((rd_T48 l0 x52_2).f0) ((rd_T48 l0 x52_2).f1))] from rfl) (Reps.none _ _)))
          intro v265 w51 ho52 hb hg_ hnew_
          clear hg_ hnew_
          (rw [← Ny264.out] at ho52)
          have n0_ := Aside0.mk (zj_ HO_9.out (zk_ ho52) hb)
          have n1_ := Aside0.mk (zj_ HO_10.out (zk_ ho52) hb)
          have n2_ := Aside0.mk (zj_ HO_11.out (zk_ ho52) hb)
          have n3_ := Aside0.mk (zj_ HO_12.out (zk_ ho52) hb)
          have n4_ := Aside0.mk (Kd.R_below HO_13.out hb)
          have n5_ := Aside0.mk (zj_ HO254.out (zk_ ho52) hb)
          have n6_ := Aside0.mk (zg_ (zh_ (zh_ (zh_ (zh_ (zh_ ho52 (zi_ HO_9.out)) (zi_ HO_10.out)) (zi_ HO_11.out)) (zi_ HO_12.out)) (zi_ HO254.out)) (zw_ (by repeat (((with_reducible (exact HB.out)))))))
          have n7_ := Aside0.mk (zq_ BK242.out hb)
          have n8_ := Aside0.mk (zq_ BK245.out hb)
          have n9_ := Aside0.mk (zv_ (by repeat (((with_reducible (exact HB.out))))) hb)
          clear HO_9 HO_10 HO_11 HO_12 HO_13 HO254 BK242 BK245 HB
          revert n0_ n1_ n2_ n3_ n4_ n5_ n6_ n7_ n8_ n9_
          intro HO_9 HO_10 HO_11 HO_12 HO_13 HO254 HO266 BK242 BK245 HB
          clear hb ho52
          refine hK.out _ _ ⟨(blk_cell BK245.out 0).trans rfl, (blk_cell BK245.out 1).trans rfl⟩ (fun hHeld => ?_)
          clear hK K
          refine norm_ (a' := ?_) ?_ ?_
          rotate_left
          ·show Act.put _ (some 104) _ = _
           simp only [Act.put, zA_, zB_, zC_, i64_w, i32_w]
           rfl
          exact norm_ (by (simp only [putAll, Act.put, List.setIfInBounds_toArray, List.set_cons_zero, List.set_cons_succ]; done)) (hJ3_16 ((.slice Ao52 y252.length co52), v265) _ ⟨hHeld, (by exact zd_ HO254.out (fun _ hk => ⟨hk.2, ⟨hk.1.1, ⟨hk.1.2.1, ⟨hk.1.2.2.1, hk.1.2.2.2⟩⟩⟩⟩)), (by exact zd_ HO266.out (fun _ hk => ⟨hk.2, ⟨hk.1.1.1.2, ⟨hk.1.1.2, ⟨hk.1.2, hk.1.1.1.1.2⟩⟩⟩⟩)), (by exact zd_ HO_10.out (fun _ hk => ⟨hk.1.1, ⟨hk.2, ⟨hk.1.2.1, ⟨hk.1.2.2.1, hk.1.2.2.2⟩⟩⟩⟩)), (by exact zd_ HO_11.out (fun _ hk => ⟨hk.1.1, ⟨hk.2, ⟨hk.1.2.1, ⟨hk.1.2.2.1, hk.1.2.2.2⟩⟩⟩⟩)), (by exact zd_ HO_12.out (fun _ hk => ⟨hk.1.1, ⟨hk.2, ⟨hk.1.2.1, ⟨hk.1.2.2.1, hk.1.2.2.2⟩⟩⟩⟩)), HO_13.out, (by exact zd_ HO_9.out (fun _ hk => ⟨hk.1.1, ⟨hk.2, ⟨hk.1.2.1, ⟨hk.1.2.2.1, hk.1.2.2.2⟩⟩⟩⟩)), BK242.out, BK245.out, (by repeat (((with_reducible (exact HB.out)))))⟩)
         skip
         refine Kd.R_append_rows_step (Kd.int .u8) (w0 := w) w.heap.size (by rfl) (.tmp 88) (.tmp 91) 36 5 (.int .u8 0) 1 rfl Tryd.underlying36 info5 rfl (by decide) (by omega) (.slice Ao43 x9_2.length co43) x9_2 y252 _ _ _ (fun k_ => some k_ ≠ (.slice Ao44 x10_2.length co44 : Value).ownBlock ∧ some k_ ≠ (.slice Ao45 x11_2.length co45 : Value).ownBlock ∧ some k_ ≠ (.slice Ao46 x12_2.length co46 : Value).ownBlock ∧ some k_ ≠ (.slice Ao52 y252.length co52 : Value).ownBlock) (fun _ => False) rfl rfl ?aO ?aR (fun _ _ h => h) (fun _ h => h.elim) ?aF ?aB ?aS ?aL ?_
         (case aR => repeat ((exact (zl_ HO254.out).2.2)))
         (case aB => exact (by repeat (((with_reducible (exact HB.out))))))
         (case aF => exact (fun k_ hk => ⟨Kd.fresh' (zi_ HO_10.out) k_ hk, Kd.fresh' (zi_ HO_11.out) k_ hk, Kd.fresh' (zi_ HO_12.out) k_ hk, Kd.fresh' (zi_ HO254.out) k_ hk⟩))
         (case aO => exact (by exact zd_ HO_9.out (fun _ hk => ⟨hk.2.1, ⟨hk.2.2.1, ⟨hk.2.2.2, hk.1⟩⟩⟩)))
         (case aS => exact (zw_ (by repeat (((with_reducible (exact HB.out)))))))
         (case aL => have := LMc33.out; omega)
         intro v256 w51 ho hb hg hat
         rw [← Ny255.out] at ho
         have n0_ := Aside0.mk (Kd.R_after (ok := (fun k_ => some k_ ≠ (.slice Ao45 x11_2.length co45 : Value).ownBlock ∧ some k_ ≠ (.slice Ao46 x12_2.length co46 : Value).ownBlock ∧ some k_ ≠ (.slice Ao52 y252.length co52 : Value).ownBlock)) (by exact zd_ HO_10.out (fun _ hk => ⟨⟨hk.2.1, ⟨hk.2.2.1, hk.1⟩⟩, hk.2.2.2⟩)) hg hat)
         have n1_ := Aside0.mk (Kd.R_after (ok := (fun k_ => some k_ ≠ (.slice Ao44 x10_2.length co44 : Value).ownBlock ∧ some k_ ≠ (.slice Ao46 x12_2.length co46 : Value).ownBlock ∧ some k_ ≠ (.slice Ao52 y252.length co52 : Value).ownBlock)) (by exact zd_ HO_11.out (fun _ hk => ⟨⟨hk.2.1, ⟨hk.2.2.1, hk.1⟩⟩, hk.2.2.2⟩)) hg hat)
         have n2_ := Aside0.mk (Kd.R_after (ok := (fun k_ => some k_ ≠ (.slice Ao44 x10_2.length co44 : Value).ownBlock ∧ some k_ ≠ (.slice Ao45 x11_2.length co45 : Value).ownBlock ∧ some k_ ≠ (.slice Ao52 y252.length co52 : Value).ownBlock)) (by exact zd_ HO_12.out (fun _ hk => ⟨⟨hk.2.1, ⟨hk.2.2.1, hk.1⟩⟩, hk.2.2.2⟩)) hg hat)
         have n3_ := Aside0.mk (Kd.R_over' HO_13.out (Kd.R_typed HO_9.out) (by decide) hg)
         have n4_ := Aside0.mk (blk_grown BK242.out hg (Kd.R_ne HO_9.out BK242.out (by decide)))
         have n5_ := Aside0.mk (blk_grown BK245.out hg (Kd.R_ne HO_9.out BK245.out (by decide)))
         have n6_ := Aside0.mk (Kd.R_after (ok := (fun k_ => some k_ ≠ (.slice Ao44 x10_2.length co44 : Value).ownBlock ∧ some k_ ≠ (.slice Ao45 x11_2.length co45 : Value).ownBlock ∧ some k_ ≠ (.slice Ao46 x12_2.length co46 : Value).ownBlock)) (by exact zd_ HO254.out (fun _ hk => ⟨⟨hk.1, ⟨hk.2.1, hk.2.2.1⟩⟩, hk.2.2.2⟩)) hg hat)
         have n7_ := Aside0.mk (hb)
         have n8_ := Aside0.mk (ho)
         clear HO_10 HO_11 HO_12 HO_13 BK242 BK245 HO254 HB HO_9
         revert n0_ n1_ n2_ n3_ n4_ n5_ n6_ n7_ n8_
         intro HO_10 HO_11 HO_12 HO_13 BK242 BK245 HO254 HB HO257
         clear ho hb hg hat
         refine hK.out _ _ ⟨(blk_cell BK245.out 0).trans rfl, (blk_cell BK245.out 1).trans rfl⟩ (fun hHeld => ?_)
         clear hK K
         refine norm_ (a' := ?_) ?_ ?_
         rotate_left
         ·show Act.put _ (some 92) _ = _
          simp only [Act.put, zA_, zB_, zC_, i64_w, i32_w]
          rfl
         exact norm_ (by (simp only [putAll, Act.put, List.setIfInBounds_toArray, List.set_cons_zero, List.set_cons_succ]; done)) (hJ3_4 (.slice Ao52 y252.length co52, v256) _ ⟨hHeld, (by exact zd_ HO254.out (fun _ hk => ⟨hk.2, ⟨hk.1.1, ⟨hk.1.2.1, hk.1.2.2⟩⟩⟩)), (by exact zd_ HO257.out (fun _ hk => ⟨hk.2.2.2, ⟨hk.1, ⟨hk.2.1, hk.2.2.1⟩⟩⟩)), (by exact zd_ HO_10.out (fun _ hk => ⟨hk.1.2.2, ⟨hk.2, ⟨hk.1.1, hk.1.2.1⟩⟩⟩)), (by exact zd_ HO_11.out (fun _ hk => ⟨hk.1.2.2, ⟨hk.2, ⟨hk.1.1, hk.1.2.1⟩⟩⟩)), (by exact zd_ HO_12.out (fun _ hk => ⟨hk.1.2.2, ⟨hk.2, ⟨hk.1.1, hk.1.2.1⟩⟩⟩)), HO_13.out, BK242.out, BK245.out, (by repeat (((with_reducible (exact HB.out)))))⟩)
        intro hJ3
        refine join_ (σ := Value) 12 #[Y,Y,Y,Z,Z,Y,Y,Y,Y,Z,Y,Y,Y,Y,Y,Y,Z,Z,Y,Y,Y,Y,Z,Z,Z,Z,Z,Z,Z] (fun s_ => [(96, s_)]) (fun s_ w' => (w'.cell? ⟨gb245, 0, none⟩ = some (.int .u8 ((rd_T48 l0 x52_2).f0)) ∧ w'.cell? ⟨gb245, 1, none⟩ = some (.int .u8 ((rd_T48 l0 x52_2).f1))) ∧ (Kd.R (Kd.int .u8) 5 w' w.heap.size (fun k_ => some k_ ≠ (.slice Ao44 x10_2.length co44 : Value).ownBlock ∧ some k_ ≠ (.slice Ao45 x11_2.length co45 : Value).ownBlock ∧ some k_ ≠ (.slice Ao46 x12_2.length co46 : Value).ownBlock ∧ some k_ ≠ (.slice Ao43 x9_2.length co43 : Value).ownBlock) s_ y258) ∧ (Kd.R (Kd.int .u8) 5 w' w.heap.size (fun k_ => some k_ ≠ (s_ : Value).ownBlock ∧ some k_ ≠ (.slice Ao45 x11_2.length co45 : Value).ownBlock ∧ some k_ ≠ (.slice Ao46 x12_2.length co46 : Value).ownBlock ∧ some k_ ≠ (.slice Ao43 x9_2.length co43 : Value).ownBlock) (.slice Ao44 x10_2.length co44) x10_2) ∧ (Kd.R (Kd.int .u8) 5 w' w.heap.size (fun k_ => some k_ ≠ (s_ : Value).ownBlock ∧ some k_ ≠ (.slice Ao44 x10_2.length co44 : Value).ownBlock ∧ some k_ ≠ (.slice Ao46 x12_2.length co46 : Value).ownBlock ∧ some k_ ≠ (.slice Ao43 x9_2.length co43 : Value).ownBlock) (.slice Ao45 x11_2.length co45) x11_2) ∧ (Kd.R (Kd.int .u8) 5 w' w.heap.size (fun k_ => some k_ ≠ (s_ : Value).ownBlock ∧ some k_ ≠ (.slice Ao44 x10_2.length co44 : Value).ownBlock ∧ some k_ ≠ (.slice Ao45 x11_2.length co45 : Value).ownBlock ∧ some k_ ≠ (.slice Ao43 x9_2.length co43 : Value).ownBlock) (.slice Ao46 x12_2.length co46) x12_2) ∧ (Kd.R Kd.string 9 w' w.heap.size (fun _ => True) u13 x13_2) ∧ (Kd.R (Kd.int .u8) 5 w' w.heap.size (fun k_ => some k_ ≠ (s_ : Value).ownBlock ∧ some k_ ≠ (.slice Ao44 x10_2.length co44 : Value).ownBlock ∧ some k_ ≠ (.slice Ao45 x11_2.length co45 : Value).ownBlock ∧ some k_ ≠ (.slice Ao46 x12_2.length co46 : Value).ownBlock) (.slice Ao43 x9_2.length co43) x9_2) ∧ (w'.heap[gb242]? = some (.cells #[.slice A1_0 l1_0.length c1_0, .slice A1_1 l1_1.length c1_1] 47 (0, 0))) ∧ (w'.heap[gb245]? = some (.cells #[.int .u8 ((rd_T48 l0 x52_2).f0), .int .u8 ((rd_T48 l0 x52_2).f1)] 48 (0, 0))) ∧ (Below w.heap.size w w')) ?_ ?_
        rotate_left
        rotate_left
        ·skip
         rintro v259 w50 ⟨hS_, h0_, h1_, h2_, h3_, h4_, h5_, h6_, h7_, h8_⟩
         have n0_ := Aside0.mk h0_
         try dsimp only at n0_
         have n1_ := Aside0.mk h1_
         try dsimp only at n1_
         have n2_ := Aside0.mk h2_
         try dsimp only at n2_
         have n3_ := Aside0.mk h3_
         try dsimp only at n3_
         have n4_ := Aside0.mk h4_
         try dsimp only at n4_
         have n5_ := Aside0.mk h5_
         try dsimp only at n5_
         have n6_ := Aside0.mk h6_
         try dsimp only at n6_
         have n7_ := Aside0.mk h7_
         try dsimp only at n7_
         have n8_ := Aside0.mk h8_
         try dsimp only at n8_
         clear HO_9 HO_10 HO_11 HO_12 HO_13 BK242 BK245 HB
         clear h0_ h1_ h2_ h3_ h4_ h5_ h6_ h7_ h8_
         have HO260 := n0_
         have HO_10 := n1_
         have HO_11 := n2_
         have HO_12 := n3_
         have HO_13 := n4_
         have HO_9 := n5_
         have BK242 := n6_
         have BK245 := n7_
         have HB := n8_
         clear n0_ n1_ n2_ n3_ n4_ n5_ n6_ n7_ n8_
         have hHeld : w50.cell? ⟨gb245, 0, none⟩ = some (.int .u8 ((rd_T48 l0 x52_2).f0)) ∧ w50.cell? ⟨gb245, 1, none⟩ = some (.int .u8 ((rd_T48 l0 x52_2).f1)) := hS_
         refine norm_ (a' := ?_) ?_ ?_
         rotate_left
         ·simp only [putAll, Act.put, List.setIfInBounds_toArray, List.set_cons_zero, List.set_cons_succ]
          rfl
         refine two_ (i := 3) (j := 16) (Ni := some 91) (Nj := some 104) #[Y,Y,Y,Y,Z,Y,Y,Y,Y,Z,Y,Y,Y,Y,Y,Y,Z,Z,Y,Y,Y,Y,Z,Z,Z,Z,Z,Z,Z] #[Y,Y,Y,Z,Z,Y,Y,Y,Y,Z,Y,Y,Y,Y,Y,Y,Y,Z,Y,Y,Y,Y,Z,Z,Z,Z,Z,Z,Z] rfl rfl rfl rfl (two_of HT_.out (by kernel_rfl)) (by decide) (by decide) (fun K hK => ?_) (fun K hK => ?_)
         ·skip
          refine Kd.R_lit_step (Kd.int .u8) _ 5 ?hg (N := 91) ?hd (xs := ([((rd_T48 l0 x52_2).f0)] : List Int)) (inner := [.int .u8 ((rd_T48 l0 x52_2).f0)]) (ok := fun _ => True) (okp := fun _ => True) ?hr ?hp (fun _ hk => hk) trivial (Below.refl _ _) (Nat.le_refl _) (by simp) ?_; (case hd => rfl); (case hg => rfl); (case hr => (go_simp; done)); (case hp => exact (Reps.one (show Kd.M (Kd.int .u8) _ _ _ ((rd_T48 l0 x52_2).f0) [.int .u8 ((rd_T48 l0 x52_2).f0)] from rfl) (Reps.none _ _)))
          intro v253 w51 ho52 hb hg_ hnew_
          clear hg_ hnew_
          (rw [← Ny252.out] at ho52)
          have n0_ := Aside0.mk (zj_ HO_9.out (zk_ ho52) hb)
          have n1_ := Aside0.mk (zj_ HO_10.out (zk_ ho52) hb)
          have n2_ := Aside0.mk (zj_ HO_11.out (zk_ ho52) hb)
          have n3_ := Aside0.mk (zj_ HO_12.out (zk_ ho52) hb)
          have n4_ := Aside0.mk (Kd.R_below HO_13.out hb)
          have n5_ := Aside0.mk (zj_ HO260.out (zk_ ho52) hb)
          have n6_ := Aside0.mk (zg_ (zh_ (zh_ (zh_ (zh_ (zh_ ho52 (zi_ HO_9.out)) (zi_ HO_10.out)) (zi_ HO_11.out)) (zi_ HO_12.out)) (zi_ HO260.out)) (zw_ (by repeat (((with_reducible (exact HB.out)))))))
          have n7_ := Aside0.mk (zq_ BK242.out hb)
          have n8_ := Aside0.mk (zq_ BK245.out hb)
          have n9_ := Aside0.mk (zv_ (by repeat (((with_reducible (exact HB.out))))) hb)
          clear HO_9 HO_10 HO_11 HO_12 HO_13 HO260 BK242 BK245 HB
          revert n0_ n1_ n2_ n3_ n4_ n5_ n6_ n7_ n8_ n9_
          intro HO_9 HO_10 HO_11 HO_12 HO_13 HO260 HO254 BK242 BK245 HB
          clear hb ho52
          refine hK.out _ _ ⟨(blk_cell BK245.out 0).trans rfl, (blk_cell BK245.out 1).trans rfl⟩ (fun hHeld => ?_)
          clear hK K
          refine norm_ (a' := ?_) ?_ ?_
          rotate_left
          ·show Act.put _ (some 91) _ = _
           simp only [Act.put, zA_, zB_, zC_, i64_w, i32_w]
           rfl
          exact norm_ (by (simp only [putAll, Act.put, List.setIfInBounds_toArray, List.set_cons_zero, List.set_cons_succ]; done)) (hJ3_8 (v253, v259) _ ⟨hHeld, (by exact zd_ HO254.out (fun _ hk => ⟨hk.2, ⟨hk.1.1.1.2, ⟨hk.1.1.2, ⟨hk.1.2, hk.1.1.1.1.2⟩⟩⟩⟩)), (by exact zd_ HO260.out (fun _ hk => ⟨hk.2, ⟨hk.1.1, ⟨hk.1.2.1, ⟨hk.1.2.2.1, hk.1.2.2.2⟩⟩⟩⟩)), (by exact zd_ HO_10.out (fun _ hk => ⟨hk.2, ⟨hk.1.1, ⟨hk.1.2.1, ⟨hk.1.2.2.1, hk.1.2.2.2⟩⟩⟩⟩)), (by exact zd_ HO_11.out (fun _ hk => ⟨hk.2, ⟨hk.1.1, ⟨hk.1.2.1, ⟨hk.1.2.2.1, hk.1.2.2.2⟩⟩⟩⟩)), (by exact zd_ HO_12.out (fun _ hk => ⟨hk.2, ⟨hk.1.1, ⟨hk.1.2.1, ⟨hk.1.2.2.1, hk.1.2.2.2⟩⟩⟩⟩)), HO_13.out, (by exact zd_ HO_9.out (fun _ hk => ⟨hk.2, ⟨hk.1.1, ⟨hk.1.2.1, ⟨hk.1.2.2.1, hk.1.2.2.2⟩⟩⟩⟩)), BK242.out, BK245.out, (by repeat (((with_reducible (exact HB.out)))))⟩)
         skip
         refine Kd.R_lit_step (Kd.int .u8) _ 5 ?hg (N := 104) ?hd (xs := ([Go.bits .xor .u8 ((rd_T48 l0 x52_2).f0) ((rd_T48 l0 x52_2).f1)] : List Int)) (inner := [.int .u8 (Go.bits .xor .u8 ((rd_T48 l0 x52_2).f0) ((rd_T48 l0 x52_2).f1))]) (ok := fun _ => True) (okp := fun _ => True) ?hr ?hp (fun _ hk => hk) trivial (Below.refl _ _) (Nat.le_refl _) (by simp) ?_; (case hd => rfl); (case hg => rfl); (case hr => (go_simp; done)); (case hp => exact (Reps.one (show Kd.M (Kd.int .u8) _ _ _ (Go.bits .xor .u8 ((rd_T48 l0 x52_2).f0) ((rd_T48 l0 x52_2).f1)) [.int .u8 (Go.bits .xor .u8 ((rd_T48 l0 x52_2).f0) ((rd_T48 l0 x52_2).f1))] from rfl) (Reps.none _ _)))
         intro v265 w51 ho52 hb hg_ hnew_
         clear hg_ hnew_
         (rw [← Ny264.out] at ho52)
         have n0_ := Aside0.mk (zj_ HO_9.out (zk_ ho52) hb)
         have n1_ := Aside0.mk (zj_ HO_10.out (zk_ ho52) hb)
         have n2_ := Aside0.mk (zj_ HO_11.out (zk_ ho52) hb)
         have n3_ := Aside0.mk (zj_ HO_12.out (zk_ ho52) hb)
         have n4_ := Aside0.mk (Kd.R_below HO_13.out hb)
         have n5_ := Aside0.mk (zj_ HO260.out (zk_ ho52) hb)
         have n6_ := Aside0.mk (zg_ (zh_ (zh_ (zh_ (zh_ (zh_ ho52 (zi_ HO_9.out)) (zi_ HO_10.out)) (zi_ HO_11.out)) (zi_ HO_12.out)) (zi_ HO260.out)) (zw_ (by repeat (((with_reducible (exact HB.out)))))))
         have n7_ := Aside0.mk (zq_ BK242.out hb)
         have n8_ := Aside0.mk (zq_ BK245.out hb)
         have n9_ := Aside0.mk (zv_ (by repeat (((with_reducible (exact HB.out))))) hb)
         clear HO_9 HO_10 HO_11 HO_12 HO_13 HO260 BK242 BK245 HB
         revert n0_ n1_ n2_ n3_ n4_ n5_ n6_ n7_ n8_ n9_
         intro HO_9 HO_10 HO_11 HO_12 HO_13 HO260 HO266 BK242 BK245 HB
         clear hb ho52
         refine hK.out _ _ ⟨(blk_cell BK245.out 0).trans rfl, (blk_cell BK245.out 1).trans rfl⟩ (fun hHeld => ?_)
         clear hK K
         refine norm_ (a' := ?_) ?_ ?_
         rotate_left
         ·show Act.put _ (some 104) _ = _
          simp only [Act.put, zA_, zB_, zC_, i64_w, i32_w]
          rfl
         exact norm_ (by (simp only [putAll, Act.put, List.setIfInBounds_toArray, List.set_cons_zero, List.set_cons_succ]; done)) (hJ8_16 (v259, v265) _ ⟨hHeld, (by exact zd_ HO260.out (fun _ hk => ⟨hk.2, ⟨hk.1.1, ⟨hk.1.2.1, ⟨hk.1.2.2.1, hk.1.2.2.2⟩⟩⟩⟩)), (by exact zd_ HO266.out (fun _ hk => ⟨hk.2, ⟨hk.1.1.1.2, ⟨hk.1.1.2, ⟨hk.1.2, hk.1.1.1.1.2⟩⟩⟩⟩)), (by exact zd_ HO_10.out (fun _ hk => ⟨hk.1.1, ⟨hk.2, ⟨hk.1.2.1, ⟨hk.1.2.2.1, hk.1.2.2.2⟩⟩⟩⟩)), (by exact zd_ HO_11.out (fun _ hk => ⟨hk.1.1, ⟨hk.2, ⟨hk.1.2.1, ⟨hk.1.2.2.1, hk.1.2.2.2⟩⟩⟩⟩)), (by exact zd_ HO_12.out (fun _ hk => ⟨hk.1.1, ⟨hk.2, ⟨hk.1.2.1, ⟨hk.1.2.2.1, hk.1.2.2.2⟩⟩⟩⟩)), HO_13.out, (by exact zd_ HO_9.out (fun _ hk => ⟨hk.1.1, ⟨hk.2, ⟨hk.1.2.1, ⟨hk.1.2.2.1, hk.1.2.2.2⟩⟩⟩⟩)), BK242.out, BK245.out, (by repeat (((with_reducible (exact HB.out)))))⟩)
        intro hJ8
        refine join_ (σ := Value) 12 #[Y,Y,Y,Z,Z,Y,Y,Y,Z,Z,Y,Y,Y,Y,Y,Y,Y,Z,Y,Y,Y,Y,Z,Z,Z,Z,Z,Z,Z] (fun s_ => [(104, s_)]) (fun s_ w' => (w'.cell? ⟨gb245, 0, none⟩ = some (.int .u8 ((rd_T48 l0 x52_2).f0)) ∧ w'.cell? ⟨gb245, 1, none⟩ = some (.int .u8 ((rd_T48 l0 x52_2).f1))) ∧ (Kd.R (Kd.int .u8) 5 w' w.heap.size (fun k_ => some k_ ≠ (.slice Ao44 x10_2.length co44 : Value).ownBlock ∧ some k_ ≠ (.slice Ao45 x11_2.length co45 : Value).ownBlock ∧ some k_ ≠ (.slice Ao46 x12_2.length co46 : Value).ownBlock ∧ some k_ ≠ (.slice Ao43 x9_2.length co43 : Value).ownBlock) s_ y264) ∧ (Kd.R (Kd.int .u8) 5 w' w.heap.size (fun k_ => some k_ ≠ (s_ : Value).ownBlock ∧ some k_ ≠ (.slice Ao45 x11_2.length co45 : Value).ownBlock ∧ some k_ ≠ (.slice Ao46 x12_2.length co46 : Value).ownBlock ∧ some k_ ≠ (.slice Ao43 x9_2.length co43 : Value).ownBlock) (.slice Ao44 x10_2.length co44) x10_2) ∧ (Kd.R (Kd.int .u8) 5 w' w.heap.size (fun k_ => some k_ ≠ (s_ : Value).ownBlock ∧ some k_ ≠ (.slice Ao44 x10_2.length co44 : Value).ownBlock ∧ some k_ ≠ (.slice Ao46 x12_2.length co46 : Value).ownBlock ∧ some k_ ≠ (.slice Ao43 x9_2.length co43 : Value).ownBlock) (.slice Ao45 x11_2.length co45) x11_2) ∧ (Kd.R (Kd.int .u8) 5 w' w.heap.size (fun k_ => some k_ ≠ (s_ : Value).ownBlock ∧ some k_ ≠ (.slice Ao44 x10_2.length co44 : Value).ownBlock ∧ some k_ ≠ (.slice Ao45 x11_2.length co45 : Value).ownBlock ∧ some k_ ≠ (.slice Ao43 x9_2.length co43 : Value).ownBlock) (.slice Ao46 x12_2.length co46) x12_2) ∧ (Kd.R Kd.string 9 w' w.heap.size (fun _ => True) u13 x13_2) ∧ (Kd.R (Kd.int .u8) 5 w' w.heap.size (fun k_ => some k_ ≠ (s_ : Value).ownBlock ∧ some k_ ≠ (.slice Ao44 x10_2.length co44 : Value).ownBlock ∧ some k_ ≠ (.slice Ao45 x11_2.length co45 : Value).ownBlock ∧ some k_ ≠ (.slice Ao46 x12_2.length co46 : Value).ownBlock) (.slice Ao43 x9_2.length co43) x9_2) ∧ (w'.heap[gb242]? = some (.cells #[.slice A1_0 l1_0.length c1_0, .slice A1_1 l1_1.length c1_1] 47 (0, 0))) ∧ (w'.heap[gb245]? = some (.cells #[.int .u8 ((rd_T48 l0 x52_2).f0), .int .u8 ((rd_T48 l0 x52_2).f1)] 48 (0, 0))) ∧ (Below w.heap.size w w')) ?_ ?_
        rotate_left
        ·intro hJ16
         refine three_ (i := 3) (j := 8) (k := 16) (Ni := some 91) (Nj := some 96) (Nk := some 104) #[Y,Y,Y,Y,Z,Y,Y,Y,Z,Z,Y,Y,Y,Y,Y,Y,Z,Z,Y,Y,Y,Y,Z,Z,Z,Z,Z,Z,Z] #[Y,Y,Y,Z,Z,Y,Y,Y,Y,Z,Y,Y,Y,Y,Y,Y,Z,Z,Y,Y,Y,Y,Z,Z,Z,Z,Z,Z,Z] #[Y,Y,Y,Z,Z,Y,Y,Y,Z,Z,Y,Y,Y,Y,Y,Y,Y,Z,Y,Y,Y,Y,Z,Z,Z,Z,Z,Z,Z] rfl rfl rfl rfl rfl rfl (three_of HT_.out (by kernel_rfl)) (by decide) (by decide) (by decide) (fun K hK => ?_) (fun K hK => ?_) (fun K hK => ?_)
         ·skip
          refine Kd.R_lit_step (Kd.int .u8) _ 5 ?hg (N := 91) ?hd (xs := ([((rd_T48 l0 x52_2).f0)] : List Int)) (inner := [.int .u8 ((rd_T48 l0 x52_2).f0)]) (ok := fun _ => True) (okp := fun _ => True) ?hr ?hp (fun _ hk => hk) trivial (Below.refl _ _) (Nat.le_refl _) (by simp) ?_; (case hd => rfl); (case hg => rfl); (case hr => (go_simp; done)); (case hp => exact (Reps.one (show Kd.M (Kd.int .u8) _ _ _ ((rd_T48 l0 x52_2).f0) [.int .u8 ((rd_T48 l0 x52_2).f0)] from rfl) (Reps.none _ _)))
          intro v253 w48 ho49 hb hg_ hnew_
          clear hg_ hnew_
          (rw [← Ny252.out] at ho49)
          have n0_ := Aside0.mk (zj_ HO_9.out (zk_ ho49) hb)
          have n1_ := Aside0.mk (zj_ HO_10.out (zk_ ho49) hb)
          have n2_ := Aside0.mk (zj_ HO_11.out (zk_ ho49) hb)
          have n3_ := Aside0.mk (zj_ HO_12.out (zk_ ho49) hb)
          have n4_ := Aside0.mk (Kd.R_below HO_13.out hb)
          have n5_ := Aside0.mk (zg_ (zh_ (zh_ (zh_ (zh_ ho49 (zi_ HO_9.out)) (zi_ HO_10.out)) (zi_ HO_11.out)) (zi_ HO_12.out)) (zw_ (by repeat (((with_reducible (exact HB.out)))))))
          have n6_ := Aside0.mk (zq_ BK242.out hb)
          have n7_ := Aside0.mk (zq_ BK245.out hb)
          have n8_ := Aside0.mk (zv_ (by repeat (((with_reducible (exact HB.out))))) hb)
          clear HO_9 HO_10 HO_11 HO_12 HO_13 BK242 BK245 HB
          revert n0_ n1_ n2_ n3_ n4_ n5_ n6_ n7_ n8_
          intro HO_9 HO_10 HO_11 HO_12 HO_13 HO254 BK242 BK245 HB
          clear hb ho49
          refine hK.out _ _ ⟨(blk_cell BK245.out 0).trans rfl, (blk_cell BK245.out 1).trans rfl⟩ (fun hHeld => ?_)
          clear hK K
          refine norm_ (a' := ?_) ?_ ?_
          rotate_left
          ·show Act.put _ (some 91) _ = _
           simp only [Act.put, zA_, zB_, zC_, i64_w, i32_w]
           rfl
          exact norm_ (by (simp only [putAll, Act.put, List.setIfInBounds_toArray, List.set_cons_zero, List.set_cons_succ]; done)) (hJ3 (v253) _ ⟨hHeld, (by exact zd_ HO254.out (fun _ hk => ⟨hk.1.1.2, ⟨hk.1.2, ⟨hk.2, hk.1.1.1.2⟩⟩⟩)), (by exact zd_ HO_10.out (fun _ hk => ⟨hk.2, ⟨hk.1.2.1, ⟨hk.1.2.2, hk.1.1⟩⟩⟩)), (by exact zd_ HO_11.out (fun _ hk => ⟨hk.2, ⟨hk.1.2.1, ⟨hk.1.2.2, hk.1.1⟩⟩⟩)), (by exact zd_ HO_12.out (fun _ hk => ⟨hk.2, ⟨hk.1.2.1, ⟨hk.1.2.2, hk.1.1⟩⟩⟩)), HO_13.out, (by exact zd_ HO_9.out (fun _ hk => ⟨hk.2, ⟨hk.1.1, ⟨hk.1.2.1, hk.1.2.2⟩⟩⟩)), BK242.out, BK245.out, (by repeat (((with_reducible (exact HB.out)))))⟩)
         ·skip
          refine Kd.R_lit_step (Kd.int .u8) _ 5 ?hg (N := 96) ?hd (xs := ([((rd_T48 l0 x52_2).f1)] : List Int)) (inner := [.int .u8 ((rd_T48 l0 x52_2).f1)]) (ok := fun _ => True) (okp := fun _ => True) ?hr ?hp (fun _ hk => hk) trivial (Below.refl _ _) (Nat.le_refl _) (by simp) ?_; (case hd => rfl); (case hg => rfl); (case hr => (go_simp; done)); (case hp => exact (Reps.one (show Kd.M (Kd.int .u8) _ _ _ ((rd_T48 l0 x52_2).f1) [.int .u8 ((rd_T48 l0 x52_2).f1)] from rfl) (Reps.none _ _)))
          intro v259 w48 ho49 hb hg_ hnew_
          clear hg_ hnew_
          (rw [← Ny258.out] at ho49)
          have n0_ := Aside0.mk (zj_ HO_9.out (zk_ ho49) hb)
          have n1_ := Aside0.mk (zj_ HO_10.out (zk_ ho49) hb)
          have n2_ := Aside0.mk (zj_ HO_11.out (zk_ ho49) hb)
          have n3_ := Aside0.mk (zj_ HO_12.out (zk_ ho49) hb)
          have n4_ := Aside0.mk (Kd.R_below HO_13.out hb)
          have n5_ := Aside0.mk (zg_ (zh_ (zh_ (zh_ (zh_ ho49 (zi_ HO_9.out)) (zi_ HO_10.out)) (zi_ HO_11.out)) (zi_ HO_12.out)) (zw_ (by repeat (((with_reducible (exact HB.out)))))))
          have n6_ := Aside0.mk (zq_ BK242.out hb)
          have n7_ := Aside0.mk (zq_ BK245.out hb)
          have n8_ := Aside0.mk (zv_ (by repeat (((with_reducible (exact HB.out))))) hb)
          clear HO_9 HO_10 HO_11 HO_12 HO_13 BK242 BK245 HB
          revert n0_ n1_ n2_ n3_ n4_ n5_ n6_ n7_ n8_
          intro HO_9 HO_10 HO_11 HO_12 HO_13 HO260 BK242 BK245 HB
          clear hb ho49
          refine hK.out _ _ ⟨(blk_cell BK245.out 0).trans rfl, (blk_cell BK245.out 1).trans rfl⟩ (fun hHeld => ?_)
          clear hK K
          refine norm_ (a' := ?_) ?_ ?_
          rotate_left
          ·show Act.put _ (some 96) _ = _
           simp only [Act.put, zA_, zB_, zC_, i64_w, i32_w]
           rfl
          exact norm_ (by (simp only [putAll, Act.put, List.setIfInBounds_toArray, List.set_cons_zero, List.set_cons_succ]; done)) (hJ8 (v259) _ ⟨hHeld, (by exact zd_ HO260.out (fun _ hk => ⟨hk.1.1.2, ⟨hk.1.2, ⟨hk.2, hk.1.1.1.2⟩⟩⟩)), (by exact zd_ HO_10.out (fun _ hk => ⟨hk.2, ⟨hk.1.2.1, ⟨hk.1.2.2, hk.1.1⟩⟩⟩)), (by exact zd_ HO_11.out (fun _ hk => ⟨hk.2, ⟨hk.1.2.1, ⟨hk.1.2.2, hk.1.1⟩⟩⟩)), (by exact zd_ HO_12.out (fun _ hk => ⟨hk.2, ⟨hk.1.2.1, ⟨hk.1.2.2, hk.1.1⟩⟩⟩)), HO_13.out, (by exact zd_ HO_9.out (fun _ hk => ⟨hk.2, ⟨hk.1.1, ⟨hk.1.2.1, hk.1.2.2⟩⟩⟩)), BK242.out, BK245.out, (by repeat (((with_reducible (exact HB.out)))))⟩)
         skip
         refine Kd.R_lit_step (Kd.int .u8) _ 5 ?hg (N := 104) ?hd (xs := ([Go.bits .xor .u8 ((rd_T48 l0 x52_2).f0) ((rd_T48 l0 x52_2).f1)] : List Int)) (inner := [.int .u8 (Go.bits .xor .u8 ((rd_T48 l0 x52_2).f0) ((rd_T48 l0 x52_2).f1))]) (ok := fun _ => True) (okp := fun _ => True) ?hr ?hp (fun _ hk => hk) trivial (Below.refl _ _) (Nat.le_refl _) (by simp) ?_; (case hd => rfl); (case hg => rfl); (case hr => (go_simp; done)); (case hp => exact (Reps.one (show Kd.M (Kd.int .u8) _ _ _ (Go.bits .xor .u8 ((rd_T48 l0 x52_2).f0) ((rd_T48 l0 x52_2).f1)) [.int .u8 (Go.bits .xor .u8 ((rd_T48 l0 x52_2).f0) ((rd_T48 l0 x52_2).f1))] from rfl) (Reps.none _ _)))
         intro v265 w48 ho49 hb hg_ hnew_
         clear hg_ hnew_
         (rw [← Ny264.out] at ho49)
         have n0_ := Aside0.mk (zj_ HO_9.out (zk_ ho49) hb)
         have n1_ := Aside0.mk (zj_ HO_10.out (zk_ ho49) hb)
         have n2_ := Aside0.mk (zj_ HO_11.out (zk_ ho49) hb)
         have n3_ := Aside0.mk (zj_ HO_12.out (zk_ ho49) hb)
         have n4_ := Aside0.mk (Kd.R_below HO_13.out hb)
         have n5_ := Aside0.mk (zg_ (zh_ (zh_ (zh_ (zh_ ho49 (zi_ HO_9.out)) (zi_ HO_10.out)) (zi_ HO_11.out)) (zi_ HO_12.out)) (zw_ (by repeat (((with_reducible (exact HB.out)))))))
         have n6_ := Aside0.mk (zq_ BK242.out hb)
         have n7_ := Aside0.mk (zq_ BK245.out hb)
         have n8_ := Aside0.mk (zv_ (by repeat (((with_reducible (exact HB.out))))) hb)
         clear HO_9 HO_10 HO_11 HO_12 HO_13 BK242 BK245 HB
         revert n0_ n1_ n2_ n3_ n4_ n5_ n6_ n7_ n8_
         intro HO_9 HO_10 HO_11 HO_12 HO_13 HO266 BK242 BK245 HB
         clear hb ho49
         refine hK.out _ _ ⟨(blk_cell BK245.out 0).trans rfl, (blk_cell BK245.out 1).trans rfl⟩ (fun hHeld => ?_)
         clear hK K
         refine norm_ (a' := ?_) ?_ ?_
         rotate_left
         ·show Act.put _ (some 104) _ = _
          simp only [Act.put, zA_, zB_, zC_, i64_w, i32_w]
          rfl
         exact norm_ (by (simp only [putAll, Act.put, List.setIfInBounds_toArray, List.set_cons_zero, List.set_cons_succ]; done)) (hJ16 (v265) _ ⟨hHeld, (by exact zd_ HO266.out (fun _ hk => ⟨hk.1.1.2, ⟨hk.1.2, ⟨hk.2, hk.1.1.1.2⟩⟩⟩)), (by exact zd_ HO_10.out (fun _ hk => ⟨hk.2, ⟨hk.1.2.1, ⟨hk.1.2.2, hk.1.1⟩⟩⟩)), (by exact zd_ HO_11.out (fun _ hk => ⟨hk.2, ⟨hk.1.2.1, ⟨hk.1.2.2, hk.1.1⟩⟩⟩)), (by exact zd_ HO_12.out (fun _ hk => ⟨hk.2, ⟨hk.1.2.1, ⟨hk.1.2.2, hk.1.1⟩⟩⟩)), HO_13.out, (by exact zd_ HO_9.out (fun _ hk => ⟨hk.2, ⟨hk.1.1, ⟨hk.1.2.1, hk.1.2.2⟩⟩⟩)), BK242.out, BK245.out, (by repeat (((with_reducible (exact HB.out)))))⟩)
        skip
        rintro v265 w50 ⟨hS_, h0_, h1_, h2_, h3_, h4_, h5_, h6_, h7_, h8_⟩
        have n0_ := Aside0.mk h0_
        try dsimp only at n0_
        have n1_ := Aside0.mk h1_
        try dsimp only at n1_
        have n2_ := Aside0.mk h2_
        try dsimp only at n2_
        have n3_ := Aside0.mk h3_
        try dsimp only at n3_
        have n4_ := Aside0.mk h4_
        try dsimp only at n4_
        have n5_ := Aside0.mk h5_
        try dsimp only at n5_
        have n6_ := Aside0.mk h6_
        try dsimp only at n6_
        have n7_ := Aside0.mk h7_
        try dsimp only at n7_
        have n8_ := Aside0.mk h8_
        try dsimp only at n8_
        clear HO_9 HO_10 HO_11 HO_12 HO_13 BK242 BK245 HB
        clear h0_ h1_ h2_ h3_ h4_ h5_ h6_ h7_ h8_
        have HO266 := n0_
        have HO_10 := n1_
        have HO_11 := n2_
        have HO_12 := n3_
        have HO_13 := n4_
        have HO_9 := n5_
        have BK242 := n6_
        have BK245 := n7_
        have HB := n8_
        clear n0_ n1_ n2_ n3_ n4_ n5_ n6_ n7_ n8_
        have hHeld : w50.cell? ⟨gb245, 0, none⟩ = some (.int .u8 ((rd_T48 l0 x52_2).f0)) ∧ w50.cell? ⟨gb245, 1, none⟩ = some (.int .u8 ((rd_T48 l0 x52_2).f1)) := hS_
        refine norm_ (a' := ?_) ?_ ?_
        rotate_left
        ·simp only [putAll, Act.put, List.setIfInBounds_toArray, List.set_cons_zero, List.set_cons_succ]
         rfl
        refine two_ (i := 3) (j := 8) (Ni := some 91) (Nj := some 96) #[Y,Y,Y,Y,Z,Y,Y,Y,Z,Z,Y,Y,Y,Y,Y,Y,Y,Z,Y,Y,Y,Y,Z,Z,Z,Z,Z,Z,Z] #[Y,Y,Y,Z,Z,Y,Y,Y,Y,Z,Y,Y,Y,Y,Y,Y,Y,Z,Y,Y,Y,Y,Z,Z,Z,Z,Z,Z,Z] rfl rfl rfl rfl (two_of HT_.out (by kernel_rfl)) (by decide) (by decide) (fun K hK => ?_) (fun K hK => ?_)
        rotate_left
        ·skip
         refine Kd.R_lit_step (Kd.int .u8) _ 5 ?hg (N := 96) ?hd (xs := ([((rd_T48 l0 x52_2).f1)] : List Int)) (inner := [.int .u8 ((rd_T48 l0 x52_2).f1)]) (ok := fun _ => True) (okp := fun _ => True) ?hr ?hp (fun _ hk => hk) trivial (Below.refl _ _) (Nat.le_refl _) (by simp) ?_; (case hd => rfl); (case hg => rfl); (case hr => (go_simp; done)); (case hp => exact (Reps.one (show Kd.M (Kd.int .u8) _ _ _ ((rd_T48 l0 x52_2).f1) [.int .u8 ((rd_T48 l0 x52_2).f1)] from rfl) (Reps.none _ _)))
         intro v259 w51 ho52 hb hg_ hnew_
         clear hg_ hnew_
         (rw [← Ny258.out] at ho52)
         have n0_ := Aside0.mk (zj_ HO_9.out (zk_ ho52) hb)
         have n1_ := Aside0.mk (zj_ HO_10.out (zk_ ho52) hb)
         have n2_ := Aside0.mk (zj_ HO_11.out (zk_ ho52) hb)
         have n3_ := Aside0.mk (zj_ HO_12.out (zk_ ho52) hb)
         have n4_ := Aside0.mk (Kd.R_below HO_13.out hb)
         have n5_ := Aside0.mk (zj_ HO266.out (zk_ ho52) hb)
         have n6_ := Aside0.mk (zg_ (zh_ (zh_ (zh_ (zh_ (zh_ ho52 (zi_ HO_9.out)) (zi_ HO_10.out)) (zi_ HO_11.out)) (zi_ HO_12.out)) (zi_ HO266.out)) (zw_ (by repeat (((with_reducible (exact HB.out)))))))
         have n7_ := Aside0.mk (zq_ BK242.out hb)
         have n8_ := Aside0.mk (zq_ BK245.out hb)
         have n9_ := Aside0.mk (zv_ (by repeat (((with_reducible (exact HB.out))))) hb)
         clear HO_9 HO_10 HO_11 HO_12 HO_13 HO266 BK242 BK245 HB
         revert n0_ n1_ n2_ n3_ n4_ n5_ n6_ n7_ n8_ n9_
         intro HO_9 HO_10 HO_11 HO_12 HO_13 HO266 HO260 BK242 BK245 HB
         clear hb ho52
         refine hK.out _ _ ⟨(blk_cell BK245.out 0).trans rfl, (blk_cell BK245.out 1).trans rfl⟩ (fun hHeld => ?_)
         clear hK K
         refine norm_ (a' := ?_) ?_ ?_
         rotate_left
         ·show Act.put _ (some 96) _ = _
          simp only [Act.put, zA_, zB_, zC_, i64_w, i32_w]
          rfl
         exact norm_ (by (simp only [putAll, Act.put, List.setIfInBounds_toArray, List.set_cons_zero, List.set_cons_succ]; done)) (hJ8_16 (v259, v265) _ ⟨hHeld, (by exact zd_ HO260.out (fun _ hk => ⟨hk.2, ⟨hk.1.1.1.2, ⟨hk.1.1.2, ⟨hk.1.2, hk.1.1.1.1.2⟩⟩⟩⟩)), (by exact zd_ HO266.out (fun _ hk => ⟨hk.2, ⟨hk.1.1, ⟨hk.1.2.1, ⟨hk.1.2.2.1, hk.1.2.2.2⟩⟩⟩⟩)), (by exact zd_ HO_10.out (fun _ hk => ⟨hk.2, ⟨hk.1.1, ⟨hk.1.2.1, ⟨hk.1.2.2.1, hk.1.2.2.2⟩⟩⟩⟩)), (by exact zd_ HO_11.out (fun _ hk => ⟨hk.2, ⟨hk.1.1, ⟨hk.1.2.1, ⟨hk.1.2.2.1, hk.1.2.2.2⟩⟩⟩⟩)), (by exact zd_ HO_12.out (fun _ hk => ⟨hk.2, ⟨hk.1.1, ⟨hk.1.2.1, ⟨hk.1.2.2.1, hk.1.2.2.2⟩⟩⟩⟩)), HO_13.out, (by exact zd_ HO_9.out (fun _ hk => ⟨hk.2, ⟨hk.1.1, ⟨hk.1.2.1, ⟨hk.1.2.2.1, hk.1.2.2.2⟩⟩⟩⟩)), BK242.out, BK245.out, (by repeat (((with_reducible (exact HB.out)))))⟩)
        skip
        refine Kd.R_lit_step (Kd.int .u8) _ 5 ?hg (N := 91) ?hd (xs := ([((rd_T48 l0 x52_2).f0)] : List Int)) (inner := [.int .u8 ((rd_T48 l0 x52_2).f0)]) (ok := fun _ => True) (okp := fun _ => True) ?hr ?hp (fun _ hk => hk) trivial (Below.refl _ _) (Nat.le_refl _) (by simp) ?_; (case hd => rfl); (case hg => rfl); (case hr => (go_simp; done)); (case hp => exact (Reps.one (show Kd.M (Kd.int .u8) _ _ _ ((rd_T48 l0 x52_2).f0) [.int .u8 ((rd_T48 l0 x52_2).f0)] from rfl) (Reps.none _ _)))
        intro v253 w51 ho52 hb hg_ hnew_
        clear hg_ hnew_
        (rw [← Ny252.out] at ho52)
        have n0_ := Aside0.mk (zj_ HO_9.out (zk_ ho52) hb)
        have n1_ := Aside0.mk (zj_ HO_10.out (zk_ ho52) hb)
        have n2_ := Aside0.mk (zj_ HO_11.out (zk_ ho52) hb)
        have n3_ := Aside0.mk (zj_ HO_12.out (zk_ ho52) hb)
        have n4_ := Aside0.mk (Kd.R_below HO_13.out hb)
        have n5_ := Aside0.mk (zj_ HO266.out (zk_ ho52) hb)
        have n6_ := Aside0.mk (zg_ (zh_ (zh_ (zh_ (zh_ (zh_ ho52 (zi_ HO_9.out)) (zi_ HO_10.out)) (zi_ HO_11.out)) (zi_ HO_12.out)) (zi_ HO266.out)) (zw_ (by repeat (((with_reducible (exact HB.out)))))))
        have n7_ := Aside0.mk (zq_ BK242.out hb)
        have n8_ := Aside0.mk (zq_ BK245.out hb)
        have n9_ := Aside0.mk (zv_ (by repeat (((with_reducible (exact HB.out))))) hb)
        clear HO_9 HO_10 HO_11 HO_12 HO_13 HO266 BK242 BK245 HB
        revert n0_ n1_ n2_ n3_ n4_ n5_ n6_ n7_ n8_ n9_
        intro HO_9 HO_10 HO_11 HO_12 HO_13 HO266 HO254 BK242 BK245 HB
        clear hb ho52
        refine hK.out _ _ ⟨(blk_cell BK245.out 0).trans rfl, (blk_cell BK245.out 1).trans rfl⟩ (fun hHeld => ?_)
        clear hK K
        refine norm_ (a' := ?_) ?_ ?_
        rotate_left
        ·show Act.put _ (some 91) _ = _
         simp only [Act.put, zA_, zB_, zC_, i64_w, i32_w]
         rfl
        exact norm_ (by (simp only [putAll, Act.put, List.setIfInBounds_toArray, List.set_cons_zero, List.set_cons_succ]; done)) (hJ3_16 (v253, v265) _ ⟨hHeld, (by exact zd_ HO254.out (fun _ hk => ⟨hk.2, ⟨hk.1.1.1.2, ⟨hk.1.1.2, ⟨hk.1.2, hk.1.1.1.1.2⟩⟩⟩⟩)), (by exact zd_ HO266.out (fun _ hk => ⟨hk.2, ⟨hk.1.1, ⟨hk.1.2.1, ⟨hk.1.2.2.1, hk.1.2.2.2⟩⟩⟩⟩)), (by exact zd_ HO_10.out (fun _ hk => ⟨hk.2, ⟨hk.1.1, ⟨hk.1.2.1, ⟨hk.1.2.2.1, hk.1.2.2.2⟩⟩⟩⟩)), (by exact zd_ HO_11.out (fun _ hk => ⟨hk.2, ⟨hk.1.1, ⟨hk.1.2.1, ⟨hk.1.2.2.1, hk.1.2.2.2⟩⟩⟩⟩)), (by exact zd_ HO_12.out (fun _ hk => ⟨hk.2, ⟨hk.1.1, ⟨hk.1.2.1, ⟨hk.1.2.2.1, hk.1.2.2.2⟩⟩⟩⟩)), HO_13.out, (by exact zd_ HO_9.out (fun _ hk => ⟨hk.2, ⟨hk.1.1, ⟨hk.1.2.1, ⟨hk.1.2.2.1, hk.1.2.2.2⟩⟩⟩⟩)), BK242.out, BK245.out, (by repeat (((with_reducible (exact HB.out)))))⟩)
       rintro ⟨v253, v256, v259, v262, v265⟩ w58 ⟨hS_, h0_, h1_, h2_, h3_, h4_, h5_, h6_, h7_, h8_, h9_, h10_⟩
       have n0_ := Aside0.mk h0_
       try dsimp only at n0_
       have n1_ := Aside0.mk h1_
       try dsimp only at n1_
       have n2_ := Aside0.mk h2_
       try dsimp only at n2_
       have n3_ := Aside0.mk h3_
       try dsimp only at n3_
       have n4_ := Aside0.mk h4_
       try dsimp only at n4_
       have n5_ := Aside0.mk h5_
       try dsimp only at n5_
       have n6_ := Aside0.mk h6_
       try dsimp only at n6_
       have n7_ := Aside0.mk h7_
       try dsimp only at n7_
       have n8_ := Aside0.mk h8_
       try dsimp only at n8_
       have n9_ := Aside0.mk h9_
       try dsimp only at n9_
       have n10_ := Aside0.mk h10_
       try dsimp only at n10_
       clear HO_9 HO_10 HO_11 HO_12 HO_13 BK242 BK245 HB
       clear h0_ h1_ h2_ h3_ h4_ h5_ h6_ h7_ h8_ h9_ h10_
       have HO254 := n0_
       have HO257 := n1_
       have HO260 := n2_
       have HO263 := n3_
       have HO266 := n4_
       have HO_11 := n5_
       have HO_12 := n6_
       have HO_13 := n7_
       have BK242 := n8_
       have BK245 := n9_
       have HB := n10_
       clear n0_ n1_ n2_ n3_ n4_ n5_ n6_ n7_ n8_ n9_ n10_
       have hHeld : w58.cell? ⟨gb245, 0, none⟩ = some (.int .u8 ((rd_T48 l0 x52_2).f0)) ∧ w58.cell? ⟨gb245, 1, none⟩ = some (.int .u8 ((rd_T48 l0 x52_2).f1)) := hS_
       obtain ⟨Ao60, co60, eo60⟩ := Kd.R_slice HO266.out
       (subst eo60)
       refine norm_ (a' := ?_) ?_ ?_
       rotate_left
       ·simp only [putAll, Act.put, List.setIfInBounds_toArray, List.set_cons_zero, List.set_cons_succ]
        rfl
       refine one_ (i := 17) (N := some 105) #[Y,Y,Y,Y,Y,Y,Y,Y,Y,Y,Y,Y,Y,Y,Y,Y,Y,Y,Y,Y,Y,Y,Z,Z,Z,Z,Z,Z,Z] rfl rfl (one_of HT_.out (by kernel_rfl)) (by decide) (fun K hK => ?_)
       refine Kd.R_append_rows_step (Kd.int .u8) (w0 := w) w.heap.size (by rfl) (.tmp 98) (.tmp 104) 36 5 (.int .u8 0) 1 rfl Tryd.underlying36 info5 rfl (by decide) (by omega) (.slice Ao45 x11_2.length co45) x11_2 y264 _ _ _ (fun k_ => some k_ ≠ (.slice Ao46 x12_2.length co46 : Value).ownBlock ∧ some k_ ≠ (v253 : Value).ownBlock ∧ some k_ ≠ (v256 : Value).ownBlock ∧ some k_ ≠ (v259 : Value).ownBlock ∧ some k_ ≠ (v262 : Value).ownBlock ∧ some k_ ≠ (.slice Ao60 y264.length co60 : Value).ownBlock) (fun _ => False) rfl rfl ?aO ?aR (fun _ _ h => h) (fun _ h => h.elim) ?aF ?aB ?aS ?aL ?_
       (case aR => repeat ((exact (zl_ HO266.out).2.2)))
       (case aB => exact (by repeat (((with_reducible (exact HB.out))))))
       (case aF => exact (fun k_ hk => ⟨Kd.fresh' (zi_ HO_12.out) k_ hk, Kd.fresh' (zi_ HO254.out) k_ hk, Kd.fresh' (zi_ HO257.out) k_ hk, Kd.fresh' (zi_ HO260.out) k_ hk, Kd.fresh' (zi_ HO263.out) k_ hk, Kd.fresh' (zi_ HO266.out) k_ hk⟩))
       (case aO => exact (by exact zd_ HO_11.out (fun _ hk => ⟨hk.2.2.2.2.2, ⟨hk.1, ⟨hk.2.1, ⟨hk.2.2.1, ⟨hk.2.2.2.1, hk.2.2.2.2.1⟩⟩⟩⟩⟩)))
       (case aS => exact (zw_ (by repeat (((with_reducible (exact HB.out)))))))
       (case aL => have := LMc35.out; omega)
       intro v268 w59 ho hb hg hat
       rw [← Ny267.out] at ho
       have n0_ := Aside0.mk (Kd.R_after (ok := (fun k_ => some k_ ≠ (v253 : Value).ownBlock ∧ some k_ ≠ (v256 : Value).ownBlock ∧ some k_ ≠ (v259 : Value).ownBlock ∧ some k_ ≠ (v262 : Value).ownBlock ∧ some k_ ≠ (.slice Ao60 y264.length co60 : Value).ownBlock)) (by exact zd_ HO_12.out (fun _ hk => ⟨⟨hk.1, ⟨hk.2.1, ⟨hk.2.2.1, ⟨hk.2.2.2.1, hk.2.2.2.2.1⟩⟩⟩⟩, hk.2.2.2.2.2⟩)) hg hat)
       have n1_ := Aside0.mk (Kd.R_over' HO_13.out (Kd.R_typed HO_11.out) (by decide) hg)
       have n2_ := Aside0.mk (blk_grown BK242.out hg (Kd.R_ne HO_11.out BK242.out (by decide)))
       have n3_ := Aside0.mk (blk_grown BK245.out hg (Kd.R_ne HO_11.out BK245.out (by decide)))
       have n4_ := Aside0.mk (Kd.R_after (ok := (fun k_ => some k_ ≠ (.slice Ao46 x12_2.length co46 : Value).ownBlock ∧ some k_ ≠ (v256 : Value).ownBlock ∧ some k_ ≠ (v259 : Value).ownBlock ∧ some k_ ≠ (v262 : Value).ownBlock ∧ some k_ ≠ (.slice Ao60 y264.length co60 : Value).ownBlock)) (by exact zd_ HO254.out (fun _ hk => ⟨⟨hk.2.2.2.2.2, ⟨hk.1, ⟨hk.2.1, ⟨hk.2.2.1, hk.2.2.2.1⟩⟩⟩⟩, hk.2.2.2.2.1⟩)) hg hat)
       have n5_ := Aside0.mk (Kd.R_after (ok := (fun k_ => some k_ ≠ (.slice Ao46 x12_2.length co46 : Value).ownBlock ∧ some k_ ≠ (v253 : Value).ownBlock ∧ some k_ ≠ (v259 : Value).ownBlock ∧ some k_ ≠ (v262 : Value).ownBlock ∧ some k_ ≠ (.slice Ao60 y264.length co60 : Value).ownBlock)) (by exact zd_ HO257.out (fun _ hk => ⟨⟨hk.2.2.2.2.2, ⟨hk.1, ⟨hk.2.1, ⟨hk.2.2.1, hk.2.2.2.1⟩⟩⟩⟩, hk.2.2.2.2.1⟩)) hg hat)
       have n6_ := Aside0.mk (Kd.R_after (ok := (fun k_ => some k_ ≠ (.slice Ao46 x12_2.length co46 : Value).ownBlock ∧ some k_ ≠ (v253 : Value).ownBlock ∧ some k_ ≠ (v256 : Value).ownBlock ∧ some k_ ≠ (v262 : Value).ownBlock ∧ some k_ ≠ (.slice Ao60 y264.length co60 : Value).ownBlock)) (by exact zd_ HO260.out (fun _ hk => ⟨⟨hk.2.2.2.2.2, ⟨hk.1, ⟨hk.2.1, ⟨hk.2.2.1, hk.2.2.2.1⟩⟩⟩⟩, hk.2.2.2.2.1⟩)) hg hat)
       have n7_ := Aside0.mk (Kd.R_after (ok := (fun k_ => some k_ ≠ (.slice Ao46 x12_2.length co46 : Value).ownBlock ∧ some k_ ≠ (v253 : Value).ownBlock ∧ some k_ ≠ (v256 : Value).ownBlock ∧ some k_ ≠ (v259 : Value).ownBlock ∧ some k_ ≠ (.slice Ao60 y264.length co60 : Value).ownBlock)) (by exact zd_ HO263.out (fun _ hk => ⟨⟨hk.2.2.2.2.2, ⟨hk.1, ⟨hk.2.1, ⟨hk.2.2.1, hk.2.2.2.1⟩⟩⟩⟩, hk.2.2.2.2.1⟩)) hg hat)
       have n8_ := Aside0.mk (Kd.R_after (ok := (fun k_ => some k_ ≠ (.slice Ao46 x12_2.length co46 : Value).ownBlock ∧ some k_ ≠ (v253 : Value).ownBlock ∧ some k_ ≠ (v256 : Value).ownBlock ∧ some k_ ≠ (v259 : Value).ownBlock ∧ some k_ ≠ (v262 : Value).ownBlock)) (by exact zd_ HO266.out (fun _ hk => ⟨⟨hk.2.2.2.2.2, ⟨hk.1, ⟨hk.2.1, ⟨hk.2.2.1, hk.2.2.2.1⟩⟩⟩⟩, hk.2.2.2.2.1⟩)) hg hat)
       have n9_ := Aside0.mk (hb)
       have n10_ := Aside0.mk (ho)
       clear HO_12 HO_13 BK242 BK245 HO254 HO257 HO260 HO263 HO266 HB HO_11
       revert n0_ n1_ n2_ n3_ n4_ n5_ n6_ n7_ n8_ n9_ n10_
       intro HO_12 HO_13 BK242 BK245 HO254 HO257 HO260 HO263 HO266 HB HO269
       clear ho hb hg hat
       refine hK.out _ _ ⟨(blk_cell BK245.out 0).trans rfl, (blk_cell BK245.out 1).trans rfl⟩ (fun hHeld => ?_)
       clear hK K
       refine norm_ (a' := ?_) ?_ ?_
       rotate_left
       ·show Act.put _ (some 105) _ = _
        simp only [Act.put, zA_, zB_, zC_, i64_w, i32_w]
        rfl
       refine one_ (i := 22) (N := some 110) #[Y,Y,Y,Y,Y,Y,Y,Y,Y,Y,Y,Y,Y,Y,Y,Y,Y,Y,Y,Y,Y,Y,Y,Z,Z,Z,Z,Z,Z] rfl rfl (one_of HT_.out (by kernel_rfl)) (by decide) (fun K hK => ?_)
       refine goes_ Tryd.func16 (by kernel_rfl) rfl #[.int .u8 a2, .int .u8 ((rd_T48 l0 x52_2).f0)] (by rfl) rfl rfl (by (try simp only [List.map_toArray, List.map_cons, List.map_nil]); (rfl)) ?_
       with_reducible refine (gf_MulW.calls a2 ((rd_T48 l0 x52_2).f0) t270 _ ?sideG A36.out).mono ?_
       case sideG => repeat ((exact (Kd.C_below HRG.out HB.out)))
       rintro e w' ⟨rfl, ⟨nd, rfl⟩⟩
       refine ⟨_, rfl, ?_⟩
       refine hK.out _ _ ⟨(blk_cell BK245.out 0).trans rfl, (blk_cell BK245.out 1).trans rfl⟩ (fun hHeld => ?_)
       clear hK K
       refine norm_ (a' := ?_) ?_ ?_
       rotate_left
       ·show Act.put _ (some 110) _ = _
        simp only [Act.put, zA_, zB_, zC_, i64_w, i32_w]
        rfl
       refine one_ (i := 23) (N := some 111) #[Y,Y,Y,Y,Y,Y,Y,Y,Y,Y,Y,Y,Y,Y,Y,Y,Y,Y,Y,Y,Y,Y,Y,Y,Z,Z,Z,Z,Z] rfl rfl (one_of HT_.out (by kernel_rfl)) (by decide) (fun K hK => ?_)
       refine Kd.R_lit_step (Kd.int .u8) _ 5 ?hg (N := 111) ?hd (xs := ([t270] : List Int)) (inner := [.int .u8 t270]) (ok := fun _ => True) (okp := fun _ => True) ?hr ?hp (fun _ hk => hk) trivial (Below.refl _ _) (Nat.le_refl _) (by simp) ?_; (case hd => rfl); (case hg => rfl); (case hr => (go_simp; done)); (case hp => exact (Reps.one (show Kd.M (Kd.int .u8) _ _ _ t270 [.int .u8 t270] from rfl) (Reps.none _ _)))
       intro v272 w61 ho62 hb hg_ hnew_
       clear hg_ hnew_
       (rw [← Ny271.out] at ho62)
       have n0_ := Aside0.mk (zj_ (by (with_reducible repeat (apply zb_)); exact HO_12.out) (zk_ ho62) hb)
       have n1_ := Aside0.mk (Kd.R_below (by (with_reducible repeat (apply zb_)); exact HO_13.out) hb)
       have n2_ := Aside0.mk (zj_ (by (with_reducible repeat (apply zb_)); exact HO254.out) (zk_ ho62) hb)
       have n3_ := Aside0.mk (zj_ (by (with_reducible repeat (apply zb_)); exact HO257.out) (zk_ ho62) hb)
       have n4_ := Aside0.mk (zj_ (by (with_reducible repeat (apply zb_)); exact HO260.out) (zk_ ho62) hb)
       have n5_ := Aside0.mk (zj_ (by (with_reducible repeat (apply zb_)); exact HO263.out) (zk_ ho62) hb)
       have n6_ := Aside0.mk (zj_ (by (with_reducible repeat (apply zb_)); exact HO266.out) (zk_ ho62) hb)
       have n7_ := Aside0.mk (zj_ (by (with_reducible repeat (apply zb_)); exact HO269.out) (zk_ ho62) hb)
       have n8_ := Aside0.mk (zg_ (zh_ (zh_ (zh_ (zh_ (zh_ (zh_ (zh_ ho62 (zi_ (by (with_reducible repeat (apply zb_)); exact HO_12.out))) (zi_ (by (with_reducible repeat (apply zb_)); exact HO254.out))) (zi_ (by (with_reducible repeat (apply zb_)); exact HO257.out))) (zi_ (by (with_reducible repeat (apply zb_)); exact HO260.out))) (zi_ (by (with_reducible repeat (apply zb_)); exact HO263.out))) (zi_ (by (with_reducible repeat (apply zb_)); exact HO266.out))) (zi_ (by (with_reducible repeat (apply zb_)); exact HO269.out))) (zw_ (by repeat (with_reducible first | exact HB.out | apply zt_))))
       have n9_ := Aside0.mk (zq_ (by (with_reducible repeat (refine zm_ ?_ _)); exact BK242.out) hb)
       have n10_ := Aside0.mk (zq_ (by (with_reducible repeat (refine zm_ ?_ _)); exact BK245.out) hb)
       have n11_ := Aside0.mk (zv_ (by repeat (with_reducible first | exact HB.out | apply zt_)) hb)
       clear HO_12 HO_13 HO254 HO257 HO260 HO263 HO266 HO269 BK242 BK245 HB
       revert n0_ n1_ n2_ n3_ n4_ n5_ n6_ n7_ n8_ n9_ n10_ n11_
       intro HO_12 HO_13 HO254 HO257 HO260 HO263 HO266 HO269 HO273 BK242 BK245 HB
       clear hb ho62
       obtain ⟨Ao64, co64, eo64⟩ := Kd.R_slice HO273.out
       (subst eo64)
       refine hK.out _ _ ⟨(blk_cell BK245.out 0).trans rfl, (blk_cell BK245.out 1).trans rfl⟩ (fun hHeld => ?_)
       clear hK K
       refine norm_ (a' := ?_) ?_ ?_
       rotate_left
       ·show Act.put _ (some 111) _ = _
        simp only [Act.put, zA_, zB_, zC_, i64_w, i32_w]
        rfl
       refine one_ (i := 24) (N := some 112) #[Y,Y,Y,Y,Y,Y,Y,Y,Y,Y,Y,Y,Y,Y,Y,Y,Y,Y,Y,Y,Y,Y,Y,Y,Y,Z,Z,Z,Z] rfl rfl (one_of HT_.out (by kernel_rfl)) (by decide) (fun K hK => ?_)
       refine Kd.R_append_rows_step (Kd.int .u8) (w0 := w) w.heap.size (by rfl) (.tmp 106) (.tmp 111) 36 5 (.int .u8 0) 1 rfl Tryd.underlying36 info5 rfl (by decide) (by omega) (.slice Ao46 x12_2.length co46) x12_2 y271 _ _ _ (fun k_ => some k_ ≠ (v253 : Value).ownBlock ∧ some k_ ≠ (v256 : Value).ownBlock ∧ some k_ ≠ (v259 : Value).ownBlock ∧ some k_ ≠ (v262 : Value).ownBlock ∧ some k_ ≠ (.slice Ao60 y264.length co60 : Value).ownBlock ∧ some k_ ≠ (v268 : Value).ownBlock ∧ some k_ ≠ (.slice Ao64 y271.length co64 : Value).ownBlock) (fun _ => False) rfl rfl ?aO ?aR (fun _ _ h => h) (fun _ h => h.elim) ?aF ?aB ?aS ?aL ?_
       (case aR => repeat ((exact (zl_ HO273.out).2.2)))
       (case aB => exact (by repeat (((with_reducible (exact HB.out))))))
       (case aF => exact (fun k_ hk => ⟨Kd.fresh' (zi_ HO254.out) k_ hk, Kd.fresh' (zi_ HO257.out) k_ hk, Kd.fresh' (zi_ HO260.out) k_ hk, Kd.fresh' (zi_ HO263.out) k_ hk, Kd.fresh' (zi_ HO266.out) k_ hk, Kd.fresh' (zi_ HO269.out) k_ hk, Kd.fresh' (zi_ HO273.out) k_ hk⟩))
       (case aO => exact (by exact zd_ HO_12.out (fun _ hk => ⟨hk.1.1.1, ⟨hk.1.1.2.1, ⟨hk.1.1.2.2.1, ⟨hk.1.1.2.2.2.1, ⟨hk.1.1.2.2.2.2, ⟨hk.1.2, hk.2⟩⟩⟩⟩⟩⟩)))
       (case aS => exact (zw_ (by repeat (((with_reducible (exact HB.out)))))))
       (case aL => have := LMc37.out; omega)
       intro v275 w63 ho hb hg hat
       rw [← Ny274.out] at ho
       have n0_ := Aside0.mk (Kd.R_over' HO_13.out (Kd.R_typed HO_12.out) (by decide) hg)
       have n1_ := Aside0.mk (blk_grown BK242.out hg (Kd.R_ne HO_12.out BK242.out (by decide)))
       have n2_ := Aside0.mk (blk_grown BK245.out hg (Kd.R_ne HO_12.out BK245.out (by decide)))
       have n3_ := Aside0.mk (Kd.R_after (ok := (fun k_ => some k_ ≠ (v256 : Value).ownBlock ∧ some k_ ≠ (v259 : Value).ownBlock ∧ some k_ ≠ (v262 : Value).ownBlock ∧ some k_ ≠ (.slice Ao60 y264.length co60 : Value).ownBlock ∧ some k_ ≠ (v268 : Value).ownBlock ∧ some k_ ≠ (.slice Ao64 y271.length co64 : Value).ownBlock)) (by exact zd_ HO254.out (fun _ hk => ⟨⟨hk.1.1.2.1, ⟨hk.1.1.2.2.1, ⟨hk.1.1.2.2.2.1, ⟨hk.1.1.2.2.2.2, ⟨hk.1.2, hk.2⟩⟩⟩⟩⟩, hk.1.1.1⟩)) hg hat)
       have n4_ := Aside0.mk (Kd.R_after (ok := (fun k_ => some k_ ≠ (v253 : Value).ownBlock ∧ some k_ ≠ (v259 : Value).ownBlock ∧ some k_ ≠ (v262 : Value).ownBlock ∧ some k_ ≠ (.slice Ao60 y264.length co60 : Value).ownBlock ∧ some k_ ≠ (v268 : Value).ownBlock ∧ some k_ ≠ (.slice Ao64 y271.length co64 : Value).ownBlock)) (by exact zd_ HO257.out (fun _ hk => ⟨⟨hk.1.1.2.1, ⟨hk.1.1.2.2.1, ⟨hk.1.1.2.2.2.1, ⟨hk.1.1.2.2.2.2, ⟨hk.1.2, hk.2⟩⟩⟩⟩⟩, hk.1.1.1⟩)) hg hat)
       have n5_ := Aside0.mk (Kd.R_after (ok := (fun k_ => some k_ ≠ (v253 : Value).ownBlock ∧ some k_ ≠ (v256 : Value).ownBlock ∧ some k_ ≠ (v262 : Value).ownBlock ∧ some k_ ≠ (.slice Ao60 y264.length co60 : Value).ownBlock ∧ some k_ ≠ (v268 : Value).ownBlock ∧ some k_ ≠ (.slice Ao64 y271.length co64 : Value).ownBlock)) (by exact zd_ HO260.out (fun _ hk => ⟨⟨hk.1.1.2.1, ⟨hk.1.1.2.2.1, ⟨hk.1.1.2.2.2.1, ⟨hk.1.1.2.2.2.2, ⟨hk.1.2, hk.2⟩⟩⟩⟩⟩, hk.1.1.1⟩)) hg hat)
       have n6_ := Aside0.mk (Kd.R_after (ok := (fun k_ => some k_ ≠ (v253 : Value).ownBlock ∧ some k_ ≠ (v256 : Value).ownBlock ∧ some k_ ≠ (v259 : Value).ownBlock ∧ some k_ ≠ (.slice Ao60 y264.length co60 : Value).ownBlock ∧ some k_ ≠ (v268 : Value).ownBlock ∧ some k_ ≠ (.slice Ao64 y271.length co64 : Value).ownBlock)) (by exact zd_ HO263.out (fun _ hk => ⟨⟨hk.1.1.2.1, ⟨hk.1.1.2.2.1, ⟨hk.1.1.2.2.2.1, ⟨hk.1.1.2.2.2.2, ⟨hk.1.2, hk.2⟩⟩⟩⟩⟩, hk.1.1.1⟩)) hg hat)
       have n7_ := Aside0.mk (Kd.R_after (ok := (fun k_ => some k_ ≠ (v253 : Value).ownBlock ∧ some k_ ≠ (v256 : Value).ownBlock ∧ some k_ ≠ (v259 : Value).ownBlock ∧ some k_ ≠ (v262 : Value).ownBlock ∧ some k_ ≠ (v268 : Value).ownBlock ∧ some k_ ≠ (.slice Ao64 y271.length co64 : Value).ownBlock)) (by exact zd_ HO266.out (fun _ hk => ⟨⟨hk.1.1.2.1, ⟨hk.1.1.2.2.1, ⟨hk.1.1.2.2.2.1, ⟨hk.1.1.2.2.2.2, ⟨hk.1.2, hk.2⟩⟩⟩⟩⟩, hk.1.1.1⟩)) hg hat)
       have n8_ := Aside0.mk (Kd.R_after (ok := (fun k_ => some k_ ≠ (v253 : Value).ownBlock ∧ some k_ ≠ (v256 : Value).ownBlock ∧ some k_ ≠ (v259 : Value).ownBlock ∧ some k_ ≠ (v262 : Value).ownBlock ∧ some k_ ≠ (.slice Ao60 y264.length co60 : Value).ownBlock ∧ some k_ ≠ (.slice Ao64 y271.length co64 : Value).ownBlock)) (by exact zd_ HO269.out (fun _ hk => ⟨⟨hk.1.2.1, ⟨hk.1.2.2.1, ⟨hk.1.2.2.2.1, ⟨hk.1.2.2.2.2.1, ⟨hk.1.2.2.2.2.2, hk.2⟩⟩⟩⟩⟩, hk.1.1⟩)) hg hat)
       have n9_ := Aside0.mk (Kd.R_after (ok := (fun k_ => some k_ ≠ (v253 : Value).ownBlock ∧ some k_ ≠ (v256 : Value).ownBlock ∧ some k_ ≠ (v259 : Value).ownBlock ∧ some k_ ≠ (v262 : Value).ownBlock ∧ some k_ ≠ (.slice Ao60 y264.length co60 : Value).ownBlock ∧ some k_ ≠ (v268 : Value).ownBlock)) (by exact zd_ HO273.out (fun _ hk => ⟨⟨hk.1.1.1.1.1.2, ⟨hk.1.1.1.1.2, ⟨hk.1.1.1.2, ⟨hk.1.1.2, ⟨hk.1.2, hk.2⟩⟩⟩⟩⟩, hk.1.1.1.1.1.1.2⟩)) hg hat)
       have n10_ := Aside0.mk (hb)
       have n11_ := Aside0.mk (ho)
       clear HO_13 BK242 BK245 HO254 HO257 HO260 HO263 HO266 HO269 HO273 HB HO_12
       revert n0_ n1_ n2_ n3_ n4_ n5_ n6_ n7_ n8_ n9_ n10_ n11_
       intro HO_13 BK242 BK245 HO254 HO257 HO260 HO263 HO266 HO269 HO273 HB HO276
       clear ho hb hg hat
       refine hK.out _ _ ⟨(blk_cell BK245.out 0).trans rfl, (blk_cell BK245.out 1).trans rfl⟩ (fun hHeld => ?_)
       clear hK K
       refine norm_ (a' := ?_) ?_ ?_
       rotate_left
       ·show Act.put _ (some 112) _ = _
        simp only [Act.put, zA_, zB_, zC_, i64_w, i32_w]
        rfl
       refine pure_ (i := 25) (N := some 9) (v := ?_) (a' := ?_) #[Y,Y,Y,Y,Y,Y,Y,Y,Y,Y,Y,Y,Y,Y,Y,Y,Y,Y,Y,Y,Y,Y,Y,Y,Y,Y,Z,Z,Z] rfl rfl (any_of HT_.out (by kernel_rfl)) (fun _ _ _ h => h) (Or.inl ⟨by rfl, ?_⟩) ?_ ?_
       rotate_left
       ·intro w'
        go_simp
        with_reducible rfl
       rotate_left
       ·simp only [Act.put, zA_, zB_, zC_, i64_w, i32_w]
        rfl
       refine pure_ (i := 26) (N := some 10) (v := ?_) (a' := ?_) #[Y,Y,Y,Y,Y,Y,Y,Y,Y,Y,Y,Y,Y,Y,Y,Y,Y,Y,Y,Y,Y,Y,Y,Y,Y,Y,Y,Z,Z] rfl rfl (any_of HT_.out (by kernel_rfl)) (fun _ _ _ h => h) (Or.inl ⟨by rfl, ?_⟩) ?_ ?_
       rotate_left
       ·intro w'
        go_simp
        with_reducible rfl
       rotate_left
       ·simp only [Act.put, zA_, zB_, zC_, i64_w, i32_w]
        rfl
       refine pure_ (i := 27) (N := some 11) (v := ?_) (a' := ?_) #[Y,Y,Y,Y,Y,Y,Y,Y,Y,Y,Y,Y,Y,Y,Y,Y,Y,Y,Y,Y,Y,Y,Y,Y,Y,Y,Y,Y,Z] rfl rfl (any_of HT_.out (by kernel_rfl)) (fun _ _ _ h => h) (Or.inl ⟨by rfl, ?_⟩) ?_ ?_
       rotate_left
       ·intro w'
        go_simp
        with_reducible rfl
       rotate_left
       ·simp only [Act.put, zA_, zB_, zC_, i64_w, i32_w]
        rfl
       refine pure_ (i := 28) (N := some 12) (v := ?_) (a' := ?_) #[Y,Y,Y,Y,Y,Y,Y,Y,Y,Y,Y,Y,Y,Y,Y,Y,Y,Y,Y,Y,Y,Y,Y,Y,Y,Y,Y,Y,Y] rfl rfl (any_of HT_.out (by kernel_rfl)) (fun _ _ _ h => h) (Or.inl ⟨by rfl, ?_⟩) ?_ ?_
       rotate_left
       ·intro w'
        go_simp
        with_reducible rfl
       rotate_left
       ·simp only [Act.put, zA_, zB_, zC_, i64_w, i32_w]
        rfl
       refine done_ (done_of HT_.out (by kernel_rfl)) ?_
       try go_wp2
       have n0_ := Aside0.mk (zc_ HO_13.out)
       have n1_ := Aside0.mk (zc_ HO254.out)
       have n2_ := Aside0.mk (zc_ HO257.out)
       have n3_ := Aside0.mk (zc_ HO260.out)
       have n4_ := Aside0.mk (zc_ HO263.out)
       have n5_ := Aside0.mk (zc_ HO266.out)
       have n6_ := Aside0.mk (zc_ HO269.out)
       have n7_ := Aside0.mk (zc_ HO273.out)
       have n8_ := Aside0.mk (zc_ HO276.out)
       have n9_ := Aside0.mk (zn_ BK242.out)
       have n10_ := Aside0.mk (zn_ BK245.out)
       have n11_ := Aside0.mk (zu_ HB.out)
       clear HO_13 HO254 HO257 HO260 HO263 HO266 HO269 HO273 HO276 BK242 BK245 HB
       revert n0_ n1_ n2_ n3_ n4_ n5_ n6_ n7_ n8_ n9_ n10_ n11_
       intro HO_13 HO254 HO257 HO260 HO263 HO266 HO269 HO273 HO276 BK242 BK245 HB
       have p277 : 0 ≤ (x52_2 : Int) := of_decide_eq_true (by (with_reducible assumption))
       have q277 : x52_2 < (l1_0.length : Int) := of_decide_eq_true (by (with_reducible assumption))
       obtain ⟨ad277, e277, hx277_0⟩ := Kd.at_string HR1_0.out x52_2 p277 q277
       have hw277_0 := hx277_0
       cases e277
       replace hx277_0 := (HB.out.cell (World.block_lt_of_cell? w _ hx277_0)).trans hx277_0
       replace p277 := eq_true p277
       replace q277 := eq_true q277
       have p278 : 0 ≤ (x52_2 : Int) := of_decide_eq_true (by (with_reducible assumption))
       have q278 : x52_2 < (l1_1.length : Int) := of_decide_eq_true (by (with_reducible assumption))
       obtain ⟨ad278, e278, hx278_0⟩ := Kd.at_string HR1_1.out x52_2 p278 q278
       have hw278_0 := hx278_0
       cases e278
       replace hx278_0 := (HB.out.cell (World.block_lt_of_cell? w _ hx278_0)).trans hx278_0
       replace p278 := eq_true p278
       replace q278 := eq_true q278
       refine start_ (n := 13) (S := fun w' => w'.cell? (ad277.add (x52_2).toNat) = some (.string (rdOf ByteArray.empty l1_0 x52_2)) ∧ w'.cell? (ad278.add (x52_2).toNat) = some (.string (rdOf ByteArray.empty l1_1 x52_2))) (ds := []) #[Z,Z,Z,Z,Z,Z,Z,Z,Z,Z,Z,Z,Z] (by kernel_rfl) rfl rfl ⟨((HB.out.cell (World.block_lt_of_cell? w _ hw277_0)).trans hw277_0), ((HB.out.cell (World.block_lt_of_cell? w _ hw278_0)).trans hw278_0)⟩ (fun hHeld => ?_); refine with_tabW quietuslaw04_FieldCombinesLinearly.tab12 quietuslaw04_FieldCombinesLinearly.bits12 (fun HT_ HW_ => ?_)
       generalize w63.drew = w65 at HO_13 HO254 HO257 HO260 HO263 HO266 HO269 HO273 HO276 BK242 BK245 HB hx277_0 hx278_0 hHeld ⊢
       refine pure_ (i := 0) (N := some 113) (v := ?_) (a' := ?_) #[Y,Z,Z,Z,Z,Z,Z,Z,Z,Z,Z,Z,Z] rfl rfl (any_of HT_.out (by kernel_rfl)) (fun _ _ _ h => h) (Or.inl ⟨by rfl, ?_⟩) ?_ ?_
       rotate_left
       ·intro w'
        go_simp
        with_reducible rfl
       rotate_left
       ·simp only [Act.put, zA_, zB_, zC_, i64_w, i32_w]
        rfl
       refine pure_ (i := 1) (N := some 114) (v := ?_) (a' := ?_) #[Y,Y,Z,Z,Z,Z,Z,Z,Z,Z,Z,Z,Z] rfl rfl (any_of HT_.out (by kernel_rfl)) (fun _ _ _ h => h) (Or.inl ⟨by rfl, ?_⟩) ?_ ?_
       rotate_left
       ·intro w'
        go_simp
        with_reducible rfl
       rotate_left
       ·simp only [Act.put, zA_, zB_, zC_, i64_w, i32_w]
        rfl
       refine pure_ (i := 2) (N := some 115) (v := ?_) (a' := ?_) #[Y,Y,Y,Z,Z,Z,Z,Z,Z,Z,Z,Z,Z] rfl rfl (any_of HT_.out (by kernel_rfl)) (fun _ _ _ h => h) (Or.inl ⟨by rfl, ?_⟩) ?_ ?_
       rotate_left
       ·intro w'
        go_simp
        with_reducible rfl
       rotate_left
       ·simp only [Act.put, zA_, zB_, zC_, i64_w, i32_w]
        rfl
       refine pure_ (i := 3) (N := some 116) (v := ?_) (a' := ?_) #[Y,Y,Y,Y,Z,Z,Z,Z,Z,Z,Z,Z,Z] rfl rfl (any_of HT_.out (by kernel_rfl)) (fun _ _ _ h => h) (Or.inl ⟨by rfl, ?_⟩) ?_ ?_
       rotate_left
       ·intro w'
        go_simp
        with_reducible rfl
       rotate_left
       ·simp only [Act.put, zA_, zB_, zC_, i64_w, i32_w]
        rfl
       refine pure_ (i := 5) (N := some 118) (v := ?_) (a' := ?_) #[Y,Y,Y,Y,Z,Y,Z,Z,Z,Z,Z,Z,Z] rfl rfl (any_of HT_.out (by kernel_rfl)) (fun _ _ _ h => h) (Or.inl ⟨by rfl, ?_⟩) ?_ ?_
       rotate_left
       ·intro w'
        go_simp
        with_reducible rfl
       rotate_left
       ·simp only [Act.put, zA_, zB_, zC_, i64_w, i32_w]
        rfl
       refine pure_ (i := 6) (N := some 119) (v := ?_) (a' := ?_) #[Y,Y,Y,Y,Z,Y,Y,Z,Z,Z,Z,Z,Z] rfl rfl (any_of HT_.out (by kernel_rfl)) (fun _ _ _ h => h) (Or.inl ⟨by rfl, ?_⟩) ?_ ?_
       rotate_left
       ·intro w'
        go_simp
        with_reducible rfl
       rotate_left
       ·simp only [Act.put, zA_, zB_, zC_, i64_w, i32_w]
        rfl
       refine pure_ (i := 7) (N := some 120) (v := ?_) (a' := ?_) #[Y,Y,Y,Y,Z,Y,Y,Y,Z,Z,Z,Z,Z] rfl rfl (any_of HT_.out (by kernel_rfl)) (fun _ _ _ h => h) (Or.inl ⟨by rfl, ?_⟩) ?_ ?_
       rotate_left
       ·intro w'
        go_simp
        with_reducible rfl
       rotate_left
       ·simp only [Act.put, zA_, zB_, zC_, i64_w, i32_w]
        rfl
       refine take_ (i := 4) (N := some 117) (v := ?_) (a' := ?_) #[Y,Y,Y,Y,Y,Y,Y,Y,Z,Z,Z,Z,Z] rfl rfl (take_ofW HT_.out HW_.out (by kernel_rfl)) (fun _ _ _ h => h) (Or.inl ⟨by rfl, ?_⟩) hHeld ?_ ?_
       rotate_left
       ·rintro w' ⟨s0, s1⟩
        go_simp
        with_reducible rfl
       rotate_left
       ·simp only [Act.put, zA_, zB_, zC_, i64_w, i32_w]
        rfl
       refine take_ (i := 8) (N := some 121) (v := ?_) (a' := ?_) #[Y,Y,Y,Y,Y,Y,Y,Y,Y,Z,Z,Z,Z] rfl rfl (take_ofW HT_.out HW_.out (by kernel_rfl)) (fun _ _ _ h => h) (Or.inl ⟨by rfl, ?_⟩) hHeld ?_ ?_
       rotate_left
       ·rintro w' ⟨s0, s1⟩
        go_simp
        with_reducible rfl
       rotate_left
       ·simp only [Act.put, zA_, zB_, zC_, i64_w, i32_w]
        rfl
       refine one_ (i := 9) (N := some 122) #[Y,Y,Y,Y,Y,Y,Y,Y,Y,Y,Z,Z,Z] rfl rfl (one_of HT_.out (by kernel_rfl)) (by decide) (fun K hK => ?_)
       refine goes_ Tryd.func26 (by kernel_rfl) rfl #[.string (rdOf ByteArray.empty l1_0 x52_2), .string (rdOf ByteArray.empty l1_1 x52_2)] (by rfl) rfl rfl (by (try simp only [List.map_toArray, List.map_cons, List.map_nil]); (rfl)) ?_
       with_reducible refine (gf_Sum.calls (rdOf ByteArray.empty l1_0 x52_2) (rdOf ByteArray.empty l1_1 x52_2) t279 _ A41.out).mono ?_
       rintro e w66 ⟨rfl, hb⟩
       refine ⟨_, rfl, ?_⟩
       have n0_ := Aside0.mk (Kd.R_below HO_13.out hb)
       have n1_ := Aside0.mk (Kd.R_below HO254.out hb)
       have n2_ := Aside0.mk (Kd.R_below HO257.out hb)
       have n3_ := Aside0.mk (Kd.R_below HO260.out hb)
       have n4_ := Aside0.mk (Kd.R_below HO263.out hb)
       have n5_ := Aside0.mk (Kd.R_below HO266.out hb)
       have n6_ := Aside0.mk (Kd.R_below HO269.out hb)
       have n7_ := Aside0.mk (Kd.R_below HO273.out hb)
       have n8_ := Aside0.mk (Kd.R_below HO276.out hb)
       have n9_ := Aside0.mk (zq_ BK242.out hb)
       have n10_ := Aside0.mk (zq_ BK245.out hb)
       have n11_ := Aside0.mk (zv_ (by repeat (((with_reducible (exact HB.out))))) hb)
       clear HO_13 HO254 HO257 HO260 HO263 HO266 HO269 HO273 HO276 BK242 BK245 HB
       revert n0_ n1_ n2_ n3_ n4_ n5_ n6_ n7_ n8_ n9_ n10_ n11_
       intro HO_13 HO254 HO257 HO260 HO263 HO266 HO269 HO273 HO276 BK242 BK245 HB
       (try clear hb)
       (try clear hb2)
       (try clear hk)
       (try clear hi)
       refine hK.out _ _ ⟨((HB.out.cell (World.block_lt_of_cell? w _ hw277_0)).trans hw277_0), ((HB.out.cell (World.block_lt_of_cell? w _ hw278_0)).trans hw278_0)⟩ (fun hHeld => ?_)
       clear hK K
       refine norm_ (a' := ?_) ?_ ?_
       rotate_left
       ·show Act.put _ (some 122) _ = _
        simp only [Act.put, zA_, zB_, zC_, i64_w, i32_w]
        rfl
       refine one_ (i := 10) (N := some 123) #[Y,Y,Y,Y,Y,Y,Y,Y,Y,Y,Y,Z,Z] rfl rfl (one_of HT_.out (by kernel_rfl)) (by decide) (fun K hK => ?_)
       refine Kd.R_lit_step Kd.string _ 9 ?hg (N := 123) ?hd (xs := ([t279] : List ByteArray)) (inner := [.string t279]) (ok := fun _ => True) (okp := fun _ => True) ?hr ?hp (fun _ hk => hk) trivial (Below.refl _ _) (Nat.le_refl _) (by simp) ?_; (case hd => rfl); (case hg => rfl); (case hr => (go_simp; done)); (case hp => exact (Reps.one (show Kd.M Kd.string _ _ _ t279 [.string t279] from rfl) (Reps.none _ _)))
       intro v281 w67 ho68 hb hg_ hnew_
       clear hg_ hnew_
       (rw [← Ny280.out] at ho68)
       have n0_ := Aside0.mk (zj_ HO_13.out (zk_ ho68) hb)
       have n1_ := Aside0.mk (Kd.R_below HO254.out hb)
       have n2_ := Aside0.mk (Kd.R_below HO257.out hb)
       have n3_ := Aside0.mk (Kd.R_below HO260.out hb)
       have n4_ := Aside0.mk (Kd.R_below HO263.out hb)
       have n5_ := Aside0.mk (Kd.R_below HO266.out hb)
       have n6_ := Aside0.mk (Kd.R_below HO269.out hb)
       have n7_ := Aside0.mk (Kd.R_below HO273.out hb)
       have n8_ := Aside0.mk (Kd.R_below HO276.out hb)
       have n9_ := Aside0.mk (zg_ (zh_ ho68 (zi_ HO_13.out)) (zw_ (by repeat (((with_reducible (exact HB.out)))))))
       have n10_ := Aside0.mk (zq_ BK242.out hb)
       have n11_ := Aside0.mk (zq_ BK245.out hb)
       have n12_ := Aside0.mk (zv_ (by repeat (((with_reducible (exact HB.out))))) hb)
       clear HO_13 HO254 HO257 HO260 HO263 HO266 HO269 HO273 HO276 BK242 BK245 HB
       revert n0_ n1_ n2_ n3_ n4_ n5_ n6_ n7_ n8_ n9_ n10_ n11_ n12_
       intro HO_13 HO254 HO257 HO260 HO263 HO266 HO269 HO273 HO276 HO282 BK242 BK245 HB
       clear hb ho68
       obtain ⟨Ao70, co70, eo70⟩ := Kd.R_slice HO282.out
       (subst eo70)
       refine hK.out _ _ ⟨((HB.out.cell (World.block_lt_of_cell? w _ hw277_0)).trans hw277_0), ((HB.out.cell (World.block_lt_of_cell? w _ hw278_0)).trans hw278_0)⟩ (fun hHeld => ?_)
       clear hK K
       refine norm_ (a' := ?_) ?_ ?_
       rotate_left
       ·show Act.put _ (some 123) _ = _
        simp only [Act.put, zA_, zB_, zC_, i64_w, i32_w]
        rfl
       refine one_ (i := 11) (N := some 124) #[Y,Y,Y,Y,Y,Y,Y,Y,Y,Y,Y,Y,Z] rfl rfl (one_of HT_.out (by kernel_rfl)) (by decide) (fun K hK => ?_)
       refine Kd.R_append_rows_step Kd.string (w0 := w) w.heap.size (by rfl) (.tmp 113) (.tmp 123) 37 9 (.string ⟨#[]⟩) 16 rfl Tryd.underlying37 info9 rfl (by decide) (by omega) u13 x13_2 y280 _ _ _ (fun k_ => some k_ ≠ (.slice Ao70 y280.length co70 : Value).ownBlock) (fun _ => False) rfl rfl ?aO ?aR (fun _ _ h => h) (fun _ h => h.elim) ?aF ?aB ?aS ?aL ?_
       (case aR => repeat ((exact (zl_ HO282.out).2.2)))
       (case aB => exact (by repeat (((with_reducible (exact HB.out))))))
       (case aF => exact (fun k_ hk => Kd.fresh' (zi_ HO282.out) k_ hk))
       (case aO => exact (by exact zd_ HO_13.out (fun _ hk => hk.2)))
       (case aS => exact (zw_ (by repeat (((with_reducible (exact HB.out)))))))
       (case aL => have := LMc42.out; omega)
       intro v284 w69 ho hb hg hat
       rw [← Ny283.out] at ho
       have n0_ := Aside0.mk (blk_grown BK242.out hg (Kd.R_ne HO_13.out BK242.out (by decide)))
       have n1_ := Aside0.mk (blk_grown BK245.out hg (Kd.R_ne HO_13.out BK245.out (by decide)))
       have n2_ := Aside0.mk (Kd.R_over' HO254.out (Kd.R_typed HO_13.out) (by decide) hg)
       have n3_ := Aside0.mk (Kd.R_over' HO257.out (Kd.R_typed HO_13.out) (by decide) hg)
       have n4_ := Aside0.mk (Kd.R_over' HO260.out (Kd.R_typed HO_13.out) (by decide) hg)
       have n5_ := Aside0.mk (Kd.R_over' HO263.out (Kd.R_typed HO_13.out) (by decide) hg)
       have n6_ := Aside0.mk (Kd.R_over' HO266.out (Kd.R_typed HO_13.out) (by decide) hg)
       have n7_ := Aside0.mk (Kd.R_over' HO269.out (Kd.R_typed HO_13.out) (by decide) hg)
       have n8_ := Aside0.mk (Kd.R_over' HO273.out (Kd.R_typed HO_13.out) (by decide) hg)
       have n9_ := Aside0.mk (Kd.R_over' HO276.out (Kd.R_typed HO_13.out) (by decide) hg)
       have n10_ := Aside0.mk (Kd.R_after (ok := (fun _ => True)) HO282.out hg hat)
       have n11_ := Aside0.mk (hb)
       have n12_ := Aside0.mk (ho)
       clear BK242 BK245 HO254 HO257 HO260 HO263 HO266 HO269 HO273 HO276 HO282 HB HO_13
       revert n0_ n1_ n2_ n3_ n4_ n5_ n6_ n7_ n8_ n9_ n10_ n11_ n12_
       intro BK242 BK245 HO254 HO257 HO260 HO263 HO266 HO269 HO273 HO276 HO282 HB HO285
       clear ho hb hg hat
       refine hK.out _ _ ⟨((HB.out.cell (World.block_lt_of_cell? w _ hw277_0)).trans hw277_0), ((HB.out.cell (World.block_lt_of_cell? w _ hw278_0)).trans hw278_0)⟩ (fun hHeld => ?_)
       clear hK K
       refine norm_ (a' := ?_) ?_ ?_
       rotate_left
       ·show Act.put _ (some 124) _ = _
        simp only [Act.put, zA_, zB_, zC_, i64_w, i32_w]
        rfl
       refine pure_ (i := 12) (N := some 13) (v := ?_) (a' := ?_) #[Y,Y,Y,Y,Y,Y,Y,Y,Y,Y,Y,Y,Y] rfl rfl (any_of HT_.out (by kernel_rfl)) (fun _ _ _ h => h) (Or.inl ⟨by rfl, ?_⟩) ?_ ?_
       rotate_left
       ·intro w'
        go_simp
        with_reducible rfl
       rotate_left
       ·simp only [Act.put, zA_, zB_, zC_, i64_w, i32_w]
        rfl
       refine done_ (done_of HT_.out (by kernel_rfl)) ?_
       try go_wp2
       go_roundg kj14
       case measure => have := HJ3.out; have := HK2.out; have := HJ14.out; omega
       case rel => exact ⟨(y255), (y261), (y267), (y274), (y283), (wrap64 (x52_2 + 1)), (by (rfl)), H', ⟨by have := HJ3.out; have := HK2.out; have := HJ14.out; omega⟩, ⟨by exact zd_ HO257.out (fun _ hk => ⟨hk.1.2.2.1, ⟨hk.1.2.2.2.2.1, hk.2⟩⟩)⟩, ⟨by exact zd_ HO263.out (fun _ hk => ⟨hk.1.2.1, ⟨hk.1.2.2.2.2.1, hk.2⟩⟩)⟩, ⟨by exact zd_ HO269.out (fun _ hk => ⟨hk.1.2.1, ⟨hk.1.2.2.2.1, hk.2⟩⟩)⟩, ⟨by exact zd_ HO276.out (fun _ hk => ⟨hk.2.1, ⟨hk.2.2.2.1, hk.2.2.2.2.2.1⟩⟩)⟩, ⟨by exact zd_ HO285.out (fun _ hk => trivial)⟩, ⟨by exact BK242.out⟩, ⟨by repeat (((with_reducible (exact HB.out))))⟩⟩
end Go.Proofs.YtgfnllaajaoljaaDoor.QA
