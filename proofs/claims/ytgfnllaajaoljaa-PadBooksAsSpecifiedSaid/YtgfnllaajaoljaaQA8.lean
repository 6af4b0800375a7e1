-- WRITTEN BY qprint.py, a program of this session (the kit's print, driven with contracts proved by hand): Lean checks it.
import Derived.Test.YtgfnllaajaoljaaQA0
import Derived.Test.YtgfnllaajaoljaaQA1
import Derived.Test.YtgfnllaajaoljaaQA2
import Derived.Test.YtgfnllaajaoljaaQA3
import Derived.Test.YtgfnllaajaoljaaQA5
import Derived.Test.YtgfnllaajaoljaaQA7
namespace Go.Proofs.Ytgfnllaajaoljaa.QA
open Go.RowKit Go.Proofs.YtgfnllaajaoljaaW.PrintWords Go.Proofs.YtgfnllaajaoljaaW.PrintLast Go.Proofs.YtgfnllaajaoljaaW.PrintMore
attribute [local go_sem] max2_int min2_int max_two min_two max_three min_three max_four min_four   -- for this text's walks alone
set_option linter.unusedVariables false
set_option linter.unusedSimpArgs false

open Go.Proofs.YtgfnllaajaoljaaW.PrintWords.Kd renaming R_alloc → za_, R_drewN → zb_, R_drew → zc_, R_mono → zd_, R_far → ze_, R_types → zf_, R_lower → zg_, R_new' → zh_, R_lt → zi_, R_elder' → zj_, R_base → zk_, R_reads' → zl_
open Go.Proofs.YtgfnllaajaoljaaW.PrintWords renaming blk_drewN → zm_, blk_drew → zn_, blk_alloc → zo_, blk_far → zp_, blk_below → zq_, below_set → zr_, below_alloc → zs_, pw_below_drewN → zt_, below_drew1 → zu_, below_step → zv_, below_size → zw_
/-! ### quietuslaw25_PadBooksAsSpecified: function 3 -/
mutual
def quietuslaw25_PadBooksAsSpecified.j0 : Nat → ByteArray → Bool → Int → Int → List ByteArray → Int → Int → Option (Bool)
  | 0, _, _, _, _, _, _, _ => none
  | k + 1, x2, x25, x324000, x324001, x324002, x325000, x325001 => if x25 = true then ((quietuslaw25_sanity.f k).bind fun t326 => (some t326)) else ((pad_Use.f k x324000 x324001 x324002 x325000 x325001 x2).bind fun bt327 => ((pad_Spend.f x324000 x324001 x324002 x325001).bind fun bt335 => ((quietusref25_Use.f k x324000 x324001 x324002 x325000 x325001 x2).bind fun bt342 => ((quietusref25_Spend.f k x324000 x324001 x324002 x325001).bind fun bt350 => ((pad_Check.f x324000 x324001 x324002).bind fun t358 => ((quietusref25_Check.f k x324000 x324001 x324002).bind fun t359 => (if t358 = t359 then (if bt327.1.toList = bt342.1.toList then (if bt327.2.2.2.2 = bt342.2.2.2.2 then ((quietusref25_Same.f k bt327.2.1 bt327.2.2.1 bt327.2.2.2.1 bt342.2.1 bt342.2.2.1 bt342.2.2.2.1).bind fun t360 => (if t360 = true then (if bt335.2.2.2 = bt350.2.2.2.2 then ((quietusref25_Same.f k bt335.1 bt335.2.1 bt335.2.2.1 bt350.2.1 bt350.2.2.1 bt350.2.2.2.1).bind fun t361 => (quietuslaw25_PadBooksAsSpecified.j1 k x2 (!t361) x324000 x324001 x324002)) else (none)) else (none))) else (none)) else (none)) else (none))))))))
def quietuslaw25_PadBooksAsSpecified.j1 : Nat → ByteArray → Bool → Int → Int → List ByteArray → Option (Bool)
  | 0, _, _, _, _, _ => none
  | k + 1, x2, x92, x324000, x324001, x324002 => if x92 = true then (none) else (quietuslaw25_PadBooksAsSpecified.l0 k x2 x324002 (x324002.length : Int) 0)
def quietuslaw25_PadBooksAsSpecified.l0 : Nat → ByteArray → List ByteArray → Int → Int → Option (Bool)
  | 0, _, _, _, _ => none
  | k + 1, x2, x94, x95, x96 => if x96 < x95 then (if 0 ≤ x96 then (if x96 < (x94.length : Int) then ((pad_Cover.f x2 (rdOf ByteArray.empty x94 x96)).bind fun bt364 => (if ((bt364.2 == 0) != ((x2.size : Int) == ((rdOf ByteArray.empty x94 x96).size : Int))) = true then (none) else (if bt364.2 = 0 then ((gf_Sum.f x2 (rdOf ByteArray.empty x94 x96)).bind fun t366 => (if bt364.1.toList = t366.toList then (quietuslaw25_PadBooksAsSpecified.l0 k x2 x94 x95 (wrap64 (x96 + 1))) else (none))) else (if bt364.2 = 1 then (if bt364.1.toList = ([] : List UInt8) then (quietuslaw25_PadBooksAsSpecified.l0 k x2 x94 x95 (wrap64 (x96 + 1))) else (none)) else (none))))) else (none)) else (none)) else ((quietuslaw25_sanity.f k).bind fun t362 => (some t362))
end
def quietuslaw25_PadBooksAsSpecified.f (k : Nat) (a0_0 : Int) (a0_1 : Int) (l0_2 : List ByteArray) (a1_0 : Int) (a1_1 : Int) (a2 : ByteArray) : Option (Bool) := (quietuslaw25_light.f k a0_0 a0_1 l0_2).bind fun t325 => (if t325 = true then (quietuslaw25_PadBooksAsSpecified.j0 k a2 (decide ((a2.size : Int) > 100)) a0_0 a0_1 l0_2 a1_0 a1_1) else (quietuslaw25_PadBooksAsSpecified.j0 k a2 true a0_0 a0_1 l0_2 a1_0 a1_1))
theorem quietuslaw25_PadBooksAsSpecified.mono_l : ∀ k, (∀ y0 y1 y2 y3 y4 y5 y6, LeO (quietuslaw25_PadBooksAsSpecified.j0 k y0 y1 y2 y3 y4 y5 y6) (quietuslaw25_PadBooksAsSpecified.j0 (k + 1) y0 y1 y2 y3 y4 y5 y6)) ∧ (∀ y0 y1 y2 y3 y4, LeO (quietuslaw25_PadBooksAsSpecified.j1 k y0 y1 y2 y3 y4) (quietuslaw25_PadBooksAsSpecified.j1 (k + 1) y0 y1 y2 y3 y4)) ∧ (∀ y0 y1 y2 y3, LeO (quietuslaw25_PadBooksAsSpecified.l0 k y0 y1 y2 y3) (quietuslaw25_PadBooksAsSpecified.l0 (k + 1) y0 y1 y2 y3))
  | 0 => ⟨fun _ _ _ _ _ _ _ r h => by simp [quietuslaw25_PadBooksAsSpecified.j0] at h, fun _ _ _ _ _ r h => by simp [quietuslaw25_PadBooksAsSpecified.j1] at h, fun _ _ _ _ r h => by simp [quietuslaw25_PadBooksAsSpecified.l0] at h⟩
  | k + 1 => by
    obtain ⟨ih0, ih1, ih2⟩ := quietuslaw25_PadBooksAsSpecified.mono_l k
    refine ⟨?_, ?_, ?_⟩
    · intro y0 y1 y2 y3 y4 y5 y6
      unfold quietuslaw25_PadBooksAsSpecified.j0
      repeat' first
      | (with_reducible exact ih0 _ _ _ _ _ _ _)
      | (with_reducible exact ih1 _ _ _ _ _)
      | (with_reducible exact ih2 _ _ _ _)
      | (with_reducible exact pad_Use.mono _ _ _ _ _ _ _)
      | (with_reducible exact quietuslaw25_light.mono _ _ _ _)
      | (with_reducible exact quietuslaw25_sanity.mono _)
      | (with_reducible exact quietusref25_Check.mono _ _ _ _)
      | (with_reducible exact quietusref25_Same.mono _ _ _ _ _ _ _)
      | (with_reducible exact quietusref25_Spend.mono _ _ _ _ _)
      | (with_reducible exact quietusref25_Use.mono _ _ _ _ _ _ _)
      | (with_reducible exact LeO.refl _)
      | (with_reducible exact LeO.none _)
      | (with_reducible refine LeO.ite ?_ ?_)
      | (with_reducible refine LeO.bind ?_ (fun _ => ?_))
      | exact ih0 _ _ _ _ _ _ _
      | exact ih1 _ _ _ _ _
      | exact ih2 _ _ _ _
      | exact pad_Use.mono _ _ _ _ _ _ _
      | exact quietuslaw25_light.mono _ _ _ _
      | exact quietuslaw25_sanity.mono _
      | exact quietusref25_Check.mono _ _ _ _
      | exact quietusref25_Same.mono _ _ _ _ _ _ _
      | exact quietusref25_Spend.mono _ _ _ _ _
      | exact quietusref25_Use.mono _ _ _ _ _ _ _
      | exact LeO.none _
      | refine LeO.ite ?_ ?_
      | refine LeO.bind ?_ (fun _ => ?_)
    · intro y0 y1 y2 y3 y4
      unfold quietuslaw25_PadBooksAsSpecified.j1
      repeat' first
      | (with_reducible exact ih0 _ _ _ _ _ _ _)
      | (with_reducible exact ih1 _ _ _ _ _)
      | (with_reducible exact ih2 _ _ _ _)
      | (with_reducible exact pad_Use.mono _ _ _ _ _ _ _)
      | (with_reducible exact quietuslaw25_light.mono _ _ _ _)
      | (with_reducible exact quietuslaw25_sanity.mono _)
      | (with_reducible exact quietusref25_Check.mono _ _ _ _)
      | (with_reducible exact quietusref25_Same.mono _ _ _ _ _ _ _)
      | (with_reducible exact quietusref25_Spend.mono _ _ _ _ _)
      | (with_reducible exact quietusref25_Use.mono _ _ _ _ _ _ _)
      | (with_reducible exact LeO.refl _)
      | (with_reducible exact LeO.none _)
      | (with_reducible refine LeO.ite ?_ ?_)
      | (with_reducible refine LeO.bind ?_ (fun _ => ?_))
      | exact ih0 _ _ _ _ _ _ _
      | exact ih1 _ _ _ _ _
      | exact ih2 _ _ _ _
      | exact pad_Use.mono _ _ _ _ _ _ _
      | exact quietuslaw25_light.mono _ _ _ _
      | exact quietuslaw25_sanity.mono _
      | exact quietusref25_Check.mono _ _ _ _
      | exact quietusref25_Same.mono _ _ _ _ _ _ _
      | exact quietusref25_Spend.mono _ _ _ _ _
      | exact quietusref25_Use.mono _ _ _ _ _ _ _
      | exact LeO.none _
      | refine LeO.ite ?_ ?_
      | refine LeO.bind ?_ (fun _ => ?_)
    · intro y0 y1 y2 y3
      unfold quietuslaw25_PadBooksAsSpecified.l0
      repeat' first
      | (with_reducible exact ih0 _ _ _ _ _ _ _)
      | (with_reducible exact ih1 _ _ _ _ _)
      | (with_reducible exact ih2 _ _ _ _)
      | (with_reducible exact pad_Use.mono _ _ _ _ _ _ _)
      | (with_reducible exact quietuslaw25_light.mono _ _ _ _)
      | (with_reducible exact quietuslaw25_sanity.mono _)
      | (with_reducible exact quietusref25_Check.mono _ _ _ _)
      | (with_reducible exact quietusref25_Same.mono _ _ _ _ _ _ _)
      | (with_reducible exact quietusref25_Spend.mono _ _ _ _ _)
      | (with_reducible exact quietusref25_Use.mono _ _ _ _ _ _ _)
      | (with_reducible exact LeO.refl _)
      | (with_reducible exact LeO.none _)
      | (with_reducible refine LeO.ite ?_ ?_)
      | (with_reducible refine LeO.bind ?_ (fun _ => ?_))
      | exact ih0 _ _ _ _ _ _ _
      | exact ih1 _ _ _ _ _
      | exact ih2 _ _ _ _
      | exact pad_Use.mono _ _ _ _ _ _ _
      | exact quietuslaw25_light.mono _ _ _ _
      | exact quietuslaw25_sanity.mono _
      | exact quietusref25_Check.mono _ _ _ _
      | exact quietusref25_Same.mono _ _ _ _ _ _ _
      | exact quietusref25_Spend.mono _ _ _ _ _
      | exact quietusref25_Use.mono _ _ _ _ _ _ _
      | exact LeO.none _
      | refine LeO.ite ?_ ?_
      | refine LeO.bind ?_ (fun _ => ?_)
theorem quietuslaw25_PadBooksAsSpecified.mono : ∀ a0 a1 a2 a3 a4 a5 k, LeO (quietuslaw25_PadBooksAsSpecified.f k a0 a1 a2 a3 a4 a5) (quietuslaw25_PadBooksAsSpecified.f (k + 1) a0 a1 a2 a3 a4 a5) := by
  intro a0 a1 a2 a3 a4 a5 k
  obtain ⟨ih0, ih1, ih2⟩ := quietuslaw25_PadBooksAsSpecified.mono_l k
  unfold quietuslaw25_PadBooksAsSpecified.f
  repeat' first
      | (with_reducible exact ih0 _ _ _ _ _ _ _)
      | (with_reducible exact ih1 _ _ _ _ _)
      | (with_reducible exact ih2 _ _ _ _)
      | (with_reducible exact pad_Use.mono _ _ _ _ _ _ _)
      | (with_reducible exact quietuslaw25_light.mono _ _ _ _)
      | (with_reducible exact quietuslaw25_sanity.mono _)
      | (with_reducible exact quietusref25_Check.mono _ _ _ _)
      | (with_reducible exact quietusref25_Same.mono _ _ _ _ _ _ _)
      | (with_reducible exact quietusref25_Spend.mono _ _ _ _ _)
      | (with_reducible exact quietusref25_Use.mono _ _ _ _ _ _ _)
      | (with_reducible exact LeO.refl _)
      | (with_reducible exact LeO.none _)
      | (with_reducible refine LeO.ite ?_ ?_)
      | (with_reducible refine LeO.bind ?_ (fun _ => ?_))
      | exact ih0 _ _ _ _ _ _ _
      | exact ih1 _ _ _ _ _
      | exact ih2 _ _ _ _
      | exact pad_Use.mono _ _ _ _ _ _ _
      | exact quietuslaw25_light.mono _ _ _ _
      | exact quietuslaw25_sanity.mono _
      | exact quietusref25_Check.mono _ _ _ _
      | exact quietusref25_Same.mono _ _ _ _ _ _ _
      | exact quietusref25_Spend.mono _ _ _ _ _
      | exact quietusref25_Use.mono _ _ _ _ _ _ _
      | exact LeO.none _
      | refine LeO.ite ?_ ?_
      | refine LeO.bind ?_ (fun _ => ?_)
def quietuslaw25_PadBooksAsSpecified.T7 : Bool × List (List Nat × List Nat) := (true, [([], []), ([0], [0]), ([], []), ([2, 1], [2]), ([1, 3], [1, 3]), ([4, 3], [4]), ([5], [5]), ([5], [5]), ([7, 5], [5, 7]), ([6, 8, 5], [5, 6, 8]), ([5, 9], [5, 9]), ([10, 5], [10]), ([11], [11]), ([11], [11]), ([13, 11], [11, 13]), ([12, 14, 11], [11, 12, 14]), ([11, 15], [11, 15]), ([16, 11], [16]), ([17], [17]), ([17], [17]), ([19, 17], [17, 19]), ([18, 20, 17, 17], [17, 18, 20]), ([21, 17], [17, 21]), ([17, 22], [17, 22]), ([23, 21], [23]), ([24], [24]), ([24], [24]), ([26, 24], [24, 26]), ([25, 27, 24], [24, 25, 27]), ([24, 28], [24, 28]), ([29, 24], [29]), ([30], [30]), ([30], [30]), ([32, 30], [30, 32]), ([31, 33, 30, 30], [30, 31, 33]), ([34, 30], [30, 34]), ([30, 35], [30, 35])])
def quietuslaw25_PadBooksAsSpecified.B7 : List Nat := [0, 1, 0, 7, 15, 31, 63, 63, 191, 511, 1023, 2047, 4095, 4095, 12287, 32767, 65535, 131071, 262143, 262143, 786431, 2097151, 4194303, 8388607, 16777215, 33554431, 33554431, 100663295, 268435455, 536870911, 1073741823, 2147483647, 2147483647, 6442450943, 17179869183, 34359738367, 68719476735]
theorem quietuslaw25_PadBooksAsSpecified.tab7 : rtab .any (opsOf Try.f3 7) = quietuslaw25_PadBooksAsSpecified.T7 := by kernel_rfl
theorem quietuslaw25_PadBooksAsSpecified.bits7 : waitsOk quietuslaw25_PadBooksAsSpecified.T7.2 quietuslaw25_PadBooksAsSpecified.B7 = true := by kernel_rfl
set_option maxHeartbeats 8000000 in
set_option maxRecDepth 100000 in
theorem quietuslaw25_PadBooksAsSpecified.calls (k : Nat) (a0_0 : Int) (a0_1 : Int) (A0_2 : Option Addr) (c0_2 : Nat) (l0_2 : List ByteArray) (a1_0 : Int) (a1_1 : Int) (a2 : ByteArray) (r : Bool) (w : World) (hr0_2 : Kd.C Kd.string w A0_2 l0_2.length l0_2) (hc0_2 : l0_2.length ≤ c0_2) (h : quietuslaw25_PadBooksAsSpecified.f k a0_0 a0_1 l0_2 a1_0 a1_1 a2 = some r) :
    Calls Try.prog 3 #[.agg #[.int .i64 a0_0, .int .i64 a0_1, .slice A0_2 l0_2.length c0_2], .agg #[.int .i64 a1_0, .int .i64 a1_1], .string a2] w fun e w' => e = .returned (.bool r) ∧ Below w.heap.size w w' := by
  have hu24 := Try.underlying24
  have hu25 := Try.underlying25
  have hu34 := Try.underlying34
  have HR0_2 := Aside0.mk hr0_2
  have HC0_2 := Aside0.mk hc0_2
  clear hr0_2 hc0_2
  have HB := Aside0.mk (Below.refl w.heap.size w)
  have H : ((quietuslaw25_light.f k a0_0 a0_1 l0_2).bind fun t325 => (if t325 = true then (quietuslaw25_PadBooksAsSpecified.j0 k a2 (decide ((a2.size : Int) > 100)) a0_0 a0_1 l0_2 a1_0 a1_1) else (quietuslaw25_PadBooksAsSpecified.j0 k a2 true a0_0 a0_1 l0_2 a1_0 a1_1))) = some r := h
  clear h
  have HC4 := Aside0.mk H
  clear H
  go_enter Try.func3, Try.ntmps3
  go_upto_region 1 with (first | ((with_reducible refine gate_dst (N := 3) rfl ?_); (try (refine gate_guard (by rfl) ?_; dsimp only)); refine box_event ?hg (N := 3) ?hd (cs := #[.int .i64 a0_0, .int .i64 a0_1, .slice A0_2 l0_2.length c0_2]) (t := 24) ?hr ?_; (case hd => rfl); (case hg => rfl); (case hr => first | (go_simp; done) | (go_simp; rfl)); intro gb323 hg w5 hbox hb; have n0_ := Aside0.mk (zv_ (by repeat (first | (with_reducible first | exact HB.out | apply zs_ | apply zt_ | apply zu_) | exact HB.out)) hb); have n1_ := Aside0.mk (hbox); have n2_ := Aside0.mk ((by rw [hg]; exact (zw_ (by repeat (first | (with_reducible first | exact HB.out | apply zs_ | apply zt_ | apply zu_) | exact HB.out))) : w.heap.size ≤ gb323)); have n3_ := Aside0.mk ((by rw [hg]; exact (zw_ (by repeat (first | (with_reducible first | exact HB.out | apply zs_ | apply zt_ | apply zu_) | exact HB.out))) : w.heap.size ≤ gb323)); clear HB; have HB := n0_; have BK323 := n1_; have GW323 := n2_; have GE323 := n3_; clear n0_ n1_ n2_ n3_; clear hb hbox hg) | ((with_reducible refine gate_dst (N := 4) rfl ?_); (try (refine gate_guard (by rfl) ?_; dsimp only)); refine box_event ?hg (N := 4) ?hd (cs := #[.int .i64 a1_0, .int .i64 a1_1]) (t := 25) ?hr ?_; (case hd => rfl); (case hg => rfl); (case hr => first | (go_simp; done) | (go_simp; rfl)); intro gb324 hg w6 hbox hb; have n0_ := Aside0.mk (zq_ (g := gb323) (o := .cells #[.int .i64 a0_0, .int .i64 a0_1, .slice A0_2 l0_2.length c0_2] 24 (0, 0)) (by (with_reducible repeat (first | refine zm_ ?_ _ | refine zn_ ?_ | refine zo_ ?_ _)); exact BK323.out) hb); have n1_ := Aside0.mk (zv_ (by repeat (first | (with_reducible first | exact HB.out | apply zs_ | apply zt_ | apply zu_ | refine zr_ ?_ GE323.out) | exact HB.out)) hb); have n2_ := Aside0.mk (hbox); have n3_ := Aside0.mk ((by rw [hg]; exact (zw_ (by repeat (first | (with_reducible first | exact HB.out | apply zs_ | apply zt_ | apply zu_ | refine zr_ ?_ GE323.out) | exact HB.out))) : w.heap.size ≤ gb324)); have n4_ := Aside0.mk ((by rw [hg]; exact (zw_ (by repeat (first | (with_reducible first | exact HB.out | apply zs_ | apply zt_ | apply zu_ | refine zr_ ?_ GE323.out) | exact HB.out))) : w.heap.size ≤ gb324)); have n5_ := Aside0.mk ((by rw [hg]; exact Nat.ne_of_lt (blk_lt (g := gb323) (o := .cells #[.int .i64 a0_0, .int .i64 a0_1, .slice A0_2 l0_2.length c0_2] 24 (0, 0)) (by (with_reducible repeat (first | refine zm_ ?_ _ | refine zn_ ?_ | refine zo_ ?_ _)); exact BK323.out)) : gb323 ≠ gb324)); have n6_ := Aside0.mk ((by rw [hg]; exact Nat.ne_of_gt (blk_lt (g := gb323) (o := .cells #[.int .i64 a0_0, .int .i64 a0_1, .slice A0_2 l0_2.length c0_2] 24 (0, 0)) (by (with_reducible repeat (first | refine zm_ ?_ _ | refine zn_ ?_ | refine zo_ ?_ _)); exact BK323.out)) : gb324 ≠ gb323)); clear BK323; clear HB; have BK323 := n0_; have HB := n1_; have BK324 := n2_; have GW324 := n3_; have GE324 := n4_; have NB323_324 := n5_; have NB324_323 := n6_; clear n0_ n1_ n2_ n3_ n4_ n5_ n6_; clear hb hbox hg))
  (try simp only [Act.put, List.setIfInBounds_toArray, List.set_cons_zero, List.set_cons_succ])
  go_cut [25] (fun v25 wc => ∃ (kq : Nat) (x25_3 : Bool), v25 = .bool x25_3 ∧ Aside0 (quietuslaw25_PadBooksAsSpecified.j0 kq a2 x25_3 a0_0 a0_1 l0_2 a1_0 a1_1 = some r) ∧ Aside0 (kq ≤ k) ∧ Aside0 (wc.heap[gb323]? = some (.cells #[.int .i64 a0_0, .int .i64 a0_1, (.slice A0_2 l0_2.length c0_2)] 24 (0, 0))) ∧ Aside0 (wc.heap[gb324]? = some (.cells #[.int .i64 a1_0, .int .i64 a1_1] 25 (0, 0))) ∧ Aside0 (Below w.heap.size w wc))
  case first =>
    have H := HC4.out
    clear HC4
    replace H := Option.bind_eq_some_iff.mp H
    obtain ⟨t325, A70, H⟩ := H
    replace H : (if t325 = true then (quietuslaw25_PadBooksAsSpecified.j0 k a2 (decide ((a2.size : Int) > 100)) a0_0 a0_1 l0_2 a1_0 a1_1) else (quietuslaw25_PadBooksAsSpecified.j0 k a2 true a0_0 a0_1 l0_2 a1_0 a1_1)) = some r := H
    have A7 := Aside0.mk A70
    clear A70
    by_cases c8 : t325 = true
    · subst c8
      have H1 : (quietuslaw25_PadBooksAsSpecified.j0 k a2 (decide ((a2.size : Int) > 100)) a0_0 a0_1 l0_2 a1_0 a1_1) = some r := by rw [if_pos rfl] at H; exact H
      clear H
      have H := H1
      clear H1
      have H' := Aside0.mk H
      clear H
      have hnb9 := NB323_324.out
      have hnc9 := NB324_323.out
      have hcz10_0 : w6.cell? ⟨gb323, 0, none⟩ = some (.int .i64 a0_0) := (blk_cell BK323.out 0).trans rfl
      have hcz10_1 : w6.cell? ⟨gb323, 1, none⟩ = some (.int .i64 a0_1) := (blk_cell BK323.out 1).trans rfl
      have hcz10_2 : w6.cell? ⟨gb323, 2, none⟩ = some (.slice A0_2 l0_2.length c0_2) := (blk_cell BK323.out 2).trans rfl
      have hfz10_0 := blk_frozen BK323.out 0
      have hfz10_1 := blk_frozen BK323.out 1
      have hfz10_2 := blk_frozen BK323.out 2
      go_wp2_with (first | ((with_reducible refine gate_callee (f := 8) rfl ?_); refine goesL_ (some 19) rfl rfl Try.func8 (by kernel_rfl) rfl #[.agg #[.int .i64 a0_0, .int .i64 a0_1, .slice A0_2 l0_2.length c0_2]] rfl (by (try simp only [List.map_toArray, List.map_cons, List.map_nil]); first | done | rfl | (simp only [List.length_drop, List.length_take]; rfl)) ?_; (with_reducible refine (quietuslaw25_light.calls k a0_0 a0_1 _ _ l0_2 true _ ?side1 ?side2 A7.out).mono ?_); (case side1 => repeat (first | exact (Kd.C_below HR0_2.out HB.out) | (with_reducible refine Kd.C_alloc ?_ _) | (with_reducible refine Kd.C_drewN ?_ _) | (with_reducible refine Kd.C_drew ?_))); (case side2 => exact HC0_2.out); rintro e w11 ⟨rfl, hb⟩; refine ⟨_, rfl, ?_⟩; have n0_ := Aside0.mk (zq_ (g := gb323) (o := .cells #[.int .i64 a0_0, .int .i64 a0_1, .slice A0_2 l0_2.length c0_2] 24 (0, 0)) (by (with_reducible repeat (first | refine zm_ ?_ _ | refine zn_ ?_ | refine zo_ ?_ _)); exact BK323.out) hb); have n1_ := Aside0.mk (zq_ (g := gb324) (o := .cells #[.int .i64 a1_0, .int .i64 a1_1] 25 (0, 0)) (by (with_reducible repeat (first | refine zm_ ?_ _ | refine zn_ ?_ | refine zo_ ?_ _)); exact BK324.out) hb); have n2_ := Aside0.mk (zv_ (by repeat (first | (with_reducible first | exact HB.out | apply zs_ | apply zt_ | apply zu_ | refine zr_ ?_ GE323.out | refine zr_ ?_ GE324.out) | exact HB.out)) hb); clear BK323; clear BK324; clear HB; have BK323 := n0_; have BK324 := n1_; have HB := n2_; clear n0_ n1_ n2_; (try clear hb); (try clear hb2); (try clear hk); (try clear hi)))
      go_meet
      case rel => exact ⟨_, (decide ((a2.size : Int) > 100)), (by first | rfl | (simp; done) | (simp [*]; done)), H', ⟨by first | omega | exact Nat.le_refl _⟩, ⟨by (with_reducible repeat (first | refine zm_ ?_ _ | refine zn_ ?_ | refine zo_ ?_ _)); exact BK323.out⟩, ⟨by (with_reducible repeat (first | refine zm_ ?_ _ | refine zn_ ?_ | refine zo_ ?_ _)); exact BK324.out⟩, ⟨by repeat (first | (with_reducible first | exact HB.out | apply zs_ | apply zt_ | apply zu_ | refine zr_ ?_ GE323.out | refine zr_ ?_ GE324.out) | exact HB.out)⟩⟩
    · replace c8 := Bool.eq_false_iff.mpr c8
      subst c8
      have H1 : (quietuslaw25_PadBooksAsSpecified.j0 k a2 true a0_0 a0_1 l0_2 a1_0 a1_1) = some r := by rw [if_neg (show ¬ (false = true) by decide)] at H; exact H
      clear H
      have H := H1
      clear H1
      have H' := Aside0.mk H
      clear H
      have hnb12 := NB323_324.out
      have hnc12 := NB324_323.out
      have hcz13_0 : w6.cell? ⟨gb323, 0, none⟩ = some (.int .i64 a0_0) := (blk_cell BK323.out 0).trans rfl
      have hcz13_1 : w6.cell? ⟨gb323, 1, none⟩ = some (.int .i64 a0_1) := (blk_cell BK323.out 1).trans rfl
      have hcz13_2 : w6.cell? ⟨gb323, 2, none⟩ = some (.slice A0_2 l0_2.length c0_2) := (blk_cell BK323.out 2).trans rfl
      have hfz13_0 := blk_frozen BK323.out 0
      have hfz13_1 := blk_frozen BK323.out 1
      have hfz13_2 := blk_frozen BK323.out 2
      go_wp2_with (first | ((with_reducible refine gate_callee (f := 8) rfl ?_); refine goesL_ (some 19) rfl rfl Try.func8 (by kernel_rfl) rfl #[.agg #[.int .i64 a0_0, .int .i64 a0_1, .slice A0_2 l0_2.length c0_2]] rfl (by (try simp only [List.map_toArray, List.map_cons, List.map_nil]); first | done | rfl | (simp only [List.length_drop, List.length_take]; rfl)) ?_; (with_reducible refine (quietuslaw25_light.calls k a0_0 a0_1 _ _ l0_2 false _ ?side1 ?side2 A7.out).mono ?_); (case side1 => repeat (first | exact (Kd.C_below HR0_2.out HB.out) | (with_reducible refine Kd.C_alloc ?_ _) | (with_reducible refine Kd.C_drewN ?_ _) | (with_reducible refine Kd.C_drew ?_))); (case side2 => exact HC0_2.out); rintro e w14 ⟨rfl, hb⟩; refine ⟨_, rfl, ?_⟩; have n0_ := Aside0.mk (zq_ (g := gb323) (o := .cells #[.int .i64 a0_0, .int .i64 a0_1, .slice A0_2 l0_2.length c0_2] 24 (0, 0)) (by (with_reducible repeat (first | refine zm_ ?_ _ | refine zn_ ?_ | refine zo_ ?_ _)); exact BK323.out) hb); have n1_ := Aside0.mk (zq_ (g := gb324) (o := .cells #[.int .i64 a1_0, .int .i64 a1_1] 25 (0, 0)) (by (with_reducible repeat (first | refine zm_ ?_ _ | refine zn_ ?_ | refine zo_ ?_ _)); exact BK324.out) hb); have n2_ := Aside0.mk (zv_ (by repeat (first | (with_reducible first | exact HB.out | apply zs_ | apply zt_ | apply zu_ | refine zr_ ?_ GE323.out | refine zr_ ?_ GE324.out) | exact HB.out)) hb); clear BK323; clear BK324; clear HB; have BK323 := n0_; have BK324 := n1_; have HB := n2_; clear n0_ n1_ n2_; (try clear hb); (try clear hb2); (try clear hk); (try clear hi)))
      go_meet
      case rel => exact ⟨_, (true), (by first | rfl | (simp; done) | (simp [*]; done)), H', ⟨by first | omega | exact Nat.le_refl _⟩, ⟨by (with_reducible repeat (first | refine zm_ ?_ _ | refine zn_ ?_ | refine zo_ ?_ _)); exact BK323.out⟩, ⟨by (with_reducible repeat (first | refine zm_ ?_ _ | refine zn_ ?_ | refine zo_ ?_ _)); exact BK324.out⟩, ⟨by repeat (first | (with_reducible first | exact HB.out | apply zs_ | apply zt_ | apply zu_ | refine zr_ ?_ GE323.out | refine zr_ ?_ GE324.out) | exact HB.out)⟩⟩
  case rest =>
    clear HC4
    try clear c1
    try clear p2
    try clear c3
    try clear c8
    try clear c9
    try clear c12
    try clear hcz10_0
    try clear hcz10_1
    try clear hcz10_2
    try clear hcz13_0
    try clear hcz13_1
    try clear hcz13_2
    try clear hfz10_0
    try clear hfz10_1
    try clear hfz10_2
    try clear hfz13_0
    try clear hfz13_1
    try clear hfz13_2
    obtain ⟨kq, x25_3, rfl, HA, HJ3, BK323, BK324, HB⟩ := hcut
    cases kq with
    | zero => exact absurd HA.out (by simp [quietuslaw25_PadBooksAsSpecified.j0])
    | succ kj3 =>
      have H := HA.out
      clear HA
      simp only [quietuslaw25_PadBooksAsSpecified.j0] at H
      by_cases c15 : x25_3 = true
      · subst c15
        have H1 : ((quietuslaw25_sanity.f kj3).bind fun t326 => (some t326)) = some r := by rw [if_pos rfl] at H; exact H
        clear H
        have H := H1
        clear H1
        replace H := Option.bind_eq_some_iff.mp H
        obtain ⟨t326, A160, H⟩ := H
        replace H : (some t326) = some r := H
        have A16 := Aside0.mk A160
        clear A160
        obtain rfl := Option.some.inj H
        go_wp2_with (first | ((with_reducible refine gate_callee (f := 9) rfl ?_); refine goesL_ (some 26) rfl rfl Try.func9 (by kernel_rfl) rfl #[] rfl (by (try simp only [List.map_toArray, List.map_cons, List.map_nil]); first | done | rfl | (simp only [List.length_drop, List.length_take]; rfl)) ?_; (with_reducible refine (quietuslaw25_sanity.calls kj3  t326 _ A16.out).mono ?_); rintro e w17 ⟨rfl, hb⟩; refine ⟨_, rfl, ?_⟩; have n0_ := Aside0.mk (zq_ (g := gb323) (o := .cells #[.int .i64 a0_0, .int .i64 a0_1, .slice A0_2 l0_2.length c0_2] 24 (0, 0)) (by (with_reducible repeat (first | refine zm_ ?_ _ | refine zn_ ?_ | refine zo_ ?_ _)); exact BK323.out) hb); have n1_ := Aside0.mk (zq_ (g := gb324) (o := .cells #[.int .i64 a1_0, .int .i64 a1_1] 25 (0, 0)) (by (with_reducible repeat (first | refine zm_ ?_ _ | refine zn_ ?_ | refine zo_ ?_ _)); exact BK324.out) hb); have n2_ := Aside0.mk (zv_ (by repeat (first | (with_reducible first | exact HB.out | apply zs_ | apply zt_ | apply zu_ | refine zr_ ?_ GE323.out | refine zr_ ?_ GE324.out) | exact HB.out)) hb); clear BK323; clear BK324; clear HB; have BK323 := n0_; have BK324 := n1_; have HB := n2_; clear n0_ n1_ n2_; (try clear hb); (try clear hb2); (try clear hk); (try clear hi)))
        go_ret
        exact ⟨by first | rfl | (simp [errW_none, errW_some] <;> rfl) | (simp [*, errW_none, errW_some] <;> rfl), by repeat (first | (with_reducible first | exact HB.out | apply zs_ | apply zt_ | apply zu_ | refine zr_ ?_ GE323.out | refine zr_ ?_ GE324.out) | exact HB.out)⟩
      · replace c15 := Bool.eq_false_iff.mpr c15
        subst c15
        have H1 : ((pad_Use.f kj3 a0_0 a0_1 l0_2 a1_0 a1_1 a2).bind fun bt327 => ((pad_Spend.f a0_0 a0_1 l0_2 a1_1).bind fun bt335 => ((quietusref25_Use.f kj3 a0_0 a0_1 l0_2 a1_0 a1_1 a2).bind fun bt342 => ((quietusref25_Spend.f kj3 a0_0 a0_1 l0_2 a1_1).bind fun bt350 => ((pad_Check.f a0_0 a0_1 l0_2).bind fun t358 => ((quietusref25_Check.f kj3 a0_0 a0_1 l0_2).bind fun t359 => (if t358 = t359 then (if bt327.1.toList = bt342.1.toList then (if bt327.2.2.2.2 = bt342.2.2.2.2 then ((quietusref25_Same.f kj3 bt327.2.1 bt327.2.2.1 bt327.2.2.2.1 bt342.2.1 bt342.2.2.1 bt342.2.2.2.1).bind fun t360 => (if t360 = true then (if bt335.2.2.2 = bt350.2.2.2.2 then ((quietusref25_Same.f kj3 bt335.1 bt335.2.1 bt335.2.2.1 bt350.2.1 bt350.2.2.1 bt350.2.2.2.1).bind fun t361 => (quietuslaw25_PadBooksAsSpecified.j1 kj3 a2 (!t361) a0_0 a0_1 l0_2)) else (none)) else (none))) else (none)) else (none)) else (none)))))))) = some r := by rw [if_neg (show ¬ (false = true) by decide)] at H; exact H
        clear H
        have H := H1
        clear H1
        replace H := Option.bind_eq_some_iff.mp H
        obtain ⟨⟨t327, t328, t329, t330, t333⟩, A180, H⟩ := H
        replace H : ((pad_Spend.f a0_0 a0_1 l0_2 a1_1).bind fun bt335 => ((quietusref25_Use.f kj3 a0_0 a0_1 l0_2 a1_0 a1_1 a2).bind fun bt342 => ((quietusref25_Spend.f kj3 a0_0 a0_1 l0_2 a1_1).bind fun bt350 => ((pad_Check.f a0_0 a0_1 l0_2).bind fun t358 => ((quietusref25_Check.f kj3 a0_0 a0_1 l0_2).bind fun t359 => (if t358 = t359 then (if t327.toList = bt342.1.toList then (if t333 = bt342.2.2.2.2 then ((quietusref25_Same.f kj3 t328 t329 t330 bt342.2.1 bt342.2.2.1 bt342.2.2.2.1).bind fun t360 => (if t360 = true then (if bt335.2.2.2 = bt350.2.2.2.2 then ((quietusref25_Same.f kj3 bt335.1 bt335.2.1 bt335.2.2.1 bt350.2.1 bt350.2.2.1 bt350.2.2.2.1).bind fun t361 => (quietuslaw25_PadBooksAsSpecified.j1 kj3 a2 (!t361) a0_0 a0_1 l0_2)) else (none)) else (none))) else (none)) else (none)) else (none))))))) = some r := H
        have A18 := Aside0.mk A180
        clear A180
        replace H := Option.bind_eq_some_iff.mp H
        obtain ⟨⟨t335, t336, t337, t340⟩, A190, H⟩ := H
        replace H : ((quietusref25_Use.f kj3 a0_0 a0_1 l0_2 a1_0 a1_1 a2).bind fun bt342 => ((quietusref25_Spend.f kj3 a0_0 a0_1 l0_2 a1_1).bind fun bt350 => ((pad_Check.f a0_0 a0_1 l0_2).bind fun t358 => ((quietusref25_Check.f kj3 a0_0 a0_1 l0_2).bind fun t359 => (if t358 = t359 then (if t327.toList = bt342.1.toList then (if t333 = bt342.2.2.2.2 then ((quietusref25_Same.f kj3 t328 t329 t330 bt342.2.1 bt342.2.2.1 bt342.2.2.2.1).bind fun t360 => (if t360 = true then (if t340 = bt350.2.2.2.2 then ((quietusref25_Same.f kj3 t335 t336 t337 bt350.2.1 bt350.2.2.1 bt350.2.2.2.1).bind fun t361 => (quietuslaw25_PadBooksAsSpecified.j1 kj3 a2 (!t361) a0_0 a0_1 l0_2)) else (none)) else (none))) else (none)) else (none)) else (none)))))) = some r := H
        have A19 := Aside0.mk A190
        clear A190
        replace H := Option.bind_eq_some_iff.mp H
        obtain ⟨⟨t342, t343, t344, t345, t348⟩, A200, H⟩ := H
        replace H : ((quietusref25_Spend.f kj3 a0_0 a0_1 l0_2 a1_1).bind fun bt350 => ((pad_Check.f a0_0 a0_1 l0_2).bind fun t358 => ((quietusref25_Check.f kj3 a0_0 a0_1 l0_2).bind fun t359 => (if t358 = t359 then (if t327.toList = t342.toList then (if t333 = t348 then ((quietusref25_Same.f kj3 t328 t329 t330 t343 t344 t345).bind fun t360 => (if t360 = true then (if t340 = bt350.2.2.2.2 then ((quietusref25_Same.f kj3 t335 t336 t337 bt350.2.1 bt350.2.2.1 bt350.2.2.2.1).bind fun t361 => (quietuslaw25_PadBooksAsSpecified.j1 kj3 a2 (!t361) a0_0 a0_1 l0_2)) else (none)) else (none))) else (none)) else (none)) else (none))))) = some r := H
        have A20 := Aside0.mk A200
        clear A200
        replace H := Option.bind_eq_some_iff.mp H
        obtain ⟨⟨t350, t351, t352, t353, t356⟩, A210, H⟩ := H
        replace H : ((pad_Check.f a0_0 a0_1 l0_2).bind fun t358 => ((quietusref25_Check.f kj3 a0_0 a0_1 l0_2).bind fun t359 => (if t358 = t359 then (if t327.toList = t342.toList then (if t333 = t348 then ((quietusref25_Same.f kj3 t328 t329 t330 t343 t344 t345).bind fun t360 => (if t360 = true then (if t340 = t356 then ((quietusref25_Same.f kj3 t335 t336 t337 t351 t352 t353).bind fun t361 => (quietuslaw25_PadBooksAsSpecified.j1 kj3 a2 (!t361) a0_0 a0_1 l0_2)) else (none)) else (none))) else (none)) else (none)) else (none)))) = some r := H
        have A21 := Aside0.mk A210
        clear A210
        have HC22 := Aside0.mk H
        clear H
        have hnb23 := NB323_324.out
        have hnc23 := NB324_323.out
        have hcz24_0 : wc.cell? ⟨gb323, 0, none⟩ = some (.int .i64 a0_0) := (blk_cell BK323.out 0).trans rfl
        have hcz24_1 : wc.cell? ⟨gb323, 1, none⟩ = some (.int .i64 a0_1) := (blk_cell BK323.out 1).trans rfl
        have hcz24_2 : wc.cell? ⟨gb323, 2, none⟩ = some (.slice A0_2 l0_2.length c0_2) := (blk_cell BK323.out 2).trans rfl
        have hfz24_0 := blk_frozen BK323.out 0
        have hfz24_1 := blk_frozen BK323.out 1
        have hfz24_2 := blk_frozen BK323.out 2
        have hcz25_0 : wc.cell? ⟨gb324, 0, none⟩ = some (.int .i64 a1_0) := (blk_cell BK324.out 0).trans rfl
        have hcz25_1 : wc.cell? ⟨gb324, 1, none⟩ = some (.int .i64 a1_1) := (blk_cell BK324.out 1).trans rfl
        have hfz25_0 := blk_frozen BK324.out 0
        have hfz25_1 := blk_frozen BK324.out 1
        go_upto_region 7 with (first | ((with_reducible refine gate_callee (f := 10) rfl ?_); refine goesL_ (some 34) rfl rfl Try.func10 (by kernel_rfl) rfl #[.agg #[.int .i64 a0_0, .int .i64 a0_1, .slice A0_2 l0_2.length c0_2], .int .i64 a1_0, .int .i64 a1_1, .string a2] rfl (by (try simp only [List.map_toArray, List.map_cons, List.map_nil]); first | done | rfl | (simp only [List.length_drop, List.length_take]; rfl)) ?_; (with_reducible refine (pad_Use.calls kj3 a0_0 a0_1 _ _ l0_2 a1_0 a1_1 a2 t327 t328 t329 t330 t333 _ ?side1 ?side2 A18.out).mono ?_); (case side1 => repeat (first | exact (Kd.C_below HR0_2.out HB.out) | (with_reducible refine Kd.C_alloc ?_ _) | (with_reducible refine Kd.C_drewN ?_ _) | (with_reducible refine Kd.C_drew ?_))); (case side2 => exact HC0_2.out); rintro e w26 ⟨v331, rfl, ho0, hb⟩; refine ⟨_, rfl, ?_⟩; have n0_ := Aside0.mk (zg_ ho0 (zw_ (by repeat (first | (with_reducible first | exact HB.out | apply zs_ | apply zt_ | apply zu_ | refine zr_ ?_ GE323.out | refine zr_ ?_ GE324.out) | exact HB.out)))); have n1_ := Aside0.mk (zq_ (g := gb323) (o := .cells #[.int .i64 a0_0, .int .i64 a0_1, .slice A0_2 l0_2.length c0_2] 24 (0, 0)) (by (with_reducible repeat (first | refine zm_ ?_ _ | refine zn_ ?_ | refine zo_ ?_ _)); exact BK323.out) hb); have n2_ := Aside0.mk (zq_ (g := gb324) (o := .cells #[.int .i64 a1_0, .int .i64 a1_1] 25 (0, 0)) (by (with_reducible repeat (first | refine zm_ ?_ _ | refine zn_ ?_ | refine zo_ ?_ _)); exact BK324.out) hb); have n3_ := Aside0.mk (zv_ (by repeat (first | (with_reducible first | exact HB.out | apply zs_ | apply zt_ | apply zu_ | refine zr_ ?_ GE323.out | refine zr_ ?_ GE324.out) | exact HB.out)) hb); clear BK323; clear BK324; clear HB; have HO332 := n0_; have BK323 := n1_; have BK324 := n2_; have HB := n3_; clear n0_ n1_ n2_ n3_; (try clear hb); (try clear hb2); (try clear hk); (try clear hi); (try clear ho0)) | ((with_reducible refine gate_dst (N := 8) rfl ?_); (try (refine gate_guard (by rfl) ?_; dsimp only)); refine box_event ?hg (N := 8) ?hd (cs := #[.int .i64 0, .int .i64 0, .slice none 0 0]) (t := 24) ?hr ?_; (case hd => rfl); (case hg => rfl); (case hr => first | (go_simp; done) | (go_simp; rfl)); intro gb334 hg w27 hbox hb; have n0_ := Aside0.mk (Kd.R_below (by (with_reducible repeat (first | apply za_ | apply zb_ | apply zc_)); exact HO332.out) hb); have n1_ := Aside0.mk (zq_ (g := gb323) (o := .cells #[.int .i64 a0_0, .int .i64 a0_1, .slice A0_2 l0_2.length c0_2] 24 (0, 0)) (by (with_reducible repeat (first | refine zm_ ?_ _ | refine zn_ ?_ | refine zo_ ?_ _)); exact BK323.out) hb); have n2_ := Aside0.mk (zq_ (g := gb324) (o := .cells #[.int .i64 a1_0, .int .i64 a1_1] 25 (0, 0)) (by (with_reducible repeat (first | refine zm_ ?_ _ | refine zn_ ?_ | refine zo_ ?_ _)); exact BK324.out) hb); have n3_ := Aside0.mk (zv_ (by repeat (first | (with_reducible first | exact HB.out | apply zs_ | apply zt_ | apply zu_ | refine zr_ ?_ GE323.out | refine zr_ ?_ GE324.out) | exact HB.out)) hb); have n4_ := Aside0.mk (hbox); have n5_ := Aside0.mk ((by rw [hg]; exact (zw_ (by repeat (first | (with_reducible first | exact HB.out | apply zs_ | apply zt_ | apply zu_ | refine zr_ ?_ GE323.out | refine zr_ ?_ GE324.out) | exact HB.out))) : w.heap.size ≤ gb334)); have n6_ := Aside0.mk ((by rw [hg]; exact (zw_ (by repeat (first | (with_reducible first | exact HB.out | apply zs_ | apply zt_ | apply zu_ | refine zr_ ?_ GE323.out | refine zr_ ?_ GE324.out) | exact HB.out))) : w.heap.size ≤ gb334)); have n7_ := Aside0.mk ((by rw [hg]; exact Nat.ne_of_lt (blk_lt (g := gb323) (o := .cells #[.int .i64 a0_0, .int .i64 a0_1, .slice A0_2 l0_2.length c0_2] 24 (0, 0)) (by (with_reducible repeat (first | refine zm_ ?_ _ | refine zn_ ?_ | refine zo_ ?_ _)); exact BK323.out)) : gb323 ≠ gb334)); have n8_ := Aside0.mk ((by rw [hg]; exact Nat.ne_of_gt (blk_lt (g := gb323) (o := .cells #[.int .i64 a0_0, .int .i64 a0_1, .slice A0_2 l0_2.length c0_2] 24 (0, 0)) (by (with_reducible repeat (first | refine zm_ ?_ _ | refine zn_ ?_ | refine zo_ ?_ _)); exact BK323.out)) : gb334 ≠ gb323)); have n9_ := Aside0.mk ((by rw [hg]; exact Nat.ne_of_lt (blk_lt (g := gb324) (o := .cells #[.int .i64 a1_0, .int .i64 a1_1] 25 (0, 0)) (by (with_reducible repeat (first | refine zm_ ?_ _ | refine zn_ ?_ | refine zo_ ?_ _)); exact BK324.out)) : gb324 ≠ gb334)); have n10_ := Aside0.mk ((by rw [hg]; exact Nat.ne_of_gt (blk_lt (g := gb324) (o := .cells #[.int .i64 a1_0, .int .i64 a1_1] 25 (0, 0)) (by (with_reducible repeat (first | refine zm_ ?_ _ | refine zn_ ?_ | refine zo_ ?_ _)); exact BK324.out)) : gb334 ≠ gb324)); clear HO332; clear BK323; clear BK324; clear HB; have HO332 := n0_; have BK323 := n1_; have BK324 := n2_; have HB := n3_; have BK334 := n4_; have GW334 := n5_; have GE334 := n6_; have NB323_334 := n7_; have NB334_323 := n8_; have NB324_334 := n9_; have NB334_324 := n10_; clear n0_ n1_ n2_ n3_ n4_ n5_ n6_ n7_ n8_ n9_ n10_; clear hb hbox hg; have hnb28 := NB334_323.out; have hnc28 := NB323_334.out; have hnb29 := NB334_324.out; have hnc29 := NB324_334.out; have hcz30_0 : w27.cell? ⟨gb334, 0, none⟩ = some (.int .i64 0) := (blk_cell BK334.out 0).trans rfl; have hcz30_1 : w27.cell? ⟨gb334, 1, none⟩ = some (.int .i64 0) := (blk_cell BK334.out 1).trans rfl; have hcz30_2 : w27.cell? ⟨gb334, 2, none⟩ = some (.slice none 0 0) := (blk_cell BK334.out 2).trans rfl; have hfz30_0 := blk_frozen BK334.out 0; have hfz30_1 := blk_frozen BK334.out 1; have hfz30_2 := blk_frozen BK334.out 2; obtain ⟨Ao31, co31, eo31⟩ := Kd.R_slice HO332.out; subst eo31; have hcz32_0 : w27.cell? ⟨gb323, 0, none⟩ = some (.int .i64 a0_0) := (blk_cell BK323.out 0).trans rfl; have hcz32_1 : w27.cell? ⟨gb323, 1, none⟩ = some (.int .i64 a0_1) := (blk_cell BK323.out 1).trans rfl; have hcz32_2 : w27.cell? ⟨gb323, 2, none⟩ = some (.slice A0_2 l0_2.length c0_2) := (blk_cell BK323.out 2).trans rfl; have hfz32_0 := blk_frozen BK323.out 0; have hfz32_1 := blk_frozen BK323.out 1; have hfz32_2 := blk_frozen BK323.out 2; have hcz33_0 : w27.cell? ⟨gb324, 0, none⟩ = some (.int .i64 a1_0) := (blk_cell BK324.out 0).trans rfl; have hcz33_1 : w27.cell? ⟨gb324, 1, none⟩ = some (.int .i64 a1_1) := (blk_cell BK324.out 1).trans rfl; have hfz33_0 := blk_frozen BK324.out 0; have hfz33_1 := blk_frozen BK324.out 1) | ((with_reducible refine gate_callee (f := 11) rfl ?_); refine goesL_ (some 42) rfl rfl Try.func11 (by kernel_rfl) rfl #[.agg #[.int .i64 a0_0, .int .i64 a0_1, .slice A0_2 l0_2.length c0_2], .int .i64 a1_1] rfl (by (try simp only [List.map_toArray, List.map_cons, List.map_nil]); first | done | rfl | (simp only [List.length_drop, List.length_take]; rfl)) ?_; (with_reducible refine (pad_Spend.calls a0_0 a0_1 _ _ l0_2 a1_1 t335 t336 t337 t340 _ ?side1 ?side2 A19.out).mono ?_); (case side1 => exact Kd.C_below HR0_2.out (by repeat (first | (with_reducible first | exact HB.out | apply zs_ | apply zt_ | apply zu_ | refine zr_ ?_ GE323.out | refine zr_ ?_ GE324.out | refine zr_ ?_ GE334.out) | exact HB.out))); (case side2 => exact HC0_2.out); rintro e w34 ⟨v338, rfl, ho0, hb⟩; refine ⟨_, rfl, ?_⟩; have n0_ := Aside0.mk (zj_ (by (with_reducible repeat (first | apply za_ | apply zb_ | apply zc_)); exact (zd_ (ze_ (p := ⟨gb334, 2, none⟩) (ze_ (p := ⟨gb334, 1, none⟩) (ze_ (p := ⟨gb334, 0, none⟩) (zf_ HO332.out BK334.out (by decide)) (fun _ hk => hk.2) (.int .i64 t328)) (fun _ hk => hk.2) (.int .i64 t329)) (fun _ hk => hk.2) (.slice Ao31 t330.length co31)) (fun _ h_ => h_.1))) (zk_ ho0) hb); have n1_ := Aside0.mk (zg_ (zh_ ho0 (zi_ (by (with_reducible repeat (first | apply za_ | apply zb_ | apply zc_)); exact (zd_ (ze_ (p := ⟨gb334, 2, none⟩) (ze_ (p := ⟨gb334, 1, none⟩) (ze_ (p := ⟨gb334, 0, none⟩) (zf_ HO332.out BK334.out (by decide)) (fun _ hk => hk.2) (.int .i64 t328)) (fun _ hk => hk.2) (.int .i64 t329)) (fun _ hk => hk.2) (.slice Ao31 t330.length co31)) (fun _ h_ => h_.1))))) (zw_ (by repeat (first | (with_reducible first | exact HB.out | apply zs_ | apply zt_ | apply zu_ | refine zr_ ?_ GE323.out | refine zr_ ?_ GE324.out | refine zr_ ?_ GE334.out) | exact HB.out)))); have n2_ := Aside0.mk (zq_ (g := gb323) (o := .cells #[.int .i64 a0_0, .int .i64 a0_1, .slice A0_2 l0_2.length c0_2] 24 (0, 0)) (by (with_reducible repeat (first | refine zm_ ?_ _ | refine zn_ ?_ | refine zo_ ?_ _)); refine zp_ ?_ NB323_334.out _; (with_reducible repeat (first | refine zm_ ?_ _ | refine zn_ ?_ | refine zo_ ?_ _)); refine zp_ ?_ NB323_334.out _; (with_reducible repeat (first | refine zm_ ?_ _ | refine zn_ ?_ | refine zo_ ?_ _)); refine zp_ ?_ NB323_334.out _; (with_reducible repeat (first | refine zm_ ?_ _ | refine zn_ ?_ | refine zo_ ?_ _)); exact BK323.out) hb); have n3_ := Aside0.mk (zq_ (g := gb324) (o := .cells #[.int .i64 a1_0, .int .i64 a1_1] 25 (0, 0)) (by (with_reducible repeat (first | refine zm_ ?_ _ | refine zn_ ?_ | refine zo_ ?_ _)); refine zp_ ?_ NB324_334.out _; (with_reducible repeat (first | refine zm_ ?_ _ | refine zn_ ?_ | refine zo_ ?_ _)); refine zp_ ?_ NB324_334.out _; (with_reducible repeat (first | refine zm_ ?_ _ | refine zn_ ?_ | refine zo_ ?_ _)); refine zp_ ?_ NB324_334.out _; (with_reducible repeat (first | refine zm_ ?_ _ | refine zn_ ?_ | refine zo_ ?_ _)); exact BK324.out) hb); have n4_ := Aside0.mk (zq_ (g := gb334) (o := .cells #[.int .i64 t328, .int .i64 t329, .slice Ao31 t330.length co31] 24 (0, 0)) (by (with_reducible repeat (first | refine zm_ ?_ _ | refine zn_ ?_ | refine zo_ ?_ _)); refine blk_put (cs := #[.int .i64 t328, .int .i64 t329, .slice none 0 0]) ?_ 2 _ rfl; (with_reducible repeat (first | refine zm_ ?_ _ | refine zn_ ?_ | refine zo_ ?_ _)); refine blk_put (cs := #[.int .i64 t328, .int .i64 0, .slice none 0 0]) ?_ 1 _ rfl; (with_reducible repeat (first | refine zm_ ?_ _ | refine zn_ ?_ | refine zo_ ?_ _)); refine blk_put (cs := #[.int .i64 0, .int .i64 0, .slice none 0 0]) ?_ 0 _ rfl; (with_reducible repeat (first | refine zm_ ?_ _ | refine zn_ ?_ | refine zo_ ?_ _)); exact BK334.out) hb); have n5_ := Aside0.mk (zv_ (by repeat (first | (with_reducible first | exact HB.out | apply zs_ | apply zt_ | apply zu_ | refine zr_ ?_ GE323.out | refine zr_ ?_ GE324.out | refine zr_ ?_ GE334.out) | exact HB.out)) hb); clear HO332; clear BK323; clear BK324; clear BK334; clear HB; have HO332 := n0_; have HO339 := n1_; have BK323 := n2_; have BK324 := n3_; have BK334 := n4_; have HB := n5_; clear n0_ n1_ n2_ n3_ n4_ n5_; (try clear hb); (try clear hb2); (try clear hk); (try clear hi); (try clear ho0)) | ((with_reducible refine gate_dst (N := 10) rfl ?_); (try (refine gate_guard (by rfl) ?_; dsimp only)); refine box_event ?hg (N := 10) ?hd (cs := #[.int .i64 0, .int .i64 0, .slice none 0 0]) (t := 24) ?hr ?_; (case hd => rfl); (case hg => rfl); (case hr => first | (go_simp; done) | (go_simp; rfl)); intro gb341 hg w35 hbox hb; have n0_ := Aside0.mk (Kd.R_below (by (with_reducible repeat (first | apply za_ | apply zb_ | apply zc_)); exact HO332.out) hb); have n1_ := Aside0.mk (Kd.R_below (by (with_reducible repeat (first | apply za_ | apply zb_ | apply zc_)); exact HO339.out) hb); have n2_ := Aside0.mk (zq_ (g := gb323) (o := .cells #[.int .i64 a0_0, .int .i64 a0_1, .slice A0_2 l0_2.length c0_2] 24 (0, 0)) (by (with_reducible repeat (first | refine zm_ ?_ _ | refine zn_ ?_ | refine zo_ ?_ _)); exact BK323.out) hb); have n3_ := Aside0.mk (zq_ (g := gb324) (o := .cells #[.int .i64 a1_0, .int .i64 a1_1] 25 (0, 0)) (by (with_reducible repeat (first | refine zm_ ?_ _ | refine zn_ ?_ | refine zo_ ?_ _)); exact BK324.out) hb); have n4_ := Aside0.mk (zq_ (g := gb334) (o := .cells #[.int .i64 t328, .int .i64 t329, .slice Ao31 t330.length co31] 24 (0, 0)) (by (with_reducible repeat (first | refine zm_ ?_ _ | refine zn_ ?_ | refine zo_ ?_ _)); exact BK334.out) hb); have n5_ := Aside0.mk (zv_ (by repeat (first | (with_reducible first | exact HB.out | apply zs_ | apply zt_ | apply zu_ | refine zr_ ?_ GE323.out | refine zr_ ?_ GE324.out | refine zr_ ?_ GE334.out) | exact HB.out)) hb); have n6_ := Aside0.mk (hbox); have n7_ := Aside0.mk ((by rw [hg]; exact (zw_ (by repeat (first | (with_reducible first | exact HB.out | apply zs_ | apply zt_ | apply zu_ | refine zr_ ?_ GE323.out | refine zr_ ?_ GE324.out | refine zr_ ?_ GE334.out) | exact HB.out))) : w.heap.size ≤ gb341)); have n8_ := Aside0.mk ((by rw [hg]; exact (zw_ (by repeat (first | (with_reducible first | exact HB.out | apply zs_ | apply zt_ | apply zu_ | refine zr_ ?_ GE323.out | refine zr_ ?_ GE324.out | refine zr_ ?_ GE334.out) | exact HB.out))) : w.heap.size ≤ gb341)); have n9_ := Aside0.mk ((by rw [hg]; exact Nat.ne_of_lt (blk_lt (g := gb323) (o := .cells #[.int .i64 a0_0, .int .i64 a0_1, .slice A0_2 l0_2.length c0_2] 24 (0, 0)) (by (with_reducible repeat (first | refine zm_ ?_ _ | refine zn_ ?_ | refine zo_ ?_ _)); exact BK323.out)) : gb323 ≠ gb341)); have n10_ := Aside0.mk ((by rw [hg]; exact Nat.ne_of_gt (blk_lt (g := gb323) (o := .cells #[.int .i64 a0_0, .int .i64 a0_1, .slice A0_2 l0_2.length c0_2] 24 (0, 0)) (by (with_reducible repeat (first | refine zm_ ?_ _ | refine zn_ ?_ | refine zo_ ?_ _)); exact BK323.out)) : gb341 ≠ gb323)); have n11_ := Aside0.mk ((by rw [hg]; exact Nat.ne_of_lt (blk_lt (g := gb324) (o := .cells #[.int .i64 a1_0, .int .i64 a1_1] 25 (0, 0)) (by (with_reducible repeat (first | refine zm_ ?_ _ | refine zn_ ?_ | refine zo_ ?_ _)); exact BK324.out)) : gb324 ≠ gb341)); have n12_ := Aside0.mk ((by rw [hg]; exact Nat.ne_of_gt (blk_lt (g := gb324) (o := .cells #[.int .i64 a1_0, .int .i64 a1_1] 25 (0, 0)) (by (with_reducible repeat (first | refine zm_ ?_ _ | refine zn_ ?_ | refine zo_ ?_ _)); exact BK324.out)) : gb341 ≠ gb324)); have n13_ := Aside0.mk ((by rw [hg]; exact Nat.ne_of_lt (blk_lt (g := gb334) (o := .cells #[.int .i64 t328, .int .i64 t329, .slice Ao31 t330.length co31] 24 (0, 0)) (by (with_reducible repeat (first | refine zm_ ?_ _ | refine zn_ ?_ | refine zo_ ?_ _)); exact BK334.out)) : gb334 ≠ gb341)); have n14_ := Aside0.mk ((by rw [hg]; exact Nat.ne_of_gt (blk_lt (g := gb334) (o := .cells #[.int .i64 t328, .int .i64 t329, .slice Ao31 t330.length co31] 24 (0, 0)) (by (with_reducible repeat (first | refine zm_ ?_ _ | refine zn_ ?_ | refine zo_ ?_ _)); exact BK334.out)) : gb341 ≠ gb334)); clear HO332; clear HO339; clear BK323; clear BK324; clear BK334; clear HB; have HO332 := n0_; have HO339 := n1_; have BK323 := n2_; have BK324 := n3_; have BK334 := n4_; have HB := n5_; have BK341 := n6_; have GW341 := n7_; have GE341 := n8_; have NB323_341 := n9_; have NB341_323 := n10_; have NB324_341 := n11_; have NB341_324 := n12_; have NB334_341 := n13_; have NB341_334 := n14_; clear n0_ n1_ n2_ n3_ n4_ n5_ n6_ n7_ n8_ n9_ n10_ n11_ n12_ n13_ n14_; clear hb hbox hg; have hnb36 := NB341_323.out; have hnc36 := NB323_341.out; have hnb37 := NB341_324.out; have hnc37 := NB324_341.out; have hnb38 := NB341_334.out; have hnc38 := NB334_341.out; have hcz39_0 : w35.cell? ⟨gb341, 0, none⟩ = some (.int .i64 0) := (blk_cell BK341.out 0).trans rfl; have hcz39_1 : w35.cell? ⟨gb341, 1, none⟩ = some (.int .i64 0) := (blk_cell BK341.out 1).trans rfl; have hcz39_2 : w35.cell? ⟨gb341, 2, none⟩ = some (.slice none 0 0) := (blk_cell BK341.out 2).trans rfl; have hfz39_0 := blk_frozen BK341.out 0; have hfz39_1 := blk_frozen BK341.out 1; have hfz39_2 := blk_frozen BK341.out 2; obtain ⟨Ao40, co40, eo40⟩ := Kd.R_slice HO339.out; subst eo40; have hcz41_0 : w35.cell? ⟨gb323, 0, none⟩ = some (.int .i64 a0_0) := (blk_cell BK323.out 0).trans rfl; have hcz41_1 : w35.cell? ⟨gb323, 1, none⟩ = some (.int .i64 a0_1) := (blk_cell BK323.out 1).trans rfl; have hcz41_2 : w35.cell? ⟨gb323, 2, none⟩ = some (.slice A0_2 l0_2.length c0_2) := (blk_cell BK323.out 2).trans rfl; have hfz41_0 := blk_frozen BK323.out 0; have hfz41_1 := blk_frozen BK323.out 1; have hfz41_2 := blk_frozen BK323.out 2; have hcz42_0 : w35.cell? ⟨gb324, 0, none⟩ = some (.int .i64 a1_0) := (blk_cell BK324.out 0).trans rfl; have hcz42_1 : w35.cell? ⟨gb324, 1, none⟩ = some (.int .i64 a1_1) := (blk_cell BK324.out 1).trans rfl; have hfz42_0 := blk_frozen BK324.out 0; have hfz42_1 := blk_frozen BK324.out 1) | ((with_reducible refine gate_callee (f := 12) rfl ?_); refine goesL_ (some 51) rfl rfl Try.func12 (by kernel_rfl) rfl #[.agg #[.int .i64 a0_0, .int .i64 a0_1, .slice A0_2 l0_2.length c0_2], .int .i64 a1_0, .int .i64 a1_1, .string a2] rfl (by (try simp only [List.map_toArray, List.map_cons, List.map_nil]); first | done | rfl | (simp only [List.length_drop, List.length_take]; rfl)) ?_; (with_reducible refine (quietusref25_Use.calls kj3 a0_0 a0_1 _ _ l0_2 a1_0 a1_1 a2 t342 t343 t344 t345 t348 _ ?side1 ?side2 A20.out).mono ?_); (case side1 => exact Kd.C_below HR0_2.out (by repeat (first | (with_reducible first | exact HB.out | apply zs_ | apply zt_ | apply zu_ | refine zr_ ?_ GE323.out | refine zr_ ?_ GE324.out | refine zr_ ?_ GE334.out | refine zr_ ?_ GE341.out) | exact HB.out))); (case side2 => exact HC0_2.out); rintro e w43 ⟨v346, rfl, ho0, hb⟩; refine ⟨_, rfl, ?_⟩; have n0_ := Aside0.mk (zj_ (by (with_reducible repeat (first | apply za_ | apply zb_ | apply zc_)); exact (zd_ (ze_ (p := ⟨gb341, 2, none⟩) (ze_ (p := ⟨gb341, 1, none⟩) (ze_ (p := ⟨gb341, 0, none⟩) (zf_ HO332.out BK341.out (by decide)) (fun _ hk => hk.2) (.int .i64 t335)) (fun _ hk => hk.2) (.int .i64 t336)) (fun _ hk => hk.2) (.slice Ao40 t337.length co40)) (fun _ h_ => h_.1))) (zk_ ho0) hb); have n1_ := Aside0.mk (zj_ (by (with_reducible repeat (first | apply za_ | apply zb_ | apply zc_)); exact (zd_ (ze_ (p := ⟨gb341, 2, none⟩) (ze_ (p := ⟨gb341, 1, none⟩) (ze_ (p := ⟨gb341, 0, none⟩) (zf_ HO339.out BK341.out (by decide)) (fun _ hk => hk.2) (.int .i64 t335)) (fun _ hk => hk.2) (.int .i64 t336)) (fun _ hk => hk.2) (.slice Ao40 t337.length co40)) (fun _ h_ => h_.1))) (zk_ ho0) hb); have n2_ := Aside0.mk (zg_ (zh_ (zh_ ho0 (zi_ (by (with_reducible repeat (first | apply za_ | apply zb_ | apply zc_)); exact (zd_ (ze_ (p := ⟨gb341, 2, none⟩) (ze_ (p := ⟨gb341, 1, none⟩) (ze_ (p := ⟨gb341, 0, none⟩) (zf_ HO332.out BK341.out (by decide)) (fun _ hk => hk.2) (.int .i64 t335)) (fun _ hk => hk.2) (.int .i64 t336)) (fun _ hk => hk.2) (.slice Ao40 t337.length co40)) (fun _ h_ => h_.1))))) (zi_ (by (with_reducible repeat (first | apply za_ | apply zb_ | apply zc_)); exact (zd_ (ze_ (p := ⟨gb341, 2, none⟩) (ze_ (p := ⟨gb341, 1, none⟩) (ze_ (p := ⟨gb341, 0, none⟩) (zf_ HO339.out BK341.out (by decide)) (fun _ hk => hk.2) (.int .i64 t335)) (fun _ hk => hk.2) (.int .i64 t336)) (fun _ hk => hk.2) (.slice Ao40 t337.length co40)) (fun _ h_ => h_.1))))) (zw_ (by repeat (first | (with_reducible first | exact HB.out | apply zs_ | apply zt_ | apply zu_ | refine zr_ ?_ GE323.out | refine zr_ ?_ GE324.out | refine zr_ ?_ GE334.out | refine zr_ ?_ GE341.out) | exact HB.out)))); have n3_ := Aside0.mk (zq_ (g := gb323) (o := .cells #[.int .i64 a0_0, .int .i64 a0_1, .slice A0_2 l0_2.length c0_2] 24 (0, 0)) (by (with_reducible repeat (first | refine zm_ ?_ _ | refine zn_ ?_ | refine zo_ ?_ _)); refine zp_ ?_ NB323_341.out _; (with_reducible repeat (first | refine zm_ ?_ _ | refine zn_ ?_ | refine zo_ ?_ _)); refine zp_ ?_ NB323_341.out _; (with_reducible repeat (first | refine zm_ ?_ _ | refine zn_ ?_ | refine zo_ ?_ _)); refine zp_ ?_ NB323_341.out _; (with_reducible repeat (first | refine zm_ ?_ _ | refine zn_ ?_ | refine zo_ ?_ _)); exact BK323.out) hb); have n4_ := Aside0.mk (zq_ (g := gb324) (o := .cells #[.int .i64 a1_0, .int .i64 a1_1] 25 (0, 0)) (by (with_reducible repeat (first | refine zm_ ?_ _ | refine zn_ ?_ | refine zo_ ?_ _)); refine zp_ ?_ NB324_341.out _; (with_reducible repeat (first | refine zm_ ?_ _ | refine zn_ ?_ | refine zo_ ?_ _)); refine zp_ ?_ NB324_341.out _; (with_reducible repeat (first | refine zm_ ?_ _ | refine zn_ ?_ | refine zo_ ?_ _)); refine zp_ ?_ NB324_341.out _; (with_reducible repeat (first | refine zm_ ?_ _ | refine zn_ ?_ | refine zo_ ?_ _)); exact BK324.out) hb); have n5_ := Aside0.mk (zq_ (g := gb334) (o := .cells #[.int .i64 t328, .int .i64 t329, .slice Ao31 t330.length co31] 24 (0, 0)) (by (with_reducible repeat (first | refine zm_ ?_ _ | refine zn_ ?_ | refine zo_ ?_ _)); refine zp_ ?_ NB334_341.out _; (with_reducible repeat (first | refine zm_ ?_ _ | refine zn_ ?_ | refine zo_ ?_ _)); refine zp_ ?_ NB334_341.out _; (with_reducible repeat (first | refine zm_ ?_ _ | refine zn_ ?_ | refine zo_ ?_ _)); refine zp_ ?_ NB334_341.out _; (with_reducible repeat (first | refine zm_ ?_ _ | refine zn_ ?_ | refine zo_ ?_ _)); exact BK334.out) hb); have n6_ := Aside0.mk (zq_ (g := gb341) (o := .cells #[.int .i64 t335, .int .i64 t336, .slice Ao40 t337.length co40] 24 (0, 0)) (by (with_reducible repeat (first | refine zm_ ?_ _ | refine zn_ ?_ | refine zo_ ?_ _)); refine blk_put (cs := #[.int .i64 t335, .int .i64 t336, .slice none 0 0]) ?_ 2 _ rfl; (with_reducible repeat (first | refine zm_ ?_ _ | refine zn_ ?_ | refine zo_ ?_ _)); refine blk_put (cs := #[.int .i64 t335, .int .i64 0, .slice none 0 0]) ?_ 1 _ rfl; (with_reducible repeat (first | refine zm_ ?_ _ | refine zn_ ?_ | refine zo_ ?_ _)); refine blk_put (cs := #[.int .i64 0, .int .i64 0, .slice none 0 0]) ?_ 0 _ rfl; (with_reducible repeat (first | refine zm_ ?_ _ | refine zn_ ?_ | refine zo_ ?_ _)); exact BK341.out) hb); have n7_ := Aside0.mk (zv_ (by repeat (first | (with_reducible first | exact HB.out | apply zs_ | apply zt_ | apply zu_ | refine zr_ ?_ GE323.out | refine zr_ ?_ GE324.out | refine zr_ ?_ GE334.out | refine zr_ ?_ GE341.out) | exact HB.out)) hb); clear HO332; clear HO339; clear BK323; clear BK324; clear BK334; clear BK341; clear HB; have HO332 := n0_; have HO339 := n1_; have HO347 := n2_; have BK323 := n3_; have BK324 := n4_; have BK334 := n5_; have BK341 := n6_; have HB := n7_; clear n0_ n1_ n2_ n3_ n4_ n5_ n6_ n7_; (try clear hb); (try clear hb2); (try clear hk); (try clear hi); (try clear ho0)) | ((with_reducible refine gate_dst (N := 12) rfl ?_); (try (refine gate_guard (by rfl) ?_; dsimp only)); refine box_event ?hg (N := 12) ?hd (cs := #[.string (⟨#[]⟩ : ByteArray), .int .i64 0, .int .i64 0, .slice none 0 0, .int .i64 0]) (t := 34) ?hr ?_; (case hd => rfl); (case hg => rfl); (case hr => first | (go_simp; done) | (go_simp; rfl)); intro gb349 hg w44 hbox hb; have n0_ := Aside0.mk (Kd.R_below (by (with_reducible repeat (first | apply za_ | apply zb_ | apply zc_)); exact HO332.out) hb); have n1_ := Aside0.mk (Kd.R_below (by (with_reducible repeat (first | apply za_ | apply zb_ | apply zc_)); exact HO339.out) hb); have n2_ := Aside0.mk (Kd.R_below (by (with_reducible repeat (first | apply za_ | apply zb_ | apply zc_)); exact HO347.out) hb); have n3_ := Aside0.mk (zq_ (g := gb323) (o := .cells #[.int .i64 a0_0, .int .i64 a0_1, .slice A0_2 l0_2.length c0_2] 24 (0, 0)) (by (with_reducible repeat (first | refine zm_ ?_ _ | refine zn_ ?_ | refine zo_ ?_ _)); exact BK323.out) hb); have n4_ := Aside0.mk (zq_ (g := gb324) (o := .cells #[.int .i64 a1_0, .int .i64 a1_1] 25 (0, 0)) (by (with_reducible repeat (first | refine zm_ ?_ _ | refine zn_ ?_ | refine zo_ ?_ _)); exact BK324.out) hb); have n5_ := Aside0.mk (zq_ (g := gb334) (o := .cells #[.int .i64 t328, .int .i64 t329, .slice Ao31 t330.length co31] 24 (0, 0)) (by (with_reducible repeat (first | refine zm_ ?_ _ | refine zn_ ?_ | refine zo_ ?_ _)); exact BK334.out) hb); have n6_ := Aside0.mk (zq_ (g := gb341) (o := .cells #[.int .i64 t335, .int .i64 t336, .slice Ao40 t337.length co40] 24 (0, 0)) (by (with_reducible repeat (first | refine zm_ ?_ _ | refine zn_ ?_ | refine zo_ ?_ _)); exact BK341.out) hb); have n7_ := Aside0.mk (zv_ (by repeat (first | (with_reducible first | exact HB.out | apply zs_ | apply zt_ | apply zu_ | refine zr_ ?_ GE323.out | refine zr_ ?_ GE324.out | refine zr_ ?_ GE334.out | refine zr_ ?_ GE341.out) | exact HB.out)) hb); have n8_ := Aside0.mk (hbox); have n9_ := Aside0.mk ((by rw [hg]; exact (zw_ (by repeat (first | (with_reducible first | exact HB.out | apply zs_ | apply zt_ | apply zu_ | refine zr_ ?_ GE323.out | refine zr_ ?_ GE324.out | refine zr_ ?_ GE334.out | refine zr_ ?_ GE341.out) | exact HB.out))) : w.heap.size ≤ gb349)); have n10_ := Aside0.mk ((by rw [hg]; exact (zw_ (by repeat (first | (with_reducible first | exact HB.out | apply zs_ | apply zt_ | apply zu_ | refine zr_ ?_ GE323.out | refine zr_ ?_ GE324.out | refine zr_ ?_ GE334.out | refine zr_ ?_ GE341.out) | exact HB.out))) : w.heap.size ≤ gb349)); have n11_ := Aside0.mk ((by rw [hg]; exact Nat.ne_of_lt (blk_lt (g := gb323) (o := .cells #[.int .i64 a0_0, .int .i64 a0_1, .slice A0_2 l0_2.length c0_2] 24 (0, 0)) (by (with_reducible repeat (first | refine zm_ ?_ _ | refine zn_ ?_ | refine zo_ ?_ _)); exact BK323.out)) : gb323 ≠ gb349)); have n12_ := Aside0.mk ((by rw [hg]; exact Nat.ne_of_gt (blk_lt (g := gb323) (o := .cells #[.int .i64 a0_0, .int .i64 a0_1, .slice A0_2 l0_2.length c0_2] 24 (0, 0)) (by (with_reducible repeat (first | refine zm_ ?_ _ | refine zn_ ?_ | refine zo_ ?_ _)); exact BK323.out)) : gb349 ≠ gb323)); have n13_ := Aside0.mk ((by rw [hg]; exact Nat.ne_of_lt (blk_lt (g := gb324) (o := .cells #[.int .i64 a1_0, .int .i64 a1_1] 25 (0, 0)) (by (with_reducible repeat (first | refine zm_ ?_ _ | refine zn_ ?_ | refine zo_ ?_ _)); exact BK324.out)) : gb324 ≠ gb349)); have n14_ := Aside0.mk ((by rw [hg]; exact Nat.ne_of_gt (blk_lt (g := gb324) (o := .cells #[.int .i64 a1_0, .int .i64 a1_1] 25 (0, 0)) (by (with_reducible repeat (first | refine zm_ ?_ _ | refine zn_ ?_ | refine zo_ ?_ _)); exact BK324.out)) : gb349 ≠ gb324)); have n15_ := Aside0.mk ((by rw [hg]; exact Nat.ne_of_lt (blk_lt (g := gb334) (o := .cells #[.int .i64 t328, .int .i64 t329, .slice Ao31 t330.length co31] 24 (0, 0)) (by (with_reducible repeat (first | refine zm_ ?_ _ | refine zn_ ?_ | refine zo_ ?_ _)); exact BK334.out)) : gb334 ≠ gb349)); have n16_ := Aside0.mk ((by rw [hg]; exact Nat.ne_of_gt (blk_lt (g := gb334) (o := .cells #[.int .i64 t328, .int .i64 t329, .slice Ao31 t330.length co31] 24 (0, 0)) (by (with_reducible repeat (first | refine zm_ ?_ _ | refine zn_ ?_ | refine zo_ ?_ _)); exact BK334.out)) : gb349 ≠ gb334)); have n17_ := Aside0.mk ((by rw [hg]; exact Nat.ne_of_lt (blk_lt (g := gb341) (o := .cells #[.int .i64 t335, .int .i64 t336, .slice Ao40 t337.length co40] 24 (0, 0)) (by (with_reducible repeat (first | refine zm_ ?_ _ | refine zn_ ?_ | refine zo_ ?_ _)); exact BK341.out)) : gb341 ≠ gb349)); have n18_ := Aside0.mk ((by rw [hg]; exact Nat.ne_of_gt (blk_lt (g := gb341) (o := .cells #[.int .i64 t335, .int .i64 t336, .slice Ao40 t337.length co40] 24 (0, 0)) (by (with_reducible repeat (first | refine zm_ ?_ _ | refine zn_ ?_ | refine zo_ ?_ _)); exact BK341.out)) : gb349 ≠ gb341)); clear HO332; clear HO339; clear HO347; clear BK323; clear BK324; clear BK334; clear BK341; clear HB; have HO332 := n0_; have HO339 := n1_; have HO347 := n2_; have BK323 := n3_; have BK324 := n4_; have BK334 := n5_; have BK341 := n6_; have HB := n7_; have BK349 := n8_; have GW349 := n9_; have GE349 := n10_; have NB323_349 := n11_; have NB349_323 := n12_; have NB324_349 := n13_; have NB349_324 := n14_; have NB334_349 := n15_; have NB349_334 := n16_; have NB341_349 := n17_; have NB349_341 := n18_; clear n0_ n1_ n2_ n3_ n4_ n5_ n6_ n7_ n8_ n9_ n10_ n11_ n12_ n13_ n14_ n15_ n16_ n17_ n18_; clear hb hbox hg; have hnb45 := NB349_323.out; have hnc45 := NB323_349.out; have hnb46 := NB349_324.out; have hnc46 := NB324_349.out; have hnb47 := NB349_334.out; have hnc47 := NB334_349.out; have hnb48 := NB349_341.out; have hnc48 := NB341_349.out; have hcz49_0 : w44.cell? ⟨gb349, 0, none⟩ = some (.string (⟨#[]⟩ : ByteArray)) := (blk_cell BK349.out 0).trans rfl; have hcz49_1 : w44.cell? ⟨gb349, 1, none⟩ = some (.int .i64 0) := (blk_cell BK349.out 1).trans rfl; have hcz49_2 : w44.cell? ⟨gb349, 2, none⟩ = some (.int .i64 0) := (blk_cell BK349.out 2).trans rfl; have hcz49_3 : w44.cell? ⟨gb349, 3, none⟩ = some (.slice none 0 0) := (blk_cell BK349.out 3).trans rfl; have hcz49_4 : w44.cell? ⟨gb349, 4, none⟩ = some (.int .i64 0) := (blk_cell BK349.out 4).trans rfl; have hfz49_0 := blk_frozen BK349.out 0; have hfz49_1 := blk_frozen BK349.out 1; have hfz49_2 := blk_frozen BK349.out 2; have hfz49_3 := blk_frozen BK349.out 3; have hfz49_4 := blk_frozen BK349.out 4; obtain ⟨Ao50, co50, eo50⟩ := Kd.R_slice HO347.out; subst eo50; have hcz51_0 : w44.cell? ⟨gb323, 0, none⟩ = some (.int .i64 a0_0) := (blk_cell BK323.out 0).trans rfl; have hcz51_1 : w44.cell? ⟨gb323, 1, none⟩ = some (.int .i64 a0_1) := (blk_cell BK323.out 1).trans rfl; have hcz51_2 : w44.cell? ⟨gb323, 2, none⟩ = some (.slice A0_2 l0_2.length c0_2) := (blk_cell BK323.out 2).trans rfl; have hfz51_0 := blk_frozen BK323.out 0; have hfz51_1 := blk_frozen BK323.out 1; have hfz51_2 := blk_frozen BK323.out 2; have hcz52_0 : w44.cell? ⟨gb324, 0, none⟩ = some (.int .i64 a1_0) := (blk_cell BK324.out 0).trans rfl; have hcz52_1 : w44.cell? ⟨gb324, 1, none⟩ = some (.int .i64 a1_1) := (blk_cell BK324.out 1).trans rfl; have hfz52_0 := blk_frozen BK324.out 0; have hfz52_1 := blk_frozen BK324.out 1) | ((with_reducible refine gate_callee (f := 13) rfl ?_); refine goesL_ (some 55) rfl rfl Try.func13 (by kernel_rfl) rfl #[.agg #[.int .i64 a0_0, .int .i64 a0_1, .slice A0_2 l0_2.length c0_2], .int .i64 a1_1] rfl (by (try simp only [List.map_toArray, List.map_cons, List.map_nil]); first | done | rfl | (simp only [List.length_drop, List.length_take]; rfl)) ?_; (with_reducible refine (quietusref25_Spend.calls kj3 a0_0 a0_1 _ _ l0_2 a1_1 t350 t351 t352 t353 t356 _ ?side1 ?side2 A21.out).mono ?_); (case side1 => exact Kd.C_below HR0_2.out (by repeat (first | (with_reducible first | exact HB.out | apply zs_ | apply zt_ | apply zu_ | refine zr_ ?_ GE323.out | refine zr_ ?_ GE324.out | refine zr_ ?_ GE334.out | refine zr_ ?_ GE341.out | refine zr_ ?_ GE349.out) | exact HB.out))); (case side2 => exact HC0_2.out); rintro e w53 ⟨v354, rfl, ho0, hb⟩; refine ⟨_, rfl, ?_⟩; have n0_ := Aside0.mk (zj_ (by (with_reducible repeat (first | apply za_ | apply zb_ | apply zc_)); exact (zd_ (ze_ (p := ⟨gb349, 4, none⟩) (ze_ (p := ⟨gb349, 3, none⟩) (ze_ (p := ⟨gb349, 2, none⟩) (ze_ (p := ⟨gb349, 1, none⟩) (ze_ (p := ⟨gb349, 0, none⟩) (zf_ HO332.out BK349.out (by decide)) (fun _ hk => hk.2) (.string t342)) (fun _ hk => hk.2) (.int .i64 t343)) (fun _ hk => hk.2) (.int .i64 t344)) (fun _ hk => hk.2) (.slice Ao50 t345.length co50)) (fun _ hk => hk.2) (.int .i64 t348)) (fun _ h_ => h_.1))) (zk_ ho0) hb); have n1_ := Aside0.mk (zj_ (by (with_reducible repeat (first | apply za_ | apply zb_ | apply zc_)); exact (zd_ (ze_ (p := ⟨gb349, 4, none⟩) (ze_ (p := ⟨gb349, 3, none⟩) (ze_ (p := ⟨gb349, 2, none⟩) (ze_ (p := ⟨gb349, 1, none⟩) (ze_ (p := ⟨gb349, 0, none⟩) (zf_ HO339.out BK349.out (by decide)) (fun _ hk => hk.2) (.string t342)) (fun _ hk => hk.2) (.int .i64 t343)) (fun _ hk => hk.2) (.int .i64 t344)) (fun _ hk => hk.2) (.slice Ao50 t345.length co50)) (fun _ hk => hk.2) (.int .i64 t348)) (fun _ h_ => h_.1))) (zk_ ho0) hb); have n2_ := Aside0.mk (zj_ (by (with_reducible repeat (first | apply za_ | apply zb_ | apply zc_)); exact (zd_ (ze_ (p := ⟨gb349, 4, none⟩) (ze_ (p := ⟨gb349, 3, none⟩) (ze_ (p := ⟨gb349, 2, none⟩) (ze_ (p := ⟨gb349, 1, none⟩) (ze_ (p := ⟨gb349, 0, none⟩) (zf_ HO347.out BK349.out (by decide)) (fun _ hk => hk.2) (.string t342)) (fun _ hk => hk.2) (.int .i64 t343)) (fun _ hk => hk.2) (.int .i64 t344)) (fun _ hk => hk.2) (.slice Ao50 t345.length co50)) (fun _ hk => hk.2) (.int .i64 t348)) (fun _ h_ => h_.1))) (zk_ ho0) hb); have n3_ := Aside0.mk (zg_ (zh_ (zh_ (zh_ ho0 (zi_ (by (with_reducible repeat (first | apply za_ | apply zb_ | apply zc_)); exact (zd_ (ze_ (p := ⟨gb349, 4, none⟩) (ze_ (p := ⟨gb349, 3, none⟩) (ze_ (p := ⟨gb349, 2, none⟩) (ze_ (p := ⟨gb349, 1, none⟩) (ze_ (p := ⟨gb349, 0, none⟩) (zf_ HO332.out BK349.out (by decide)) (fun _ hk => hk.2) (.string t342)) (fun _ hk => hk.2) (.int .i64 t343)) (fun _ hk => hk.2) (.int .i64 t344)) (fun _ hk => hk.2) (.slice Ao50 t345.length co50)) (fun _ hk => hk.2) (.int .i64 t348)) (fun _ h_ => h_.1))))) (zi_ (by (with_reducible repeat (first | apply za_ | apply zb_ | apply zc_)); exact (zd_ (ze_ (p := ⟨gb349, 4, none⟩) (ze_ (p := ⟨gb349, 3, none⟩) (ze_ (p := ⟨gb349, 2, none⟩) (ze_ (p := ⟨gb349, 1, none⟩) (ze_ (p := ⟨gb349, 0, none⟩) (zf_ HO339.out BK349.out (by decide)) (fun _ hk => hk.2) (.string t342)) (fun _ hk => hk.2) (.int .i64 t343)) (fun _ hk => hk.2) (.int .i64 t344)) (fun _ hk => hk.2) (.slice Ao50 t345.length co50)) (fun _ hk => hk.2) (.int .i64 t348)) (fun _ h_ => h_.1))))) (zi_ (by (with_reducible repeat (first | apply za_ | apply zb_ | apply zc_)); exact (zd_ (ze_ (p := ⟨gb349, 4, none⟩) (ze_ (p := ⟨gb349, 3, none⟩) (ze_ (p := ⟨gb349, 2, none⟩) (ze_ (p := ⟨gb349, 1, none⟩) (ze_ (p := ⟨gb349, 0, none⟩) (zf_ HO347.out BK349.out (by decide)) (fun _ hk => hk.2) (.string t342)) (fun _ hk => hk.2) (.int .i64 t343)) (fun _ hk => hk.2) (.int .i64 t344)) (fun _ hk => hk.2) (.slice Ao50 t345.length co50)) (fun _ hk => hk.2) (.int .i64 t348)) (fun _ h_ => h_.1))))) (zw_ (by repeat (first | (with_reducible first | exact HB.out | apply zs_ | apply zt_ | apply zu_ | refine zr_ ?_ GE323.out | refine zr_ ?_ GE324.out | refine zr_ ?_ GE334.out | refine zr_ ?_ GE341.out | refine zr_ ?_ GE349.out) | exact HB.out)))); have n4_ := Aside0.mk (zq_ (g := gb323) (o := .cells #[.int .i64 a0_0, .int .i64 a0_1, .slice A0_2 l0_2.length c0_2] 24 (0, 0)) (by (with_reducible repeat (first | refine zm_ ?_ _ | refine zn_ ?_ | refine zo_ ?_ _)); refine zp_ ?_ NB323_349.out _; (with_reducible repeat (first | refine zm_ ?_ _ | refine zn_ ?_ | refine zo_ ?_ _)); refine zp_ ?_ NB323_349.out _; (with_reducible repeat (first | refine zm_ ?_ _ | refine zn_ ?_ | refine zo_ ?_ _)); refine zp_ ?_ NB323_349.out _; (with_reducible repeat (first | refine zm_ ?_ _ | refine zn_ ?_ | refine zo_ ?_ _)); refine zp_ ?_ NB323_349.out _; (with_reducible repeat (first | refine zm_ ?_ _ | refine zn_ ?_ | refine zo_ ?_ _)); refine zp_ ?_ NB323_349.out _; (with_reducible repeat (first | refine zm_ ?_ _ | refine zn_ ?_ | refine zo_ ?_ _)); exact BK323.out) hb); have n5_ := Aside0.mk (zq_ (g := gb324) (o := .cells #[.int .i64 a1_0, .int .i64 a1_1] 25 (0, 0)) (by (with_reducible repeat (first | refine zm_ ?_ _ | refine zn_ ?_ | refine zo_ ?_ _)); refine zp_ ?_ NB324_349.out _; (with_reducible repeat (first | refine zm_ ?_ _ | refine zn_ ?_ | refine zo_ ?_ _)); refine zp_ ?_ NB324_349.out _; (with_reducible repeat (first | refine zm_ ?_ _ | refine zn_ ?_ | refine zo_ ?_ _)); refine zp_ ?_ NB324_349.out _; (with_reducible repeat (first | refine zm_ ?_ _ | refine zn_ ?_ | refine zo_ ?_ _)); refine zp_ ?_ NB324_349.out _; (with_reducible repeat (first | refine zm_ ?_ _ | refine zn_ ?_ | refine zo_ ?_ _)); refine zp_ ?_ NB324_349.out _; (with_reducible repeat (first | refine zm_ ?_ _ | refine zn_ ?_ | refine zo_ ?_ _)); exact BK324.out) hb); have n6_ := Aside0.mk (zq_ (g := gb334) (o := .cells #[.int .i64 t328, .int .i64 t329, .slice Ao31 t330.length co31] 24 (0, 0)) (by (with_reducible repeat (first | refine zm_ ?_ _ | refine zn_ ?_ | refine zo_ ?_ _)); refine zp_ ?_ NB334_349.out _; (with_reducible repeat (first | refine zm_ ?_ _ | refine zn_ ?_ | refine zo_ ?_ _)); refine zp_ ?_ NB334_349.out _; (with_reducible repeat (first | refine zm_ ?_ _ | refine zn_ ?_ | refine zo_ ?_ _)); refine zp_ ?_ NB334_349.out _; (with_reducible repeat (first | refine zm_ ?_ _ | refine zn_ ?_ | refine zo_ ?_ _)); refine zp_ ?_ NB334_349.out _; (with_reducible repeat (first | refine zm_ ?_ _ | refine zn_ ?_ | refine zo_ ?_ _)); refine zp_ ?_ NB334_349.out _; (with_reducible repeat (first | refine zm_ ?_ _ | refine zn_ ?_ | refine zo_ ?_ _)); exact BK334.out) hb); have n7_ := Aside0.mk (zq_ (g := gb341) (o := .cells #[.int .i64 t335, .int .i64 t336, .slice Ao40 t337.length co40] 24 (0, 0)) (by (with_reducible repeat (first | refine zm_ ?_ _ | refine zn_ ?_ | refine zo_ ?_ _)); refine zp_ ?_ NB341_349.out _; (with_reducible repeat (first | refine zm_ ?_ _ | refine zn_ ?_ | refine zo_ ?_ _)); refine zp_ ?_ NB341_349.out _; (with_reducible repeat (first | refine zm_ ?_ _ | refine zn_ ?_ | refine zo_ ?_ _)); refine zp_ ?_ NB341_349.out _; (with_reducible repeat (first | refine zm_ ?_ _ | refine zn_ ?_ | refine zo_ ?_ _)); refine zp_ ?_ NB341_349.out _; (with_reducible repeat (first | refine zm_ ?_ _ | refine zn_ ?_ | refine zo_ ?_ _)); refine zp_ ?_ NB341_349.out _; (with_reducible repeat (first | refine zm_ ?_ _ | refine zn_ ?_ | refine zo_ ?_ _)); exact BK341.out) hb); have n8_ := Aside0.mk (zq_ (g := gb349) (o := .cells #[.string t342, .int .i64 t343, .int .i64 t344, .slice Ao50 t345.length co50, .int .i64 t348] 34 (0, 0)) (by (with_reducible repeat (first | refine zm_ ?_ _ | refine zn_ ?_ | refine zo_ ?_ _)); refine blk_put (cs := #[.string t342, .int .i64 t343, .int .i64 t344, .slice Ao50 t345.length co50, .int .i64 0]) ?_ 4 _ rfl; (with_reducible repeat (first | refine zm_ ?_ _ | refine zn_ ?_ | refine zo_ ?_ _)); refine blk_put (cs := #[.string t342, .int .i64 t343, .int .i64 t344, .slice none 0 0, .int .i64 0]) ?_ 3 _ rfl; (with_reducible repeat (first | refine zm_ ?_ _ | refine zn_ ?_ | refine zo_ ?_ _)); refine blk_put (cs := #[.string t342, .int .i64 t343, .int .i64 0, .slice none 0 0, .int .i64 0]) ?_ 2 _ rfl; (with_reducible repeat (first | refine zm_ ?_ _ | refine zn_ ?_ | refine zo_ ?_ _)); refine blk_put (cs := #[.string t342, .int .i64 0, .int .i64 0, .slice none 0 0, .int .i64 0]) ?_ 1 _ rfl; (with_reducible repeat (first | refine zm_ ?_ _ | refine zn_ ?_ | refine zo_ ?_ _)); refine blk_put (cs := #[.string (⟨#[]⟩ : ByteArray), .int .i64 0, .int .i64 0, .slice none 0 0, .int .i64 0]) ?_ 0 _ rfl; (with_reducible repeat (first | refine zm_ ?_ _ | refine zn_ ?_ | refine zo_ ?_ _)); exact BK349.out) hb); have n9_ := Aside0.mk (zv_ (by repeat (first | (with_reducible first | exact HB.out | apply zs_ | apply zt_ | apply zu_ | refine zr_ ?_ GE323.out | refine zr_ ?_ GE324.out | refine zr_ ?_ GE334.out | refine zr_ ?_ GE341.out | refine zr_ ?_ GE349.out) | exact HB.out)) hb); clear HO332; clear HO339; clear HO347; clear BK323; clear BK324; clear BK334; clear BK341; clear BK349; clear HB; have HO332 := n0_; have HO339 := n1_; have HO347 := n2_; have HO355 := n3_; have BK323 := n4_; have BK324 := n5_; have BK334 := n6_; have BK341 := n7_; have BK349 := n8_; have HB := n9_; clear n0_ n1_ n2_ n3_ n4_ n5_ n6_ n7_ n8_ n9_; (try clear hb); (try clear hb2); (try clear hk); (try clear hi); (try clear ho0)) | ((with_reducible refine gate_dst (N := 13) rfl ?_); (try (refine gate_guard (by rfl) ?_; dsimp only)); refine box_event ?hg (N := 13) ?hd (cs := #[.string (⟨#[]⟩ : ByteArray), .int .i64 0, .int .i64 0, .slice none 0 0, .int .i64 0]) (t := 34) ?hr ?_; (case hd => rfl); (case hg => rfl); (case hr => first | (go_simp; done) | (go_simp; rfl)); intro gb357 hg w54 hbox hb; have n0_ := Aside0.mk (Kd.R_below (by (with_reducible repeat (first | apply za_ | apply zb_ | apply zc_)); exact HO332.out) hb); have n1_ := Aside0.mk (Kd.R_below (by (with_reducible repeat (first | apply za_ | apply zb_ | apply zc_)); exact HO339.out) hb); have n2_ := Aside0.mk (Kd.R_below (by (with_reducible repeat (first | apply za_ | apply zb_ | apply zc_)); exact HO347.out) hb); have n3_ := Aside0.mk (Kd.R_below (by (with_reducible repeat (first | apply za_ | apply zb_ | apply zc_)); exact HO355.out) hb); have n4_ := Aside0.mk (zq_ (g := gb323) (o := .cells #[.int .i64 a0_0, .int .i64 a0_1, .slice A0_2 l0_2.length c0_2] 24 (0, 0)) (by (with_reducible repeat (first | refine zm_ ?_ _ | refine zn_ ?_ | refine zo_ ?_ _)); exact BK323.out) hb); have n5_ := Aside0.mk (zq_ (g := gb324) (o := .cells #[.int .i64 a1_0, .int .i64 a1_1] 25 (0, 0)) (by (with_reducible repeat (first | refine zm_ ?_ _ | refine zn_ ?_ | refine zo_ ?_ _)); exact BK324.out) hb); have n6_ := Aside0.mk (zq_ (g := gb334) (o := .cells #[.int .i64 t328, .int .i64 t329, .slice Ao31 t330.length co31] 24 (0, 0)) (by (with_reducible repeat (first | refine zm_ ?_ _ | refine zn_ ?_ | refine zo_ ?_ _)); exact BK334.out) hb); have n7_ := Aside0.mk (zq_ (g := gb341) (o := .cells #[.int .i64 t335, .int .i64 t336, .slice Ao40 t337.length co40] 24 (0, 0)) (by (with_reducible repeat (first | refine zm_ ?_ _ | refine zn_ ?_ | refine zo_ ?_ _)); exact BK341.out) hb); have n8_ := Aside0.mk (zq_ (g := gb349) (o := .cells #[.string t342, .int .i64 t343, .int .i64 t344, .slice Ao50 t345.length co50, .int .i64 t348] 34 (0, 0)) (by (with_reducible repeat (first | refine zm_ ?_ _ | refine zn_ ?_ | refine zo_ ?_ _)); exact BK349.out) hb); have n9_ := Aside0.mk (zv_ (by repeat (first | (with_reducible first | exact HB.out | apply zs_ | apply zt_ | apply zu_ | refine zr_ ?_ GE323.out | refine zr_ ?_ GE324.out | refine zr_ ?_ GE334.out | refine zr_ ?_ GE341.out | refine zr_ ?_ GE349.out) | exact HB.out)) hb); have n10_ := Aside0.mk (hbox); have n11_ := Aside0.mk ((by rw [hg]; exact (zw_ (by repeat (first | (with_reducible first | exact HB.out | apply zs_ | apply zt_ | apply zu_ | refine zr_ ?_ GE323.out | refine zr_ ?_ GE324.out | refine zr_ ?_ GE334.out | refine zr_ ?_ GE341.out | refine zr_ ?_ GE349.out) | exact HB.out))) : w.heap.size ≤ gb357)); have n12_ := Aside0.mk ((by rw [hg]; exact (zw_ (by repeat (first | (with_reducible first | exact HB.out | apply zs_ | apply zt_ | apply zu_ | refine zr_ ?_ GE323.out | refine zr_ ?_ GE324.out | refine zr_ ?_ GE334.out | refine zr_ ?_ GE341.out | refine zr_ ?_ GE349.out) | exact HB.out))) : w.heap.size ≤ gb357)); have n13_ := Aside0.mk ((by rw [hg]; exact Nat.ne_of_lt (blk_lt (g := gb323) (o := .cells #[.int .i64 a0_0, .int .i64 a0_1, .slice A0_2 l0_2.length c0_2] 24 (0, 0)) (by (with_reducible repeat (first | refine zm_ ?_ _ | refine zn_ ?_ | refine zo_ ?_ _)); exact BK323.out)) : gb323 ≠ gb357)); have n14_ := Aside0.mk ((by rw [hg]; exact Nat.ne_of_gt (blk_lt (g := gb323) (o := .cells #[.int .i64 a0_0, .int .i64 a0_1, .slice A0_2 l0_2.length c0_2] 24 (0, 0)) (by (with_reducible repeat (first | refine zm_ ?_ _ | refine zn_ ?_ | refine zo_ ?_ _)); exact BK323.out)) : gb357 ≠ gb323)); have n15_ := Aside0.mk ((by rw [hg]; exact Nat.ne_of_lt (blk_lt (g := gb324) (o := .cells #[.int .i64 a1_0, .int .i64 a1_1] 25 (0, 0)) (by (with_reducible repeat (first | refine zm_ ?_ _ | refine zn_ ?_ | refine zo_ ?_ _)); exact BK324.out)) : gb324 ≠ gb357)); have n16_ := Aside0.mk ((by rw [hg]; exact Nat.ne_of_gt (blk_lt (g := gb324) (o := .cells #[.int .i64 a1_0, .int .i64 a1_1] 25 (0, 0)) (by (with_reducible repeat (first | refine zm_ ?_ _ | refine zn_ ?_ | refine zo_ ?_ _)); exact BK324.out)) : gb357 ≠ gb324)); have n17_ := Aside0.mk ((by rw [hg]; exact Nat.ne_of_lt (blk_lt (g := gb334) (o := .cells #[.int .i64 t328, .int .i64 t329, .slice Ao31 t330.length co31] 24 (0, 0)) (by (with_reducible repeat (first | refine zm_ ?_ _ | refine zn_ ?_ | refine zo_ ?_ _)); exact BK334.out)) : gb334 ≠ gb357)); have n18_ := Aside0.mk ((by rw [hg]; exact Nat.ne_of_gt (blk_lt (g := gb334) (o := .cells #[.int .i64 t328, .int .i64 t329, .slice Ao31 t330.length co31] 24 (0, 0)) (by (with_reducible repeat (first | refine zm_ ?_ _ | refine zn_ ?_ | refine zo_ ?_ _)); exact BK334.out)) : gb357 ≠ gb334)); have n19_ := Aside0.mk ((by rw [hg]; exact Nat.ne_of_lt (blk_lt (g := gb341) (o := .cells #[.int .i64 t335, .int .i64 t336, .slice Ao40 t337.length co40] 24 (0, 0)) (by (with_reducible repeat (first | refine zm_ ?_ _ | refine zn_ ?_ | refine zo_ ?_ _)); exact BK341.out)) : gb341 ≠ gb357)); have n20_ := Aside0.mk ((by rw [hg]; exact Nat.ne_of_gt (blk_lt (g := gb341) (o := .cells #[.int .i64 t335, .int .i64 t336, .slice Ao40 t337.length co40] 24 (0, 0)) (by (with_reducible repeat (first | refine zm_ ?_ _ | refine zn_ ?_ | refine zo_ ?_ _)); exact BK341.out)) : gb357 ≠ gb341)); have n21_ := Aside0.mk ((by rw [hg]; exact Nat.ne_of_lt (blk_lt (g := gb349) (o := .cells #[.string t342, .int .i64 t343, .int .i64 t344, .slice Ao50 t345.length co50, .int .i64 t348] 34 (0, 0)) (by (with_reducible repeat (first | refine zm_ ?_ _ | refine zn_ ?_ | refine zo_ ?_ _)); exact BK349.out)) : gb349 ≠ gb357)); have n22_ := Aside0.mk ((by rw [hg]; exact Nat.ne_of_gt (blk_lt (g := gb349) (o := .cells #[.string t342, .int .i64 t343, .int .i64 t344, .slice Ao50 t345.length co50, .int .i64 t348] 34 (0, 0)) (by (with_reducible repeat (first | refine zm_ ?_ _ | refine zn_ ?_ | refine zo_ ?_ _)); exact BK349.out)) : gb357 ≠ gb349)); clear HO332; clear HO339; clear HO347; clear HO355; clear BK323; clear BK324; clear BK334; clear BK341; clear BK349; clear HB; have HO332 := n0_; have HO339 := n1_; have HO347 := n2_; have HO355 := n3_; have BK323 := n4_; have BK324 := n5_; have BK334 := n6_; have BK341 := n7_; have BK349 := n8_; have HB := n9_; have BK357 := n10_; have GW357 := n11_; have GE357 := n12_; have NB323_357 := n13_; have NB357_323 := n14_; have NB324_357 := n15_; have NB357_324 := n16_; have NB334_357 := n17_; have NB357_334 := n18_; have NB341_357 := n19_; have NB357_341 := n20_; have NB349_357 := n21_; have NB357_349 := n22_; clear n0_ n1_ n2_ n3_ n4_ n5_ n6_ n7_ n8_ n9_ n10_ n11_ n12_ n13_ n14_ n15_ n16_ n17_ n18_ n19_ n20_ n21_ n22_; clear hb hbox hg; have hnb55 := NB357_323.out; have hnc55 := NB323_357.out; have hnb56 := NB357_324.out; have hnc56 := NB324_357.out; have hnb57 := NB357_334.out; have hnc57 := NB334_357.out; have hnb58 := NB357_341.out; have hnc58 := NB341_357.out; have hnb59 := NB357_349.out; have hnc59 := NB349_357.out; have hcz60_0 : w54.cell? ⟨gb357, 0, none⟩ = some (.string (⟨#[]⟩ : ByteArray)) := (blk_cell BK357.out 0).trans rfl; have hcz60_1 : w54.cell? ⟨gb357, 1, none⟩ = some (.int .i64 0) := (blk_cell BK357.out 1).trans rfl; have hcz60_2 : w54.cell? ⟨gb357, 2, none⟩ = some (.int .i64 0) := (blk_cell BK357.out 2).trans rfl; have hcz60_3 : w54.cell? ⟨gb357, 3, none⟩ = some (.slice none 0 0) := (blk_cell BK357.out 3).trans rfl; have hcz60_4 : w54.cell? ⟨gb357, 4, none⟩ = some (.int .i64 0) := (blk_cell BK357.out 4).trans rfl; have hfz60_0 := blk_frozen BK357.out 0; have hfz60_1 := blk_frozen BK357.out 1; have hfz60_2 := blk_frozen BK357.out 2; have hfz60_3 := blk_frozen BK357.out 3; have hfz60_4 := blk_frozen BK357.out 4; obtain ⟨Ao61, co61, eo61⟩ := Kd.R_slice HO355.out; subst eo61))
        (try simp only [Act.put, List.setIfInBounds_toArray, List.set_cons_zero, List.set_cons_succ])
        go_cut [92] (fun v92 wc => ∃ (kq : Nat) (x92_21 : Bool), v92 = .bool x92_21 ∧ Aside0 (quietuslaw25_PadBooksAsSpecified.j1 kq a2 x92_21 a0_0 a0_1 l0_2 = some r) ∧ Aside0 (kq ≤ kj3) ∧ Aside0 (Kd.R Kd.string 9 wc w.heap.size (fun k_ => some k_ ≠ ((.slice Ao40 t337.length co40) : Value).ownBlock ∧ some k_ ≠ ((.slice Ao50 t345.length co50) : Value).ownBlock ∧ some k_ ≠ ((.slice Ao61 t353.length co61) : Value).ownBlock) (.slice Ao31 t330.length co31) t330) ∧ Aside0 (Kd.R Kd.string 9 wc w.heap.size (fun k_ => some k_ ≠ ((.slice Ao31 t330.length co31) : Value).ownBlock ∧ some k_ ≠ ((.slice Ao50 t345.length co50) : Value).ownBlock ∧ some k_ ≠ ((.slice Ao61 t353.length co61) : Value).ownBlock) (.slice Ao40 t337.length co40) t337) ∧ Aside0 (Kd.R Kd.string 9 wc w.heap.size (fun k_ => some k_ ≠ ((.slice Ao31 t330.length co31) : Value).ownBlock ∧ some k_ ≠ ((.slice Ao40 t337.length co40) : Value).ownBlock ∧ some k_ ≠ ((.slice Ao61 t353.length co61) : Value).ownBlock) (.slice Ao50 t345.length co50) t345) ∧ Aside0 (Kd.R Kd.string 9 wc w.heap.size (fun k_ => some k_ ≠ ((.slice Ao31 t330.length co31) : Value).ownBlock ∧ some k_ ≠ ((.slice Ao40 t337.length co40) : Value).ownBlock ∧ some k_ ≠ ((.slice Ao50 t345.length co50) : Value).ownBlock) (.slice Ao61 t353.length co61) t353) ∧ Aside0 (wc.heap[gb323]? = some (.cells #[.int .i64 a0_0, .int .i64 a0_1, (.slice A0_2 l0_2.length c0_2)] 24 (0, 0))) ∧ Aside0 (wc.heap[gb324]? = some (.cells #[.int .i64 a1_0, .int .i64 a1_1] 25 (0, 0))) ∧ Aside0 (wc.heap[gb334]? = some (.cells #[.int .i64 t328, .int .i64 t329, (.slice Ao31 t330.length co31)] 24 (0, 0))) ∧ Aside0 (wc.heap[gb341]? = some (.cells #[.int .i64 t335, .int .i64 t336, (.slice Ao40 t337.length co40)] 24 (0, 0))) ∧ Aside0 (wc.heap[gb349]? = some (.cells #[.string t342, .int .i64 t343, .int .i64 t344, (.slice Ao50 t345.length co50), .int .i64 t348] 34 (0, 0))) ∧ Aside0 (wc.heap[gb357]? = some (.cells #[.string t350, .int .i64 t351, .int .i64 t352, (.slice Ao61 t353.length co61), .int .i64 t356] 34 (0, 0))) ∧ Aside0 (Below w.heap.size w wc))
        case first =>
          have H := HC22.out
          clear HC22
          replace H := Option.bind_eq_some_iff.mp H
          obtain ⟨t358, A620, H⟩ := H
          replace H : ((quietusref25_Check.f kj3 a0_0 a0_1 l0_2).bind fun t359 => (if t358 = t359 then (if t327.toList = t342.toList then (if t333 = t348 then ((quietusref25_Same.f kj3 t328 t329 t330 t343 t344 t345).bind fun t360 => (if t360 = true then (if t340 = t356 then ((quietusref25_Same.f kj3 t335 t336 t337 t351 t352 t353).bind fun t361 => (quietuslaw25_PadBooksAsSpecified.j1 kj3 a2 (!t361) a0_0 a0_1 l0_2)) else (none)) else (none))) else (none)) else (none)) else (none))) = some r := H
          have A62 := Aside0.mk A620
          clear A620
          replace H := Option.bind_eq_some_iff.mp H
          obtain ⟨t359, A630, H⟩ := H
          replace H : (if t358 = t359 then (if t327.toList = t342.toList then (if t333 = t348 then ((quietusref25_Same.f kj3 t328 t329 t330 t343 t344 t345).bind fun t360 => (if t360 = true then (if t340 = t356 then ((quietusref25_Same.f kj3 t335 t336 t337 t351 t352 t353).bind fun t361 => (quietuslaw25_PadBooksAsSpecified.j1 kj3 a2 (!t361) a0_0 a0_1 l0_2)) else (none)) else (none))) else (none)) else (none)) else (none)) = some r := H
          have A63 := Aside0.mk A630
          clear A630
          by_cases c64 : t358 = t359
          · rw [if_pos c64] at H
            have c64b0 : (t358 == t359) = true := beq_iff_eq.mpr c64
            have c64b1 : (t358 != t359) = false := bne_eq_false_iff_eq.mpr c64
            clear c64
            (first | rw [c64b0] | (simp only [i64_w, i32_w]; rw [c64b0]) | rw [c64b1] | skip)
            by_cases c65 : t327.toList = t342.toList
            · rw [if_pos c65] at H
              have c65b0 : (t327.toList == t342.toList) = true := beq_iff_eq.mpr c65
              have c65b1 : (t327.toList != t342.toList) = false := bne_eq_false_iff_eq.mpr c65
              clear c65
              by_cases c66 : t333 = t348
              · rw [if_pos c66] at H
                have c66b0 : (t333 == t348) = true := beq_iff_eq.mpr c66
                have c66b1 : (t333 != t348) = false := bne_eq_false_iff_eq.mpr c66
                clear c66
                replace H := Option.bind_eq_some_iff.mp H
                obtain ⟨t360, A670, H⟩ := H
                replace H : (if t360 = true then (if t340 = t356 then ((quietusref25_Same.f kj3 t335 t336 t337 t351 t352 t353).bind fun t361 => (quietuslaw25_PadBooksAsSpecified.j1 kj3 a2 (!t361) a0_0 a0_1 l0_2)) else (none)) else (none)) = some r := H
                have A67 := Aside0.mk A670
                clear A670
                by_cases c68 : t360 = true
                · subst c68
                  have H1 : (if t340 = t356 then ((quietusref25_Same.f kj3 t335 t336 t337 t351 t352 t353).bind fun t361 => (quietuslaw25_PadBooksAsSpecified.j1 kj3 a2 (!t361) a0_0 a0_1 l0_2)) else (none)) = some r := by rw [if_pos rfl] at H; exact H
                  clear H
                  have H := H1
                  clear H1
                  by_cases c69 : t340 = t356
                  · rw [if_pos c69] at H
                    have c69b0 : (t340 == t356) = true := beq_iff_eq.mpr c69
                    have c69b1 : (t340 != t356) = false := bne_eq_false_iff_eq.mpr c69
                    clear c69
                    replace H := Option.bind_eq_some_iff.mp H
                    obtain ⟨t361, A700, H⟩ := H
                    replace H : (quietuslaw25_PadBooksAsSpecified.j1 kj3 a2 (!t361) a0_0 a0_1 l0_2) = some r := H
                    have A70 := Aside0.mk A700
                    clear A700
                    have H' := Aside0.mk H
                    clear H
                    try go_wp2
                    have n0_ : Aside0 (Kd.R Kd.string 9 (((((w54.setCell ⟨gb357, 0, none⟩ (.string t350)).setCell ⟨gb357, 1, none⟩ (.int .i64 t351)).setCell ⟨gb357, 2, none⟩ (.int .i64 t352)).setCell ⟨gb357, 3, none⟩ (.slice Ao61 t353.length co61)).setCell ⟨gb357, 4, none⟩ (.int .i64 t356)) w.heap.size (fun k_ => some k_ ≠ (.slice Ao40 t337.length co40 : Value).ownBlock ∧ some k_ ≠ (.slice Ao50 t345.length co50 : Value).ownBlock ∧ some k_ ≠ (.slice Ao61 t353.length co61 : Value).ownBlock) (.slice Ao31 t330.length co31) t330) := ⟨by (with_reducible repeat (first | apply za_ | apply zb_ | apply zc_)); exact zd_ (ze_ (p := ⟨gb357, 4, none⟩) (ze_ (p := ⟨gb357, 3, none⟩) (ze_ (p := ⟨gb357, 2, none⟩) (ze_ (p := ⟨gb357, 1, none⟩) (ze_ (p := ⟨gb357, 0, none⟩) (zf_ HO332.out BK357.out (by decide)) (fun _ hk => hk.2) (.string t350)) (fun _ hk => hk.2) (.int .i64 t351)) (fun _ hk => hk.2) (.int .i64 t352)) (fun _ hk => hk.2) (.slice Ao61 t353.length co61)) (fun _ hk => hk.2) (.int .i64 t356)) (fun _ hk => ⟨hk.1.1.1.2, ⟨hk.1.1.2, hk.1.2⟩⟩)⟩
                    have n1_ : Aside0 (Kd.R Kd.string 9 (((((w54.setCell ⟨gb357, 0, none⟩ (.string t350)).setCell ⟨gb357, 1, none⟩ (.int .i64 t351)).setCell ⟨gb357, 2, none⟩ (.int .i64 t352)).setCell ⟨gb357, 3, none⟩ (.slice Ao61 t353.length co61)).setCell ⟨gb357, 4, none⟩ (.int .i64 t356)) w.heap.size (fun k_ => some k_ ≠ (.slice Ao31 t330.length co31 : Value).ownBlock ∧ some k_ ≠ (.slice Ao50 t345.length co50 : Value).ownBlock ∧ some k_ ≠ (.slice Ao61 t353.length co61 : Value).ownBlock) (.slice Ao40 t337.length co40) t337) := ⟨by (with_reducible repeat (first | apply za_ | apply zb_ | apply zc_)); exact zd_ (ze_ (p := ⟨gb357, 4, none⟩) (ze_ (p := ⟨gb357, 3, none⟩) (ze_ (p := ⟨gb357, 2, none⟩) (ze_ (p := ⟨gb357, 1, none⟩) (ze_ (p := ⟨gb357, 0, none⟩) (zf_ HO339.out BK357.out (by decide)) (fun _ hk => hk.2) (.string t350)) (fun _ hk => hk.2) (.int .i64 t351)) (fun _ hk => hk.2) (.int .i64 t352)) (fun _ hk => hk.2) (.slice Ao61 t353.length co61)) (fun _ hk => hk.2) (.int .i64 t356)) (fun _ hk => ⟨hk.1.1.1.2, ⟨hk.1.1.2, hk.1.2⟩⟩)⟩
                    have n2_ : Aside0 (Kd.R Kd.string 9 (((((w54.setCell ⟨gb357, 0, none⟩ (.string t350)).setCell ⟨gb357, 1, none⟩ (.int .i64 t351)).setCell ⟨gb357, 2, none⟩ (.int .i64 t352)).setCell ⟨gb357, 3, none⟩ (.slice Ao61 t353.length co61)).setCell ⟨gb357, 4, none⟩ (.int .i64 t356)) w.heap.size (fun k_ => some k_ ≠ (.slice Ao31 t330.length co31 : Value).ownBlock ∧ some k_ ≠ (.slice Ao40 t337.length co40 : Value).ownBlock ∧ some k_ ≠ (.slice Ao61 t353.length co61 : Value).ownBlock) (.slice Ao50 t345.length co50) t345) := ⟨by (with_reducible repeat (first | apply za_ | apply zb_ | apply zc_)); exact zd_ (ze_ (p := ⟨gb357, 4, none⟩) (ze_ (p := ⟨gb357, 3, none⟩) (ze_ (p := ⟨gb357, 2, none⟩) (ze_ (p := ⟨gb357, 1, none⟩) (ze_ (p := ⟨gb357, 0, none⟩) (zf_ HO347.out BK357.out (by decide)) (fun _ hk => hk.2) (.string t350)) (fun _ hk => hk.2) (.int .i64 t351)) (fun _ hk => hk.2) (.int .i64 t352)) (fun _ hk => hk.2) (.slice Ao61 t353.length co61)) (fun _ hk => hk.2) (.int .i64 t356)) (fun _ hk => ⟨hk.1.1.1.2, ⟨hk.1.1.2, hk.1.2⟩⟩)⟩
                    have n3_ : Aside0 (Kd.R Kd.string 9 (((((w54.setCell ⟨gb357, 0, none⟩ (.string t350)).setCell ⟨gb357, 1, none⟩ (.int .i64 t351)).setCell ⟨gb357, 2, none⟩ (.int .i64 t352)).setCell ⟨gb357, 3, none⟩ (.slice Ao61 t353.length co61)).setCell ⟨gb357, 4, none⟩ (.int .i64 t356)) w.heap.size (fun k_ => some k_ ≠ (.slice Ao31 t330.length co31 : Value).ownBlock ∧ some k_ ≠ (.slice Ao40 t337.length co40 : Value).ownBlock ∧ some k_ ≠ (.slice Ao50 t345.length co50 : Value).ownBlock) (.slice Ao61 t353.length co61) t353) := ⟨by (with_reducible repeat (first | apply za_ | apply zb_ | apply zc_)); exact zd_ (ze_ (p := ⟨gb357, 4, none⟩) (ze_ (p := ⟨gb357, 3, none⟩) (ze_ (p := ⟨gb357, 2, none⟩) (ze_ (p := ⟨gb357, 1, none⟩) (ze_ (p := ⟨gb357, 0, none⟩) (zf_ HO355.out BK357.out (by decide)) (fun _ hk => hk.2) (.string t350)) (fun _ hk => hk.2) (.int .i64 t351)) (fun _ hk => hk.2) (.int .i64 t352)) (fun _ hk => hk.2) (.slice Ao61 t353.length co61)) (fun _ hk => hk.2) (.int .i64 t356)) (fun _ hk => ⟨hk.1.1.1.2, ⟨hk.1.1.2, hk.1.2⟩⟩)⟩
                    have n4_ : Aside0 ((((((w54.setCell ⟨gb357, 0, none⟩ (.string t350)).setCell ⟨gb357, 1, none⟩ (.int .i64 t351)).setCell ⟨gb357, 2, none⟩ (.int .i64 t352)).setCell ⟨gb357, 3, none⟩ (.slice Ao61 t353.length co61)).setCell ⟨gb357, 4, none⟩ (.int .i64 t356)).heap[gb323]? = some (.cells #[.int .i64 a0_0, .int .i64 a0_1, .slice A0_2 l0_2.length c0_2] 24 (0, 0))) := ⟨by (with_reducible repeat (first | refine zm_ ?_ _ | refine zn_ ?_ | refine zo_ ?_ _)); refine zp_ ?_ NB323_357.out _; (with_reducible repeat (first | refine zm_ ?_ _ | refine zn_ ?_ | refine zo_ ?_ _)); refine zp_ ?_ NB323_357.out _; (with_reducible repeat (first | refine zm_ ?_ _ | refine zn_ ?_ | refine zo_ ?_ _)); refine zp_ ?_ NB323_357.out _; (with_reducible repeat (first | refine zm_ ?_ _ | refine zn_ ?_ | refine zo_ ?_ _)); refine zp_ ?_ NB323_357.out _; (with_reducible repeat (first | refine zm_ ?_ _ | refine zn_ ?_ | refine zo_ ?_ _)); refine zp_ ?_ NB323_357.out _; (with_reducible repeat (first | refine zm_ ?_ _ | refine zn_ ?_ | refine zo_ ?_ _)); exact BK323.out⟩
                    have n5_ : Aside0 ((((((w54.setCell ⟨gb357, 0, none⟩ (.string t350)).setCell ⟨gb357, 1, none⟩ (.int .i64 t351)).setCell ⟨gb357, 2, none⟩ (.int .i64 t352)).setCell ⟨gb357, 3, none⟩ (.slice Ao61 t353.length co61)).setCell ⟨gb357, 4, none⟩ (.int .i64 t356)).heap[gb324]? = some (.cells #[.int .i64 a1_0, .int .i64 a1_1] 25 (0, 0))) := ⟨by (with_reducible repeat (first | refine zm_ ?_ _ | refine zn_ ?_ | refine zo_ ?_ _)); refine zp_ ?_ NB324_357.out _; (with_reducible repeat (first | refine zm_ ?_ _ | refine zn_ ?_ | refine zo_ ?_ _)); refine zp_ ?_ NB324_357.out _; (with_reducible repeat (first | refine zm_ ?_ _ | refine zn_ ?_ | refine zo_ ?_ _)); refine zp_ ?_ NB324_357.out _; (with_reducible repeat (first | refine zm_ ?_ _ | refine zn_ ?_ | refine zo_ ?_ _)); refine zp_ ?_ NB324_357.out _; (with_reducible repeat (first | refine zm_ ?_ _ | refine zn_ ?_ | refine zo_ ?_ _)); refine zp_ ?_ NB324_357.out _; (with_reducible repeat (first | refine zm_ ?_ _ | refine zn_ ?_ | refine zo_ ?_ _)); exact BK324.out⟩
                    have n6_ : Aside0 ((((((w54.setCell ⟨gb357, 0, none⟩ (.string t350)).setCell ⟨gb357, 1, none⟩ (.int .i64 t351)).setCell ⟨gb357, 2, none⟩ (.int .i64 t352)).setCell ⟨gb357, 3, none⟩ (.slice Ao61 t353.length co61)).setCell ⟨gb357, 4, none⟩ (.int .i64 t356)).heap[gb334]? = some (.cells #[.int .i64 t328, .int .i64 t329, .slice Ao31 t330.length co31] 24 (0, 0))) := ⟨by (with_reducible repeat (first | refine zm_ ?_ _ | refine zn_ ?_ | refine zo_ ?_ _)); refine zp_ ?_ NB334_357.out _; (with_reducible repeat (first | refine zm_ ?_ _ | refine zn_ ?_ | refine zo_ ?_ _)); refine zp_ ?_ NB334_357.out _; (with_reducible repeat (first | refine zm_ ?_ _ | refine zn_ ?_ | refine zo_ ?_ _)); refine zp_ ?_ NB334_357.out _; (with_reducible repeat (first | refine zm_ ?_ _ | refine zn_ ?_ | refine zo_ ?_ _)); refine zp_ ?_ NB334_357.out _; (with_reducible repeat (first | refine zm_ ?_ _ | refine zn_ ?_ | refine zo_ ?_ _)); refine zp_ ?_ NB334_357.out _; (with_reducible repeat (first | refine zm_ ?_ _ | refine zn_ ?_ | refine zo_ ?_ _)); exact BK334.out⟩
                    have n7_ : Aside0 ((((((w54.setCell ⟨gb357, 0, none⟩ (.string t350)).setCell ⟨gb357, 1, none⟩ (.int .i64 t351)).setCell ⟨gb357, 2, none⟩ (.int .i64 t352)).setCell ⟨gb357, 3, none⟩ (.slice Ao61 t353.length co61)).setCell ⟨gb357, 4, none⟩ (.int .i64 t356)).heap[gb341]? = some (.cells #[.int .i64 t335, .int .i64 t336, .slice Ao40 t337.length co40] 24 (0, 0))) := ⟨by (with_reducible repeat (first | refine zm_ ?_ _ | refine zn_ ?_ | refine zo_ ?_ _)); refine zp_ ?_ NB341_357.out _; (with_reducible repeat (first | refine zm_ ?_ _ | refine zn_ ?_ | refine zo_ ?_ _)); refine zp_ ?_ NB341_357.out _; (with_reducible repeat (first | refine zm_ ?_ _ | refine zn_ ?_ | refine zo_ ?_ _)); refine zp_ ?_ NB341_357.out _; (with_reducible repeat (first | refine zm_ ?_ _ | refine zn_ ?_ | refine zo_ ?_ _)); refine zp_ ?_ NB341_357.out _; (with_reducible repeat (first | refine zm_ ?_ _ | refine zn_ ?_ | refine zo_ ?_ _)); refine zp_ ?_ NB341_357.out _; (with_reducible repeat (first | refine zm_ ?_ _ | refine zn_ ?_ | refine zo_ ?_ _)); exact BK341.out⟩
                    have n8_ : Aside0 ((((((w54.setCell ⟨gb357, 0, none⟩ (.string t350)).setCell ⟨gb357, 1, none⟩ (.int .i64 t351)).setCell ⟨gb357, 2, none⟩ (.int .i64 t352)).setCell ⟨gb357, 3, none⟩ (.slice Ao61 t353.length co61)).setCell ⟨gb357, 4, none⟩ (.int .i64 t356)).heap[gb349]? = some (.cells #[.string t342, .int .i64 t343, .int .i64 t344, .slice Ao50 t345.length co50, .int .i64 t348] 34 (0, 0))) := ⟨by (with_reducible repeat (first | refine zm_ ?_ _ | refine zn_ ?_ | refine zo_ ?_ _)); refine zp_ ?_ NB349_357.out _; (with_reducible repeat (first | refine zm_ ?_ _ | refine zn_ ?_ | refine zo_ ?_ _)); refine zp_ ?_ NB349_357.out _; (with_reducible repeat (first | refine zm_ ?_ _ | refine zn_ ?_ | refine zo_ ?_ _)); refine zp_ ?_ NB349_357.out _; (with_reducible repeat (first | refine zm_ ?_ _ | refine zn_ ?_ | refine zo_ ?_ _)); refine zp_ ?_ NB349_357.out _; (with_reducible repeat (first | refine zm_ ?_ _ | refine zn_ ?_ | refine zo_ ?_ _)); refine zp_ ?_ NB349_357.out _; (with_reducible repeat (first | refine zm_ ?_ _ | refine zn_ ?_ | refine zo_ ?_ _)); exact BK349.out⟩
                    have n9_ : Aside0 ((((((w54.setCell ⟨gb357, 0, none⟩ (.string t350)).setCell ⟨gb357, 1, none⟩ (.int .i64 t351)).setCell ⟨gb357, 2, none⟩ (.int .i64 t352)).setCell ⟨gb357, 3, none⟩ (.slice Ao61 t353.length co61)).setCell ⟨gb357, 4, none⟩ (.int .i64 t356)).heap[gb357]? = some (.cells #[.string t350, .int .i64 t351, .int .i64 t352, .slice Ao61 t353.length co61, .int .i64 t356] 34 (0, 0))) := ⟨by (with_reducible repeat (first | refine zm_ ?_ _ | refine zn_ ?_ | refine zo_ ?_ _)); refine blk_put (cs := #[.string t350, .int .i64 t351, .int .i64 t352, .slice Ao61 t353.length co61, .int .i64 0]) ?_ 4 _ rfl; (with_reducible repeat (first | refine zm_ ?_ _ | refine zn_ ?_ | refine zo_ ?_ _)); refine blk_put (cs := #[.string t350, .int .i64 t351, .int .i64 t352, .slice none 0 0, .int .i64 0]) ?_ 3 _ rfl; (with_reducible repeat (first | refine zm_ ?_ _ | refine zn_ ?_ | refine zo_ ?_ _)); refine blk_put (cs := #[.string t350, .int .i64 t351, .int .i64 0, .slice none 0 0, .int .i64 0]) ?_ 2 _ rfl; (with_reducible repeat (first | refine zm_ ?_ _ | refine zn_ ?_ | refine zo_ ?_ _)); refine blk_put (cs := #[.string t350, .int .i64 0, .int .i64 0, .slice none 0 0, .int .i64 0]) ?_ 1 _ rfl; (with_reducible repeat (first | refine zm_ ?_ _ | refine zn_ ?_ | refine zo_ ?_ _)); refine blk_put (cs := #[.string (⟨#[]⟩ : ByteArray), .int .i64 0, .int .i64 0, .slice none 0 0, .int .i64 0]) ?_ 0 _ rfl; (with_reducible repeat (first | refine zm_ ?_ _ | refine zn_ ?_ | refine zo_ ?_ _)); exact BK357.out⟩
                    have n10_ : Aside0 (Below w.heap.size w (((((w54.setCell ⟨gb357, 0, none⟩ (.string t350)).setCell ⟨gb357, 1, none⟩ (.int .i64 t351)).setCell ⟨gb357, 2, none⟩ (.int .i64 t352)).setCell ⟨gb357, 3, none⟩ (.slice Ao61 t353.length co61)).setCell ⟨gb357, 4, none⟩ (.int .i64 t356))) := ⟨by repeat (first | (with_reducible first | exact HB.out | apply zs_ | apply zt_ | apply zu_ | refine zr_ ?_ GE323.out | refine zr_ ?_ GE324.out | refine zr_ ?_ GE334.out | refine zr_ ?_ GE341.out | refine zr_ ?_ GE349.out | refine zr_ ?_ GE357.out) | exact HB.out)⟩
                    (try clear HO332)
                    (try clear HO339)
                    (try clear HO347)
                    (try clear HO355)
                    (try clear BK323)
                    (try clear BK324)
                    (try clear BK334)
                    (try clear BK341)
                    (try clear BK349)
                    (try clear BK357)
                    (try clear HB)
                    generalize (((((w54.setCell ⟨gb357, 0, none⟩ (.string t350)).setCell ⟨gb357, 1, none⟩ (.int .i64 t351)).setCell ⟨gb357, 2, none⟩ (.int .i64 t352)).setCell ⟨gb357, 3, none⟩ (.slice Ao61 t353.length co61)).setCell ⟨gb357, 4, none⟩ (.int .i64 t356)) = w71 at n0_ n1_ n2_ n3_ n4_ n5_ n6_ n7_ n8_ n9_ n10_ ⊢
                    have HO332 := n0_
                    have HO339 := n1_
                    have HO347 := n2_
                    have HO355 := n3_
                    have BK323 := n4_
                    have BK324 := n5_
                    have BK334 := n6_
                    have BK341 := n7_
                    have BK349 := n8_
                    have BK357 := n9_
                    have HB := n10_
                    clear n0_ n1_ n2_ n3_ n4_ n5_ n6_ n7_ n8_ n9_ n10_
                    have n0_ := Aside0.mk (zc_ HO332.out)
                    have n1_ := Aside0.mk (zc_ HO339.out)
                    have n2_ := Aside0.mk (zc_ HO347.out)
                    have n3_ := Aside0.mk (zc_ HO355.out)
                    have n4_ := Aside0.mk (zn_ BK323.out)
                    have n5_ := Aside0.mk (zn_ BK324.out)
                    have n6_ := Aside0.mk (zn_ BK334.out)
                    have n7_ := Aside0.mk (zn_ BK341.out)
                    have n8_ := Aside0.mk (zn_ BK349.out)
                    have n9_ := Aside0.mk (zn_ BK357.out)
                    have n10_ := Aside0.mk (zu_ HB.out)
                    clear HO332
                    clear HO339
                    clear HO347
                    clear HO355
                    clear BK323
                    clear BK324
                    clear BK334
                    clear BK341
                    clear BK349
                    clear BK357
                    clear HB
                    have HO332 := n0_
                    have HO339 := n1_
                    have HO347 := n2_
                    have HO355 := n3_
                    have BK323 := n4_
                    have BK324 := n5_
                    have BK334 := n6_
                    have BK341 := n7_
                    have BK349 := n8_
                    have BK357 := n9_
                    have HB := n10_
                    clear n0_ n1_ n2_ n3_ n4_ n5_ n6_ n7_ n8_ n9_ n10_
                    refine start_ (n := 37) (S := fun w' => w'.cell? ⟨gb323, 0, none⟩ = some (.int .i64 a0_0) ∧ w'.cell? ⟨gb323, 1, none⟩ = some (.int .i64 a0_1) ∧ w'.cell? ⟨gb323, 2, none⟩ = some (.slice A0_2 l0_2.length c0_2) ∧ w'.cell? ⟨gb349, 0, none⟩ = some (.string t342) ∧ w'.cell? ⟨gb349, 1, none⟩ = some (.int .i64 t343) ∧ w'.cell? ⟨gb349, 2, none⟩ = some (.int .i64 t344) ∧ w'.cell? ⟨gb349, 3, none⟩ = some (.slice Ao50 t345.length co50) ∧ w'.cell? ⟨gb349, 4, none⟩ = some (.int .i64 t348) ∧ w'.cell? ⟨gb334, 0, none⟩ = some (.int .i64 t328) ∧ w'.cell? ⟨gb334, 1, none⟩ = some (.int .i64 t329) ∧ w'.cell? ⟨gb334, 2, none⟩ = some (.slice Ao31 t330.length co31) ∧ w'.cell? ⟨gb357, 0, none⟩ = some (.string t350) ∧ w'.cell? ⟨gb357, 1, none⟩ = some (.int .i64 t351) ∧ w'.cell? ⟨gb357, 2, none⟩ = some (.int .i64 t352) ∧ w'.cell? ⟨gb357, 3, none⟩ = some (.slice Ao61 t353.length co61) ∧ w'.cell? ⟨gb357, 4, none⟩ = some (.int .i64 t356) ∧ w'.cell? ⟨gb341, 0, none⟩ = some (.int .i64 t335) ∧ w'.cell? ⟨gb341, 1, none⟩ = some (.int .i64 t336) ∧ w'.cell? ⟨gb341, 2, none⟩ = some (.slice Ao40 t337.length co40)) (ds := []) #[false, false, false, false, false, false, false, false, false, false, false, false, false, false, false, false, false, false, false, false, false, false, false, false, false, false, false, false, false, false, false, false, false, false, false, false, false] (by kernel_rfl) rfl rfl ⟨(blk_cell BK323.out 0).trans rfl, (blk_cell BK323.out 1).trans rfl, (blk_cell BK323.out 2).trans rfl, (blk_cell BK349.out 0).trans rfl, (blk_cell BK349.out 1).trans rfl, (blk_cell BK349.out 2).trans rfl, (blk_cell BK349.out 3).trans rfl, (blk_cell BK349.out 4).trans rfl, (blk_cell BK334.out 0).trans rfl, (blk_cell BK334.out 1).trans rfl, (blk_cell BK334.out 2).trans rfl, (blk_cell BK357.out 0).trans rfl, (blk_cell BK357.out 1).trans rfl, (blk_cell BK357.out 2).trans rfl, (blk_cell BK357.out 3).trans rfl, (blk_cell BK357.out 4).trans rfl, (blk_cell BK341.out 0).trans rfl, (blk_cell BK341.out 1).trans rfl, (blk_cell BK341.out 2).trans rfl⟩ (fun hHeld => ?_); refine with_tabW quietuslaw25_PadBooksAsSpecified.tab7 quietuslaw25_PadBooksAsSpecified.bits7 (fun HT_ HW_ => ?_)
                    generalize w71.drew = w72 at HO332 HO339 HO347 HO355 BK323 BK324 BK334 BK341 BK349 BK357 HB hHeld ⊢
                    refine take_ (i := 0) (N := some 56) (v := ?_) (a' := ?_) #[true, false, false, false, false, false, false, false, false, false, false, false, false, false, false, false, false, false, false, false, false, false, false, false, false, false, false, false, false, false, false, false, false, false, false, false, false] rfl rfl (take_ofW HT_.out HW_.out (by kernel_rfl)) (fun _ _ _ h => h) (Or.inl ⟨by rfl, ?_⟩) hHeld ?_ ?_
                    rotate_left
                    · rintro w' ⟨s0, s1, s2, s3, s4, s5, s6, s7, s8, s9, s10, s11, s12, s13, s14, s15, s16, s17, s18⟩
                      go_simp
                      with_reducible rfl
                    rotate_left
                    · simp only [Act.put, List.setIfInBounds_toArray, List.set_cons_zero, List.set_cons_succ, i64_w, i32_w]
                      rfl
                    refine take_ (i := 2) (N := some 58) (v := ?_) (a' := ?_) #[true, false, true, false, false, false, false, false, false, false, false, false, false, false, false, false, false, false, false, false, false, false, false, false, false, false, false, false, false, false, false, false, false, false, false, false, false] rfl rfl (take_ofW HT_.out HW_.out (by kernel_rfl)) (fun _ _ _ h => h) (Or.inl ⟨by rfl, ?_⟩) hHeld ?_ ?_
                    rotate_left
                    · rintro w' ⟨s0, s1, s2, s3, s4, s5, s6, s7, s8, s9, s10, s11, s12, s13, s14, s15, s16, s17, s18⟩
                      go_simp
                      with_reducible rfl
                    rotate_left
                    · simp only [Act.put, List.setIfInBounds_toArray, List.set_cons_zero, List.set_cons_succ, i64_w, i32_w]
                      rfl
                    refine one_ (i := 1) (N := some 57) #[true, true, true, false, false, false, false, false, false, false, false, false, false, false, false, false, false, false, false, false, false, false, false, false, false, false, false, false, false, false, false, false, false, false, false, false, false] rfl rfl (one_of HT_.out (by kernel_rfl)) (by decide) (fun K hK => ?_)
                    refine goes_ Try.func14 (by kernel_rfl) rfl #[.agg #[.int .i64 a0_0, .int .i64 a0_1, .slice A0_2 l0_2.length c0_2]] (by rfl) rfl rfl (by (try simp only [List.map_toArray, List.map_cons, List.map_nil]); first | done | rfl | (simp only [List.length_drop, List.length_take]; rfl)) ?_
                    with_reducible refine (pad_Check.calls a0_0 a0_1 _ _ l0_2 t358 _ ?side1 ?side2 A62.out).mono ?_
                    (case side1 => repeat (first | exact (Kd.C_below HR0_2.out HB.out) | (with_reducible refine Kd.C_alloc ?_ _) | (with_reducible refine Kd.C_drewN ?_ _) | (with_reducible refine Kd.C_drew ?_)))
                    (case side2 => exact HC0_2.out)
                    rintro e w73 ⟨rfl, hb⟩
                    refine ⟨_, rfl, ?_⟩
                    have n0_ := Aside0.mk (Kd.R_below (by (with_reducible repeat (first | apply za_ | apply zb_ | apply zc_)); exact HO332.out) hb)
                    have n1_ := Aside0.mk (Kd.R_below (by (with_reducible repeat (first | apply za_ | apply zb_ | apply zc_)); exact HO339.out) hb)
                    have n2_ := Aside0.mk (Kd.R_below (by (with_reducible repeat (first | apply za_ | apply zb_ | apply zc_)); exact HO347.out) hb)
                    have n3_ := Aside0.mk (Kd.R_below (by (with_reducible repeat (first | apply za_ | apply zb_ | apply zc_)); exact HO355.out) hb)
                    have n4_ := Aside0.mk (zq_ (g := gb323) (o := .cells #[.int .i64 a0_0, .int .i64 a0_1, .slice A0_2 l0_2.length c0_2] 24 (0, 0)) (by (with_reducible repeat (first | refine zm_ ?_ _ | refine zn_ ?_ | refine zo_ ?_ _)); exact BK323.out) hb)
                    have n5_ := Aside0.mk (zq_ (g := gb324) (o := .cells #[.int .i64 a1_0, .int .i64 a1_1] 25 (0, 0)) (by (with_reducible repeat (first | refine zm_ ?_ _ | refine zn_ ?_ | refine zo_ ?_ _)); exact BK324.out) hb)
                    have n6_ := Aside0.mk (zq_ (g := gb334) (o := .cells #[.int .i64 t328, .int .i64 t329, .slice Ao31 t330.length co31] 24 (0, 0)) (by (with_reducible repeat (first | refine zm_ ?_ _ | refine zn_ ?_ | refine zo_ ?_ _)); exact BK334.out) hb)
                    have n7_ := Aside0.mk (zq_ (g := gb341) (o := .cells #[.int .i64 t335, .int .i64 t336, .slice Ao40 t337.length co40] 24 (0, 0)) (by (with_reducible repeat (first | refine zm_ ?_ _ | refine zn_ ?_ | refine zo_ ?_ _)); exact BK341.out) hb)
                    have n8_ := Aside0.mk (zq_ (g := gb349) (o := .cells #[.string t342, .int .i64 t343, .int .i64 t344, .slice Ao50 t345.length co50, .int .i64 t348] 34 (0, 0)) (by (with_reducible repeat (first | refine zm_ ?_ _ | refine zn_ ?_ | refine zo_ ?_ _)); exact BK349.out) hb)
                    have n9_ := Aside0.mk (zq_ (g := gb357) (o := .cells #[.string t350, .int .i64 t351, .int .i64 t352, .slice Ao61 t353.length co61, .int .i64 t356] 34 (0, 0)) (by (with_reducible repeat (first | refine zm_ ?_ _ | refine zn_ ?_ | refine zo_ ?_ _)); exact BK357.out) hb)
                    have n10_ := Aside0.mk (zv_ (by repeat (first | (with_reducible first | exact HB.out | apply zs_ | apply zt_ | apply zu_ | refine zr_ ?_ GE323.out | refine zr_ ?_ GE324.out | refine zr_ ?_ GE334.out | refine zr_ ?_ GE341.out | refine zr_ ?_ GE349.out | refine zr_ ?_ GE357.out) | exact HB.out)) hb)
                    clear HO332
                    clear HO339
                    clear HO347
                    clear HO355
                    clear BK323
                    clear BK324
                    clear BK334
                    clear BK341
                    clear BK349
                    clear BK357
                    clear HB
                    have HO332 := n0_
                    have HO339 := n1_
                    have HO347 := n2_
                    have HO355 := n3_
                    have BK323 := n4_
                    have BK324 := n5_
                    have BK334 := n6_
                    have BK341 := n7_
                    have BK349 := n8_
                    have BK357 := n9_
                    have HB := n10_
                    clear n0_ n1_ n2_ n3_ n4_ n5_ n6_ n7_ n8_ n9_ n10_
                    (try clear hb)
                    (try clear hb2)
                    (try clear hk)
                    (try clear hi)
                    refine hK.out _ _ ⟨(blk_cell BK323.out 0).trans rfl, (blk_cell BK323.out 1).trans rfl, (blk_cell BK323.out 2).trans rfl, (blk_cell BK349.out 0).trans rfl, (blk_cell BK349.out 1).trans rfl, (blk_cell BK349.out 2).trans rfl, (blk_cell BK349.out 3).trans rfl, (blk_cell BK349.out 4).trans rfl, (blk_cell BK334.out 0).trans rfl, (blk_cell BK334.out 1).trans rfl, (blk_cell BK334.out 2).trans rfl, (blk_cell BK357.out 0).trans rfl, (blk_cell BK357.out 1).trans rfl, (blk_cell BK357.out 2).trans rfl, (blk_cell BK357.out 3).trans rfl, (blk_cell BK357.out 4).trans rfl, (blk_cell BK341.out 0).trans rfl, (blk_cell BK341.out 1).trans rfl, (blk_cell BK341.out 2).trans rfl⟩ (fun hHeld => ?_)
                    clear hK K
                    refine norm_ (a' := ?_) ?_ ?_
                    rotate_left
                    · show Act.put _ (some 57) _ = _
                      simp only [Act.put, List.setIfInBounds_toArray, List.set_cons_zero, List.set_cons_succ, i64_w, i32_w]
                      rfl
                    refine one_ (i := 3) (N := some 59) #[true, true, true, true, false, false, false, false, false, false, false, false, false, false, false, false, false, false, false, false, false, false, false, false, false, false, false, false, false, false, false, false, false, false, false, false, false] rfl rfl (one_of HT_.out (by kernel_rfl)) (by decide) (fun K hK => ?_)
                    refine goes_ Try.func15 (by kernel_rfl) rfl #[.agg #[.int .i64 a0_0, .int .i64 a0_1, .slice A0_2 l0_2.length c0_2]] (by rfl) rfl rfl (by (try simp only [List.map_toArray, List.map_cons, List.map_nil]); first | done | rfl | (simp only [List.length_drop, List.length_take]; rfl)) ?_
                    with_reducible refine (quietusref25_Check.calls kj3 a0_0 a0_1 _ _ l0_2 t359 _ ?side1 ?side2 A63.out).mono ?_
                    (case side1 => repeat (first | exact (Kd.C_below HR0_2.out HB.out) | (with_reducible refine Kd.C_alloc ?_ _) | (with_reducible refine Kd.C_drewN ?_ _) | (with_reducible refine Kd.C_drew ?_)))
                    (case side2 => exact HC0_2.out)
                    rintro e w74 ⟨rfl, hb⟩
                    refine ⟨_, rfl, ?_⟩
                    have n0_ := Aside0.mk (Kd.R_below (by (with_reducible repeat (first | apply za_ | apply zb_ | apply zc_)); exact HO332.out) hb)
                    have n1_ := Aside0.mk (Kd.R_below (by (with_reducible repeat (first | apply za_ | apply zb_ | apply zc_)); exact HO339.out) hb)
                    have n2_ := Aside0.mk (Kd.R_below (by (with_reducible repeat (first | apply za_ | apply zb_ | apply zc_)); exact HO347.out) hb)
                    have n3_ := Aside0.mk (Kd.R_below (by (with_reducible repeat (first | apply za_ | apply zb_ | apply zc_)); exact HO355.out) hb)
                    have n4_ := Aside0.mk (zq_ (g := gb323) (o := .cells #[.int .i64 a0_0, .int .i64 a0_1, .slice A0_2 l0_2.length c0_2] 24 (0, 0)) (by (with_reducible repeat (first | refine zm_ ?_ _ | refine zn_ ?_ | refine zo_ ?_ _)); exact BK323.out) hb)
                    have n5_ := Aside0.mk (zq_ (g := gb324) (o := .cells #[.int .i64 a1_0, .int .i64 a1_1] 25 (0, 0)) (by (with_reducible repeat (first | refine zm_ ?_ _ | refine zn_ ?_ | refine zo_ ?_ _)); exact BK324.out) hb)
                    have n6_ := Aside0.mk (zq_ (g := gb334) (o := .cells #[.int .i64 t328, .int .i64 t329, .slice Ao31 t330.length co31] 24 (0, 0)) (by (with_reducible repeat (first | refine zm_ ?_ _ | refine zn_ ?_ | refine zo_ ?_ _)); exact BK334.out) hb)
                    have n7_ := Aside0.mk (zq_ (g := gb341) (o := .cells #[.int .i64 t335, .int .i64 t336, .slice Ao40 t337.length co40] 24 (0, 0)) (by (with_reducible repeat (first | refine zm_ ?_ _ | refine zn_ ?_ | refine zo_ ?_ _)); exact BK341.out) hb)
                    have n8_ := Aside0.mk (zq_ (g := gb349) (o := .cells #[.string t342, .int .i64 t343, .int .i64 t344, .slice Ao50 t345.length co50, .int .i64 t348] 34 (0, 0)) (by (with_reducible repeat (first | refine zm_ ?_ _ | refine zn_ ?_ | refine zo_ ?_ _)); exact BK349.out) hb)
                    have n9_ := Aside0.mk (zq_ (g := gb357) (o := .cells #[.string t350, .int .i64 t351, .int .i64 t352, .slice Ao61 t353.length co61, .int .i64 t356] 34 (0, 0)) (by (with_reducible repeat (first | refine zm_ ?_ _ | refine zn_ ?_ | refine zo_ ?_ _)); exact BK357.out) hb)
                    have n10_ := Aside0.mk (zv_ (by repeat (first | (with_reducible first | exact HB.out | apply zs_ | apply zt_ | apply zu_ | refine zr_ ?_ GE323.out | refine zr_ ?_ GE324.out | refine zr_ ?_ GE334.out | refine zr_ ?_ GE341.out | refine zr_ ?_ GE349.out | refine zr_ ?_ GE357.out) | exact HB.out)) hb)
                    clear HO332
                    clear HO339
                    clear HO347
                    clear HO355
                    clear BK323
                    clear BK324
                    clear BK334
                    clear BK341
                    clear BK349
                    clear BK357
                    clear HB
                    have HO332 := n0_
                    have HO339 := n1_
                    have HO347 := n2_
                    have HO355 := n3_
                    have BK323 := n4_
                    have BK324 := n5_
                    have BK334 := n6_
                    have BK341 := n7_
                    have BK349 := n8_
                    have BK357 := n9_
                    have HB := n10_
                    clear n0_ n1_ n2_ n3_ n4_ n5_ n6_ n7_ n8_ n9_ n10_
                    (try clear hb)
                    (try clear hb2)
                    (try clear hk)
                    (try clear hi)
                    refine hK.out _ _ ⟨(blk_cell BK323.out 0).trans rfl, (blk_cell BK323.out 1).trans rfl, (blk_cell BK323.out 2).trans rfl, (blk_cell BK349.out 0).trans rfl, (blk_cell BK349.out 1).trans rfl, (blk_cell BK349.out 2).trans rfl, (blk_cell BK349.out 3).trans rfl, (blk_cell BK349.out 4).trans rfl, (blk_cell BK334.out 0).trans rfl, (blk_cell BK334.out 1).trans rfl, (blk_cell BK334.out 2).trans rfl, (blk_cell BK357.out 0).trans rfl, (blk_cell BK357.out 1).trans rfl, (blk_cell BK357.out 2).trans rfl, (blk_cell BK357.out 3).trans rfl, (blk_cell BK357.out 4).trans rfl, (blk_cell BK341.out 0).trans rfl, (blk_cell BK341.out 1).trans rfl, (blk_cell BK341.out 2).trans rfl⟩ (fun hHeld => ?_)
                    clear hK K
                    refine norm_ (a' := ?_) ?_ ?_
                    rotate_left
                    · show Act.put _ (some 59) _ = _
                      simp only [Act.put, List.setIfInBounds_toArray, List.set_cons_zero, List.set_cons_succ, i64_w, i32_w]
                      rfl
                    refine pure_ (i := 4) (N := some 60) (v := ?_) (a' := ?_) #[true, true, true, true, true, false, false, false, false, false, false, false, false, false, false, false, false, false, false, false, false, false, false, false, false, false, false, false, false, false, false, false, false, false, false, false, false] rfl rfl (any_of HT_.out (by kernel_rfl)) (fun _ _ _ h => h) (Or.inl ⟨by rfl, ?_⟩) ?_ ?_
                    rotate_left
                    · intro w'
                      go_simp
                      with_reducible rfl
                    rotate_left
                    · simp only [Act.put, List.setIfInBounds_toArray, List.set_cons_zero, List.set_cons_succ, i64_w, i32_w]
                      rfl
                    refine pure_ (i := 5) (N := some 61) (v := ?_) (a' := ?_) #[true, true, true, true, true, true, false, false, false, false, false, false, false, false, false, false, false, false, false, false, false, false, false, false, false, false, false, false, false, false, false, false, false, false, false, false, false] rfl rfl (any_of HT_.out (by kernel_rfl)) (fun _ _ _ h => h) (Or.inl ⟨by rfl, ?_⟩) ?_ ?_
                    rotate_left
                    · intro w'
                      go_simp
                      with_reducible rfl
                    rotate_left
                    · simp only [Act.put, List.setIfInBounds_toArray, List.set_cons_zero, List.set_cons_succ, i64_w, i32_w]
                      rfl
                    refine pure_ (i := 6) (N := some 62) (v := ?_) (a' := ?_) #[true, true, true, true, true, true, true, false, false, false, false, false, false, false, false, false, false, false, false, false, false, false, false, false, false, false, false, false, false, false, false, false, false, false, false, false, false] rfl rfl (any_of HT_.out (by kernel_rfl)) (fun _ _ _ h => h) (Or.inl ⟨by rfl, ?_⟩) ?_ ?_
                    rotate_left
                    · intro w'
                      go_simp
                      with_reducible rfl
                    rotate_left
                    · simp only [Act.put, List.setIfInBounds_toArray, List.set_cons_zero, List.set_cons_succ, i64_w, i32_w]
                      rfl
                    refine pure_ (i := 7) (N := some 63) (v := ?_) (a' := ?_) #[true, true, true, true, true, true, true, true, false, false, false, false, false, false, false, false, false, false, false, false, false, false, false, false, false, false, false, false, false, false, false, false, false, false, false, false, false] rfl rfl (any_of HT_.out (by kernel_rfl)) (fun _ _ _ h => h) (Or.inl ⟨by rfl, ?_⟩) ?_ ?_
                    rotate_left
                    · intro w'
                      go_simp
                      with_reducible rfl
                    rotate_left
                    · simp only [Act.put, List.setIfInBounds_toArray, List.set_cons_zero, List.set_cons_succ, i64_w, i32_w]
                      rfl
                    refine take_ (i := 8) (N := some 64) (v := ?_) (a' := ?_) #[true, true, true, true, true, true, true, true, true, false, false, false, false, false, false, false, false, false, false, false, false, false, false, false, false, false, false, false, false, false, false, false, false, false, false, false, false] rfl rfl (take_ofW HT_.out HW_.out (by kernel_rfl)) (fun _ _ _ h => h) (Or.inl ⟨by rfl, ?_⟩) hHeld ?_ ?_
                    rotate_left
                    · rintro w' ⟨s0, s1, s2, s3, s4, s5, s6, s7, s8, s9, s10, s11, s12, s13, s14, s15, s16, s17, s18⟩
                      go_simp
                      with_reducible rfl
                    rotate_left
                    · simp only [Act.put, List.setIfInBounds_toArray, List.set_cons_zero, List.set_cons_succ, i64_w, i32_w]
                      rfl
                    refine pure_ (i := 9) (N := some 65) (v := ?_) (a' := ?_) #[true, true, true, true, true, true, true, true, true, true, false, false, false, false, false, false, false, false, false, false, false, false, false, false, false, false, false, false, false, false, false, false, false, false, false, false, false] rfl rfl (any_of HT_.out (by kernel_rfl)) (fun _ _ _ h => h) (Or.inl ⟨by rfl, ?_⟩) ?_ ?_
                    rotate_left
                    · intro w'
                      go_simp
                      with_reducible rfl
                    rotate_left
                    · simp only [Act.put, List.setIfInBounds_toArray, List.set_cons_zero, List.set_cons_succ, i64_w, i32_w]
                      rfl
                    refine pure_ (i := 10) (N := some 66) (v := ?_) (a' := ?_) #[true, true, true, true, true, true, true, true, true, true, true, false, false, false, false, false, false, false, false, false, false, false, false, false, false, false, false, false, false, false, false, false, false, false, false, false, false] rfl rfl (any_of HT_.out (by kernel_rfl)) (fun _ _ _ h => h) (Or.inl ⟨by rfl, ?_⟩) ?_ ?_
                    rotate_left
                    · intro w'
                      go_simp
                      with_reducible rfl
                    rotate_left
                    · simp only [Act.put, List.setIfInBounds_toArray, List.set_cons_zero, List.set_cons_succ, i64_w, i32_w]
                      rfl
                    refine pure_ (i := 11) (N := some 67) (v := ?_) (a' := ?_) #[true, true, true, true, true, true, true, true, true, true, true, true, false, false, false, false, false, false, false, false, false, false, false, false, false, false, false, false, false, false, false, false, false, false, false, false, false] rfl rfl (any_of HT_.out (by kernel_rfl)) (fun _ _ _ h => h) (Or.inl ⟨by rfl, ?_⟩) ?_ ?_
                    rotate_left
                    · intro w'
                      go_simp
                      with_reducible rfl
                    rotate_left
                    · simp only [Act.put, List.setIfInBounds_toArray, List.set_cons_zero, List.set_cons_succ, i64_w, i32_w]
                      rfl
                    refine pure_ (i := 12) (N := some 68) (v := ?_) (a' := ?_) #[true, true, true, true, true, true, true, true, true, true, true, true, true, false, false, false, false, false, false, false, false, false, false, false, false, false, false, false, false, false, false, false, false, false, false, false, false] rfl rfl (any_of HT_.out (by kernel_rfl)) (fun _ _ _ h => h) (Or.inl ⟨by rfl, ?_⟩) ?_ ?_
                    rotate_left
                    · intro w'
                      go_simp
                      with_reducible rfl
                    rotate_left
                    · simp only [Act.put, List.setIfInBounds_toArray, List.set_cons_zero, List.set_cons_succ, i64_w, i32_w]
                      rfl
                    refine pure_ (i := 13) (N := some 69) (v := ?_) (a' := ?_) #[true, true, true, true, true, true, true, true, true, true, true, true, true, true, false, false, false, false, false, false, false, false, false, false, false, false, false, false, false, false, false, false, false, false, false, false, false] rfl rfl (any_of HT_.out (by kernel_rfl)) (fun _ _ _ h => h) (Or.inl ⟨by rfl, ?_⟩) ?_ ?_
                    rotate_left
                    · intro w'
                      go_simp
                      with_reducible rfl
                    rotate_left
                    · simp only [Act.put, List.setIfInBounds_toArray, List.set_cons_zero, List.set_cons_succ, i64_w, i32_w]
                      rfl
                    refine take_ (i := 14) (N := some 70) (v := ?_) (a' := ?_) #[true, true, true, true, true, true, true, true, true, true, true, true, true, true, true, false, false, false, false, false, false, false, false, false, false, false, false, false, false, false, false, false, false, false, false, false, false] rfl rfl (take_ofW HT_.out HW_.out (by kernel_rfl)) (fun _ _ _ h => h) (Or.inl ⟨by rfl, ?_⟩) hHeld ?_ ?_
                    rotate_left
                    · rintro w' ⟨s0, s1, s2, s3, s4, s5, s6, s7, s8, s9, s10, s11, s12, s13, s14, s15, s16, s17, s18⟩
                      go_simp
                      with_reducible rfl
                    rotate_left
                    · simp only [Act.put, List.setIfInBounds_toArray, List.set_cons_zero, List.set_cons_succ, i64_w, i32_w]
                      rfl
                    refine pure_ (i := 15) (N := some 71) (v := ?_) (a' := ?_) #[true, true, true, true, true, true, true, true, true, true, true, true, true, true, true, true, false, false, false, false, false, false, false, false, false, false, false, false, false, false, false, false, false, false, false, false, false] rfl rfl (any_of HT_.out (by kernel_rfl)) (fun _ _ _ h => h) (Or.inl ⟨by rfl, ?_⟩) ?_ ?_
                    rotate_left
                    · intro w'
                      go_simp
                      with_reducible rfl
                    rotate_left
                    · simp only [Act.put, List.setIfInBounds_toArray, List.set_cons_zero, List.set_cons_succ, i64_w, i32_w]
                      rfl
                    refine pure_ (i := 16) (N := some 72) (v := ?_) (a' := ?_) #[true, true, true, true, true, true, true, true, true, true, true, true, true, true, true, true, true, false, false, false, false, false, false, false, false, false, false, false, false, false, false, false, false, false, false, false, false] rfl rfl (any_of HT_.out (by kernel_rfl)) (fun _ _ _ h => h) (Or.inl ⟨by rfl, ?_⟩) ?_ ?_
                    rotate_left
                    · intro w'
                      go_simp
                      with_reducible rfl
                    rotate_left
                    · simp only [Act.put, List.setIfInBounds_toArray, List.set_cons_zero, List.set_cons_succ, i64_w, i32_w]
                      rfl
                    refine pure_ (i := 17) (N := some 73) (v := ?_) (a' := ?_) #[true, true, true, true, true, true, true, true, true, true, true, true, true, true, true, true, true, true, false, false, false, false, false, false, false, false, false, false, false, false, false, false, false, false, false, false, false] rfl rfl (any_of HT_.out (by kernel_rfl)) (fun _ _ _ h => h) (Or.inl ⟨by rfl, ?_⟩) ?_ ?_
                    rotate_left
                    · intro w'
                      go_simp
                      with_reducible rfl
                    rotate_left
                    · simp only [Act.put, List.setIfInBounds_toArray, List.set_cons_zero, List.set_cons_succ, i64_w, i32_w]
                      rfl
                    refine pure_ (i := 19) (N := some 75) (v := ?_) (a' := ?_) #[true, true, true, true, true, true, true, true, true, true, true, true, true, true, true, true, true, true, false, true, false, false, false, false, false, false, false, false, false, false, false, false, false, false, false, false, false] rfl rfl (any_of HT_.out (by kernel_rfl)) (fun _ _ _ h => h) (Or.inl ⟨by rfl, ?_⟩) ?_ ?_
                    rotate_left
                    · intro w'
                      go_simp
                      with_reducible rfl
                    rotate_left
                    · simp only [Act.put, List.setIfInBounds_toArray, List.set_cons_zero, List.set_cons_succ, i64_w, i32_w]
                      rfl
                    refine take_ (i := 18) (N := some 74) (v := ?_) (a' := ?_) #[true, true, true, true, true, true, true, true, true, true, true, true, true, true, true, true, true, true, true, true, false, false, false, false, false, false, false, false, false, false, false, false, false, false, false, false, false] rfl rfl (take_ofW HT_.out HW_.out (by kernel_rfl)) (fun _ _ _ h => h) (Or.inl ⟨by rfl, ?_⟩) hHeld ?_ ?_
                    rotate_left
                    · rintro w' ⟨s0, s1, s2, s3, s4, s5, s6, s7, s8, s9, s10, s11, s12, s13, s14, s15, s16, s17, s18⟩
                      go_simp
                      with_reducible rfl
                    rotate_left
                    · simp only [Act.put, List.setIfInBounds_toArray, List.set_cons_zero, List.set_cons_succ, i64_w, i32_w]
                      rfl
                    refine take_ (i := 20) (N := some 76) (v := ?_) (a' := ?_) #[true, true, true, true, true, true, true, true, true, true, true, true, true, true, true, true, true, true, true, true, true, false, false, false, false, false, false, false, false, false, false, false, false, false, false, false, false] rfl rfl (take_ofW HT_.out HW_.out (by kernel_rfl)) (fun _ _ _ h => h) (Or.inl ⟨by rfl, ?_⟩) hHeld ?_ ?_
                    rotate_left
                    · rintro w' ⟨s0, s1, s2, s3, s4, s5, s6, s7, s8, s9, s10, s11, s12, s13, s14, s15, s16, s17, s18⟩
                      go_simp
                      with_reducible rfl
                    rotate_left
                    · simp only [Act.put, List.setIfInBounds_toArray, List.set_cons_zero, List.set_cons_succ, i64_w, i32_w]
                      rfl
                    refine one_ (i := 21) (N := some 77) #[true, true, true, true, true, true, true, true, true, true, true, true, true, true, true, true, true, true, true, true, true, true, false, false, false, false, false, false, false, false, false, false, false, false, false, false, false] rfl rfl (one_of HT_.out (by kernel_rfl)) (by decide) (fun K hK => ?_)
                    refine goes_ Try.func16 (by kernel_rfl) rfl #[.agg #[.int .i64 t328, .int .i64 t329, .slice Ao31 t330.length co31], .agg #[.int .i64 t343, .int .i64 t344, .slice Ao50 t345.length co50]] (by rfl) rfl rfl (by (try simp only [List.map_toArray, List.map_cons, List.map_nil]); first | done | rfl | (simp only [List.length_drop, List.length_take]; rfl)) ?_
                    with_reducible refine (quietusref25_Same.calls kj3 t328 t329 _ _ t330 t343 t344 _ _ t345 true _ ?side1 ?side2 ?side3 ?side4 A67.out).mono ?_
                    (case side1 => repeat (first | exact (zl_ HO332.out).2.2 | (with_reducible refine Kd.C_alloc ?_ _) | (with_reducible refine Kd.C_drewN ?_ _) | (with_reducible refine Kd.C_drew ?_)))
                    (case side2 => exact (zl_ HO332.out).2.1)
                    (case side3 => repeat (first | exact (zl_ HO347.out).2.2 | (with_reducible refine Kd.C_alloc ?_ _) | (with_reducible refine Kd.C_drewN ?_ _) | (with_reducible refine Kd.C_drew ?_)))
                    (case side4 => exact (zl_ HO347.out).2.1)
                    rintro e w75 ⟨rfl, hb⟩
                    refine ⟨_, rfl, ?_⟩
                    have n0_ := Aside0.mk (Kd.R_below (by (with_reducible repeat (first | apply za_ | apply zb_ | apply zc_)); exact HO332.out) hb)
                    have n1_ := Aside0.mk (Kd.R_below (by (with_reducible repeat (first | apply za_ | apply zb_ | apply zc_)); exact HO339.out) hb)
                    have n2_ := Aside0.mk (Kd.R_below (by (with_reducible repeat (first | apply za_ | apply zb_ | apply zc_)); exact HO347.out) hb)
                    have n3_ := Aside0.mk (Kd.R_below (by (with_reducible repeat (first | apply za_ | apply zb_ | apply zc_)); exact HO355.out) hb)
                    have n4_ := Aside0.mk (zq_ (g := gb323) (o := .cells #[.int .i64 a0_0, .int .i64 a0_1, .slice A0_2 l0_2.length c0_2] 24 (0, 0)) (by (with_reducible repeat (first | refine zm_ ?_ _ | refine zn_ ?_ | refine zo_ ?_ _)); exact BK323.out) hb)
                    have n5_ := Aside0.mk (zq_ (g := gb324) (o := .cells #[.int .i64 a1_0, .int .i64 a1_1] 25 (0, 0)) (by (with_reducible repeat (first | refine zm_ ?_ _ | refine zn_ ?_ | refine zo_ ?_ _)); exact BK324.out) hb)
                    have n6_ := Aside0.mk (zq_ (g := gb334) (o := .cells #[.int .i64 t328, .int .i64 t329, .slice Ao31 t330.length co31] 24 (0, 0)) (by (with_reducible repeat (first | refine zm_ ?_ _ | refine zn_ ?_ | refine zo_ ?_ _)); exact BK334.out) hb)
                    have n7_ := Aside0.mk (zq_ (g := gb341) (o := .cells #[.int .i64 t335, .int .i64 t336, .slice Ao40 t337.length co40] 24 (0, 0)) (by (with_reducible repeat (first | refine zm_ ?_ _ | refine zn_ ?_ | refine zo_ ?_ _)); exact BK341.out) hb)
                    have n8_ := Aside0.mk (zq_ (g := gb349) (o := .cells #[.string t342, .int .i64 t343, .int .i64 t344, .slice Ao50 t345.length co50, .int .i64 t348] 34 (0, 0)) (by (with_reducible repeat (first | refine zm_ ?_ _ | refine zn_ ?_ | refine zo_ ?_ _)); exact BK349.out) hb)
                    have n9_ := Aside0.mk (zq_ (g := gb357) (o := .cells #[.string t350, .int .i64 t351, .int .i64 t352, .slice Ao61 t353.length co61, .int .i64 t356] 34 (0, 0)) (by (with_reducible repeat (first | refine zm_ ?_ _ | refine zn_ ?_ | refine zo_ ?_ _)); exact BK357.out) hb)
                    have n10_ := Aside0.mk (zv_ (by repeat (first | (with_reducible first | exact HB.out | apply zs_ | apply zt_ | apply zu_ | refine zr_ ?_ GE323.out | refine zr_ ?_ GE324.out | refine zr_ ?_ GE334.out | refine zr_ ?_ GE341.out | refine zr_ ?_ GE349.out | refine zr_ ?_ GE357.out) | exact HB.out)) hb)
                    clear HO332
                    clear HO339
                    clear HO347
                    clear HO355
                    clear BK323
                    clear BK324
                    clear BK334
                    clear BK341
                    clear BK349
                    clear BK357
                    clear HB
                    have HO332 := n0_
                    have HO339 := n1_
                    have HO347 := n2_
                    have HO355 := n3_
                    have BK323 := n4_
                    have BK324 := n5_
                    have BK334 := n6_
                    have BK341 := n7_
                    have BK349 := n8_
                    have BK357 := n9_
                    have HB := n10_
                    clear n0_ n1_ n2_ n3_ n4_ n5_ n6_ n7_ n8_ n9_ n10_
                    (try clear hb)
                    (try clear hb2)
                    (try clear hk)
                    (try clear hi)
                    refine hK.out _ _ ⟨(blk_cell BK323.out 0).trans rfl, (blk_cell BK323.out 1).trans rfl, (blk_cell BK323.out 2).trans rfl, (blk_cell BK349.out 0).trans rfl, (blk_cell BK349.out 1).trans rfl, (blk_cell BK349.out 2).trans rfl, (blk_cell BK349.out 3).trans rfl, (blk_cell BK349.out 4).trans rfl, (blk_cell BK334.out 0).trans rfl, (blk_cell BK334.out 1).trans rfl, (blk_cell BK334.out 2).trans rfl, (blk_cell BK357.out 0).trans rfl, (blk_cell BK357.out 1).trans rfl, (blk_cell BK357.out 2).trans rfl, (blk_cell BK357.out 3).trans rfl, (blk_cell BK357.out 4).trans rfl, (blk_cell BK341.out 0).trans rfl, (blk_cell BK341.out 1).trans rfl, (blk_cell BK341.out 2).trans rfl⟩ (fun hHeld => ?_)
                    clear hK K
                    refine norm_ (a' := ?_) ?_ ?_
                    rotate_left
                    · show Act.put _ (some 77) _ = _
                      simp only [Act.put, List.setIfInBounds_toArray, List.set_cons_zero, List.set_cons_succ, i64_w, i32_w]
                      rfl
                    refine pure_ (i := 22) (N := some 78) (v := ?_) (a' := ?_) #[true, true, true, true, true, true, true, true, true, true, true, true, true, true, true, true, true, true, true, true, true, true, true, false, false, false, false, false, false, false, false, false, false, false, false, false, false] rfl rfl (any_of HT_.out (by kernel_rfl)) (fun _ _ _ h => h) (Or.inl ⟨by rfl, ?_⟩) ?_ ?_
                    rotate_left
                    · intro w'
                      go_simp
                      with_reducible rfl
                    rotate_left
                    · simp only [Act.put, List.setIfInBounds_toArray, List.set_cons_zero, List.set_cons_succ, i64_w, i32_w]
                      rfl
                    refine pure_ (i := 23) (N := some 79) (v := ?_) (a' := ?_) #[true, true, true, true, true, true, true, true, true, true, true, true, true, true, true, true, true, true, true, true, true, true, true, true, false, false, false, false, false, false, false, false, false, false, false, false, false] rfl rfl (any_of HT_.out (by kernel_rfl)) (fun _ _ _ h => h) (Or.inl ⟨by rfl, ?_⟩) ?_ ?_
                    rotate_left
                    · intro w'
                      go_simp
                      with_reducible rfl
                    rotate_left
                    · simp only [Act.put, List.setIfInBounds_toArray, List.set_cons_zero, List.set_cons_succ, i64_w, i32_w]
                      rfl
                    refine pure_ (i := 24) (N := some 80) (v := ?_) (a' := ?_) #[true, true, true, true, true, true, true, true, true, true, true, true, true, true, true, true, true, true, true, true, true, true, true, true, true, false, false, false, false, false, false, false, false, false, false, false, false] rfl rfl (any_of HT_.out (by kernel_rfl)) (fun _ _ _ h => h) (Or.inl ⟨by rfl, ?_⟩) ?_ ?_
                    rotate_left
                    · intro w'
                      go_simp
                      with_reducible rfl
                    rotate_left
                    · simp only [Act.put, List.setIfInBounds_toArray, List.set_cons_zero, List.set_cons_succ, i64_w, i32_w]
                      rfl
                    refine pure_ (i := 25) (N := some 81) (v := ?_) (a' := ?_) #[true, true, true, true, true, true, true, true, true, true, true, true, true, true, true, true, true, true, true, true, true, true, true, true, true, true, false, false, false, false, false, false, false, false, false, false, false] rfl rfl (any_of HT_.out (by kernel_rfl)) (fun _ _ _ h => h) (Or.inl ⟨by rfl, ?_⟩) ?_ ?_
                    rotate_left
                    · intro w'
                      go_simp
                      with_reducible rfl
                    rotate_left
                    · simp only [Act.put, List.setIfInBounds_toArray, List.set_cons_zero, List.set_cons_succ, i64_w, i32_w]
                      rfl
                    refine pure_ (i := 26) (N := some 82) (v := ?_) (a' := ?_) #[true, true, true, true, true, true, true, true, true, true, true, true, true, true, true, true, true, true, true, true, true, true, true, true, true, true, true, false, false, false, false, false, false, false, false, false, false] rfl rfl (any_of HT_.out (by kernel_rfl)) (fun _ _ _ h => h) (Or.inl ⟨by rfl, ?_⟩) ?_ ?_
                    rotate_left
                    · intro w'
                      go_simp
                      with_reducible rfl
                    rotate_left
                    · simp only [Act.put, List.setIfInBounds_toArray, List.set_cons_zero, List.set_cons_succ, i64_w, i32_w]
                      rfl
                    refine take_ (i := 27) (N := some 83) (v := ?_) (a' := ?_) #[true, true, true, true, true, true, true, true, true, true, true, true, true, true, true, true, true, true, true, true, true, true, true, true, true, true, true, true, false, false, false, false, false, false, false, false, false] rfl rfl (take_ofW HT_.out HW_.out (by kernel_rfl)) (fun _ _ _ h => h) (Or.inl ⟨by rfl, ?_⟩) hHeld ?_ ?_
                    rotate_left
                    · rintro w' ⟨s0, s1, s2, s3, s4, s5, s6, s7, s8, s9, s10, s11, s12, s13, s14, s15, s16, s17, s18⟩
                      go_simp
                      with_reducible rfl
                    rotate_left
                    · simp only [Act.put, List.setIfInBounds_toArray, List.set_cons_zero, List.set_cons_succ, i64_w, i32_w]
                      rfl
                    refine pure_ (i := 28) (N := some 84) (v := ?_) (a' := ?_) #[true, true, true, true, true, true, true, true, true, true, true, true, true, true, true, true, true, true, true, true, true, true, true, true, true, true, true, true, true, false, false, false, false, false, false, false, false] rfl rfl (any_of HT_.out (by kernel_rfl)) (fun _ _ _ h => h) (Or.inl ⟨by rfl, ?_⟩) ?_ ?_
                    rotate_left
                    · intro w'
                      go_simp
                      with_reducible rfl
                    rotate_left
                    · simp only [Act.put, List.setIfInBounds_toArray, List.set_cons_zero, List.set_cons_succ, i64_w, i32_w]
                      rfl
                    refine pure_ (i := 29) (N := some 85) (v := ?_) (a' := ?_) #[true, true, true, true, true, true, true, true, true, true, true, true, true, true, true, true, true, true, true, true, true, true, true, true, true, true, true, true, true, true, false, false, false, false, false, false, false] rfl rfl (any_of HT_.out (by kernel_rfl)) (fun _ _ _ h => h) (Or.inl ⟨by rfl, ?_⟩) ?_ ?_
                    rotate_left
                    · intro w'
                      go_simp
                      with_reducible rfl
                    rotate_left
                    · simp only [Act.put, List.setIfInBounds_toArray, List.set_cons_zero, List.set_cons_succ, i64_w, i32_w]
                      rfl
                    refine pure_ (i := 30) (N := some 86) (v := ?_) (a' := ?_) #[true, true, true, true, true, true, true, true, true, true, true, true, true, true, true, true, true, true, true, true, true, true, true, true, true, true, true, true, true, true, true, false, false, false, false, false, false] rfl rfl (any_of HT_.out (by kernel_rfl)) (fun _ _ _ h => h) (Or.inl ⟨by rfl, ?_⟩) ?_ ?_
                    rotate_left
                    · intro w'
                      go_simp
                      with_reducible rfl
                    rotate_left
                    · simp only [Act.put, List.setIfInBounds_toArray, List.set_cons_zero, List.set_cons_succ, i64_w, i32_w]
                      rfl
                    refine pure_ (i := 32) (N := some 88) (v := ?_) (a' := ?_) #[true, true, true, true, true, true, true, true, true, true, true, true, true, true, true, true, true, true, true, true, true, true, true, true, true, true, true, true, true, true, true, false, true, false, false, false, false] rfl rfl (any_of HT_.out (by kernel_rfl)) (fun _ _ _ h => h) (Or.inl ⟨by rfl, ?_⟩) ?_ ?_
                    rotate_left
                    · intro w'
                      go_simp
                      with_reducible rfl
                    rotate_left
                    · simp only [Act.put, List.setIfInBounds_toArray, List.set_cons_zero, List.set_cons_succ, i64_w, i32_w]
                      rfl
                    refine take_ (i := 31) (N := some 87) (v := ?_) (a' := ?_) #[true, true, true, true, true, true, true, true, true, true, true, true, true, true, true, true, true, true, true, true, true, true, true, true, true, true, true, true, true, true, true, true, true, false, false, false, false] rfl rfl (take_ofW HT_.out HW_.out (by kernel_rfl)) (fun _ _ _ h => h) (Or.inl ⟨by rfl, ?_⟩) hHeld ?_ ?_
                    rotate_left
                    · rintro w' ⟨s0, s1, s2, s3, s4, s5, s6, s7, s8, s9, s10, s11, s12, s13, s14, s15, s16, s17, s18⟩
                      go_simp
                      with_reducible rfl
                    rotate_left
                    · simp only [Act.put, List.setIfInBounds_toArray, List.set_cons_zero, List.set_cons_succ, i64_w, i32_w]
                      rfl
                    refine take_ (i := 33) (N := some 89) (v := ?_) (a' := ?_) #[true, true, true, true, true, true, true, true, true, true, true, true, true, true, true, true, true, true, true, true, true, true, true, true, true, true, true, true, true, true, true, true, true, true, false, false, false] rfl rfl (take_ofW HT_.out HW_.out (by kernel_rfl)) (fun _ _ _ h => h) (Or.inl ⟨by rfl, ?_⟩) hHeld ?_ ?_
                    rotate_left
                    · rintro w' ⟨s0, s1, s2, s3, s4, s5, s6, s7, s8, s9, s10, s11, s12, s13, s14, s15, s16, s17, s18⟩
                      go_simp
                      with_reducible rfl
                    rotate_left
                    · simp only [Act.put, List.setIfInBounds_toArray, List.set_cons_zero, List.set_cons_succ, i64_w, i32_w]
                      rfl
                    refine one_ (i := 34) (N := some 90) #[true, true, true, true, true, true, true, true, true, true, true, true, true, true, true, true, true, true, true, true, true, true, true, true, true, true, true, true, true, true, true, true, true, true, true, false, false] rfl rfl (one_of HT_.out (by kernel_rfl)) (by decide) (fun K hK => ?_)
                    refine goes_ Try.func16 (by kernel_rfl) rfl #[.agg #[.int .i64 t335, .int .i64 t336, .slice Ao40 t337.length co40], .agg #[.int .i64 t351, .int .i64 t352, .slice Ao61 t353.length co61]] (by rfl) rfl rfl (by (try simp only [List.map_toArray, List.map_cons, List.map_nil]); first | done | rfl | (simp only [List.length_drop, List.length_take]; rfl)) ?_
                    with_reducible refine (quietusref25_Same.calls kj3 t335 t336 _ _ t337 t351 t352 _ _ t353 t361 _ ?side1 ?side2 ?side3 ?side4 A70.out).mono ?_
                    (case side1 => repeat (first | exact (zl_ HO339.out).2.2 | (with_reducible refine Kd.C_alloc ?_ _) | (with_reducible refine Kd.C_drewN ?_ _) | (with_reducible refine Kd.C_drew ?_)))
                    (case side2 => exact (zl_ HO339.out).2.1)
                    (case side3 => repeat (first | exact (zl_ HO355.out).2.2 | (with_reducible refine Kd.C_alloc ?_ _) | (with_reducible refine Kd.C_drewN ?_ _) | (with_reducible refine Kd.C_drew ?_)))
                    (case side4 => exact (zl_ HO355.out).2.1)
                    rintro e w76 ⟨rfl, hb⟩
                    refine ⟨_, rfl, ?_⟩
                    have n0_ := Aside0.mk (Kd.R_below (by (with_reducible repeat (first | apply za_ | apply zb_ | apply zc_)); exact HO332.out) hb)
                    have n1_ := Aside0.mk (Kd.R_below (by (with_reducible repeat (first | apply za_ | apply zb_ | apply zc_)); exact HO339.out) hb)
                    have n2_ := Aside0.mk (Kd.R_below (by (with_reducible repeat (first | apply za_ | apply zb_ | apply zc_)); exact HO347.out) hb)
                    have n3_ := Aside0.mk (Kd.R_below (by (with_reducible repeat (first | apply za_ | apply zb_ | apply zc_)); exact HO355.out) hb)
                    have n4_ := Aside0.mk (zq_ (g := gb323) (o := .cells #[.int .i64 a0_0, .int .i64 a0_1, .slice A0_2 l0_2.length c0_2] 24 (0, 0)) (by (with_reducible repeat (first | refine zm_ ?_ _ | refine zn_ ?_ | refine zo_ ?_ _)); exact BK323.out) hb)
                    have n5_ := Aside0.mk (zq_ (g := gb324) (o := .cells #[.int .i64 a1_0, .int .i64 a1_1] 25 (0, 0)) (by (with_reducible repeat (first | refine zm_ ?_ _ | refine zn_ ?_ | refine zo_ ?_ _)); exact BK324.out) hb)
                    have n6_ := Aside0.mk (zq_ (g := gb334) (o := .cells #[.int .i64 t328, .int .i64 t329, .slice Ao31 t330.length co31] 24 (0, 0)) (by (with_reducible repeat (first | refine zm_ ?_ _ | refine zn_ ?_ | refine zo_ ?_ _)); exact BK334.out) hb)
                    have n7_ := Aside0.mk (zq_ (g := gb341) (o := .cells #[.int .i64 t335, .int .i64 t336, .slice Ao40 t337.length co40] 24 (0, 0)) (by (with_reducible repeat (first | refine zm_ ?_ _ | refine zn_ ?_ | refine zo_ ?_ _)); exact BK341.out) hb)
                    have n8_ := Aside0.mk (zq_ (g := gb349) (o := .cells #[.string t342, .int .i64 t343, .int .i64 t344, .slice Ao50 t345.length co50, .int .i64 t348] 34 (0, 0)) (by (with_reducible repeat (first | refine zm_ ?_ _ | refine zn_ ?_ | refine zo_ ?_ _)); exact BK349.out) hb)
                    have n9_ := Aside0.mk (zq_ (g := gb357) (o := .cells #[.string t350, .int .i64 t351, .int .i64 t352, .slice Ao61 t353.length co61, .int .i64 t356] 34 (0, 0)) (by (with_reducible repeat (first | refine zm_ ?_ _ | refine zn_ ?_ | refine zo_ ?_ _)); exact BK357.out) hb)
                    have n10_ := Aside0.mk (zv_ (by repeat (first | (with_reducible first | exact HB.out | apply zs_ | apply zt_ | apply zu_ | refine zr_ ?_ GE323.out | refine zr_ ?_ GE324.out | refine zr_ ?_ GE334.out | refine zr_ ?_ GE341.out | refine zr_ ?_ GE349.out | refine zr_ ?_ GE357.out) | exact HB.out)) hb)
                    clear HO332
                    clear HO339
                    clear HO347
                    clear HO355
                    clear BK323
                    clear BK324
                    clear BK334
                    clear BK341
                    clear BK349
                    clear BK357
                    clear HB
                    have HO332 := n0_
                    have HO339 := n1_
                    have HO347 := n2_
                    have HO355 := n3_
                    have BK323 := n4_
                    have BK324 := n5_
                    have BK334 := n6_
                    have BK341 := n7_
                    have BK349 := n8_
                    have BK357 := n9_
                    have HB := n10_
                    clear n0_ n1_ n2_ n3_ n4_ n5_ n6_ n7_ n8_ n9_ n10_
                    (try clear hb)
                    (try clear hb2)
                    (try clear hk)
                    (try clear hi)
                    refine hK.out _ _ ⟨(blk_cell BK323.out 0).trans rfl, (blk_cell BK323.out 1).trans rfl, (blk_cell BK323.out 2).trans rfl, (blk_cell BK349.out 0).trans rfl, (blk_cell BK349.out 1).trans rfl, (blk_cell BK349.out 2).trans rfl, (blk_cell BK349.out 3).trans rfl, (blk_cell BK349.out 4).trans rfl, (blk_cell BK334.out 0).trans rfl, (blk_cell BK334.out 1).trans rfl, (blk_cell BK334.out 2).trans rfl, (blk_cell BK357.out 0).trans rfl, (blk_cell BK357.out 1).trans rfl, (blk_cell BK357.out 2).trans rfl, (blk_cell BK357.out 3).trans rfl, (blk_cell BK357.out 4).trans rfl, (blk_cell BK341.out 0).trans rfl, (blk_cell BK341.out 1).trans rfl, (blk_cell BK341.out 2).trans rfl⟩ (fun hHeld => ?_)
                    clear hK K
                    refine norm_ (a' := ?_) ?_ ?_
                    rotate_left
                    · show Act.put _ (some 90) _ = _
                      simp only [Act.put, List.setIfInBounds_toArray, List.set_cons_zero, List.set_cons_succ, i64_w, i32_w]
                      rfl
                    refine pure_ (i := 35) (N := some 91) (v := ?_) (a' := ?_) #[true, true, true, true, true, true, true, true, true, true, true, true, true, true, true, true, true, true, true, true, true, true, true, true, true, true, true, true, true, true, true, true, true, true, true, true, false] rfl rfl (any_of HT_.out (by kernel_rfl)) (fun _ _ _ h => h) (Or.inl ⟨by rfl, ?_⟩) ?_ ?_
                    rotate_left
                    · intro w'
                      go_simp
                      with_reducible rfl
                    rotate_left
                    · simp only [Act.put, List.setIfInBounds_toArray, List.set_cons_zero, List.set_cons_succ, i64_w, i32_w]
                      rfl
                    refine pure_ (i := 36) (N := some 92) (v := ?_) (a' := ?_) #[true, true, true, true, true, true, true, true, true, true, true, true, true, true, true, true, true, true, true, true, true, true, true, true, true, true, true, true, true, true, true, true, true, true, true, true, true] rfl rfl (any_of HT_.out (by kernel_rfl)) (fun _ _ _ h => h) (Or.inl ⟨by rfl, ?_⟩) ?_ ?_
                    rotate_left
                    · intro w'
                      go_simp
                      with_reducible rfl
                    rotate_left
                    · simp only [Act.put, List.setIfInBounds_toArray, List.set_cons_zero, List.set_cons_succ, i64_w, i32_w]
                      rfl
                    refine done_ (done_of HT_.out (by kernel_rfl)) ?_
                    try go_wp2
                    go_meet
                    case rel => exact ⟨_, (!t361), (by first | rfl | (simp; done) | (simp [*]; done)), H', ⟨by have := HJ3.out; first | omega | exact Nat.le_refl _⟩, ⟨by (with_reducible repeat (first | apply za_ | apply zb_ | apply zc_)); exact HO332.out⟩, ⟨by (with_reducible repeat (first | apply za_ | apply zb_ | apply zc_)); exact HO339.out⟩, ⟨by (with_reducible repeat (first | apply za_ | apply zb_ | apply zc_)); exact HO347.out⟩, ⟨by (with_reducible repeat (first | apply za_ | apply zb_ | apply zc_)); exact HO355.out⟩, ⟨by (with_reducible repeat (first | refine zm_ ?_ _ | refine zn_ ?_ | refine zo_ ?_ _)); exact BK323.out⟩, ⟨by (with_reducible repeat (first | refine zm_ ?_ _ | refine zn_ ?_ | refine zo_ ?_ _)); exact BK324.out⟩, ⟨by (with_reducible repeat (first | refine zm_ ?_ _ | refine zn_ ?_ | refine zo_ ?_ _)); exact BK334.out⟩, ⟨by (with_reducible repeat (first | refine zm_ ?_ _ | refine zn_ ?_ | refine zo_ ?_ _)); exact BK341.out⟩, ⟨by (with_reducible repeat (first | refine zm_ ?_ _ | refine zn_ ?_ | refine zo_ ?_ _)); exact BK349.out⟩, ⟨by (with_reducible repeat (first | refine zm_ ?_ _ | refine zn_ ?_ | refine zo_ ?_ _)); exact BK357.out⟩, ⟨by repeat (first | (with_reducible first | exact HB.out | apply zs_ | apply zt_ | apply zu_ | refine zr_ ?_ GE323.out | refine zr_ ?_ GE324.out | refine zr_ ?_ GE334.out | refine zr_ ?_ GE341.out | refine zr_ ?_ GE349.out | refine zr_ ?_ GE357.out) | exact HB.out)⟩⟩
                  · rw [if_neg c69] at H
                    exact absurd H (by simp)
                · replace c68 := Bool.eq_false_iff.mpr c68
                  subst c68
                  have H1 : (none) = some r := by rw [if_neg (show ¬ (false = true) by decide)] at H; exact H
                  clear H
                  have H := H1
                  clear H1
                  exact absurd H (by simp)
              · rw [if_neg c66] at H
                exact absurd H (by simp)
            · rw [if_neg c65] at H
              exact absurd H (by simp)
          · rw [if_neg c64] at H
            exact absurd H (by simp)
        case rest =>
          clear HC22
          try clear c1
          try clear p2
          try clear c6
          try clear c14
          try clear c15
          try clear c16
          try clear c64
          try clear c65
          try clear c65b0
          try clear c65b1
          try clear c66
          try clear c66b0
          try clear c66b1
          try clear c68
          try clear c69
          try clear c69b0
          try clear c69b1
          obtain ⟨kq, x92_21, rfl, HA, HJ21, HO_335002, HO_342002, HO_350003, HO_358003, BK323, BK324, BK334, BK341, BK349, BK357, HB⟩ := hcut
          cases kq with
          | zero => exact absurd HA.out (by simp [quietuslaw25_PadBooksAsSpecified.j1])
          | succ kj21 =>
            have H := HA.out
            clear HA
            simp only [quietuslaw25_PadBooksAsSpecified.j1] at H
            by_cases c77 : x92_21 = true
            · subst c77
              have H1 : (none) = some r := by rw [if_pos rfl] at H; exact H
              clear H
              have H := H1
              clear H1
              exact absurd H (by simp)
            · replace c77 := Bool.eq_false_iff.mpr c77
              subst c77
              have H1 : (quietuslaw25_PadBooksAsSpecified.l0 kj21 a2 l0_2 (l0_2.length : Int) 0) = some r := by rw [if_neg (show ¬ (false = true) by decide)] at H; exact H
              clear H
              have H := H1
              clear H1
              have H' := Aside0.mk H
              clear H
              have hnb78 := NB323_324.out
              have hnc78 := NB324_323.out
              have hnb79 := NB323_334.out
              have hnc79 := NB334_323.out
              have hnb80 := NB323_341.out
              have hnc80 := NB341_323.out
              have hnb81 := NB323_349.out
              have hnc81 := NB349_323.out
              have hnb82 := NB323_357.out
              have hnc82 := NB357_323.out
              have hcz83_0 : wc.cell? ⟨gb323, 0, none⟩ = some (.int .i64 a0_0) := (blk_cell BK323.out 0).trans rfl
              have hcz83_1 : wc.cell? ⟨gb323, 1, none⟩ = some (.int .i64 a0_1) := (blk_cell BK323.out 1).trans rfl
              have hcz83_2 : wc.cell? ⟨gb323, 2, none⟩ = some (.slice A0_2 l0_2.length c0_2) := (blk_cell BK323.out 2).trans rfl
              have hfz83_0 := blk_frozen BK323.out 0
              have hfz83_1 := blk_frozen BK323.out 1
              have hfz83_2 := blk_frozen BK323.out 2
              go_wp2
              go_loopg [96] kj21 (fun kq v96 w' => ∃ (x96_3 : Int), v96 = .int .i64 x96_3 ∧ Aside0 (quietuslaw25_PadBooksAsSpecified.l0 kq a2 l0_2 (l0_2.length : Int) x96_3 = some r) ∧ Aside0 (kq ≤ kj21) ∧ Aside0 (Kd.R Kd.string 9 w' w.heap.size (fun k_ => some k_ ≠ ((.slice Ao40 t337.length co40) : Value).ownBlock ∧ some k_ ≠ ((.slice Ao50 t345.length co50) : Value).ownBlock ∧ some k_ ≠ ((.slice Ao61 t353.length co61) : Value).ownBlock) (.slice Ao31 t330.length co31) t330) ∧ Aside0 (Kd.R Kd.string 9 w' w.heap.size (fun k_ => some k_ ≠ ((.slice Ao31 t330.length co31) : Value).ownBlock ∧ some k_ ≠ ((.slice Ao50 t345.length co50) : Value).ownBlock ∧ some k_ ≠ ((.slice Ao61 t353.length co61) : Value).ownBlock) (.slice Ao40 t337.length co40) t337) ∧ Aside0 (Kd.R Kd.string 9 w' w.heap.size (fun k_ => some k_ ≠ ((.slice Ao31 t330.length co31) : Value).ownBlock ∧ some k_ ≠ ((.slice Ao40 t337.length co40) : Value).ownBlock ∧ some k_ ≠ ((.slice Ao61 t353.length co61) : Value).ownBlock) (.slice Ao50 t345.length co50) t345) ∧ Aside0 (Kd.R Kd.string 9 w' w.heap.size (fun k_ => some k_ ≠ ((.slice Ao31 t330.length co31) : Value).ownBlock ∧ some k_ ≠ ((.slice Ao40 t337.length co40) : Value).ownBlock ∧ some k_ ≠ ((.slice Ao50 t345.length co50) : Value).ownBlock) (.slice Ao61 t353.length co61) t353) ∧ Aside0 (w'.heap[gb323]? = some (.cells #[.int .i64 a0_0, .int .i64 a0_1, (.slice A0_2 l0_2.length c0_2)] 24 (0, 0))) ∧ Aside0 (w'.heap[gb324]? = some (.cells #[.int .i64 a1_0, .int .i64 a1_1] 25 (0, 0))) ∧ Aside0 (w'.heap[gb334]? = some (.cells #[.int .i64 t328, .int .i64 t329, (.slice Ao31 t330.length co31)] 24 (0, 0))) ∧ Aside0 (w'.heap[gb341]? = some (.cells #[.int .i64 t335, .int .i64 t336, (.slice Ao40 t337.length co40)] 24 (0, 0))) ∧ Aside0 (w'.heap[gb349]? = some (.cells #[.string t342, .int .i64 t343, .int .i64 t344, (.slice Ao50 t345.length co50), .int .i64 t348] 34 (0, 0))) ∧ Aside0 (w'.heap[gb357]? = some (.cells #[.string t350, .int .i64 t351, .int .i64 t352, (.slice Ao61 t353.length co61), .int .i64 t356] 34 (0, 0))) ∧ Aside0 (Below w.heap.size w w'))
              case atStart => exact ⟨(0), (by first | rfl | (simp; done) | (simp [*]; done)), H', ⟨Nat.le_refl _⟩, ⟨by (with_reducible repeat (first | apply za_ | apply zb_ | apply zc_)); exact HO_335002.out⟩, ⟨by (with_reducible repeat (first | apply za_ | apply zb_ | apply zc_)); exact HO_342002.out⟩, ⟨by (with_reducible repeat (first | apply za_ | apply zb_ | apply zc_)); exact HO_350003.out⟩, ⟨by (with_reducible repeat (first | apply za_ | apply zb_ | apply zc_)); exact HO_358003.out⟩, ⟨by (with_reducible repeat (first | refine zm_ ?_ _ | refine zn_ ?_ | refine zo_ ?_ _)); exact BK323.out⟩, ⟨by (with_reducible repeat (first | refine zm_ ?_ _ | refine zn_ ?_ | refine zo_ ?_ _)); exact BK324.out⟩, ⟨by (with_reducible repeat (first | refine zm_ ?_ _ | refine zn_ ?_ | refine zo_ ?_ _)); exact BK334.out⟩, ⟨by (with_reducible repeat (first | refine zm_ ?_ _ | refine zn_ ?_ | refine zo_ ?_ _)); exact BK341.out⟩, ⟨by (with_reducible repeat (first | refine zm_ ?_ _ | refine zn_ ?_ | refine zo_ ?_ _)); exact BK349.out⟩, ⟨by (with_reducible repeat (first | refine zm_ ?_ _ | refine zn_ ?_ | refine zo_ ?_ _)); exact BK357.out⟩, ⟨by repeat (first | (with_reducible first | exact HB.out | apply zs_ | apply zt_ | apply zu_ | refine zr_ ?_ GE323.out | refine zr_ ?_ GE324.out | refine zr_ ?_ GE334.out | refine zr_ ?_ GE341.out | refine zr_ ?_ GE349.out | refine zr_ ?_ GE357.out) | exact HB.out)⟩⟩
              case round =>
                clear H'
                try clear c1
                try clear p2
                try clear c6
                try clear c7
                try clear c8
                try clear c14
                try clear c15
                try clear c16
                try clear c64
                try clear c65
                try clear c65b0
                try clear c65b1
                try clear c66
                try clear c66b0
                try clear c66b1
                try clear c68
                try clear c69
                try clear c69b0
                try clear c69b1
                try clear c77
                try clear c78
                try clear c79
                try clear c80
                try clear c81
                try clear c82
                try clear hcz83_0
                try clear hcz83_1
                try clear hcz83_2
                try clear hfz83_0
                try clear hfz83_1
                try clear hfz83_2
                try clear p2
                obtain ⟨x96_3, rfl, HA, HK3, HO_335002, HO_342002, HO_350003, HO_358003, BK323, BK324, BK334, BK341, BK349, BK357, HB⟩ := hrel
                cases gk with
                | zero => exact absurd HA.out (by simp [quietuslaw25_PadBooksAsSpecified.l0])
                | succ k3 =>
                  have H := HA.out
                  clear HA
                  simp only [quietuslaw25_PadBooksAsSpecified.l0] at H
                  by_cases c84 : x96_3 < (l0_2.length : Int)
                  · rw [if_pos c84] at H
                    have c84b0 : decide (x96_3 < (l0_2.length : Int)) = true := decide_eq_true c84
                    clear c84
                    by_cases c85 : 0 ≤ x96_3
                    · rw [if_pos c85] at H
                      have c85b0 : decide (0 ≤ x96_3) = true := decide_eq_true c85
                      clear c85
                      by_cases c86 : x96_3 < (l0_2.length : Int)
                      · rw [if_pos c86] at H
                        have c86b0 : decide (x96_3 < (l0_2.length : Int)) = true := decide_eq_true c86
                        clear c86
                        replace H := Option.bind_eq_some_iff.mp H
                        obtain ⟨⟨t364, t365⟩, A870, H⟩ := H
                        replace H : (if ((t365 == 0) != ((a2.size : Int) == ((rdOf ByteArray.empty l0_2 x96_3).size : Int))) = true then (none) else (if t365 = 0 then ((gf_Sum.f a2 (rdOf ByteArray.empty l0_2 x96_3)).bind fun t366 => (if t364.toList = t366.toList then (quietuslaw25_PadBooksAsSpecified.l0 k3 a2 l0_2 (l0_2.length : Int) (wrap64 (x96_3 + 1))) else (none))) else (if t365 = 1 then (if t364.toList = ([] : List UInt8) then (quietuslaw25_PadBooksAsSpecified.l0 k3 a2 l0_2 (l0_2.length : Int) (wrap64 (x96_3 + 1))) else (none)) else (none)))) = some r := H
                        have A87 := Aside0.mk A870
                        clear A870
                        by_cases c88 : ((t365 == 0) != ((a2.size : Int) == ((rdOf ByteArray.empty l0_2 x96_3).size : Int))) = true
                        · rw [if_pos c88] at H
                          exact absurd H (by simp)
                        · rw [if_neg c88] at H
                          have c88b0 : ((t365 == 0) != ((a2.size : Int) == ((rdOf ByteArray.empty l0_2 x96_3).size : Int))) = false := by simpa using c88
                          (try (have c88b1 : decide ((t365 == 0) = ((a2.size : Int) == ((rdOf ByteArray.empty l0_2 x96_3).size : Int))) = true := by simpa using c88))
                          (try (have c88b2 : ((t365 == 0) == ((a2.size : Int) == ((rdOf ByteArray.empty l0_2 x96_3).size : Int))) = true := by simpa using c88))
                          clear c88
                          by_cases c89 : t365 = 0
                          · rw [if_pos c89] at H
                            have c89b0 : (t365 == 0) = true := beq_iff_eq.mpr c89
                            have c88b4_89 : (((a2.size : Int) == ((rdOf ByteArray.empty l0_2 x96_3).size : Int))) = true := by rw [c89b0] at c88b0; simpa using c88b0
                            have c89b1 : (t365 != 0) = false := bne_eq_false_iff_eq.mpr c89
                            clear c89
                            replace H := Option.bind_eq_some_iff.mp H
                            obtain ⟨t366, A900, H⟩ := H
                            replace H : (if t364.toList = t366.toList then (quietuslaw25_PadBooksAsSpecified.l0 k3 a2 l0_2 (l0_2.length : Int) (wrap64 (x96_3 + 1))) else (none)) = some r := H
                            have A90 := Aside0.mk A900
                            clear A900
                            by_cases c91 : t364.toList = t366.toList
                            · rw [if_pos c91] at H
                              have c91b0 : (t364.toList == t366.toList) = true := beq_iff_eq.mpr c91
                              have c91b1 : (t364.toList != t366.toList) = false := bne_eq_false_iff_eq.mpr c91
                              clear c91
                              have H' := Aside0.mk H
                              clear H
                              have p363 : 0 ≤ (x96_3 : Int) := of_decide_eq_true (by first | (with_reducible assumption) | assumption)
                              have q363 : x96_3 < (l0_2.length : Int) := of_decide_eq_true (by first | (with_reducible assumption) | assumption)
                              obtain ⟨ad363, e363, hx363_0⟩ := Kd.at_string HR0_2.out x96_3 p363 q363
                              cases e363
                              replace hx363_0 := (HB.out.cell (World.block_lt_of_cell? w _ hx363_0)).trans hx363_0
                              replace p363 := eq_true p363
                              replace q363 := eq_true q363
                              go_wp2_with (first | ((with_reducible refine gate_callee (f := 17) rfl ?_); refine goesL_ (some 103) rfl rfl Try.func17 (by kernel_rfl) rfl #[.string a2, .string (rdOf ByteArray.empty l0_2 x96_3)] rfl (by (try simp only [List.map_toArray, List.map_cons, List.map_nil]); first | done | rfl | (simp only [List.length_drop, List.length_take]; rfl)) ?_; (with_reducible refine (pad_Cover.calls a2 (rdOf ByteArray.empty l0_2 x96_3) t364 t365 _ A87.out).mono ?_); rintro e w92 ⟨rfl, hb⟩; refine ⟨_, rfl, ?_⟩; have n0_ := Aside0.mk (Kd.R_below (by (with_reducible repeat (first | apply za_ | apply zb_ | apply zc_)); exact HO_335002.out) hb); have n1_ := Aside0.mk (Kd.R_below (by (with_reducible repeat (first | apply za_ | apply zb_ | apply zc_)); exact HO_342002.out) hb); have n2_ := Aside0.mk (Kd.R_below (by (with_reducible repeat (first | apply za_ | apply zb_ | apply zc_)); exact HO_350003.out) hb); have n3_ := Aside0.mk (Kd.R_below (by (with_reducible repeat (first | apply za_ | apply zb_ | apply zc_)); exact HO_358003.out) hb); have n4_ := Aside0.mk (zq_ (g := gb323) (o := .cells #[.int .i64 a0_0, .int .i64 a0_1, .slice (some ad363) l0_2.length c0_2] 24 (0, 0)) (by (with_reducible repeat (first | refine zm_ ?_ _ | refine zn_ ?_ | refine zo_ ?_ _)); exact BK323.out) hb); have n5_ := Aside0.mk (zq_ (g := gb324) (o := .cells #[.int .i64 a1_0, .int .i64 a1_1] 25 (0, 0)) (by (with_reducible repeat (first | refine zm_ ?_ _ | refine zn_ ?_ | refine zo_ ?_ _)); exact BK324.out) hb); have n6_ := Aside0.mk (zq_ (g := gb334) (o := .cells #[.int .i64 t328, .int .i64 t329, .slice Ao31 t330.length co31] 24 (0, 0)) (by (with_reducible repeat (first | refine zm_ ?_ _ | refine zn_ ?_ | refine zo_ ?_ _)); exact BK334.out) hb); have n7_ := Aside0.mk (zq_ (g := gb341) (o := .cells #[.int .i64 t335, .int .i64 t336, .slice Ao40 t337.length co40] 24 (0, 0)) (by (with_reducible repeat (first | refine zm_ ?_ _ | refine zn_ ?_ | refine zo_ ?_ _)); exact BK341.out) hb); have n8_ := Aside0.mk (zq_ (g := gb349) (o := .cells #[.string t342, .int .i64 t343, .int .i64 t344, .slice Ao50 t345.length co50, .int .i64 t348] 34 (0, 0)) (by (with_reducible repeat (first | refine zm_ ?_ _ | refine zn_ ?_ | refine zo_ ?_ _)); exact BK349.out) hb); have n9_ := Aside0.mk (zq_ (g := gb357) (o := .cells #[.string t350, .int .i64 t351, .int .i64 t352, .slice Ao61 t353.length co61, .int .i64 t356] 34 (0, 0)) (by (with_reducible repeat (first | refine zm_ ?_ _ | refine zn_ ?_ | refine zo_ ?_ _)); exact BK357.out) hb); have n10_ := Aside0.mk (zv_ (by repeat (first | (with_reducible first | exact HB.out | apply zs_ | apply zt_ | apply zu_ | refine zr_ ?_ GE323.out | refine zr_ ?_ GE324.out | refine zr_ ?_ GE334.out | refine zr_ ?_ GE341.out | refine zr_ ?_ GE349.out | refine zr_ ?_ GE357.out) | exact HB.out)) hb); clear HO_335002; clear HO_342002; clear HO_350003; clear HO_358003; clear BK323; clear BK324; clear BK334; clear BK341; clear BK349; clear BK357; clear HB; have HO_335002 := n0_; have HO_342002 := n1_; have HO_350003 := n2_; have HO_358003 := n3_; have BK323 := n4_; have BK324 := n5_; have BK334 := n6_; have BK341 := n7_; have BK349 := n8_; have BK357 := n9_; have HB := n10_; clear n0_ n1_ n2_ n3_ n4_ n5_ n6_ n7_ n8_ n9_ n10_; (try clear hb); (try clear hb2); (try clear hk); (try clear hi)) | (go_at_call 18; (with_reducible refine (gf_Sum.calls a2 (rdOf ByteArray.empty l0_2 x96_3) t366 _ A90.out).mono ?_); rintro e w93 ⟨rfl, hb⟩; have n0_ := Aside0.mk (Kd.R_below (by (with_reducible repeat (first | apply za_ | apply zb_ | apply zc_)); exact HO_335002.out) hb); have n1_ := Aside0.mk (Kd.R_below (by (with_reducible repeat (first | apply za_ | apply zb_ | apply zc_)); exact HO_342002.out) hb); have n2_ := Aside0.mk (Kd.R_below (by (with_reducible repeat (first | apply za_ | apply zb_ | apply zc_)); exact HO_350003.out) hb); have n3_ := Aside0.mk (Kd.R_below (by (with_reducible repeat (first | apply za_ | apply zb_ | apply zc_)); exact HO_358003.out) hb); have n4_ := Aside0.mk (zq_ (g := gb323) (o := .cells #[.int .i64 a0_0, .int .i64 a0_1, .slice (some ad363) l0_2.length c0_2] 24 (0, 0)) (by (with_reducible repeat (first | refine zm_ ?_ _ | refine zn_ ?_ | refine zo_ ?_ _)); exact BK323.out) hb); have n5_ := Aside0.mk (zq_ (g := gb324) (o := .cells #[.int .i64 a1_0, .int .i64 a1_1] 25 (0, 0)) (by (with_reducible repeat (first | refine zm_ ?_ _ | refine zn_ ?_ | refine zo_ ?_ _)); exact BK324.out) hb); have n6_ := Aside0.mk (zq_ (g := gb334) (o := .cells #[.int .i64 t328, .int .i64 t329, .slice Ao31 t330.length co31] 24 (0, 0)) (by (with_reducible repeat (first | refine zm_ ?_ _ | refine zn_ ?_ | refine zo_ ?_ _)); exact BK334.out) hb); have n7_ := Aside0.mk (zq_ (g := gb341) (o := .cells #[.int .i64 t335, .int .i64 t336, .slice Ao40 t337.length co40] 24 (0, 0)) (by (with_reducible repeat (first | refine zm_ ?_ _ | refine zn_ ?_ | refine zo_ ?_ _)); exact BK341.out) hb); have n8_ := Aside0.mk (zq_ (g := gb349) (o := .cells #[.string t342, .int .i64 t343, .int .i64 t344, .slice Ao50 t345.length co50, .int .i64 t348] 34 (0, 0)) (by (with_reducible repeat (first | refine zm_ ?_ _ | refine zn_ ?_ | refine zo_ ?_ _)); exact BK349.out) hb); have n9_ := Aside0.mk (zq_ (g := gb357) (o := .cells #[.string t350, .int .i64 t351, .int .i64 t352, .slice Ao61 t353.length co61, .int .i64 t356] 34 (0, 0)) (by (with_reducible repeat (first | refine zm_ ?_ _ | refine zn_ ?_ | refine zo_ ?_ _)); exact BK357.out) hb); have n10_ := Aside0.mk (zv_ (by repeat (first | (with_reducible first | exact HB.out | apply zs_ | apply zt_ | apply zu_ | refine zr_ ?_ GE323.out | refine zr_ ?_ GE324.out | refine zr_ ?_ GE334.out | refine zr_ ?_ GE341.out | refine zr_ ?_ GE349.out | refine zr_ ?_ GE357.out) | exact HB.out)) hb); clear HO_335002; clear HO_342002; clear HO_350003; clear HO_358003; clear BK323; clear BK324; clear BK334; clear BK341; clear BK349; clear BK357; clear HB; have HO_335002 := n0_; have HO_342002 := n1_; have HO_350003 := n2_; have HO_358003 := n3_; have BK323 := n4_; have BK324 := n5_; have BK334 := n6_; have BK341 := n7_; have BK349 := n8_; have BK357 := n9_; have HB := n10_; clear n0_ n1_ n2_ n3_ n4_ n5_ n6_ n7_ n8_ n9_ n10_; (try clear hb); (try clear hb2); (try clear hk); (try clear hi)))
                              go_roundg k3
                              case measure => have := HJ3.out; have := HJ21.out; have := HK3.out; omega
                              case rel => exact ⟨(wrap64 (x96_3 + 1)), (by first | rfl | (simp; done) | (simp [*]; done)), H', ⟨by have := HJ3.out; have := HJ21.out; have := HK3.out; omega⟩, ⟨by (with_reducible repeat (first | apply za_ | apply zb_ | apply zc_)); exact HO_335002.out⟩, ⟨by (with_reducible repeat (first | apply za_ | apply zb_ | apply zc_)); exact HO_342002.out⟩, ⟨by (with_reducible repeat (first | apply za_ | apply zb_ | apply zc_)); exact HO_350003.out⟩, ⟨by (with_reducible repeat (first | apply za_ | apply zb_ | apply zc_)); exact HO_358003.out⟩, ⟨by (with_reducible repeat (first | refine zm_ ?_ _ | refine zn_ ?_ | refine zo_ ?_ _)); exact BK323.out⟩, ⟨by (with_reducible repeat (first | refine zm_ ?_ _ | refine zn_ ?_ | refine zo_ ?_ _)); exact BK324.out⟩, ⟨by (with_reducible repeat (first | refine zm_ ?_ _ | refine zn_ ?_ | refine zo_ ?_ _)); exact BK334.out⟩, ⟨by (with_reducible repeat (first | refine zm_ ?_ _ | refine zn_ ?_ | refine zo_ ?_ _)); exact BK341.out⟩, ⟨by (with_reducible repeat (first | refine zm_ ?_ _ | refine zn_ ?_ | refine zo_ ?_ _)); exact BK349.out⟩, ⟨by (with_reducible repeat (first | refine zm_ ?_ _ | refine zn_ ?_ | refine zo_ ?_ _)); exact BK357.out⟩, ⟨by repeat (first | (with_reducible first | exact HB.out | apply zs_ | apply zt_ | apply zu_ | refine zr_ ?_ GE323.out | refine zr_ ?_ GE324.out | refine zr_ ?_ GE334.out | refine zr_ ?_ GE341.out | refine zr_ ?_ GE349.out | refine zr_ ?_ GE357.out) | exact HB.out)⟩⟩
                            · rw [if_neg c91] at H
                              exact absurd H (by simp)
                          · rw [if_neg c89] at H
                            have c89b0 : (t365 == 0) = false := beq_eq_false_iff_ne.mpr c89
                            have c88b4_89 : (((a2.size : Int) == ((rdOf ByteArray.empty l0_2 x96_3).size : Int))) = false := by rw [c89b0] at c88b0; simpa using c88b0
                            have c89b1 : (t365 != 0) = true := bne_iff_ne.mpr c89
                            by_cases c94 : t365 = 1
                            · rw [if_pos c94] at H
                              have c94b0 : (t365 == 1) = true := beq_iff_eq.mpr c94
                              have c94b1 : (t365 != 1) = false := bne_eq_false_iff_eq.mpr c94
                              clear c94
                              by_cases c95 : t364.toList = ([] : List UInt8)
                              · rw [if_pos c95] at H
                                have c95b0 : (t364.toList == ([] : List UInt8)) = true := beq_iff_eq.mpr c95
                                have c95b1 : (t364.toList != ([] : List UInt8)) = false := bne_eq_false_iff_eq.mpr c95
                                clear c95
                                have H' := Aside0.mk H
                                clear H
                                have p363 : 0 ≤ (x96_3 : Int) := of_decide_eq_true (by first | (with_reducible assumption) | assumption)
                                have q363 : x96_3 < (l0_2.length : Int) := of_decide_eq_true (by first | (with_reducible assumption) | assumption)
                                obtain ⟨ad363, e363, hx363_0⟩ := Kd.at_string HR0_2.out x96_3 p363 q363
                                cases e363
                                replace hx363_0 := (HB.out.cell (World.block_lt_of_cell? w _ hx363_0)).trans hx363_0
                                replace p363 := eq_true p363
                                replace q363 := eq_true q363
                                go_wp2_with (first | ((with_reducible refine gate_callee (f := 17) rfl ?_); refine goesL_ (some 103) rfl rfl Try.func17 (by kernel_rfl) rfl #[.string a2, .string (rdOf ByteArray.empty l0_2 x96_3)] rfl (by (try simp only [List.map_toArray, List.map_cons, List.map_nil]); first | done | rfl | (simp only [List.length_drop, List.length_take]; rfl)) ?_; (with_reducible refine (pad_Cover.calls a2 (rdOf ByteArray.empty l0_2 x96_3) t364 t365 _ A87.out).mono ?_); rintro e w96 ⟨rfl, hb⟩; refine ⟨_, rfl, ?_⟩; have n0_ := Aside0.mk (Kd.R_below (by (with_reducible repeat (first | apply za_ | apply zb_ | apply zc_)); exact HO_335002.out) hb); have n1_ := Aside0.mk (Kd.R_below (by (with_reducible repeat (first | apply za_ | apply zb_ | apply zc_)); exact HO_342002.out) hb); have n2_ := Aside0.mk (Kd.R_below (by (with_reducible repeat (first | apply za_ | apply zb_ | apply zc_)); exact HO_350003.out) hb); have n3_ := Aside0.mk (Kd.R_below (by (with_reducible repeat (first | apply za_ | apply zb_ | apply zc_)); exact HO_358003.out) hb); have n4_ := Aside0.mk (zq_ (g := gb323) (o := .cells #[.int .i64 a0_0, .int .i64 a0_1, .slice (some ad363) l0_2.length c0_2] 24 (0, 0)) (by (with_reducible repeat (first | refine zm_ ?_ _ | refine zn_ ?_ | refine zo_ ?_ _)); exact BK323.out) hb); have n5_ := Aside0.mk (zq_ (g := gb324) (o := .cells #[.int .i64 a1_0, .int .i64 a1_1] 25 (0, 0)) (by (with_reducible repeat (first | refine zm_ ?_ _ | refine zn_ ?_ | refine zo_ ?_ _)); exact BK324.out) hb); have n6_ := Aside0.mk (zq_ (g := gb334) (o := .cells #[.int .i64 t328, .int .i64 t329, .slice Ao31 t330.length co31] 24 (0, 0)) (by (with_reducible repeat (first | refine zm_ ?_ _ | refine zn_ ?_ | refine zo_ ?_ _)); exact BK334.out) hb); have n7_ := Aside0.mk (zq_ (g := gb341) (o := .cells #[.int .i64 t335, .int .i64 t336, .slice Ao40 t337.length co40] 24 (0, 0)) (by (with_reducible repeat (first | refine zm_ ?_ _ | refine zn_ ?_ | refine zo_ ?_ _)); exact BK341.out) hb); have n8_ := Aside0.mk (zq_ (g := gb349) (o := .cells #[.string t342, .int .i64 t343, .int .i64 t344, .slice Ao50 t345.length co50, .int .i64 t348] 34 (0, 0)) (by (with_reducible repeat (first | refine zm_ ?_ _ | refine zn_ ?_ | refine zo_ ?_ _)); exact BK349.out) hb); have n9_ := Aside0.mk (zq_ (g := gb357) (o := .cells #[.string t350, .int .i64 t351, .int .i64 t352, .slice Ao61 t353.length co61, .int .i64 t356] 34 (0, 0)) (by (with_reducible repeat (first | refine zm_ ?_ _ | refine zn_ ?_ | refine zo_ ?_ _)); exact BK357.out) hb); have n10_ := Aside0.mk (zv_ (by repeat (first | (with_reducible first | exact HB.out | apply zs_ | apply zt_ | apply zu_ | refine zr_ ?_ GE323.out | refine zr_ ?_ GE324.out | refine zr_ ?_ GE334.out | refine zr_ ?_ GE341.out | refine zr_ ?_ GE349.out | refine zr_ ?_ GE357.out) | exact HB.out)) hb); clear HO_335002; clear HO_342002; clear HO_350003; clear HO_358003; clear BK323; clear BK324; clear BK334; clear BK341; clear BK349; clear BK357; clear HB; have HO_335002 := n0_; have HO_342002 := n1_; have HO_350003 := n2_; have HO_358003 := n3_; have BK323 := n4_; have BK324 := n5_; have BK334 := n6_; have BK341 := n7_; have BK349 := n8_; have BK357 := n9_; have HB := n10_; clear n0_ n1_ n2_ n3_ n4_ n5_ n6_ n7_ n8_ n9_ n10_; (try clear hb); (try clear hb2); (try clear hk); (try clear hi)))
                                go_roundg k3
                                case measure => have := HJ3.out; have := HJ21.out; have := HK3.out; omega
                                case rel => exact ⟨(wrap64 (x96_3 + 1)), (by first | rfl | (simp; done) | (simp [*]; done)), H', ⟨by have := HJ3.out; have := HJ21.out; have := HK3.out; omega⟩, ⟨by (with_reducible repeat (first | apply za_ | apply zb_ | apply zc_)); exact HO_335002.out⟩, ⟨by (with_reducible repeat (first | apply za_ | apply zb_ | apply zc_)); exact HO_342002.out⟩, ⟨by (with_reducible repeat (first | apply za_ | apply zb_ | apply zc_)); exact HO_350003.out⟩, ⟨by (with_reducible repeat (first | apply za_ | apply zb_ | apply zc_)); exact HO_358003.out⟩, ⟨by (with_reducible repeat (first | refine zm_ ?_ _ | refine zn_ ?_ | refine zo_ ?_ _)); exact BK323.out⟩, ⟨by (with_reducible repeat (first | refine zm_ ?_ _ | refine zn_ ?_ | refine zo_ ?_ _)); exact BK324.out⟩, ⟨by (with_reducible repeat (first | refine zm_ ?_ _ | refine zn_ ?_ | refine zo_ ?_ _)); exact BK334.out⟩, ⟨by (with_reducible repeat (first | refine zm_ ?_ _ | refine zn_ ?_ | refine zo_ ?_ _)); exact BK341.out⟩, ⟨by (with_reducible repeat (first | refine zm_ ?_ _ | refine zn_ ?_ | refine zo_ ?_ _)); exact BK349.out⟩, ⟨by (with_reducible repeat (first | refine zm_ ?_ _ | refine zn_ ?_ | refine zo_ ?_ _)); exact BK357.out⟩, ⟨by repeat (first | (with_reducible first | exact HB.out | apply zs_ | apply zt_ | apply zu_ | refine zr_ ?_ GE323.out | refine zr_ ?_ GE324.out | refine zr_ ?_ GE334.out | refine zr_ ?_ GE341.out | refine zr_ ?_ GE349.out | refine zr_ ?_ GE357.out) | exact HB.out)⟩⟩
                              · rw [if_neg c95] at H
                                exact absurd H (by simp)
                            · rw [if_neg c94] at H
                              exact absurd H (by simp)
                      · rw [if_neg c86] at H
                        exact absurd H (by simp)
                    · rw [if_neg c85] at H
                      exact absurd H (by simp)
                  · rw [if_neg c84] at H
                    have c84b0 : decide (x96_3 < (l0_2.length : Int)) = false := decide_eq_false c84
                    clear c84
                    replace H := Option.bind_eq_some_iff.mp H
                    obtain ⟨t362, A970, H⟩ := H
                    replace H : (some t362) = some r := H
                    have A97 := Aside0.mk A970
                    clear A970
                    obtain rfl := Option.some.inj H
                    go_wp2_with (first | ((with_reducible refine gate_callee (f := 9) rfl ?_); refine goesL_ (some 138) rfl rfl Try.func9 (by kernel_rfl) rfl #[] rfl (by (try simp only [List.map_toArray, List.map_cons, List.map_nil]); first | done | rfl | (simp only [List.length_drop, List.length_take]; rfl)) ?_; (with_reducible refine (quietuslaw25_sanity.calls k3  t362 _ A97.out).mono ?_); rintro e w98 ⟨rfl, hb⟩; refine ⟨_, rfl, ?_⟩; have n0_ := Aside0.mk (Kd.R_below (by (with_reducible repeat (first | apply za_ | apply zb_ | apply zc_)); exact HO_335002.out) hb); have n1_ := Aside0.mk (Kd.R_below (by (with_reducible repeat (first | apply za_ | apply zb_ | apply zc_)); exact HO_342002.out) hb); have n2_ := Aside0.mk (Kd.R_below (by (with_reducible repeat (first | apply za_ | apply zb_ | apply zc_)); exact HO_350003.out) hb); have n3_ := Aside0.mk (Kd.R_below (by (with_reducible repeat (first | apply za_ | apply zb_ | apply zc_)); exact HO_358003.out) hb); have n4_ := Aside0.mk (zq_ (g := gb323) (o := .cells #[.int .i64 a0_0, .int .i64 a0_1, .slice A0_2 l0_2.length c0_2] 24 (0, 0)) (by (with_reducible repeat (first | refine zm_ ?_ _ | refine zn_ ?_ | refine zo_ ?_ _)); exact BK323.out) hb); have n5_ := Aside0.mk (zq_ (g := gb324) (o := .cells #[.int .i64 a1_0, .int .i64 a1_1] 25 (0, 0)) (by (with_reducible repeat (first | refine zm_ ?_ _ | refine zn_ ?_ | refine zo_ ?_ _)); exact BK324.out) hb); have n6_ := Aside0.mk (zq_ (g := gb334) (o := .cells #[.int .i64 t328, .int .i64 t329, .slice Ao31 t330.length co31] 24 (0, 0)) (by (with_reducible repeat (first | refine zm_ ?_ _ | refine zn_ ?_ | refine zo_ ?_ _)); exact BK334.out) hb); have n7_ := Aside0.mk (zq_ (g := gb341) (o := .cells #[.int .i64 t335, .int .i64 t336, .slice Ao40 t337.length co40] 24 (0, 0)) (by (with_reducible repeat (first | refine zm_ ?_ _ | refine zn_ ?_ | refine zo_ ?_ _)); exact BK341.out) hb); have n8_ := Aside0.mk (zq_ (g := gb349) (o := .cells #[.string t342, .int .i64 t343, .int .i64 t344, .slice Ao50 t345.length co50, .int .i64 t348] 34 (0, 0)) (by (with_reducible repeat (first | refine zm_ ?_ _ | refine zn_ ?_ | refine zo_ ?_ _)); exact BK349.out) hb); have n9_ := Aside0.mk (zq_ (g := gb357) (o := .cells #[.string t350, .int .i64 t351, .int .i64 t352, .slice Ao61 t353.length co61, .int .i64 t356] 34 (0, 0)) (by (with_reducible repeat (first | refine zm_ ?_ _ | refine zn_ ?_ | refine zo_ ?_ _)); exact BK357.out) hb); have n10_ := Aside0.mk (zv_ (by repeat (first | (with_reducible first | exact HB.out | apply zs_ | apply zt_ | apply zu_ | refine zr_ ?_ GE323.out | refine zr_ ?_ GE324.out | refine zr_ ?_ GE334.out | refine zr_ ?_ GE341.out | refine zr_ ?_ GE349.out | refine zr_ ?_ GE357.out) | exact HB.out)) hb); clear HO_335002; clear HO_342002; clear HO_350003; clear HO_358003; clear BK323; clear BK324; clear BK334; clear BK341; clear BK349; clear BK357; clear HB; have HO_335002 := n0_; have HO_342002 := n1_; have HO_350003 := n2_; have HO_358003 := n3_; have BK323 := n4_; have BK324 := n5_; have BK334 := n6_; have BK341 := n7_; have BK349 := n8_; have BK357 := n9_; have HB := n10_; clear n0_ n1_ n2_ n3_ n4_ n5_ n6_ n7_ n8_ n9_ n10_; (try clear hb); (try clear hb2); (try clear hk); (try clear hi)))
                    go_ret
                    exact ⟨by first | rfl | (simp [errW_none, errW_some] <;> rfl) | (simp [*, errW_none, errW_some] <;> rfl), by repeat (first | (with_reducible first | exact HB.out | apply zs_ | apply zt_ | apply zu_ | refine zr_ ?_ GE323.out | refine zr_ ?_ GE324.out | refine zr_ ?_ GE334.out | refine zr_ ?_ GE341.out | refine zr_ ?_ GE349.out | refine zr_ ?_ GE357.out) | exact HB.out)⟩

end Go.Proofs.Ytgfnllaajaoljaa.QA
