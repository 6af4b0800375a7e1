-- WRITTEN BY qprint.py, a program of this session (the kit's print, driven with contracts proved by hand): Lean checks it.
import Derived.Test.YtgfnllaajaoljaaQA0
import Derived.Test.YtgfnllaajaoljaaQA1
import Derived.Test.YtgfnllaajaoljaaQA2
import Derived.Test.YtgfnllaajaoljaaQA3
import Derived.Test.YtgfnllaajaoljaaQA5
namespace Go.Proofs.Ytgfnllaajaoljaa.QA
open Go.RowKit Go.Proofs.YtgfnllaajaoljaaW.PrintWords Go.Proofs.YtgfnllaajaoljaaW.PrintLast Go.Proofs.YtgfnllaajaoljaaW.PrintMore
attribute [local go_sem] max2_int min2_int max_two min_two max_three min_three max_four min_four   -- for this text's walks alone
set_option linter.unusedVariables false
set_option linter.unusedSimpArgs false

open Go.Proofs.YtgfnllaajaoljaaW.PrintWords.Kd renaming R_alloc → za_, R_drewN → zb_, R_drew → zc_, R_mono → zd_, R_far → ze_, R_types → zf_, R_lower → zg_, R_new' → zh_, R_lt → zi_, R_elder' → zj_, R_base → zk_, R_reads' → zl_
open Go.Proofs.YtgfnllaajaoljaaW.PrintWords renaming blk_drewN → zm_, blk_drew → zn_, blk_alloc → zo_, blk_far → zp_, blk_below → zq_, below_set → zr_, below_alloc → zs_, pw_below_drewN → zt_, below_drew1 → zu_, below_step → zv_, below_size → zw_
/-! ### quietuslaw25_PadsAreForgotten: function 7 -/
mutual
def quietuslaw25_PadsAreForgotten.j0 : Nat → Int → ByteArray → ByteArray → Bool → Int → Int → List ByteArray → Option (Bool)
  | 0, _, _, _, _, _, _, _ => none
  | k + 1, x1, x2, x3, x41, x435000, x435001, x435002 => if x41 = true then ((quietuslaw25_sanity.f k).bind fun t436 => (some t436)) else (if (x435002.length : Int) = 0 then (none) else (if 0 ≤ (Int.tmod (wrap64 (x1)) (x435002.length : Int)) then (if (Int.tmod (wrap64 (x1)) (x435002.length : Int)) < (x435002.length : Int) then (if (rdOf ByteArray.empty x435002 (Int.tmod (wrap64 (x1)) (x435002.length : Int))).toList = ([] : List UInt8) then (quietuslaw25_PadsAreForgotten.j1 k x2 x3 (Int.tmod (wrap64 (x1)) (x435002.length : Int)) true x435000 x435001 x435002) else (if x2.toList = ([] : List UInt8) then (quietuslaw25_PadsAreForgotten.j1 k x2 x3 (Int.tmod (wrap64 (x1)) (x435002.length : Int)) true x435000 x435001 x435002) else (if (x3.size : Int) > ((rdOf ByteArray.empty x435002 (Int.tmod (wrap64 (x1)) (x435002.length : Int))).size : Int) then (quietuslaw25_PadsAreForgotten.j1 k x2 x3 (Int.tmod (wrap64 (x1)) (x435002.length : Int)) true x435000 x435001 x435002) else (quietuslaw25_PadsAreForgotten.j1 k x2 x3 (Int.tmod (wrap64 (x1)) (x435002.length : Int)) (decide ((x3.size : Int) > (x2.size : Int))) x435000 x435001 x435002)))) else (none)) else (none)))
def quietuslaw25_PadsAreForgotten.j1 : Nat → ByteArray → ByteArray → Int → Bool → Int → Int → List ByteArray → Option (Bool)
  | 0, _, _, _, _, _, _, _ => none
  | k + 1, x2, x3, x9, x76, x435000, x435001, x435002 => if x76 = true then ((quietuslaw25_sanity.f k).bind fun t439 => (some t439)) else ((some (([] : List ByteArray) : List ByteArray)).bind fun y441 => (if y441.length + x435002.length < 8796093022208 then ((some (y441 ++ x435002 : List ByteArray)).bind fun y444 => (if 0 ≤ x9 then (if x9 < (y444.length : Int) then ((some (y444.set (x9 : Int).toNat x2 : List ByteArray)).bind fun y447 => (if (Int.tmod x9 2) = 1 then (quietuslaw25_PadsAreForgotten.j2 k x2 x3 x9 x435001 x435000 x435001 x435002 x435000 x435001 y447) else (quietuslaw25_PadsAreForgotten.j2 k x2 x3 x9 x435000 x435000 x435001 x435002 x435000 x435001 y447))) else (none)) else (none))) else (none)))
def quietuslaw25_PadsAreForgotten.j2 : Nat → ByteArray → ByteArray → Int → Int → Int → Int → List ByteArray → Int → Int → List ByteArray → Option (Bool)
  | 0, _, _, _, _, _, _, _, _, _, _ => none
  | k + 1, x2, x3, x9, x11, x435000, x435001, x435002, x441000, x441001, x441002 => (pad_Use.f k x435000 x435001 x435002 x11 x9 x3).bind fun bt448 => ((pad_Use.f k x441000 x441001 x441002 x11 x9 x3).bind fun bt456 => ((pad_Spend.f x435000 x435001 x435002 x9).bind fun bt464 => ((pad_Spend.f x441000 x441001 x441002 x9).bind fun bt471 => (if bt448.2.2.2.2 = 0 then (if bt456.2.2.2.2 = 0 then (if bt464.2.2.2 = 0 then (if bt471.2.2.2 = 0 then ((quietusref25_Same.f k bt448.2.1 bt448.2.2.1 bt448.2.2.2.1 bt456.2.1 bt456.2.2.1 bt456.2.2.2.1).bind fun t478 => (if t478 = true then ((quietusref25_Same.f k bt464.1 bt464.2.1 bt464.2.2.1 bt471.1 bt471.2.1 bt471.2.2.1).bind fun t479 => (if t479 = true then ((quietusref25_Same.f k bt448.2.1 bt448.2.2.1 bt448.2.2.2.1 bt464.1 bt464.2.1 bt464.2.2.1).bind fun t480 => (quietuslaw25_PadsAreForgotten.j3 k x2 x3 x9 bt448.1 bt456.1 (!t480) x435000 x435001 x435002)) else (none))) else (none))) else (none)) else (none)) else (none)) else (none)))))
def quietuslaw25_PadsAreForgotten.j3 : Nat → ByteArray → ByteArray → Int → ByteArray → ByteArray → Bool → Int → Int → List ByteArray → Option (Bool)
  | 0, _, _, _, _, _, _, _, _, _ => none
  | k + 1, x2, x3, x9, x12, x15, x157, x435000, x435001, x435002 => if x157 = true then (none) else ((quietuslaw25_sanity.f k).bind fun t481 => (if t481 = true then ((gf_Sum.f x12 x15).bind fun t482 => (if 0 ≤ x9 then (if x9 < (x435002.length : Int) then (if 0 ≤ (x3.size : Int) then (if (x3.size : Int) ≤ ((rdOf ByteArray.empty x435002 x9).size : Int) then (if (x3.size : Int) ≤ (x2.size : Int) then ((gf_Sum.f ((rdOf ByteArray.empty x435002 x9).extract 0 ((x3.size : Int) : Int).toNat) (x2.extract 0 ((x3.size : Int) : Int).toNat)).bind fun t484 => (some (t482.toList == t484.toList))) else (none)) else (none)) else (none)) else (none)) else (none))) else (none)))
end
def quietuslaw25_PadsAreForgotten.f (k : Nat) (a0_0 : Int) (a0_1 : Int) (l0_2 : List ByteArray) (a1 : Int) (a2 : ByteArray) (a3 : ByteArray) : Option (Bool) := if (l0_2.length : Int) = 0 then (quietuslaw25_PadsAreForgotten.j0 k a1 a2 a3 true a0_0 a0_1 l0_2) else (if (l0_2.length : Int) > 12 then (quietuslaw25_PadsAreForgotten.j0 k a1 a2 a3 true a0_0 a0_1 l0_2) else (if (a2.size : Int) > 100 then (quietuslaw25_PadsAreForgotten.j0 k a1 a2 a3 true a0_0 a0_1 l0_2) else ((pad_Check.f a0_0 a0_1 l0_2).bind fun t435 => (quietuslaw25_PadsAreForgotten.j0 k a1 a2 a3 (t435 != 0) a0_0 a0_1 l0_2))))
theorem quietuslaw25_PadsAreForgotten.mono_l : ∀ k, (∀ y0 y1 y2 y3 y4 y5 y6, LeO (quietuslaw25_PadsAreForgotten.j0 k y0 y1 y2 y3 y4 y5 y6) (quietuslaw25_PadsAreForgotten.j0 (k + 1) y0 y1 y2 y3 y4 y5 y6)) ∧ (∀ y0 y1 y2 y3 y4 y5 y6, LeO (quietuslaw25_PadsAreForgotten.j1 k y0 y1 y2 y3 y4 y5 y6) (quietuslaw25_PadsAreForgotten.j1 (k + 1) y0 y1 y2 y3 y4 y5 y6)) ∧ (∀ y0 y1 y2 y3 y4 y5 y6 y7 y8 y9, LeO (quietuslaw25_PadsAreForgotten.j2 k y0 y1 y2 y3 y4 y5 y6 y7 y8 y9) (quietuslaw25_PadsAreForgotten.j2 (k + 1) y0 y1 y2 y3 y4 y5 y6 y7 y8 y9)) ∧ (∀ y0 y1 y2 y3 y4 y5 y6 y7 y8, LeO (quietuslaw25_PadsAreForgotten.j3 k y0 y1 y2 y3 y4 y5 y6 y7 y8) (quietuslaw25_PadsAreForgotten.j3 (k + 1) y0 y1 y2 y3 y4 y5 y6 y7 y8))
  | 0 => ⟨fun _ _ _ _ _ _ _ r h => by simp [quietuslaw25_PadsAreForgotten.j0] at h, fun _ _ _ _ _ _ _ r h => by simp [quietuslaw25_PadsAreForgotten.j1] at h, fun _ _ _ _ _ _ _ _ _ _ r h => by simp [quietuslaw25_PadsAreForgotten.j2] at h, fun _ _ _ _ _ _ _ _ _ r h => by simp [quietuslaw25_PadsAreForgotten.j3] at h⟩
  | k + 1 => by
    obtain ⟨ih0, ih1, ih2, ih3⟩ := quietuslaw25_PadsAreForgotten.mono_l k
    refine ⟨?_, ?_, ?_, ?_⟩
    · intro y0 y1 y2 y3 y4 y5 y6
      unfold quietuslaw25_PadsAreForgotten.j0
      repeat' first
      | (with_reducible exact ih0 _ _ _ _ _ _ _)
      | (with_reducible exact ih1 _ _ _ _ _ _ _)
      | (with_reducible exact ih2 _ _ _ _ _ _ _ _ _ _)
      | (with_reducible exact ih3 _ _ _ _ _ _ _ _ _)
      | (with_reducible exact pad_Use.mono _ _ _ _ _ _ _)
      | (with_reducible exact quietuslaw25_sanity.mono _)
      | (with_reducible exact quietusref25_Same.mono _ _ _ _ _ _ _)
      | (with_reducible exact LeO.refl _)
      | (with_reducible exact LeO.none _)
      | (with_reducible refine LeO.ite ?_ ?_)
      | (with_reducible refine LeO.bind ?_ (fun _ => ?_))
      | exact ih0 _ _ _ _ _ _ _
      | exact ih1 _ _ _ _ _ _ _
      | exact ih2 _ _ _ _ _ _ _ _ _ _
      | exact ih3 _ _ _ _ _ _ _ _ _
      | exact pad_Use.mono _ _ _ _ _ _ _
      | exact quietuslaw25_sanity.mono _
      | exact quietusref25_Same.mono _ _ _ _ _ _ _
      | exact LeO.none _
      | refine LeO.ite ?_ ?_
      | refine LeO.bind ?_ (fun _ => ?_)
    · intro y0 y1 y2 y3 y4 y5 y6
      unfold quietuslaw25_PadsAreForgotten.j1
      repeat' first
      | (with_reducible exact ih0 _ _ _ _ _ _ _)
      | (with_reducible exact ih1 _ _ _ _ _ _ _)
      | (with_reducible exact ih2 _ _ _ _ _ _ _ _ _ _)
      | (with_reducible exact ih3 _ _ _ _ _ _ _ _ _)
      | (with_reducible exact pad_Use.mono _ _ _ _ _ _ _)
      | (with_reducible exact quietuslaw25_sanity.mono _)
      | (with_reducible exact quietusref25_Same.mono _ _ _ _ _ _ _)
      | (with_reducible exact LeO.refl _)
      | (with_reducible exact LeO.none _)
      | (with_reducible refine LeO.ite ?_ ?_)
      | (with_reducible refine LeO.bind ?_ (fun _ => ?_))
      | exact ih0 _ _ _ _ _ _ _
      | exact ih1 _ _ _ _ _ _ _
      | exact ih2 _ _ _ _ _ _ _ _ _ _
      | exact ih3 _ _ _ _ _ _ _ _ _
      | exact pad_Use.mono _ _ _ _ _ _ _
      | exact quietuslaw25_sanity.mono _
      | exact quietusref25_Same.mono _ _ _ _ _ _ _
      | exact LeO.none _
      | refine LeO.ite ?_ ?_
      | refine LeO.bind ?_ (fun _ => ?_)
    · intro y0 y1 y2 y3 y4 y5 y6 y7 y8 y9
      unfold quietuslaw25_PadsAreForgotten.j2
      repeat' first
      | (with_reducible exact ih0 _ _ _ _ _ _ _)
      | (with_reducible exact ih1 _ _ _ _ _ _ _)
      | (with_reducible exact ih2 _ _ _ _ _ _ _ _ _ _)
      | (with_reducible exact ih3 _ _ _ _ _ _ _ _ _)
      | (with_reducible exact pad_Use.mono _ _ _ _ _ _ _)
      | (with_reducible exact quietuslaw25_sanity.mono _)
      | (with_reducible exact quietusref25_Same.mono _ _ _ _ _ _ _)
      | (with_reducible exact LeO.refl _)
      | (with_reducible exact LeO.none _)
      | (with_reducible refine LeO.ite ?_ ?_)
      | (with_reducible refine LeO.bind ?_ (fun _ => ?_))
      | exact ih0 _ _ _ _ _ _ _
      | exact ih1 _ _ _ _ _ _ _
      | exact ih2 _ _ _ _ _ _ _ _ _ _
      | exact ih3 _ _ _ _ _ _ _ _ _
      | exact pad_Use.mono _ _ _ _ _ _ _
      | exact quietuslaw25_sanity.mono _
      | exact quietusref25_Same.mono _ _ _ _ _ _ _
      | exact LeO.none _
      | refine LeO.ite ?_ ?_
      | refine LeO.bind ?_ (fun _ => ?_)
    · intro y0 y1 y2 y3 y4 y5 y6 y7 y8
      unfold quietuslaw25_PadsAreForgotten.j3
      repeat' first
      | (with_reducible exact ih0 _ _ _ _ _ _ _)
      | (with_reducible exact ih1 _ _ _ _ _ _ _)
      | (with_reducible exact ih2 _ _ _ _ _ _ _ _ _ _)
      | (with_reducible exact ih3 _ _ _ _ _ _ _ _ _)
      | (with_reducible exact pad_Use.mono _ _ _ _ _ _ _)
      | (with_reducible exact quietuslaw25_sanity.mono _)
      | (with_reducible exact quietusref25_Same.mono _ _ _ _ _ _ _)
      | (with_reducible exact LeO.refl _)
      | (with_reducible exact LeO.none _)
      | (with_reducible refine LeO.ite ?_ ?_)
      | (with_reducible refine LeO.bind ?_ (fun _ => ?_))
      | exact ih0 _ _ _ _ _ _ _
      | exact ih1 _ _ _ _ _ _ _
      | exact ih2 _ _ _ _ _ _ _ _ _ _
      | exact ih3 _ _ _ _ _ _ _ _ _
      | exact pad_Use.mono _ _ _ _ _ _ _
      | exact quietuslaw25_sanity.mono _
      | exact quietusref25_Same.mono _ _ _ _ _ _ _
      | exact LeO.none _
      | refine LeO.ite ?_ ?_
      | refine LeO.bind ?_ (fun _ => ?_)
theorem quietuslaw25_PadsAreForgotten.mono : ∀ a0 a1 a2 a3 a4 a5 k, LeO (quietuslaw25_PadsAreForgotten.f k a0 a1 a2 a3 a4 a5) (quietuslaw25_PadsAreForgotten.f (k + 1) a0 a1 a2 a3 a4 a5) := by
  intro a0 a1 a2 a3 a4 a5 k
  obtain ⟨ih0, ih1, ih2, ih3⟩ := quietuslaw25_PadsAreForgotten.mono_l k
  unfold quietuslaw25_PadsAreForgotten.f
  repeat' first
      | (with_reducible exact ih0 _ _ _ _ _ _ _)
      | (with_reducible exact ih1 _ _ _ _ _ _ _)
      | (with_reducible exact ih2 _ _ _ _ _ _ _ _ _ _)
      | (with_reducible exact ih3 _ _ _ _ _ _ _ _ _)
      | (with_reducible exact pad_Use.mono _ _ _ _ _ _ _)
      | (with_reducible exact quietuslaw25_sanity.mono _)
      | (with_reducible exact quietusref25_Same.mono _ _ _ _ _ _ _)
      | (with_reducible exact LeO.refl _)
      | (with_reducible exact LeO.none _)
      | (with_reducible refine LeO.ite ?_ ?_)
      | (with_reducible refine LeO.bind ?_ (fun _ => ?_))
      | exact ih0 _ _ _ _ _ _ _
      | exact ih1 _ _ _ _ _ _ _
      | exact ih2 _ _ _ _ _ _ _ _ _ _
      | exact ih3 _ _ _ _ _ _ _ _ _
      | exact pad_Use.mono _ _ _ _ _ _ _
      | exact quietuslaw25_sanity.mono _
      | exact quietusref25_Same.mono _ _ _ _ _ _ _
      | exact LeO.none _
      | refine LeO.ite ?_ ?_
      | refine LeO.bind ?_ (fun _ => ?_)
def quietuslaw25_PadsAreForgotten.T18 : Bool × List (List Nat × List Nat) := (true, [([], []), ([0, 0], [0]), ([1], [1]), ([1], [1]), ([2, 3, 1, 1], [1, 2, 3]), ([1], [1]), ([5, 1], [1, 5]), ([1], [1]), ([6, 7, 1], [1, 6, 7]), ([8, 1], [1, 8]), ([1], [1]), ([10, 1], [1, 10]), ([9, 11, 1], [1, 9, 11]), ([1], [1]), ([1], [1]), ([14, 1], [1, 14]), ([13, 15, 1], [1, 13, 15]), ([12, 16, 4, 1], [1, 12, 16]), ([4, 17, 1], [1, 4, 17]), ([1, 18], [1, 18]), ([19, 17, 0, 1, 2, 3, 4, 5, 6, 7, 8, 9, 10, 11, 12, 13, 14, 15, 16, 17, 18, 19], [19])])
def quietuslaw25_PadsAreForgotten.B18 : List Nat := [0, 1, 3, 3, 15, 3, 35, 3, 227, 483, 3, 1027, 4067, 3, 3, 16387, 57347, 131071, 262143, 524287, 1048575]
theorem quietuslaw25_PadsAreForgotten.tab18 : rtab .any (opsOf Try.f7 18) = quietuslaw25_PadsAreForgotten.T18 := by kernel_rfl
theorem quietuslaw25_PadsAreForgotten.bits18 : waitsOk quietuslaw25_PadsAreForgotten.T18.2 quietuslaw25_PadsAreForgotten.B18 = true := by kernel_rfl
set_option maxHeartbeats 8000000 in
set_option maxRecDepth 100000 in
theorem quietuslaw25_PadsAreForgotten.calls (k : Nat) (a0_0 : Int) (a0_1 : Int) (A0_2 : Option Addr) (c0_2 : Nat) (l0_2 : List ByteArray) (a1 : Int) (a2 : ByteArray) (a3 : ByteArray) (r : Bool) (w : World) (hr0_2 : Kd.C Kd.string w A0_2 l0_2.length l0_2) (hc0_2 : l0_2.length ≤ c0_2) (h : quietuslaw25_PadsAreForgotten.f k a0_0 a0_1 l0_2 a1 a2 a3 = some r) :
    Calls Try.prog 7 #[.agg #[.int .i64 a0_0, .int .i64 a0_1, .slice A0_2 l0_2.length c0_2], .int .u8 a1, .string a2, .string a3] w fun e w' => e = .returned (.bool r) ∧ Below w.heap.size w w' := by
  have hu24 := Try.underlying24
  have HR0_2 := Aside0.mk hr0_2
  have HC0_2 := Aside0.mk hc0_2
  clear hr0_2 hc0_2
  have HB := Aside0.mk (Below.refl w.heap.size w)
  have H : (if (l0_2.length : Int) = 0 then (quietuslaw25_PadsAreForgotten.j0 k a1 a2 a3 true a0_0 a0_1 l0_2) else (if (l0_2.length : Int) > 12 then (quietuslaw25_PadsAreForgotten.j0 k a1 a2 a3 true a0_0 a0_1 l0_2) else (if (a2.size : Int) > 100 then (quietuslaw25_PadsAreForgotten.j0 k a1 a2 a3 true a0_0 a0_1 l0_2) else ((pad_Check.f a0_0 a0_1 l0_2).bind fun t435 => (quietuslaw25_PadsAreForgotten.j0 k a1 a2 a3 (t435 != 0) a0_0 a0_1 l0_2))))) = some r := h
  clear h
  have HC5 := Aside0.mk H
  clear H
  go_enter Try.func7, Try.ntmps7
  go_upto_region 1 with (first | ((with_reducible refine gate_dst (N := 4) rfl ?_); (try (refine gate_guard (by rfl) ?_; dsimp only)); refine box_event ?hg (N := 4) ?hd (cs := #[.int .i64 a0_0, .int .i64 a0_1, .slice A0_2 l0_2.length c0_2]) (t := 24) ?hr ?_; (case hd => rfl); (case hg => rfl); (case hr => first | (go_simp; done) | (go_simp; rfl)); intro gb434 hg w6 hbox hb; have n0_ := Aside0.mk (zv_ (by repeat (first | (with_reducible first | exact HB.out | apply zs_ | apply zt_ | apply zu_) | exact HB.out)) hb); have n1_ := Aside0.mk (hbox); have n2_ := Aside0.mk ((by rw [hg]; exact (zw_ (by repeat (first | (with_reducible first | exact HB.out | apply zs_ | apply zt_ | apply zu_) | exact HB.out))) : w.heap.size ≤ gb434)); have n3_ := Aside0.mk ((by rw [hg]; exact (zw_ (by repeat (first | (with_reducible first | exact HB.out | apply zs_ | apply zt_ | apply zu_) | exact HB.out))) : w.heap.size ≤ gb434)); clear HB; have HB := n0_; have BK434 := n1_; have GW434 := n2_; have GE434 := n3_; clear n0_ n1_ n2_ n3_; clear hb hbox hg))
  (try simp only [Act.put, List.setIfInBounds_toArray, List.set_cons_zero, List.set_cons_succ])
  go_cut [41] (fun v41 wc => ∃ (kq : Nat) (x41_4 : Bool), v41 = .bool x41_4 ∧ Aside0 (quietuslaw25_PadsAreForgotten.j0 kq a1 a2 a3 x41_4 a0_0 a0_1 l0_2 = some r) ∧ Aside0 (kq ≤ k) ∧ Aside0 (wc.heap[gb434]? = some (.cells #[.int .i64 a0_0, .int .i64 a0_1, (.slice A0_2 l0_2.length c0_2)] 24 (0, 0))) ∧ Aside0 (Below w.heap.size w wc))
  case first =>
    have H := HC5.out
    clear HC5
    by_cases c7 : (l0_2.length : Int) = 0
    · rw [if_pos c7] at H
      have c7b0 : ((l0_2.length : Int) == 0) = true := beq_iff_eq.mpr c7
      have c7b1 : ((l0_2.length : Int) != 0) = false := bne_eq_false_iff_eq.mpr c7
      clear c7
      (first | rw [c7b0] | (simp only [i64_w, i32_w]; rw [c7b0]) | rw [c7b1] | skip)
      have H' := Aside0.mk H
      clear H
      have hcz8_0 : w6.cell? ⟨gb434, 0, none⟩ = some (.int .i64 a0_0) := (blk_cell BK434.out 0).trans rfl
      have hcz8_1 : w6.cell? ⟨gb434, 1, none⟩ = some (.int .i64 a0_1) := (blk_cell BK434.out 1).trans rfl
      have hcz8_2 : w6.cell? ⟨gb434, 2, none⟩ = some (.slice A0_2 l0_2.length c0_2) := (blk_cell BK434.out 2).trans rfl
      have hfz8_0 := blk_frozen BK434.out 0
      have hfz8_1 := blk_frozen BK434.out 1
      have hfz8_2 := blk_frozen BK434.out 2
      go_wp2
      first | go_meet | (simp only [← hji22]; go_meet) | (simp only [hji22]; go_meet) | (simp only [← hji36]; go_meet) | (simp only [hji36]; go_meet)
      case rel => exact ⟨_, (true), (by first | rfl | (simp; done) | (simp [*]; done)), (by first | exact H' | (simp only [hji22, hji36]; exact H') | (rw [hji22]; exact H') | (rw [hji36]; exact H')), ⟨by first | omega | exact Nat.le_refl _⟩, ⟨by (with_reducible repeat (first | refine zm_ ?_ _ | refine zn_ ?_ | refine zo_ ?_ _)); exact BK434.out⟩, ⟨by repeat (first | (with_reducible first | exact HB.out | apply zs_ | apply zt_ | apply zu_ | refine zr_ ?_ GE434.out) | exact HB.out)⟩⟩
    · rw [if_neg c7] at H
      have c7b0 : ((l0_2.length : Int) == 0) = false := beq_eq_false_iff_ne.mpr c7
      have c7b1 : ((l0_2.length : Int) != 0) = true := bne_iff_ne.mpr c7
      have c7b2 : ¬ (l0_2 = []) := fun h_ => c7 (by rw [h_]; rfl)
      (first | rw [c7b0] | (simp only [i64_w, i32_w]; rw [c7b0]) | rw [c7b1] | skip)
      by_cases c9 : (l0_2.length : Int) > 12
      · rw [if_pos c9] at H
        have c9b0 : decide (12 < (l0_2.length : Int)) = true := decide_eq_true c9
        have c9b1 : decide (12 < l0_2.length) = true := decide_eq_true (by omega)
        clear c9
        have H' := Aside0.mk H
        clear H
        have hcz10_0 : w6.cell? ⟨gb434, 0, none⟩ = some (.int .i64 a0_0) := (blk_cell BK434.out 0).trans rfl
        have hcz10_1 : w6.cell? ⟨gb434, 1, none⟩ = some (.int .i64 a0_1) := (blk_cell BK434.out 1).trans rfl
        have hcz10_2 : w6.cell? ⟨gb434, 2, none⟩ = some (.slice A0_2 l0_2.length c0_2) := (blk_cell BK434.out 2).trans rfl
        have hfz10_0 := blk_frozen BK434.out 0
        have hfz10_1 := blk_frozen BK434.out 1
        have hfz10_2 := blk_frozen BK434.out 2
        go_wp2
        first | go_meet | (simp only [← hji22]; go_meet) | (simp only [hji22]; go_meet) | (simp only [← hji36]; go_meet) | (simp only [hji36]; go_meet)
        case rel => exact ⟨_, (true), (by first | rfl | (simp; done) | (simp [*]; done)), (by first | exact H' | (simp only [hji22, hji36]; exact H') | (rw [hji22]; exact H') | (rw [hji36]; exact H')), ⟨by first | omega | exact Nat.le_refl _⟩, ⟨by (with_reducible repeat (first | refine zm_ ?_ _ | refine zn_ ?_ | refine zo_ ?_ _)); exact BK434.out⟩, ⟨by repeat (first | (with_reducible first | exact HB.out | apply zs_ | apply zt_ | apply zu_ | refine zr_ ?_ GE434.out) | exact HB.out)⟩⟩
      · rw [if_neg c9] at H
        have c9b0 : decide (12 < (l0_2.length : Int)) = false := decide_eq_false c9
        have c9b1 : decide (12 < l0_2.length) = false := decide_eq_false (by omega)
        clear c9
        by_cases c11 : (a2.size : Int) > 100
        · rw [if_pos c11] at H
          have c11b0 : decide (100 < (a2.size : Int)) = true := decide_eq_true c11
          have c11b1 : decide (100 < a2.size) = true := decide_eq_true (by omega)
          clear c11
          have H' := Aside0.mk H
          clear H
          have hcz12_0 : w6.cell? ⟨gb434, 0, none⟩ = some (.int .i64 a0_0) := (blk_cell BK434.out 0).trans rfl
          have hcz12_1 : w6.cell? ⟨gb434, 1, none⟩ = some (.int .i64 a0_1) := (blk_cell BK434.out 1).trans rfl
          have hcz12_2 : w6.cell? ⟨gb434, 2, none⟩ = some (.slice A0_2 l0_2.length c0_2) := (blk_cell BK434.out 2).trans rfl
          have hfz12_0 := blk_frozen BK434.out 0
          have hfz12_1 := blk_frozen BK434.out 1
          have hfz12_2 := blk_frozen BK434.out 2
          go_wp2
          first | go_meet | (simp only [← hji22]; go_meet) | (simp only [hji22]; go_meet) | (simp only [← hji36]; go_meet) | (simp only [hji36]; go_meet)
          case rel => exact ⟨_, (true), (by first | rfl | (simp; done) | (simp [*]; done)), (by first | exact H' | (simp only [hji22, hji36]; exact H') | (rw [hji22]; exact H') | (rw [hji36]; exact H')), ⟨by first | omega | exact Nat.le_refl _⟩, ⟨by (with_reducible repeat (first | refine zm_ ?_ _ | refine zn_ ?_ | refine zo_ ?_ _)); exact BK434.out⟩, ⟨by repeat (first | (with_reducible first | exact HB.out | apply zs_ | apply zt_ | apply zu_ | refine zr_ ?_ GE434.out) | exact HB.out)⟩⟩
        · rw [if_neg c11] at H
          have c11b0 : decide (100 < (a2.size : Int)) = false := decide_eq_false c11
          have c11b1 : decide (100 < a2.size) = false := decide_eq_false (by omega)
          clear c11
          replace H := Option.bind_eq_some_iff.mp H
          obtain ⟨t435, A130, H⟩ := H
          replace H : (quietuslaw25_PadsAreForgotten.j0 k a1 a2 a3 (t435 != 0) a0_0 a0_1 l0_2) = some r := H
          have A13 := Aside0.mk A130
          clear A130
          have H' := Aside0.mk H
          clear H
          have hcz14_0 : w6.cell? ⟨gb434, 0, none⟩ = some (.int .i64 a0_0) := (blk_cell BK434.out 0).trans rfl
          have hcz14_1 : w6.cell? ⟨gb434, 1, none⟩ = some (.int .i64 a0_1) := (blk_cell BK434.out 1).trans rfl
          have hcz14_2 : w6.cell? ⟨gb434, 2, none⟩ = some (.slice A0_2 l0_2.length c0_2) := (blk_cell BK434.out 2).trans rfl
          have hfz14_0 := blk_frozen BK434.out 0
          have hfz14_1 := blk_frozen BK434.out 1
          have hfz14_2 := blk_frozen BK434.out 2
          go_wp2_with (first | (go_at_call 14; (with_reducible refine (pad_Check.calls a0_0 a0_1 _ _ l0_2 t435 _ ?side1 ?side2 A13.out).mono ?_); (case side1 => repeat (first | exact (Kd.C_below HR0_2.out HB.out) | (with_reducible refine Kd.C_alloc ?_ _) | (with_reducible refine Kd.C_drewN ?_ _) | (with_reducible refine Kd.C_drew ?_))); (case side2 => exact HC0_2.out); rintro e w15 ⟨rfl, hb⟩; have n0_ := Aside0.mk (zq_ (g := gb434) (o := .cells #[.int .i64 a0_0, .int .i64 a0_1, .slice A0_2 l0_2.length c0_2] 24 (0, 0)) (by (with_reducible repeat (first | refine zm_ ?_ _ | refine zn_ ?_ | refine zo_ ?_ _)); exact BK434.out) hb); have n1_ := Aside0.mk (zv_ (by repeat (first | (with_reducible first | exact HB.out | apply zs_ | apply zt_ | apply zu_ | refine zr_ ?_ GE434.out) | exact HB.out)) hb); clear BK434; clear HB; have BK434 := n0_; have HB := n1_; clear n0_ n1_; (try clear hb); (try clear hb2); (try clear hk); (try clear hi)))
          first | go_meet | (simp only [← hji22]; go_meet) | (simp only [hji22]; go_meet) | (simp only [← hji36]; go_meet) | (simp only [hji36]; go_meet)
          case rel => exact ⟨_, ((t435 != 0)), (by first | rfl | (simp; done) | (simp [*]; done)), (by first | exact H' | (simp only [hji22, hji36]; exact H') | (rw [hji22]; exact H') | (rw [hji36]; exact H')), ⟨by first | omega | exact Nat.le_refl _⟩, ⟨by (with_reducible repeat (first | refine zm_ ?_ _ | refine zn_ ?_ | refine zo_ ?_ _)); exact BK434.out⟩, ⟨by repeat (first | (with_reducible first | exact HB.out | apply zs_ | apply zt_ | apply zu_ | refine zr_ ?_ GE434.out) | exact HB.out)⟩⟩
  case rest =>
    clear HC5
    try clear c1
    try clear p2
    try clear c7
    try clear c7b0
    try clear c7b1
    try clear c7b2
    try clear c9
    try clear c9b0
    try clear c9b1
    try clear c11
    try clear c11b0
    try clear c11b1
    try clear hcz10_0
    try clear hcz10_1
    try clear hcz10_2
    try clear hcz12_0
    try clear hcz12_1
    try clear hcz12_2
    try clear hcz14_0
    try clear hcz14_1
    try clear hcz14_2
    try clear hcz8_0
    try clear hcz8_1
    try clear hcz8_2
    try clear hfz10_0
    try clear hfz10_1
    try clear hfz10_2
    try clear hfz12_0
    try clear hfz12_1
    try clear hfz12_2
    try clear hfz14_0
    try clear hfz14_1
    try clear hfz14_2
    try clear hfz8_0
    try clear hfz8_1
    try clear hfz8_2
    obtain ⟨kq, x41_4, rfl, HA, HJ4, BK434, HB⟩ := hcut
    cases kq with
    | zero => exact absurd HA.out (by simp [quietuslaw25_PadsAreForgotten.j0])
    | succ kj4 =>
      have H := HA.out
      clear HA
      simp only [quietuslaw25_PadsAreForgotten.j0] at H
      by_cases c16 : x41_4 = true
      · subst c16
        have H1 : ((quietuslaw25_sanity.f kj4).bind fun t436 => (some t436)) = some r := by rw [if_pos rfl] at H; exact H
        clear H
        have H := H1
        clear H1
        replace H := Option.bind_eq_some_iff.mp H
        obtain ⟨t436, A170, H⟩ := H
        replace H : (some t436) = some r := H
        have A17 := Aside0.mk A170
        clear A170
        obtain rfl := Option.some.inj H
        go_wp2_with (first | ((with_reducible refine gate_callee (f := 9) rfl ?_); refine goesL_ (some 42) rfl rfl Try.func9 (by kernel_rfl) rfl #[] rfl (by (try simp only [List.map_toArray, List.map_cons, List.map_nil]); first | done | rfl | (simp only [List.length_drop, List.length_take]; rfl)) ?_; (with_reducible refine (quietuslaw25_sanity.calls kj4  t436 _ A17.out).mono ?_); rintro e w18 ⟨rfl, hb⟩; refine ⟨_, rfl, ?_⟩; have n0_ := Aside0.mk (zq_ (g := gb434) (o := .cells #[.int .i64 a0_0, .int .i64 a0_1, .slice A0_2 l0_2.length c0_2] 24 (0, 0)) (by (with_reducible repeat (first | refine zm_ ?_ _ | refine zn_ ?_ | refine zo_ ?_ _)); exact BK434.out) hb); have n1_ := Aside0.mk (zv_ (by repeat (first | (with_reducible first | exact HB.out | apply zs_ | apply zt_ | apply zu_ | refine zr_ ?_ GE434.out) | exact HB.out)) hb); clear BK434; clear HB; have BK434 := n0_; have HB := n1_; clear n0_ n1_; (try clear hb); (try clear hb2); (try clear hk); (try clear hi)))
        go_ret
        exact ⟨by first | rfl | (simp [errW_none, errW_some] <;> rfl) | (simp [*, errW_none, errW_some] <;> rfl), by repeat (first | (with_reducible first | exact HB.out | apply zs_ | apply zt_ | apply zu_ | refine zr_ ?_ GE434.out) | exact HB.out)⟩
      · replace c16 := Bool.eq_false_iff.mpr c16
        subst c16
        have H1 : (if (l0_2.length : Int) = 0 then (none) else (if 0 ≤ (Int.tmod (wrap64 (a1)) (l0_2.length : Int)) then (if (Int.tmod (wrap64 (a1)) (l0_2.length : Int)) < (l0_2.length : Int) then (if (rdOf ByteArray.empty l0_2 (Int.tmod (wrap64 (a1)) (l0_2.length : Int))).toList = ([] : List UInt8) then (quietuslaw25_PadsAreForgotten.j1 kj4 a2 a3 (Int.tmod (wrap64 (a1)) (l0_2.length : Int)) true a0_0 a0_1 l0_2) else (if a2.toList = ([] : List UInt8) then (quietuslaw25_PadsAreForgotten.j1 kj4 a2 a3 (Int.tmod (wrap64 (a1)) (l0_2.length : Int)) true a0_0 a0_1 l0_2) else (if (a3.size : Int) > ((rdOf ByteArray.empty l0_2 (Int.tmod (wrap64 (a1)) (l0_2.length : Int))).size : Int) then (quietuslaw25_PadsAreForgotten.j1 kj4 a2 a3 (Int.tmod (wrap64 (a1)) (l0_2.length : Int)) true a0_0 a0_1 l0_2) else (quietuslaw25_PadsAreForgotten.j1 kj4 a2 a3 (Int.tmod (wrap64 (a1)) (l0_2.length : Int)) (decide ((a3.size : Int) > (a2.size : Int))) a0_0 a0_1 l0_2)))) else (none)) else (none))) = some r := by rw [if_neg (show ¬ (false = true) by decide)] at H; exact H
        clear H
        have H := H1
        clear H1
        by_cases c19 : (l0_2.length : Int) = 0
        · rw [if_pos c19] at H
          exact absurd H (by simp)
        · rw [if_neg c19] at H
          have c19b0 : ((l0_2.length : Int) == 0) = false := beq_eq_false_iff_ne.mpr c19
          have c19b1 : ((l0_2.length : Int) != 0) = true := bne_iff_ne.mpr c19
          have c19b2 : ¬ (l0_2 = []) := fun h_ => c19 (by rw [h_]; rfl)
          have HC20 := Aside0.mk H
          clear H
          have hcz21_0 : wc.cell? ⟨gb434, 0, none⟩ = some (.int .i64 a0_0) := (blk_cell BK434.out 0).trans rfl
          have hcz21_1 : wc.cell? ⟨gb434, 1, none⟩ = some (.int .i64 a0_1) := (blk_cell BK434.out 1).trans rfl
          have hcz21_2 : wc.cell? ⟨gb434, 2, none⟩ = some (.slice A0_2 l0_2.length c0_2) := (blk_cell BK434.out 2).trans rfl
          have hfz21_0 := blk_frozen BK434.out 0
          have hfz21_1 := blk_frozen BK434.out 1
          have hfz21_2 := blk_frozen BK434.out 2
          go_upto_region 4 with (fail)
          go_cut [76] (fun v76 wc => ∃ (kq : Nat) (x76_19 : Bool), v76 = .bool x76_19 ∧ Aside0 (quietuslaw25_PadsAreForgotten.j1 kq a2 a3 (Int.tmod (wrap64 (a1)) (l0_2.length : Int)) x76_19 a0_0 a0_1 l0_2 = some r) ∧ Aside0 (kq ≤ kj4) ∧ Aside0 (wc.heap[gb434]? = some (.cells #[.int .i64 a0_0, .int .i64 a0_1, (.slice A0_2 l0_2.length c0_2)] 24 (0, 0))) ∧ Aside0 (Below w.heap.size w wc))
          case first =>
            have H := HC20.out
            clear HC20
            obtain ⟨ji22, hji22⟩ : ∃ j_ : Int, (Int.tmod (wrap64 (a1)) (l0_2.length : Int)) = j_ := ⟨_, rfl⟩
            replace H : (if 0 ≤ (ji22) then (if (ji22) < (l0_2.length : Int) then (if (rdOf ByteArray.empty l0_2 (ji22)).toList = ([] : List UInt8) then (quietuslaw25_PadsAreForgotten.j1 kj4 a2 a3 ji22 true a0_0 a0_1 l0_2) else (if a2.toList = ([] : List UInt8) then (quietuslaw25_PadsAreForgotten.j1 kj4 a2 a3 ji22 true a0_0 a0_1 l0_2) else (if (a3.size : Int) > ((rdOf ByteArray.empty l0_2 (ji22)).size : Int) then (quietuslaw25_PadsAreForgotten.j1 kj4 a2 a3 ji22 true a0_0 a0_1 l0_2) else (quietuslaw25_PadsAreForgotten.j1 kj4 a2 a3 ji22 (decide ((a3.size : Int) > (a2.size : Int))) a0_0 a0_1 l0_2)))) else (none)) else (none)) = some r := by first | (rw [hji22] at H; exact H) | (simp only [hji22] at H ⊢; exact H)
            by_cases c23 : 0 ≤ (ji22)
            · rw [if_pos c23] at H
              have c23b0 : decide (0 ≤ (ji22)) = true := decide_eq_true c23
              clear c23
              (first | rw [c23b0] | (simp only [i64_w, i32_w]; rw [c23b0]) | rw [c23b1] | skip)
              by_cases c24 : (ji22) < (l0_2.length : Int)
              · rw [if_pos c24] at H
                have c24b0 : decide ((ji22) < (l0_2.length : Int)) = true := decide_eq_true c24
                clear c24
                by_cases c25 : (rdOf ByteArray.empty l0_2 (ji22)).toList = ([] : List UInt8)
                · rw [if_pos c25] at H
                  have c25b0 : ((rdOf ByteArray.empty l0_2 (ji22)).toList == ([] : List UInt8)) = true := beq_iff_eq.mpr c25
                  have c25b1 : ((rdOf ByteArray.empty l0_2 (ji22)).toList != ([] : List UInt8)) = false := bne_eq_false_iff_eq.mpr c25
                  clear c25
                  have H' := Aside0.mk H
                  clear H
                  have hcz26_0 : wc.cell? ⟨gb434, 0, none⟩ = some (.int .i64 a0_0) := (blk_cell BK434.out 0).trans rfl
                  have hcz26_1 : wc.cell? ⟨gb434, 1, none⟩ = some (.int .i64 a0_1) := (blk_cell BK434.out 1).trans rfl
                  have hcz26_2 : wc.cell? ⟨gb434, 2, none⟩ = some (.slice A0_2 l0_2.length c0_2) := (blk_cell BK434.out 2).trans rfl
                  have hfz26_0 := blk_frozen BK434.out 0
                  have hfz26_1 := blk_frozen BK434.out 1
                  have hfz26_2 := blk_frozen BK434.out 2
                  have p437 : 0 ≤ ((ji22) : Int) := of_decide_eq_true (by first | (with_reducible assumption) | assumption)
                  have q437 : (ji22) < (l0_2.length : Int) := of_decide_eq_true (by first | (with_reducible assumption) | assumption)
                  obtain ⟨ad437, e437, hx437_0⟩ := Kd.at_string HR0_2.out (ji22) p437 q437
                  cases e437
                  replace hx437_0 := (HB.out.cell (World.block_lt_of_cell? w _ hx437_0)).trans hx437_0
                  replace p437 := eq_true p437
                  replace q437 := eq_true q437
                  go_wp2
                  first | go_meet | (simp only [← hji22]; go_meet) | (simp only [hji22]; go_meet) | (simp only [← hji36]; go_meet) | (simp only [hji36]; go_meet)
                  case rel => exact ⟨_, (true), (by first | rfl | (simp; done) | (simp [*]; done)), (by first | exact H' | (simp only [hji22, hji36]; exact H') | (rw [hji22]; exact H') | (rw [hji36]; exact H')), ⟨by have := HJ4.out; first | omega | exact Nat.le_refl _⟩, ⟨by (with_reducible repeat (first | refine zm_ ?_ _ | refine zn_ ?_ | refine zo_ ?_ _)); exact BK434.out⟩, ⟨by repeat (first | (with_reducible first | exact HB.out | apply zs_ | apply zt_ | apply zu_ | refine zr_ ?_ GE434.out) | exact HB.out)⟩⟩
                · rw [if_neg c25] at H
                  have c25b0 : ((rdOf ByteArray.empty l0_2 (ji22)).toList == ([] : List UInt8)) = false := beq_eq_false_iff_ne.mpr c25
                  have c25b1 : ((rdOf ByteArray.empty l0_2 (ji22)).toList != ([] : List UInt8)) = true := bne_iff_ne.mpr c25
                  by_cases c27 : a2.toList = ([] : List UInt8)
                  · rw [if_pos c27] at H
                    have c27b0 : (a2.toList == ([] : List UInt8)) = true := beq_iff_eq.mpr c27
                    have c27b1 : (a2.toList != ([] : List UInt8)) = false := bne_eq_false_iff_eq.mpr c27
                    clear c27
                    have H' := Aside0.mk H
                    clear H
                    have hcz28_0 : wc.cell? ⟨gb434, 0, none⟩ = some (.int .i64 a0_0) := (blk_cell BK434.out 0).trans rfl
                    have hcz28_1 : wc.cell? ⟨gb434, 1, none⟩ = some (.int .i64 a0_1) := (blk_cell BK434.out 1).trans rfl
                    have hcz28_2 : wc.cell? ⟨gb434, 2, none⟩ = some (.slice A0_2 l0_2.length c0_2) := (blk_cell BK434.out 2).trans rfl
                    have hfz28_0 := blk_frozen BK434.out 0
                    have hfz28_1 := blk_frozen BK434.out 1
                    have hfz28_2 := blk_frozen BK434.out 2
                    have p437 : 0 ≤ ((ji22) : Int) := of_decide_eq_true (by first | (with_reducible assumption) | assumption)
                    have q437 : (ji22) < (l0_2.length : Int) := of_decide_eq_true (by first | (with_reducible assumption) | assumption)
                    obtain ⟨ad437, e437, hx437_0⟩ := Kd.at_string HR0_2.out (ji22) p437 q437
                    cases e437
                    replace hx437_0 := (HB.out.cell (World.block_lt_of_cell? w _ hx437_0)).trans hx437_0
                    replace p437 := eq_true p437
                    replace q437 := eq_true q437
                    go_wp2
                    first | go_meet | (simp only [← hji22]; go_meet) | (simp only [hji22]; go_meet) | (simp only [← hji36]; go_meet) | (simp only [hji36]; go_meet)
                    case rel => exact ⟨_, (true), (by first | rfl | (simp; done) | (simp [*]; done)), (by first | exact H' | (simp only [hji22, hji36]; exact H') | (rw [hji22]; exact H') | (rw [hji36]; exact H')), ⟨by have := HJ4.out; first | omega | exact Nat.le_refl _⟩, ⟨by (with_reducible repeat (first | refine zm_ ?_ _ | refine zn_ ?_ | refine zo_ ?_ _)); exact BK434.out⟩, ⟨by repeat (first | (with_reducible first | exact HB.out | apply zs_ | apply zt_ | apply zu_ | refine zr_ ?_ GE434.out) | exact HB.out)⟩⟩
                  · rw [if_neg c27] at H
                    have c27b0 : (a2.toList == ([] : List UInt8)) = false := beq_eq_false_iff_ne.mpr c27
                    have c27b1 : (a2.toList != ([] : List UInt8)) = true := bne_iff_ne.mpr c27
                    by_cases c29 : (a3.size : Int) > ((rdOf ByteArray.empty l0_2 (ji22)).size : Int)
                    · rw [if_pos c29] at H
                      have c29b0 : decide (((rdOf ByteArray.empty l0_2 (ji22)).size : Int) < (a3.size : Int)) = true := decide_eq_true c29
                      have c29b1 : decide ((rdOf ByteArray.empty l0_2 (ji22)).size < a3.size) = true := decide_eq_true (Int.ofNat_lt.mp c29)
                      clear c29
                      have H' := Aside0.mk H
                      clear H
                      have hcz30_0 : wc.cell? ⟨gb434, 0, none⟩ = some (.int .i64 a0_0) := (blk_cell BK434.out 0).trans rfl
                      have hcz30_1 : wc.cell? ⟨gb434, 1, none⟩ = some (.int .i64 a0_1) := (blk_cell BK434.out 1).trans rfl
                      have hcz30_2 : wc.cell? ⟨gb434, 2, none⟩ = some (.slice A0_2 l0_2.length c0_2) := (blk_cell BK434.out 2).trans rfl
                      have hfz30_0 := blk_frozen BK434.out 0
                      have hfz30_1 := blk_frozen BK434.out 1
                      have hfz30_2 := blk_frozen BK434.out 2
                      have p437 : 0 ≤ ((ji22) : Int) := of_decide_eq_true (by first | (with_reducible assumption) | assumption)
                      have q437 : (ji22) < (l0_2.length : Int) := of_decide_eq_true (by first | (with_reducible assumption) | assumption)
                      obtain ⟨ad437, e437, hx437_0⟩ := Kd.at_string HR0_2.out (ji22) p437 q437
                      cases e437
                      replace hx437_0 := (HB.out.cell (World.block_lt_of_cell? w _ hx437_0)).trans hx437_0
                      replace p437 := eq_true p437
                      replace q437 := eq_true q437
                      have p438 : 0 ≤ ((ji22) : Int) := of_decide_eq_true (by first | (with_reducible assumption) | assumption)
                      have q438 : (ji22) < (l0_2.length : Int) := of_decide_eq_true (by first | (with_reducible assumption) | assumption)
                      obtain ⟨ad438, e438, hx438_0⟩ := Kd.at_string HR0_2.out (ji22) p438 q438
                      obtain rfl : ad437 = ad438 := (by injection e438)
                      replace hx438_0 := (HB.out.cell (World.block_lt_of_cell? w _ hx438_0)).trans hx438_0
                      replace p438 := eq_true p438
                      replace q438 := eq_true q438
                      go_wp2
                      first | go_meet | (simp only [← hji22]; go_meet) | (simp only [hji22]; go_meet) | (simp only [← hji36]; go_meet) | (simp only [hji36]; go_meet)
                      case rel => exact ⟨_, (true), (by first | rfl | (simp; done) | (simp [*]; done)), (by first | exact H' | (simp only [hji22, hji36]; exact H') | (rw [hji22]; exact H') | (rw [hji36]; exact H')), ⟨by have := HJ4.out; first | omega | exact Nat.le_refl _⟩, ⟨by (with_reducible repeat (first | refine zm_ ?_ _ | refine zn_ ?_ | refine zo_ ?_ _)); exact BK434.out⟩, ⟨by repeat (first | (with_reducible first | exact HB.out | apply zs_ | apply zt_ | apply zu_ | refine zr_ ?_ GE434.out) | exact HB.out)⟩⟩
                    · rw [if_neg c29] at H
                      have c29b0 : decide (((rdOf ByteArray.empty l0_2 (ji22)).size : Int) < (a3.size : Int)) = false := decide_eq_false c29
                      have c29b1 : decide ((rdOf ByteArray.empty l0_2 (ji22)).size < a3.size) = false := decide_eq_false (fun h => c29 (Int.ofNat_lt.mpr h))
                      clear c29
                      have H' := Aside0.mk H
                      clear H
                      have hcz31_0 : wc.cell? ⟨gb434, 0, none⟩ = some (.int .i64 a0_0) := (blk_cell BK434.out 0).trans rfl
                      have hcz31_1 : wc.cell? ⟨gb434, 1, none⟩ = some (.int .i64 a0_1) := (blk_cell BK434.out 1).trans rfl
                      have hcz31_2 : wc.cell? ⟨gb434, 2, none⟩ = some (.slice A0_2 l0_2.length c0_2) := (blk_cell BK434.out 2).trans rfl
                      have hfz31_0 := blk_frozen BK434.out 0
                      have hfz31_1 := blk_frozen BK434.out 1
                      have hfz31_2 := blk_frozen BK434.out 2
                      have p437 : 0 ≤ ((ji22) : Int) := of_decide_eq_true (by first | (with_reducible assumption) | assumption)
                      have q437 : (ji22) < (l0_2.length : Int) := of_decide_eq_true (by first | (with_reducible assumption) | assumption)
                      obtain ⟨ad437, e437, hx437_0⟩ := Kd.at_string HR0_2.out (ji22) p437 q437
                      cases e437
                      replace hx437_0 := (HB.out.cell (World.block_lt_of_cell? w _ hx437_0)).trans hx437_0
                      replace p437 := eq_true p437
                      replace q437 := eq_true q437
                      have p438 : 0 ≤ ((ji22) : Int) := of_decide_eq_true (by first | (with_reducible assumption) | assumption)
                      have q438 : (ji22) < (l0_2.length : Int) := of_decide_eq_true (by first | (with_reducible assumption) | assumption)
                      obtain ⟨ad438, e438, hx438_0⟩ := Kd.at_string HR0_2.out (ji22) p438 q438
                      obtain rfl : ad437 = ad438 := (by injection e438)
                      replace hx438_0 := (HB.out.cell (World.block_lt_of_cell? w _ hx438_0)).trans hx438_0
                      replace p438 := eq_true p438
                      replace q438 := eq_true q438
                      go_wp2
                      first | go_meet | (simp only [← hji22]; go_meet) | (simp only [hji22]; go_meet) | (simp only [← hji36]; go_meet) | (simp only [hji36]; go_meet)
                      case rel => exact ⟨_, (decide ((a3.size : Int) > (a2.size : Int))), (by first | rfl | (simp; done) | (simp [*]; done)), (by first | exact H' | (simp only [hji22, hji36]; exact H') | (rw [hji22]; exact H') | (rw [hji36]; exact H')), ⟨by have := HJ4.out; first | omega | exact Nat.le_refl _⟩, ⟨by (with_reducible repeat (first | refine zm_ ?_ _ | refine zn_ ?_ | refine zo_ ?_ _)); exact BK434.out⟩, ⟨by repeat (first | (with_reducible first | exact HB.out | apply zs_ | apply zt_ | apply zu_ | refine zr_ ?_ GE434.out) | exact HB.out)⟩⟩
              · rw [if_neg c24] at H
                exact absurd H (by simp)
            · rw [if_neg c23] at H
              exact absurd H (by simp)
          case rest =>
            clear HC20
            try clear c1
            try clear c2
            try clear p2
            try clear p4
            try clear q4
            try clear hx4
            try clear p6
            try clear c7
            try clear c7b0
            try clear c7b1
            try clear c7b2
            try clear c9
            try clear c9b0
            try clear c9b1
            try clear c11
            try clear c11b0
            try clear c11b1
            try clear c16
            try clear c19
            try clear c19b0
            try clear c19b1
            try clear c19b2
            try clear c23
            try clear c23b0
            try clear c24
            try clear c24b0
            try clear c25
            try clear c25b0
            try clear c25b1
            try clear c27
            try clear c27b0
            try clear c27b1
            try clear c29
            try clear c29b0
            try clear c29b1
            try clear hcz10_0
            try clear hcz10_1
            try clear hcz10_2
            try clear hcz12_0
            try clear hcz12_1
            try clear hcz12_2
            try clear hcz14_0
            try clear hcz14_1
            try clear hcz14_2
            try clear hcz21_0
            try clear hcz21_1
            try clear hcz21_2
            try clear hcz26_0
            try clear hcz26_1
            try clear hcz26_2
            try clear hcz28_0
            try clear hcz28_1
            try clear hcz28_2
            try clear hcz30_0
            try clear hcz30_1
            try clear hcz30_2
            try clear hcz31_0
            try clear hcz31_1
            try clear hcz31_2
            try clear hcz8_0
            try clear hcz8_1
            try clear hcz8_2
            try clear hfz10_0
            try clear hfz10_1
            try clear hfz10_2
            try clear hfz12_0
            try clear hfz12_1
            try clear hfz12_2
            try clear hfz14_0
            try clear hfz14_1
            try clear hfz14_2
            try clear hfz21_0
            try clear hfz21_1
            try clear hfz21_2
            try clear hfz26_0
            try clear hfz26_1
            try clear hfz26_2
            try clear hfz28_0
            try clear hfz28_1
            try clear hfz28_2
            try clear hfz30_0
            try clear hfz30_1
            try clear hfz30_2
            try clear hfz31_0
            try clear hfz31_1
            try clear hfz31_2
            try clear hfz8_0
            try clear hfz8_1
            try clear hfz8_2
            try clear hx437_0
            try clear hx438_0
            try clear p2
            try clear p437
            try clear p438
            try clear q437
            try clear q438
            obtain ⟨kq, x76_19, rfl, HA, HJ19, BK434, HB⟩ := hcut
            cases kq with
            | zero => exact absurd HA.out (by simp [quietuslaw25_PadsAreForgotten.j1])
            | succ kj19 =>
              have H := HA.out
              clear HA
              simp only [quietuslaw25_PadsAreForgotten.j1] at H
              by_cases c32 : x76_19 = true
              · subst c32
                have H1 : ((quietuslaw25_sanity.f kj19).bind fun t439 => (some t439)) = some r := by rw [if_pos rfl] at H; exact H
                clear H
                have H := H1
                clear H1
                replace H := Option.bind_eq_some_iff.mp H
                obtain ⟨t439, A330, H⟩ := H
                replace H : (some t439) = some r := H
                have A33 := Aside0.mk A330
                clear A330
                obtain rfl := Option.some.inj H
                go_wp2_with (first | ((with_reducible refine gate_callee (f := 9) rfl ?_); refine goesL_ (some 77) rfl rfl Try.func9 (by kernel_rfl) rfl #[] rfl (by (try simp only [List.map_toArray, List.map_cons, List.map_nil]); first | done | rfl | (simp only [List.length_drop, List.length_take]; rfl)) ?_; (with_reducible refine (quietuslaw25_sanity.calls kj19  t439 _ A33.out).mono ?_); rintro e w34 ⟨rfl, hb⟩; refine ⟨_, rfl, ?_⟩; have n0_ := Aside0.mk (zq_ (g := gb434) (o := .cells #[.int .i64 a0_0, .int .i64 a0_1, .slice A0_2 l0_2.length c0_2] 24 (0, 0)) (by (with_reducible repeat (first | refine zm_ ?_ _ | refine zn_ ?_ | refine zo_ ?_ _)); exact BK434.out) hb); have n1_ := Aside0.mk (zv_ (by repeat (first | (with_reducible first | exact HB.out | apply zs_ | apply zt_ | apply zu_ | refine zr_ ?_ GE434.out) | exact HB.out)) hb); clear BK434; clear HB; have BK434 := n0_; have HB := n1_; clear n0_ n1_; (try clear hb); (try clear hb2); (try clear hk); (try clear hi)))
                go_ret
                exact ⟨by first | rfl | (simp [errW_none, errW_some] <;> rfl) | (simp [*, errW_none, errW_some] <;> rfl), by repeat (first | (with_reducible first | exact HB.out | apply zs_ | apply zt_ | apply zu_ | refine zr_ ?_ GE434.out) | exact HB.out)⟩
              · replace c32 := Bool.eq_false_iff.mpr c32
                subst c32
                have H1 : ((some (([] : List ByteArray) : List ByteArray)).bind fun y441 => (if y441.length + l0_2.length < 8796093022208 then ((some (y441 ++ l0_2 : List ByteArray)).bind fun y444 => (if 0 ≤ (Int.tmod (wrap64 (a1)) (l0_2.length : Int)) then (if (Int.tmod (wrap64 (a1)) (l0_2.length : Int)) < (y444.length : Int) then ((some (y444.set ((Int.tmod (wrap64 (a1)) (l0_2.length : Int)) : Int).toNat a2 : List ByteArray)).bind fun y447 => (if (Int.tmod (Int.tmod (wrap64 (a1)) (l0_2.length : Int)) 2) = 1 then (quietuslaw25_PadsAreForgotten.j2 kj19 a2 a3 (Int.tmod (wrap64 (a1)) (l0_2.length : Int)) a0_1 a0_0 a0_1 l0_2 a0_0 a0_1 y447) else (quietuslaw25_PadsAreForgotten.j2 kj19 a2 a3 (Int.tmod (wrap64 (a1)) (l0_2.length : Int)) a0_0 a0_0 a0_1 l0_2 a0_0 a0_1 y447))) else (none)) else (none))) else (none))) = some r := by rw [if_neg (show ¬ (false = true) by decide)] at H; exact H
                clear H
                have H := H1
                clear H1
                obtain ⟨y441, hy441⟩ : ∃ y_ : List ByteArray, y_ = (([] : List ByteArray)) := ⟨_, rfl⟩
                replace H : (if y441.length + l0_2.length < 8796093022208 then ((some (y441 ++ l0_2 : List ByteArray)).bind fun y444 => (if 0 ≤ (Int.tmod (wrap64 (a1)) (l0_2.length : Int)) then (if (Int.tmod (wrap64 (a1)) (l0_2.length : Int)) < (y444.length : Int) then ((some (y444.set ((Int.tmod (wrap64 (a1)) (l0_2.length : Int)) : Int).toNat a2 : List ByteArray)).bind fun y447 => (if (Int.tmod (Int.tmod (wrap64 (a1)) (l0_2.length : Int)) 2) = 1 then (quietuslaw25_PadsAreForgotten.j2 kj19 a2 a3 (Int.tmod (wrap64 (a1)) (l0_2.length : Int)) a0_1 a0_0 a0_1 l0_2 a0_0 a0_1 y447) else (quietuslaw25_PadsAreForgotten.j2 kj19 a2 a3 (Int.tmod (wrap64 (a1)) (l0_2.length : Int)) a0_0 a0_0 a0_1 l0_2 a0_0 a0_1 y447))) else (none)) else (none))) else (none)) = some r := by first | (rw [hy441]; with_reducible exact H) | (have H2_ := (Option.bind_some _ _).symm.trans H; rw [hy441]; with_reducible exact H2_) | (have H2_ := (Option.bind_some _ _).symm.trans H; with_reducible exact H2_) | with_reducible exact H | (rw [hy441]; exact H) | exact H
                have Ny441 := Aside0.mk hy441
                clear hy441
                by_cases c35 : y441.length + l0_2.length < 8796093022208
                · rw [if_pos c35] at H
                  have LMc35 := Aside0.mk c35
                  clear c35
                  obtain ⟨y444, hy444⟩ : ∃ y_ : List ByteArray, y_ = (y441 ++ l0_2) := ⟨_, rfl⟩
                  replace H : (if 0 ≤ (Int.tmod (wrap64 (a1)) (l0_2.length : Int)) then (if (Int.tmod (wrap64 (a1)) (l0_2.length : Int)) < (y444.length : Int) then ((some (y444.set ((Int.tmod (wrap64 (a1)) (l0_2.length : Int)) : Int).toNat a2 : List ByteArray)).bind fun y447 => (if (Int.tmod (Int.tmod (wrap64 (a1)) (l0_2.length : Int)) 2) = 1 then (quietuslaw25_PadsAreForgotten.j2 kj19 a2 a3 (Int.tmod (wrap64 (a1)) (l0_2.length : Int)) a0_1 a0_0 a0_1 l0_2 a0_0 a0_1 y447) else (quietuslaw25_PadsAreForgotten.j2 kj19 a2 a3 (Int.tmod (wrap64 (a1)) (l0_2.length : Int)) a0_0 a0_0 a0_1 l0_2 a0_0 a0_1 y447))) else (none)) else (none)) = some r := by first | (rw [hy444]; with_reducible exact H) | (have H2_ := (Option.bind_some _ _).symm.trans H; rw [hy444]; with_reducible exact H2_) | (have H2_ := (Option.bind_some _ _).symm.trans H; with_reducible exact H2_) | with_reducible exact H | (rw [hy444]; exact H) | exact H
                  have Ny444 := Aside0.mk hy444
                  clear hy444
                  obtain ⟨ji36, hji36⟩ : ∃ j_ : Int, (Int.tmod (wrap64 (a1)) (l0_2.length : Int)) = j_ := ⟨_, rfl⟩
                  replace H : (if 0 ≤ (ji36) then (if (ji36) < (y444.length : Int) then ((some (y444.set ((ji36) : Int).toNat a2 : List ByteArray)).bind fun y447 => (if (Int.tmod (ji36) 2) = 1 then (quietuslaw25_PadsAreForgotten.j2 kj19 a2 a3 (ji36) a0_1 a0_0 a0_1 l0_2 a0_0 a0_1 y447) else (quietuslaw25_PadsAreForgotten.j2 kj19 a2 a3 (ji36) a0_0 a0_0 a0_1 l0_2 a0_0 a0_1 y447))) else (none)) else (none)) = some r := by first | (rw [hji36] at H; exact H) | (simp only [hji36] at H ⊢; exact H)
                  by_cases c37 : 0 ≤ (ji36)
                  · rw [if_pos c37] at H
                    have c37b0 : decide (0 ≤ (ji36)) = true := decide_eq_true c37
                    clear c37
                    by_cases c38 : (ji36) < (y444.length : Int)
                    · rw [if_pos c38] at H
                      have c38b0 : decide ((ji36) < (y444.length : Int)) = true := decide_eq_true c38
                      clear c38
                      obtain ⟨y447, hy447⟩ : ∃ y_ : List ByteArray, y_ = (y444.set ((ji36) : Int).toNat a2) := ⟨_, rfl⟩
                      replace H : (if (Int.tmod (ji36) 2) = 1 then (quietuslaw25_PadsAreForgotten.j2 kj19 a2 a3 (ji36) a0_1 a0_0 a0_1 l0_2 a0_0 a0_1 y447) else (quietuslaw25_PadsAreForgotten.j2 kj19 a2 a3 (ji36) a0_0 a0_0 a0_1 l0_2 a0_0 a0_1 y447)) = some r := by first | (rw [hy447]; with_reducible exact H) | (have H2_ := (Option.bind_some _ _).symm.trans H; rw [hy447]; with_reducible exact H2_) | (have H2_ := (Option.bind_some _ _).symm.trans H; with_reducible exact H2_) | with_reducible exact H | (rw [hy447]; exact H) | exact H
                      have Ny447 := Aside0.mk hy447
                      clear hy447
                      have HC40 := Aside0.mk H
                      clear H
                      have hcz41_0 : wc.cell? ⟨gb434, 0, none⟩ = some (.int .i64 a0_0) := (blk_cell BK434.out 0).trans rfl
                      have hcz41_1 : wc.cell? ⟨gb434, 1, none⟩ = some (.int .i64 a0_1) := (blk_cell BK434.out 1).trans rfl
                      have hcz41_2 : wc.cell? ⟨gb434, 2, none⟩ = some (.slice A0_2 l0_2.length c0_2) := (blk_cell BK434.out 2).trans rfl
                      have hfz41_0 := blk_frozen BK434.out 0
                      have hfz41_1 := blk_frozen BK434.out 1
                      have hfz41_2 := blk_frozen BK434.out 2
                      go_upto_if 93 with (first | ((with_reducible refine gate_dst (N := 10) rfl ?_); (try (refine gate_guard (by rfl) ?_; dsimp only)); refine box_event ?hg (N := 10) ?hd (cs := #[.int .i64 0, .int .i64 0, .slice none 0 0]) (t := 24) ?hr ?_; (case hd => rfl); (case hg => rfl); (case hr => first | (go_simp; done) | (go_simp; rfl)); intro gb440 hg w42 hbox hb; have n0_ := Aside0.mk (zq_ (g := gb434) (o := .cells #[.int .i64 a0_0, .int .i64 a0_1, .slice A0_2 l0_2.length c0_2] 24 (0, 0)) (by (with_reducible repeat (first | refine zm_ ?_ _ | refine zn_ ?_ | refine zo_ ?_ _)); exact BK434.out) hb); have n1_ := Aside0.mk (zv_ (by repeat (first | (with_reducible first | exact HB.out | apply zs_ | apply zt_ | apply zu_ | refine zr_ ?_ GE434.out) | exact HB.out)) hb); have n2_ := Aside0.mk (hbox); have n3_ := Aside0.mk ((by rw [hg]; exact (zw_ (by repeat (first | (with_reducible first | exact HB.out | apply zs_ | apply zt_ | apply zu_ | refine zr_ ?_ GE434.out) | exact HB.out))) : w.heap.size ≤ gb440)); have n4_ := Aside0.mk ((by rw [hg]; exact (zw_ (by repeat (first | (with_reducible first | exact HB.out | apply zs_ | apply zt_ | apply zu_ | refine zr_ ?_ GE434.out) | exact HB.out))) : w.heap.size ≤ gb440)); have n5_ := Aside0.mk ((by rw [hg]; exact Nat.ne_of_lt (blk_lt (g := gb434) (o := .cells #[.int .i64 a0_0, .int .i64 a0_1, .slice A0_2 l0_2.length c0_2] 24 (0, 0)) (by (with_reducible repeat (first | refine zm_ ?_ _ | refine zn_ ?_ | refine zo_ ?_ _)); exact BK434.out)) : gb434 ≠ gb440)); have n6_ := Aside0.mk ((by rw [hg]; exact Nat.ne_of_gt (blk_lt (g := gb434) (o := .cells #[.int .i64 a0_0, .int .i64 a0_1, .slice A0_2 l0_2.length c0_2] 24 (0, 0)) (by (with_reducible repeat (first | refine zm_ ?_ _ | refine zn_ ?_ | refine zo_ ?_ _)); exact BK434.out)) : gb440 ≠ gb434)); clear BK434; clear HB; have BK434 := n0_; have HB := n1_; have BK440 := n2_; have GW440 := n3_; have GE440 := n4_; have NB434_440 := n5_; have NB440_434 := n6_; clear n0_ n1_ n2_ n3_ n4_ n5_ n6_; clear hb hbox hg; have hnb43 := NB440_434.out; have hnc43 := NB434_440.out; have hcz44_0 : w42.cell? ⟨gb440, 0, none⟩ = some (.int .i64 0) := (blk_cell BK440.out 0).trans rfl; have hcz44_1 : w42.cell? ⟨gb440, 1, none⟩ = some (.int .i64 0) := (blk_cell BK440.out 1).trans rfl; have hcz44_2 : w42.cell? ⟨gb440, 2, none⟩ = some (.slice none 0 0) := (blk_cell BK440.out 2).trans rfl; have hfz44_0 := blk_frozen BK440.out 0; have hfz44_1 := blk_frozen BK440.out 1; have hfz44_2 := blk_frozen BK440.out 2) | ((with_reducible refine gate_dst (N := 79) rfl ?_); (try (refine gate_guard (by rfl) ?_; dsimp only)); refine Kd.R_lit Kd.string _ 9 ?hg (N := 79) ?hd (xs := ([] : List ByteArray)) (inner := []) (ok := fun _ => True) (okp := fun _ => True) ?hr ?hp (fun _ hk => hk) trivial (Below.refl _ _) (Nat.le_refl _) (by simp) ?_; (case hd => rfl); (case hg => rfl); (case hr => first | (go_simp; done) | (go_simp; rfl)); (case hp => exact (Reps.none _ _)); intro v442 w45 ho46 hb hg_ hnew_; clear hg_ hnew_; (first | rw [← Ny441.out] at ho46 | (simp only [Int.reduceToNat] at ho46; rw [← Ny441.out] at ho46)); have n0_ := Aside0.mk (zg_ ho46 (zw_ (by repeat (first | (with_reducible first | exact HB.out | apply zs_ | apply zt_ | apply zu_ | refine zr_ ?_ GE434.out | refine zr_ ?_ GE440.out) | exact HB.out)))); have n1_ := Aside0.mk (zq_ (g := gb434) (o := .cells #[.int .i64 a0_0, .int .i64 a0_1, .slice A0_2 l0_2.length c0_2] 24 (0, 0)) (by (with_reducible repeat (first | refine zm_ ?_ _ | refine zn_ ?_ | refine zo_ ?_ _)); refine zp_ ?_ NB434_440.out _; (with_reducible repeat (first | refine zm_ ?_ _ | refine zn_ ?_ | refine zo_ ?_ _)); refine zp_ ?_ NB434_440.out _; (with_reducible repeat (first | refine zm_ ?_ _ | refine zn_ ?_ | refine zo_ ?_ _)); refine zp_ ?_ NB434_440.out _; (with_reducible repeat (first | refine zm_ ?_ _ | refine zn_ ?_ | refine zo_ ?_ _)); exact BK434.out) hb); have n2_ := Aside0.mk (zq_ (g := gb440) (o := .cells #[.int .i64 a0_0, .int .i64 a0_1, .slice A0_2 l0_2.length c0_2] 24 (0, 0)) (by (with_reducible repeat (first | refine zm_ ?_ _ | refine zn_ ?_ | refine zo_ ?_ _)); refine blk_put (cs := #[.int .i64 a0_0, .int .i64 a0_1, .slice none 0 0]) ?_ 2 _ rfl; (with_reducible repeat (first | refine zm_ ?_ _ | refine zn_ ?_ | refine zo_ ?_ _)); refine blk_put (cs := #[.int .i64 a0_0, .int .i64 0, .slice none 0 0]) ?_ 1 _ rfl; (with_reducible repeat (first | refine zm_ ?_ _ | refine zn_ ?_ | refine zo_ ?_ _)); refine blk_put (cs := #[.int .i64 0, .int .i64 0, .slice none 0 0]) ?_ 0 _ rfl; (with_reducible repeat (first | refine zm_ ?_ _ | refine zn_ ?_ | refine zo_ ?_ _)); exact BK440.out) hb); have n3_ := Aside0.mk (zv_ (by repeat (first | (with_reducible first | exact HB.out | apply zs_ | apply zt_ | apply zu_ | refine zr_ ?_ GE434.out | refine zr_ ?_ GE440.out) | exact HB.out)) hb); clear BK434; clear BK440; clear HB; have HO443 := n0_; have BK434 := n1_; have BK440 := n2_; have HB := n3_; clear n0_ n1_ n2_ n3_; clear hb ho46; have hcz47_0 : w45.cell? ⟨gb434, 0, none⟩ = some (.int .i64 a0_0) := (blk_cell BK434.out 0).trans rfl; have hcz47_1 : w45.cell? ⟨gb434, 1, none⟩ = some (.int .i64 a0_1) := (blk_cell BK434.out 1).trans rfl; have hcz47_2 : w45.cell? ⟨gb434, 2, none⟩ = some (.slice A0_2 l0_2.length c0_2) := (blk_cell BK434.out 2).trans rfl; have hfz47_0 := blk_frozen BK434.out 0; have hfz47_1 := blk_frozen BK434.out 1; have hfz47_2 := blk_frozen BK434.out 2) | ((with_reducible refine gate_builtin (b := .append) (xs := #[.tmp 79, .tmp 81]) rfl ?_); (try (refine gate_guard (by rfl) ?_; dsimp only)); at_builtin; refine Kd.R_append_rows Kd.string (w0 := w) w.heap.size rfl (.tmp 79) (.tmp 81) 22 9 (.string ⟨#[]⟩) 16 rfl Try.underlying22 info9 rfl (by decide) (by omega) v442 y441 l0_2 _ _ _ (fun _ => True) (fun _ => False) rfl rfl ?aO ?aR (fun _ _ h => h) (fun _ h => h.elim) ?aF ?aB ?aS ?aL ?_; (case aR => repeat (first | exact (Kd.C_below HR0_2.out HB.out) | (with_reducible refine Kd.C_alloc ?_ _) | (with_reducible refine Kd.C_drewN ?_ _) | (with_reducible refine Kd.C_drew ?_))); (case aB => exact (by repeat (first | (with_reducible first | exact HB.out | apply zs_ | apply zt_ | apply zu_ | refine zr_ ?_ GE434.out | refine zr_ ?_ GE440.out) | exact HB.out))); (case aF => exact (fun _ _ => trivial)); (case aO => exact (by (with_reducible repeat (first | apply za_ | apply zb_ | apply zc_)); exact HO443.out)); (case aS => exact (zw_ (by repeat (first | (with_reducible first | exact HB.out | apply zs_ | apply zt_ | apply zu_ | refine zr_ ?_ GE434.out | refine zr_ ?_ GE440.out) | exact HB.out)))); (case aL => have := LMc35.out; omega); intro v445 w48 ho hb hg hat; rw [← Ny444.out] at ho; have n0_ := Aside0.mk (blk_grown (g := gb434) (o := .cells #[.int .i64 a0_0, .int .i64 a0_1, .slice A0_2 l0_2.length c0_2] 24 (0, 0)) (by (with_reducible repeat (first | refine zm_ ?_ _ | refine zn_ ?_ | refine zo_ ?_ _)); exact BK434.out) hg (Kd.R_ne HO443.out BK434.out (by decide))); have n1_ := Aside0.mk (blk_grown (g := gb440) (o := .cells #[.int .i64 a0_0, .int .i64 a0_1, .slice A0_2 l0_2.length c0_2] 24 (0, 0)) (by (with_reducible repeat (first | refine zm_ ?_ _ | refine zn_ ?_ | refine zo_ ?_ _)); exact BK440.out) hg (Kd.R_ne HO443.out BK440.out (by decide))); have n2_ := Aside0.mk (hb); have n3_ := Aside0.mk (ho); clear BK434; clear BK440; clear HB; clear HO443; have BK434 := n0_; have BK440 := n1_; have HB := n2_; have HO446 := n3_; clear n0_ n1_ n2_ n3_; clear ho hb hg hat; obtain ⟨Ao49, co49, eo49⟩ := Kd.R_slice HO446.out; subst eo49; have hcz50_0 : w48.cell? ⟨gb440, 0, none⟩ = some (.int .i64 a0_0) := (blk_cell BK440.out 0).trans rfl; have hcz50_1 : w48.cell? ⟨gb440, 1, none⟩ = some (.int .i64 a0_1) := (blk_cell BK440.out 1).trans rfl; have hcz50_2 : w48.cell? ⟨gb440, 2, none⟩ = some (.slice A0_2 l0_2.length c0_2) := (blk_cell BK440.out 2).trans rfl; have hfz50_0 := blk_frozen BK440.out 0; have hfz50_1 := blk_frozen BK440.out 1; have hfz50_2 := blk_frozen BK440.out 2) | ((with_reducible refine gate_store (t := 22) (p := 83) rfl ?_); refine store_event (t := 22) (p := 83) (v := ?vo_w51) (w1 := (w48.setCell ⟨gb440, 2, none⟩ (.slice Ao49 y444.length co49))) ?hg ?ho ?hn ?hr ?_; (case ho => rfl); (case hg => rfl); (case hn => rfl); (case hr => first | (go_simp; done) | (go_simp; rfl)); intro w51 hw; have n0_ : Aside0 (Kd.R Kd.string 9 w51 w.heap.size (fun _ => True) (.slice Ao49 y444.length co49) y444) := ⟨(by rw [hw]; exact (by (with_reducible repeat (first | apply za_ | apply zb_ | apply zc_)); exact zd_ (ze_ (p := ⟨gb440, 2, none⟩) (zf_ HO446.out BK440.out (by decide)) (fun _ hk => hk.2) (.slice Ao49 y444.length co49)) (fun _ hk => trivial)))⟩; have n1_ : Aside0 (w51.heap[gb434]? = some (.cells #[.int .i64 a0_0, .int .i64 a0_1, .slice A0_2 l0_2.length c0_2] 24 (0, 0))) := ⟨(by rw [hw]; exact (by (with_reducible repeat (first | refine zm_ ?_ _ | refine zn_ ?_ | refine zo_ ?_ _)); refine zp_ ?_ NB434_440.out _; (with_reducible repeat (first | refine zm_ ?_ _ | refine zn_ ?_ | refine zo_ ?_ _)); exact BK434.out))⟩; have n2_ : Aside0 (w51.heap[gb440]? = some (.cells #[.int .i64 a0_0, .int .i64 a0_1, .slice Ao49 y444.length co49] 24 (0, 0))) := ⟨(by rw [hw]; exact (by (with_reducible repeat (first | refine zm_ ?_ _ | refine zn_ ?_ | refine zo_ ?_ _)); refine blk_put (cs := #[.int .i64 a0_0, .int .i64 a0_1, .slice A0_2 l0_2.length c0_2]) ?_ 2 _ rfl; (with_reducible repeat (first | refine zm_ ?_ _ | refine zn_ ?_ | refine zo_ ?_ _)); exact BK440.out))⟩; have n3_ : Aside0 (Below w.heap.size w w51) := ⟨(by rw [hw]; exact (by repeat (first | (with_reducible first | exact HB.out | apply zs_ | apply zt_ | apply zu_ | refine zr_ ?_ GE434.out | refine zr_ ?_ GE440.out) | exact HB.out)))⟩; clear hw; clear HO446; clear BK434; clear BK440; clear HB; have HO446 := n0_; have BK434 := n1_; have BK440 := n2_; have HB := n3_; clear n0_ n1_ n2_ n3_; have hcz52_0 : w51.cell? ⟨gb440, 0, none⟩ = some (.int .i64 a0_0) := (blk_cell BK440.out 0).trans rfl; have hcz52_1 : w51.cell? ⟨gb440, 1, none⟩ = some (.int .i64 a0_1) := (blk_cell BK440.out 1).trans rfl; have hcz52_2 : w51.cell? ⟨gb440, 2, none⟩ = some (.slice Ao49 y444.length co49) := (blk_cell BK440.out 2).trans rfl; have hfz52_0 := blk_frozen BK440.out 0; have hfz52_1 := blk_frozen BK440.out 1; have hfz52_2 := blk_frozen BK440.out 2; have p39 : 0 ≤ ((ji36) : Int) := of_decide_eq_true (by first | (with_reducible assumption) | assumption); have q39 : ((ji36) : Int) < ((y444.length : Int) : Int) := of_decide_eq_true (by first | (with_reducible assumption) | assumption); obtain ⟨go39, co39, eo39, gb39, gl39, cl39, HG39⟩ := Kd.R_form HO446.out (by omega); (first | cases eo39 | (injection eo39 with ea_ en_ ec_; (first | subst ea_ | (injection ea_ with ea_; subst ea_)); subst ec_; clear en_)); have GB39 := Aside0.mk gb39; have GG39 := Aside0.mk HG39; clear gb39 gl39 HG39; obtain ⟨hx39_0, hf39_0⟩ := Kd.R_celln (⟨#[]⟩ : ByteArray) HO446.out ((ji36) : Int) p39 q39; replace p39 := eq_true p39; replace q39 := eq_true q39; obtain ⟨hy53_, hz53_⟩ := Kd.R_celln (⟨#[]⟩ : ByteArray) HO446.out ((ji36) : Int) (of_decide_eq_true (by first | (with_reducible assumption) | assumption)) (of_decide_eq_true (by first | (with_reducible assumption) | assumption)); have HP53 := Kd.R_putg HO446.out ((ji36) : Int) a2) | ((with_reducible refine gate_store (t := 9) (p := 88) rfl ?_); refine store_event (t := 9) (p := 88) (v := ?vo_w54) (w1 := (w51.setCell ⟨go39, ((ji36) : Int).toNat, none⟩ (.string a2))) ?hg ?ho ?hn ?hr ?_; (case ho => rfl); (case hg => rfl); (case hn => rfl); (case hr => first | (go_simp; done) | (go_simp; rfl)); intro w54 hw; have hg : w51.grownBy w54 (some go39) := (by rw [hw]; exact HP53.2); have hp_ : Kd.R Kd.string 9 w54 w.heap.size (fun _ => True) (.slice (some ⟨go39, 0, none⟩) y444.length co49) y447 := (by rw [hw, Ny447.out]; exact HP53.1); clear HP53; have n0_ := Aside0.mk (blk_grown (g := gb434) (o := .cells #[.int .i64 a0_0, .int .i64 a0_1, .slice A0_2 l0_2.length c0_2] 24 (0, 0)) (by (with_reducible repeat (first | refine zm_ ?_ _ | refine zn_ ?_ | refine zo_ ?_ _)); exact BK434.out) hg (Kd.R_ne HO446.out BK434.out (by decide))); have n1_ := Aside0.mk (blk_grown (g := gb440) (o := .cells #[.int .i64 a0_0, .int .i64 a0_1, .slice (some ⟨go39, 0, none⟩) y444.length co49] 24 (0, 0)) (by (with_reducible repeat (first | refine zm_ ?_ _ | refine zn_ ?_ | refine zo_ ?_ _)); exact BK440.out) hg (Kd.R_ne HO446.out BK440.out (by decide))); have n2_ := Aside0.mk (hp_); have n3_ := Aside0.mk ((by rw [hw]; exact zr_ (HB.out) GB39.out : Below w.heap.size w w54)); clear BK434; clear BK440; clear HO446; clear HB; have BK434 := n0_; have BK440 := n1_; have HO446 := n2_; have HB := n3_; clear n0_ n1_ n2_ n3_; clear hg hw hp_; have hcz55_0 : w54.cell? ⟨gb434, 0, none⟩ = some (.int .i64 a0_0) := (blk_cell BK434.out 0).trans rfl; have hcz55_1 : w54.cell? ⟨gb434, 1, none⟩ = some (.int .i64 a0_1) := (blk_cell BK434.out 1).trans rfl; have hcz55_2 : w54.cell? ⟨gb434, 2, none⟩ = some (.slice A0_2 l0_2.length c0_2) := (blk_cell BK434.out 2).trans rfl; have hfz55_0 := blk_frozen BK434.out 0; have hfz55_1 := blk_frozen BK434.out 1; have hfz55_2 := blk_frozen BK434.out 2))
                      (try simp only [Act.put, List.setIfInBounds_toArray, List.set_cons_zero, List.set_cons_succ])
                      go_cut [11] (fun v11 wc => ∃ (kq : Nat) (x11_39 : Int), v11 = .int .i64 x11_39 ∧ Aside0 (quietuslaw25_PadsAreForgotten.j2 kq a2 a3 (ji36) x11_39 a0_0 a0_1 l0_2 a0_0 a0_1 y447 = some r) ∧ Aside0 (kq ≤ kj19) ∧ Aside0 (Kd.R Kd.string 9 wc w.heap.size (fun _ => True) (.slice (some ⟨go39, 0, none⟩) y444.length co49) y447) ∧ Aside0 (wc.heap[gb434]? = some (.cells #[.int .i64 a0_0, .int .i64 a0_1, (.slice A0_2 l0_2.length c0_2)] 24 (0, 0))) ∧ Aside0 (wc.heap[gb440]? = some (.cells #[.int .i64 a0_0, .int .i64 a0_1, (.slice (some ⟨go39, 0, none⟩) y444.length co49)] 24 (0, 0))) ∧ Aside0 (Below w.heap.size w wc))
                      case first =>
                        have H := HC40.out
                        clear HC40
                        by_cases c56 : (Int.tmod (ji36) 2) = 1
                        · rw [if_pos c56] at H
                          have c56b0 : ((Int.tmod (ji36) 2) == 1) = true := beq_iff_eq.mpr c56
                          have c56b1 : ((Int.tmod (ji36) 2) != 1) = false := bne_eq_false_iff_eq.mpr c56
                          clear c56
                          (first | rw [c56b0] | (simp only [i64_w, i32_w]; rw [c56b0]) | rw [c56b1] | skip)
                          have H' := Aside0.mk H
                          clear H
                          have hnb57 := NB434_440.out
                          have hnc57 := NB440_434.out
                          have hcz58_0 : w54.cell? ⟨gb434, 0, none⟩ = some (.int .i64 a0_0) := (blk_cell BK434.out 0).trans rfl
                          have hcz58_1 : w54.cell? ⟨gb434, 1, none⟩ = some (.int .i64 a0_1) := (blk_cell BK434.out 1).trans rfl
                          have hcz58_2 : w54.cell? ⟨gb434, 2, none⟩ = some (.slice A0_2 l0_2.length c0_2) := (blk_cell BK434.out 2).trans rfl
                          have hfz58_0 := blk_frozen BK434.out 0
                          have hfz58_1 := blk_frozen BK434.out 1
                          have hfz58_2 := blk_frozen BK434.out 2
                          go_wp2
                          first | go_meet | (simp only [← hji22]; go_meet) | (simp only [hji22]; go_meet) | (simp only [← hji36]; go_meet) | (simp only [hji36]; go_meet)
                          case rel => exact ⟨_, (a0_1), (by first | rfl | (simp; done) | (simp [*]; done)), (by first | exact H' | (simp only [hji22, hji36]; exact H') | (rw [hji22]; exact H') | (rw [hji36]; exact H')), ⟨by have := HJ4.out; have := HJ19.out; first | omega | exact Nat.le_refl _⟩, ⟨by (with_reducible repeat (first | apply za_ | apply zb_ | apply zc_)); exact HO446.out⟩, ⟨by (with_reducible repeat (first | refine zm_ ?_ _ | refine zn_ ?_ | refine zo_ ?_ _)); exact BK434.out⟩, ⟨by (with_reducible repeat (first | refine zm_ ?_ _ | refine zn_ ?_ | refine zo_ ?_ _)); exact BK440.out⟩, ⟨by repeat (first | (with_reducible first | exact HB.out | apply zs_ | apply zt_ | apply zu_ | refine zr_ ?_ GE434.out | refine zr_ ?_ GE440.out) | exact HB.out)⟩⟩
                        · rw [if_neg c56] at H
                          have c56b0 : ((Int.tmod (ji36) 2) == 1) = false := beq_eq_false_iff_ne.mpr c56
                          have c56b1 : ((Int.tmod (ji36) 2) != 1) = true := bne_iff_ne.mpr c56
                          (first | rw [c56b0] | (simp only [i64_w, i32_w]; rw [c56b0]) | rw [c56b1] | skip)
                          have H' := Aside0.mk H
                          clear H
                          go_wp2
                          first | go_meet | (simp only [← hji22]; go_meet) | (simp only [hji22]; go_meet) | (simp only [← hji36]; go_meet) | (simp only [hji36]; go_meet)
                          case rel => exact ⟨_, (a0_0), (by first | rfl | (simp; done) | (simp [*]; done)), (by first | exact H' | (simp only [hji22, hji36]; exact H') | (rw [hji22]; exact H') | (rw [hji36]; exact H')), ⟨by have := HJ4.out; have := HJ19.out; first | omega | exact Nat.le_refl _⟩, ⟨by (with_reducible repeat (first | apply za_ | apply zb_ | apply zc_)); exact HO446.out⟩, ⟨by (with_reducible repeat (first | refine zm_ ?_ _ | refine zn_ ?_ | refine zo_ ?_ _)); exact BK434.out⟩, ⟨by (with_reducible repeat (first | refine zm_ ?_ _ | refine zn_ ?_ | refine zo_ ?_ _)); exact BK440.out⟩, ⟨by repeat (first | (with_reducible first | exact HB.out | apply zs_ | apply zt_ | apply zu_ | refine zr_ ?_ GE434.out | refine zr_ ?_ GE440.out) | exact HB.out)⟩⟩
                      case rest =>
                        clear HC40
                        try clear c1
                        try clear c2
                        try clear p2
                        try clear c3
                        try clear p3
                        try clear q3
                        try clear hx3
                        try clear c4
                        try clear p4
                        try clear q4
                        try clear hx4
                        try clear c5
                        try clear p6
                        try clear c7
                        try clear c7b0
                        try clear c7b1
                        try clear c7b2
                        try clear c9
                        try clear c9b0
                        try clear c9b1
                        try clear c11
                        try clear c11b0
                        try clear c11b1
                        try clear c16
                        try clear c19
                        try clear c19b0
                        try clear c19b1
                        try clear c19b2
                        try clear c23
                        try clear c23b0
                        try clear c24
                        try clear c24b0
                        try clear c25
                        try clear c25b0
                        try clear c25b1
                        try clear c27
                        try clear c27b0
                        try clear c27b1
                        try clear c29
                        try clear c29b0
                        try clear c29b1
                        try clear c32
                        try clear c35
                        try clear c37
                        try clear c37b0
                        try clear c38
                        try clear c38b0
                        try clear p39
                        try clear q39
                        try clear hx39
                        try clear hf39
                        try clear c43
                        try clear p43
                        try clear q43
                        try clear hx43
                        try clear c56
                        try clear c56b0
                        try clear c56b1
                        try clear c57
                        try clear hcz10_0
                        try clear hcz10_1
                        try clear hcz10_2
                        try clear hcz12_0
                        try clear hcz12_1
                        try clear hcz12_2
                        try clear hcz14_0
                        try clear hcz14_1
                        try clear hcz14_2
                        try clear hcz21_0
                        try clear hcz21_1
                        try clear hcz21_2
                        try clear hcz26_0
                        try clear hcz26_1
                        try clear hcz26_2
                        try clear hcz28_0
                        try clear hcz28_1
                        try clear hcz28_2
                        try clear hcz30_0
                        try clear hcz30_1
                        try clear hcz30_2
                        try clear hcz31_0
                        try clear hcz31_1
                        try clear hcz31_2
                        try clear hcz41_0
                        try clear hcz41_1
                        try clear hcz41_2
                        try clear hcz44_0
                        try clear hcz44_1
                        try clear hcz44_2
                        try clear hcz47_0
                        try clear hcz47_1
                        try clear hcz47_2
                        try clear hcz50_0
                        try clear hcz50_1
                        try clear hcz50_2
                        try clear hcz52_0
                        try clear hcz52_1
                        try clear hcz52_2
                        try clear hcz55_0
                        try clear hcz55_1
                        try clear hcz55_2
                        try clear hcz58_0
                        try clear hcz58_1
                        try clear hcz58_2
                        try clear hcz8_0
                        try clear hcz8_1
                        try clear hcz8_2
                        try clear hfz10_0
                        try clear hfz10_1
                        try clear hfz10_2
                        try clear hfz12_0
                        try clear hfz12_1
                        try clear hfz12_2
                        try clear hfz14_0
                        try clear hfz14_1
                        try clear hfz14_2
                        try clear hfz21_0
                        try clear hfz21_1
                        try clear hfz21_2
                        try clear hfz26_0
                        try clear hfz26_1
                        try clear hfz26_2
                        try clear hfz28_0
                        try clear hfz28_1
                        try clear hfz28_2
                        try clear hfz30_0
                        try clear hfz30_1
                        try clear hfz30_2
                        try clear hfz31_0
                        try clear hfz31_1
                        try clear hfz31_2
                        try clear hfz41_0
                        try clear hfz41_1
                        try clear hfz41_2
                        try clear hfz44_0
                        try clear hfz44_1
                        try clear hfz44_2
                        try clear hfz47_0
                        try clear hfz47_1
                        try clear hfz47_2
                        try clear hfz50_0
                        try clear hfz50_1
                        try clear hfz50_2
                        try clear hfz52_0
                        try clear hfz52_1
                        try clear hfz52_2
                        try clear hfz55_0
                        try clear hfz55_1
                        try clear hfz55_2
                        try clear hfz58_0
                        try clear hfz58_1
                        try clear hfz58_2
                        try clear hfz8_0
                        try clear hfz8_1
                        try clear hfz8_2
                        try clear hx39_0
                        try clear hx437_0
                        try clear hx438_0
                        try clear p2
                        try clear p39
                        try clear p4
                        try clear p437
                        try clear p438
                        try clear p6
                        try clear q39
                        try clear q4
                        try clear q437
                        try clear q438
                        obtain ⟨kq, x11_39, rfl, HA, HJ39, HO_441002, BK434, BK440, HB⟩ := hcut
                        have hl441002_39 := (zl_ HO_441002.out).1
                        rw [hl441002_39] at HO_441002
                        (try simp only [hl441002_39])
                        (try simp only [hl441002_39] at BK434)
                        (try simp only [hl441002_39] at BK440)
                        cases kq with
                        | zero => exact absurd HA.out (by simp [quietuslaw25_PadsAreForgotten.j2])
                        | succ kj39 =>
                          have H := HA.out
                          clear HA
                          simp only [quietuslaw25_PadsAreForgotten.j2] at H
                          replace H := Option.bind_eq_some_iff.mp H
                          obtain ⟨⟨t448, t449, t450, t451, t454⟩, A590, H⟩ := H
                          replace H : ((pad_Use.f kj39 a0_0 a0_1 y447 x11_39 (ji36) a3).bind fun bt456 => ((pad_Spend.f a0_0 a0_1 l0_2 (ji36)).bind fun bt464 => ((pad_Spend.f a0_0 a0_1 y447 (ji36)).bind fun bt471 => (if t454 = 0 then (if bt456.2.2.2.2 = 0 then (if bt464.2.2.2 = 0 then (if bt471.2.2.2 = 0 then ((quietusref25_Same.f kj39 t449 t450 t451 bt456.2.1 bt456.2.2.1 bt456.2.2.2.1).bind fun t478 => (if t478 = true then ((quietusref25_Same.f kj39 bt464.1 bt464.2.1 bt464.2.2.1 bt471.1 bt471.2.1 bt471.2.2.1).bind fun t479 => (if t479 = true then ((quietusref25_Same.f kj39 t449 t450 t451 bt464.1 bt464.2.1 bt464.2.2.1).bind fun t480 => (quietuslaw25_PadsAreForgotten.j3 kj39 a2 a3 (ji36) t448 bt456.1 (!t480) a0_0 a0_1 l0_2)) else (none))) else (none))) else (none)) else (none)) else (none)) else (none))))) = some r := H
                          have A59 := Aside0.mk A590
                          clear A590
                          replace H := Option.bind_eq_some_iff.mp H
                          obtain ⟨⟨t456, t457, t458, t459, t462⟩, A600, H⟩ := H
                          replace H : ((pad_Spend.f a0_0 a0_1 l0_2 (ji36)).bind fun bt464 => ((pad_Spend.f a0_0 a0_1 y447 (ji36)).bind fun bt471 => (if t454 = 0 then (if t462 = 0 then (if bt464.2.2.2 = 0 then (if bt471.2.2.2 = 0 then ((quietusref25_Same.f kj39 t449 t450 t451 t457 t458 t459).bind fun t478 => (if t478 = true then ((quietusref25_Same.f kj39 bt464.1 bt464.2.1 bt464.2.2.1 bt471.1 bt471.2.1 bt471.2.2.1).bind fun t479 => (if t479 = true then ((quietusref25_Same.f kj39 t449 t450 t451 bt464.1 bt464.2.1 bt464.2.2.1).bind fun t480 => (quietuslaw25_PadsAreForgotten.j3 kj39 a2 a3 (ji36) t448 t456 (!t480) a0_0 a0_1 l0_2)) else (none))) else (none))) else (none)) else (none)) else (none)) else (none)))) = some r := H
                          have A60 := Aside0.mk A600
                          clear A600
                          replace H := Option.bind_eq_some_iff.mp H
                          obtain ⟨⟨t464, t465, t466, t469⟩, A610, H⟩ := H
                          replace H : ((pad_Spend.f a0_0 a0_1 y447 (ji36)).bind fun bt471 => (if t454 = 0 then (if t462 = 0 then (if t469 = 0 then (if bt471.2.2.2 = 0 then ((quietusref25_Same.f kj39 t449 t450 t451 t457 t458 t459).bind fun t478 => (if t478 = true then ((quietusref25_Same.f kj39 t464 t465 t466 bt471.1 bt471.2.1 bt471.2.2.1).bind fun t479 => (if t479 = true then ((quietusref25_Same.f kj39 t449 t450 t451 t464 t465 t466).bind fun t480 => (quietuslaw25_PadsAreForgotten.j3 kj39 a2 a3 (ji36) t448 t456 (!t480) a0_0 a0_1 l0_2)) else (none))) else (none))) else (none)) else (none)) else (none)) else (none))) = some r := H
                          have A61 := Aside0.mk A610
                          clear A610
                          replace H := Option.bind_eq_some_iff.mp H
                          obtain ⟨⟨t471, t472, t473, t476⟩, A620, H⟩ := H
                          replace H : (if t454 = 0 then (if t462 = 0 then (if t469 = 0 then (if t476 = 0 then ((quietusref25_Same.f kj39 t449 t450 t451 t457 t458 t459).bind fun t478 => (if t478 = true then ((quietusref25_Same.f kj39 t464 t465 t466 t471 t472 t473).bind fun t479 => (if t479 = true then ((quietusref25_Same.f kj39 t449 t450 t451 t464 t465 t466).bind fun t480 => (quietuslaw25_PadsAreForgotten.j3 kj39 a2 a3 (ji36) t448 t456 (!t480) a0_0 a0_1 l0_2)) else (none))) else (none))) else (none)) else (none)) else (none)) else (none)) = some r := H
                          have A62 := Aside0.mk A620
                          clear A620
                          have HC63 := Aside0.mk H
                          clear H
                          have hnb64 := NB434_440.out
                          have hnc64 := NB440_434.out
                          have hcz65_0 : wc.cell? ⟨gb434, 0, none⟩ = some (.int .i64 a0_0) := (blk_cell BK434.out 0).trans rfl
                          have hcz65_1 : wc.cell? ⟨gb434, 1, none⟩ = some (.int .i64 a0_1) := (blk_cell BK434.out 1).trans rfl
                          have hcz65_2 : wc.cell? ⟨gb434, 2, none⟩ = some (.slice A0_2 l0_2.length c0_2) := (blk_cell BK434.out 2).trans rfl
                          have hfz65_0 := blk_frozen BK434.out 0
                          have hfz65_1 := blk_frozen BK434.out 1
                          have hfz65_2 := blk_frozen BK434.out 2
                          go_upto_region 16 with (first | ((with_reducible refine gate_callee (f := 10) rfl ?_); refine goesL_ (some 101) rfl rfl Try.func10 (by kernel_rfl) rfl #[.agg #[.int .i64 a0_0, .int .i64 a0_1, .slice A0_2 l0_2.length c0_2], .int .i64 x11_39, .int .i64 (ji36), .string a3] rfl (by (try simp only [List.map_toArray, List.map_cons, List.map_nil]); first | done | (simp only [hji36]; rfl) | rfl | (simp only [List.length_drop, List.length_take]; rfl)) ?_; (with_reducible refine (pad_Use.calls kj39 a0_0 a0_1 _ _ l0_2 x11_39 (ji36) a3 t448 t449 t450 t451 t454 _ ?side1 ?side2 A59.out).mono ?_); (case side1 => repeat (first | exact (Kd.C_below HR0_2.out HB.out) | (with_reducible refine Kd.C_alloc ?_ _) | (with_reducible refine Kd.C_drewN ?_ _) | (with_reducible refine Kd.C_drew ?_))); (case side2 => exact HC0_2.out); rintro e w66 ⟨v452, rfl, ho0, hb⟩; refine ⟨_, rfl, ?_⟩; have n0_ := Aside0.mk (zj_ (by (with_reducible repeat (first | apply za_ | apply zb_ | apply zc_)); exact HO_441002.out) (zk_ ho0) hb); have n1_ := Aside0.mk (zg_ (zh_ ho0 (zi_ (by (with_reducible repeat (first | apply za_ | apply zb_ | apply zc_)); exact HO_441002.out))) (zw_ (by repeat (first | (with_reducible first | exact HB.out | apply zs_ | apply zt_ | apply zu_ | refine zr_ ?_ GE434.out | refine zr_ ?_ GE440.out) | exact HB.out)))); have n2_ := Aside0.mk (zq_ (g := gb434) (o := .cells #[.int .i64 a0_0, .int .i64 a0_1, .slice A0_2 l0_2.length c0_2] 24 (0, 0)) (by (with_reducible repeat (first | refine zm_ ?_ _ | refine zn_ ?_ | refine zo_ ?_ _)); exact BK434.out) hb); have n3_ := Aside0.mk (zq_ (g := gb440) (o := .cells #[.int .i64 a0_0, .int .i64 a0_1, .slice (some ⟨go39, 0, none⟩) y447.length co49] 24 (0, 0)) (by (with_reducible repeat (first | refine zm_ ?_ _ | refine zn_ ?_ | refine zo_ ?_ _)); exact BK440.out) hb); have n4_ := Aside0.mk (zv_ (by repeat (first | (with_reducible first | exact HB.out | apply zs_ | apply zt_ | apply zu_ | refine zr_ ?_ GE434.out | refine zr_ ?_ GE440.out) | exact HB.out)) hb); clear HO_441002; clear BK434; clear BK440; clear HB; have HO_441002 := n0_; have HO453 := n1_; have BK434 := n2_; have BK440 := n3_; have HB := n4_; clear n0_ n1_ n2_ n3_ n4_; (try clear hb); (try clear hb2); (try clear hk); (try clear hi); (try clear ho0)) | ((with_reducible refine gate_dst (N := 13) rfl ?_); (try (refine gate_guard (by rfl) ?_; dsimp only)); refine box_event ?hg (N := 13) ?hd (cs := #[.int .i64 0, .int .i64 0, .slice none 0 0]) (t := 24) ?hr ?_; (case hd => rfl); (case hg => rfl); (case hr => first | (go_simp; done) | (go_simp; rfl)); intro gb455 hg w67 hbox hb; have n0_ := Aside0.mk (Kd.R_below (by (with_reducible repeat (first | apply za_ | apply zb_ | apply zc_)); exact HO_441002.out) hb); have n1_ := Aside0.mk (Kd.R_below (by (with_reducible repeat (first | apply za_ | apply zb_ | apply zc_)); exact HO453.out) hb); have n2_ := Aside0.mk (zq_ (g := gb434) (o := .cells #[.int .i64 a0_0, .int .i64 a0_1, .slice A0_2 l0_2.length c0_2] 24 (0, 0)) (by (with_reducible repeat (first | refine zm_ ?_ _ | refine zn_ ?_ | refine zo_ ?_ _)); exact BK434.out) hb); have n3_ := Aside0.mk (zq_ (g := gb440) (o := .cells #[.int .i64 a0_0, .int .i64 a0_1, .slice (some ⟨go39, 0, none⟩) y447.length co49] 24 (0, 0)) (by (with_reducible repeat (first | refine zm_ ?_ _ | refine zn_ ?_ | refine zo_ ?_ _)); exact BK440.out) hb); have n4_ := Aside0.mk (zv_ (by repeat (first | (with_reducible first | exact HB.out | apply zs_ | apply zt_ | apply zu_ | refine zr_ ?_ GE434.out | refine zr_ ?_ GE440.out) | exact HB.out)) hb); have n5_ := Aside0.mk (hbox); have n6_ := Aside0.mk ((by rw [hg]; exact (zw_ (by repeat (first | (with_reducible first | exact HB.out | apply zs_ | apply zt_ | apply zu_ | refine zr_ ?_ GE434.out | refine zr_ ?_ GE440.out) | exact HB.out))) : w.heap.size ≤ gb455)); have n7_ := Aside0.mk ((by rw [hg]; exact (zw_ (by repeat (first | (with_reducible first | exact HB.out | apply zs_ | apply zt_ | apply zu_ | refine zr_ ?_ GE434.out | refine zr_ ?_ GE440.out) | exact HB.out))) : w.heap.size ≤ gb455)); have n8_ := Aside0.mk ((by rw [hg]; exact Nat.ne_of_lt (blk_lt (g := gb434) (o := .cells #[.int .i64 a0_0, .int .i64 a0_1, .slice A0_2 l0_2.length c0_2] 24 (0, 0)) (by (with_reducible repeat (first | refine zm_ ?_ _ | refine zn_ ?_ | refine zo_ ?_ _)); exact BK434.out)) : gb434 ≠ gb455)); have n9_ := Aside0.mk ((by rw [hg]; exact Nat.ne_of_gt (blk_lt (g := gb434) (o := .cells #[.int .i64 a0_0, .int .i64 a0_1, .slice A0_2 l0_2.length c0_2] 24 (0, 0)) (by (with_reducible repeat (first | refine zm_ ?_ _ | refine zn_ ?_ | refine zo_ ?_ _)); exact BK434.out)) : gb455 ≠ gb434)); have n10_ := Aside0.mk ((by rw [hg]; exact Nat.ne_of_lt (blk_lt (g := gb440) (o := .cells #[.int .i64 a0_0, .int .i64 a0_1, .slice (some ⟨go39, 0, none⟩) y447.length co49] 24 (0, 0)) (by (with_reducible repeat (first | refine zm_ ?_ _ | refine zn_ ?_ | refine zo_ ?_ _)); exact BK440.out)) : gb440 ≠ gb455)); have n11_ := Aside0.mk ((by rw [hg]; exact Nat.ne_of_gt (blk_lt (g := gb440) (o := .cells #[.int .i64 a0_0, .int .i64 a0_1, .slice (some ⟨go39, 0, none⟩) y447.length co49] 24 (0, 0)) (by (with_reducible repeat (first | refine zm_ ?_ _ | refine zn_ ?_ | refine zo_ ?_ _)); exact BK440.out)) : gb455 ≠ gb440)); clear HO_441002; clear HO453; clear BK434; clear BK440; clear HB; have HO_441002 := n0_; have HO453 := n1_; have BK434 := n2_; have BK440 := n3_; have HB := n4_; have BK455 := n5_; have GW455 := n6_; have GE455 := n7_; have NB434_455 := n8_; have NB455_434 := n9_; have NB440_455 := n10_; have NB455_440 := n11_; clear n0_ n1_ n2_ n3_ n4_ n5_ n6_ n7_ n8_ n9_ n10_ n11_; clear hb hbox hg; have hnb68 := NB455_434.out; have hnc68 := NB434_455.out; have hnb69 := NB455_440.out; have hnc69 := NB440_455.out; have hcz70_0 : w67.cell? ⟨gb455, 0, none⟩ = some (.int .i64 0) := (blk_cell BK455.out 0).trans rfl; have hcz70_1 : w67.cell? ⟨gb455, 1, none⟩ = some (.int .i64 0) := (blk_cell BK455.out 1).trans rfl; have hcz70_2 : w67.cell? ⟨gb455, 2, none⟩ = some (.slice none 0 0) := (blk_cell BK455.out 2).trans rfl; have hfz70_0 := blk_frozen BK455.out 0; have hfz70_1 := blk_frozen BK455.out 1; have hfz70_2 := blk_frozen BK455.out 2; obtain ⟨Ao71, co71, eo71⟩ := Kd.R_slice HO453.out; subst eo71; have hcz72_0 : w67.cell? ⟨gb440, 0, none⟩ = some (.int .i64 a0_0) := (blk_cell BK440.out 0).trans rfl; have hcz72_1 : w67.cell? ⟨gb440, 1, none⟩ = some (.int .i64 a0_1) := (blk_cell BK440.out 1).trans rfl; have hcz72_2 : w67.cell? ⟨gb440, 2, none⟩ = some (.slice (some ⟨go39, 0, none⟩) y447.length co49) := (blk_cell BK440.out 2).trans rfl; have hfz72_0 := blk_frozen BK440.out 0; have hfz72_1 := blk_frozen BK440.out 1; have hfz72_2 := blk_frozen BK440.out 2) | ((with_reducible refine gate_callee (f := 10) rfl ?_); refine goesL_ (some 110) rfl rfl Try.func10 (by kernel_rfl) rfl #[.agg #[.int .i64 a0_0, .int .i64 a0_1, .slice (some ⟨go39, 0, none⟩) y447.length co49], .int .i64 x11_39, .int .i64 (ji36), .string a3] rfl (by (try simp only [List.map_toArray, List.map_cons, List.map_nil]); first | done | (simp only [hji36]; rfl) | rfl | (simp only [List.length_drop, List.length_take]; rfl)) ?_; (with_reducible refine (pad_Use.calls kj39 a0_0 a0_1 _ _ y447 x11_39 (ji36) a3 t456 t457 t458 t459 t462 _ ?side1 ?side2 A60.out).mono ?_); (case side1 => refine (zl_ (e := 9) (base := w.heap.size) (ok := fun k_ => (True ∧ some k_ ≠ (.slice Ao71 t451.length co71 : Value).ownBlock)) (n := y447.length) (c := co49) ?_).2.2; exact (by (with_reducible repeat (first | apply za_ | apply zb_ | apply zc_)); exact (zd_ (ze_ (p := ⟨gb455, 2, none⟩) (ze_ (p := ⟨gb455, 1, none⟩) (ze_ (p := ⟨gb455, 0, none⟩) (zf_ HO_441002.out BK455.out (by decide)) (fun _ hk => hk.2) (.int .i64 t449)) (fun _ hk => hk.2) (.int .i64 t450)) (fun _ hk => hk.2) (.slice Ao71 t451.length co71)) (fun _ h_ => h_.1)))); (case side2 => exact (zl_ HO_441002.out).2.1); rintro e w73 ⟨v460, rfl, ho0, hb⟩; refine ⟨_, rfl, ?_⟩; have n0_ := Aside0.mk (zj_ (by (with_reducible repeat (first | apply za_ | apply zb_ | apply zc_)); exact (zd_ (ze_ (p := ⟨gb455, 2, none⟩) (ze_ (p := ⟨gb455, 1, none⟩) (ze_ (p := ⟨gb455, 0, none⟩) (zf_ HO_441002.out BK455.out (by decide)) (fun _ hk => hk.2) (.int .i64 t449)) (fun _ hk => hk.2) (.int .i64 t450)) (fun _ hk => hk.2) (.slice Ao71 t451.length co71)) (fun _ h_ => h_.1))) (zk_ ho0) hb); have n1_ := Aside0.mk (zj_ (by (with_reducible repeat (first | apply za_ | apply zb_ | apply zc_)); exact (zd_ (ze_ (p := ⟨gb455, 2, none⟩) (ze_ (p := ⟨gb455, 1, none⟩) (ze_ (p := ⟨gb455, 0, none⟩) (zf_ HO453.out BK455.out (by decide)) (fun _ hk => hk.2) (.int .i64 t449)) (fun _ hk => hk.2) (.int .i64 t450)) (fun _ hk => hk.2) (.slice Ao71 t451.length co71)) (fun _ h_ => h_.1))) (zk_ ho0) hb); have n2_ := Aside0.mk (zg_ (zh_ (zh_ ho0 (zi_ (by (with_reducible repeat (first | apply za_ | apply zb_ | apply zc_)); exact (zd_ (ze_ (p := ⟨gb455, 2, none⟩) (ze_ (p := ⟨gb455, 1, none⟩) (ze_ (p := ⟨gb455, 0, none⟩) (zf_ HO_441002.out BK455.out (by decide)) (fun _ hk => hk.2) (.int .i64 t449)) (fun _ hk => hk.2) (.int .i64 t450)) (fun _ hk => hk.2) (.slice Ao71 t451.length co71)) (fun _ h_ => h_.1))))) (zi_ (by (with_reducible repeat (first | apply za_ | apply zb_ | apply zc_)); exact (zd_ (ze_ (p := ⟨gb455, 2, none⟩) (ze_ (p := ⟨gb455, 1, none⟩) (ze_ (p := ⟨gb455, 0, none⟩) (zf_ HO453.out BK455.out (by decide)) (fun _ hk => hk.2) (.int .i64 t449)) (fun _ hk => hk.2) (.int .i64 t450)) (fun _ hk => hk.2) (.slice Ao71 t451.length co71)) (fun _ h_ => h_.1))))) (zw_ (by repeat (first | (with_reducible first | exact HB.out | apply zs_ | apply zt_ | apply zu_ | refine zr_ ?_ GE434.out | refine zr_ ?_ GE440.out | refine zr_ ?_ GE455.out) | exact HB.out)))); have n3_ := Aside0.mk (zq_ (g := gb434) (o := .cells #[.int .i64 a0_0, .int .i64 a0_1, .slice A0_2 l0_2.length c0_2] 24 (0, 0)) (by (with_reducible repeat (first | refine zm_ ?_ _ | refine zn_ ?_ | refine zo_ ?_ _)); refine zp_ ?_ NB434_455.out _; (with_reducible repeat (first | refine zm_ ?_ _ | refine zn_ ?_ | refine zo_ ?_ _)); refine zp_ ?_ NB434_455.out _; (with_reducible repeat (first | refine zm_ ?_ _ | refine zn_ ?_ | refine zo_ ?_ _)); refine zp_ ?_ NB434_455.out _; (with_reducible repeat (first | refine zm_ ?_ _ | refine zn_ ?_ | refine zo_ ?_ _)); exact BK434.out) hb); have n4_ := Aside0.mk (zq_ (g := gb440) (o := .cells #[.int .i64 a0_0, .int .i64 a0_1, .slice (some ⟨go39, 0, none⟩) y447.length co49] 24 (0, 0)) (by (with_reducible repeat (first | refine zm_ ?_ _ | refine zn_ ?_ | refine zo_ ?_ _)); refine zp_ ?_ NB440_455.out _; (with_reducible repeat (first | refine zm_ ?_ _ | refine zn_ ?_ | refine zo_ ?_ _)); refine zp_ ?_ NB440_455.out _; (with_reducible repeat (first | refine zm_ ?_ _ | refine zn_ ?_ | refine zo_ ?_ _)); refine zp_ ?_ NB440_455.out _; (with_reducible repeat (first | refine zm_ ?_ _ | refine zn_ ?_ | refine zo_ ?_ _)); exact BK440.out) hb); have n5_ := Aside0.mk (zq_ (g := gb455) (o := .cells #[.int .i64 t449, .int .i64 t450, .slice Ao71 t451.length co71] 24 (0, 0)) (by (with_reducible repeat (first | refine zm_ ?_ _ | refine zn_ ?_ | refine zo_ ?_ _)); refine blk_put (cs := #[.int .i64 t449, .int .i64 t450, .slice none 0 0]) ?_ 2 _ rfl; (with_reducible repeat (first | refine zm_ ?_ _ | refine zn_ ?_ | refine zo_ ?_ _)); refine blk_put (cs := #[.int .i64 t449, .int .i64 0, .slice none 0 0]) ?_ 1 _ rfl; (with_reducible repeat (first | refine zm_ ?_ _ | refine zn_ ?_ | refine zo_ ?_ _)); refine blk_put (cs := #[.int .i64 0, .int .i64 0, .slice none 0 0]) ?_ 0 _ rfl; (with_reducible repeat (first | refine zm_ ?_ _ | refine zn_ ?_ | refine zo_ ?_ _)); exact BK455.out) hb); have n6_ := Aside0.mk (zv_ (by repeat (first | (with_reducible first | exact HB.out | apply zs_ | apply zt_ | apply zu_ | refine zr_ ?_ GE434.out | refine zr_ ?_ GE440.out | refine zr_ ?_ GE455.out) | exact HB.out)) hb); clear HO_441002; clear HO453; clear BK434; clear BK440; clear BK455; clear HB; have HO_441002 := n0_; have HO453 := n1_; have HO461 := n2_; have BK434 := n3_; have BK440 := n4_; have BK455 := n5_; have HB := n6_; clear n0_ n1_ n2_ n3_ n4_ n5_ n6_; (try clear hb); (try clear hb2); (try clear hk); (try clear hi); (try clear ho0)) | ((with_reducible refine gate_dst (N := 16) rfl ?_); (try (refine gate_guard (by rfl) ?_; dsimp only)); refine box_event ?hg (N := 16) ?hd (cs := #[.int .i64 0, .int .i64 0, .slice none 0 0]) (t := 24) ?hr ?_; (case hd => rfl); (case hg => rfl); (case hr => first | (go_simp; done) | (go_simp; rfl)); intro gb463 hg w74 hbox hb; have n0_ := Aside0.mk (Kd.R_below (by (with_reducible repeat (first | apply za_ | apply zb_ | apply zc_)); exact HO_441002.out) hb); have n1_ := Aside0.mk (Kd.R_below (by (with_reducible repeat (first | apply za_ | apply zb_ | apply zc_)); exact HO453.out) hb); have n2_ := Aside0.mk (Kd.R_below (by (with_reducible repeat (first | apply za_ | apply zb_ | apply zc_)); exact HO461.out) hb); have n3_ := Aside0.mk (zq_ (g := gb434) (o := .cells #[.int .i64 a0_0, .int .i64 a0_1, .slice A0_2 l0_2.length c0_2] 24 (0, 0)) (by (with_reducible repeat (first | refine zm_ ?_ _ | refine zn_ ?_ | refine zo_ ?_ _)); exact BK434.out) hb); have n4_ := Aside0.mk (zq_ (g := gb440) (o := .cells #[.int .i64 a0_0, .int .i64 a0_1, .slice (some ⟨go39, 0, none⟩) y447.length co49] 24 (0, 0)) (by (with_reducible repeat (first | refine zm_ ?_ _ | refine zn_ ?_ | refine zo_ ?_ _)); exact BK440.out) hb); have n5_ := Aside0.mk (zq_ (g := gb455) (o := .cells #[.int .i64 t449, .int .i64 t450, .slice Ao71 t451.length co71] 24 (0, 0)) (by (with_reducible repeat (first | refine zm_ ?_ _ | refine zn_ ?_ | refine zo_ ?_ _)); exact BK455.out) hb); have n6_ := Aside0.mk (zv_ (by repeat (first | (with_reducible first | exact HB.out | apply zs_ | apply zt_ | apply zu_ | refine zr_ ?_ GE434.out | refine zr_ ?_ GE440.out | refine zr_ ?_ GE455.out) | exact HB.out)) hb); have n7_ := Aside0.mk (hbox); have n8_ := Aside0.mk ((by rw [hg]; exact (zw_ (by repeat (first | (with_reducible first | exact HB.out | apply zs_ | apply zt_ | apply zu_ | refine zr_ ?_ GE434.out | refine zr_ ?_ GE440.out | refine zr_ ?_ GE455.out) | exact HB.out))) : w.heap.size ≤ gb463)); have n9_ := Aside0.mk ((by rw [hg]; exact (zw_ (by repeat (first | (with_reducible first | exact HB.out | apply zs_ | apply zt_ | apply zu_ | refine zr_ ?_ GE434.out | refine zr_ ?_ GE440.out | refine zr_ ?_ GE455.out) | exact HB.out))) : w.heap.size ≤ gb463)); have n10_ := Aside0.mk ((by rw [hg]; exact Nat.ne_of_lt (blk_lt (g := gb434) (o := .cells #[.int .i64 a0_0, .int .i64 a0_1, .slice A0_2 l0_2.length c0_2] 24 (0, 0)) (by (with_reducible repeat (first | refine zm_ ?_ _ | refine zn_ ?_ | refine zo_ ?_ _)); exact BK434.out)) : gb434 ≠ gb463)); have n11_ := Aside0.mk ((by rw [hg]; exact Nat.ne_of_gt (blk_lt (g := gb434) (o := .cells #[.int .i64 a0_0, .int .i64 a0_1, .slice A0_2 l0_2.length c0_2] 24 (0, 0)) (by (with_reducible repeat (first | refine zm_ ?_ _ | refine zn_ ?_ | refine zo_ ?_ _)); exact BK434.out)) : gb463 ≠ gb434)); have n12_ := Aside0.mk ((by rw [hg]; exact Nat.ne_of_lt (blk_lt (g := gb440) (o := .cells #[.int .i64 a0_0, .int .i64 a0_1, .slice (some ⟨go39, 0, none⟩) y447.length co49] 24 (0, 0)) (by (with_reducible repeat (first | refine zm_ ?_ _ | refine zn_ ?_ | refine zo_ ?_ _)); exact BK440.out)) : gb440 ≠ gb463)); have n13_ := Aside0.mk ((by rw [hg]; exact Nat.ne_of_gt (blk_lt (g := gb440) (o := .cells #[.int .i64 a0_0, .int .i64 a0_1, .slice (some ⟨go39, 0, none⟩) y447.length co49] 24 (0, 0)) (by (with_reducible repeat (first | refine zm_ ?_ _ | refine zn_ ?_ | refine zo_ ?_ _)); exact BK440.out)) : gb463 ≠ gb440)); have n14_ := Aside0.mk ((by rw [hg]; exact Nat.ne_of_lt (blk_lt (g := gb455) (o := .cells #[.int .i64 t449, .int .i64 t450, .slice Ao71 t451.length co71] 24 (0, 0)) (by (with_reducible repeat (first | refine zm_ ?_ _ | refine zn_ ?_ | refine zo_ ?_ _)); exact BK455.out)) : gb455 ≠ gb463)); have n15_ := Aside0.mk ((by rw [hg]; exact Nat.ne_of_gt (blk_lt (g := gb455) (o := .cells #[.int .i64 t449, .int .i64 t450, .slice Ao71 t451.length co71] 24 (0, 0)) (by (with_reducible repeat (first | refine zm_ ?_ _ | refine zn_ ?_ | refine zo_ ?_ _)); exact BK455.out)) : gb463 ≠ gb455)); clear HO_441002; clear HO453; clear HO461; clear BK434; clear BK440; clear BK455; clear HB; have HO_441002 := n0_; have HO453 := n1_; have HO461 := n2_; have BK434 := n3_; have BK440 := n4_; have BK455 := n5_; have HB := n6_; have BK463 := n7_; have GW463 := n8_; have GE463 := n9_; have NB434_463 := n10_; have NB463_434 := n11_; have NB440_463 := n12_; have NB463_440 := n13_; have NB455_463 := n14_; have NB463_455 := n15_; clear n0_ n1_ n2_ n3_ n4_ n5_ n6_ n7_ n8_ n9_ n10_ n11_ n12_ n13_ n14_ n15_; clear hb hbox hg; have hnb75 := NB463_434.out; have hnc75 := NB434_463.out; have hnb76 := NB463_440.out; have hnc76 := NB440_463.out; have hnb77 := NB463_455.out; have hnc77 := NB455_463.out; have hcz78_0 : w74.cell? ⟨gb463, 0, none⟩ = some (.int .i64 0) := (blk_cell BK463.out 0).trans rfl; have hcz78_1 : w74.cell? ⟨gb463, 1, none⟩ = some (.int .i64 0) := (blk_cell BK463.out 1).trans rfl; have hcz78_2 : w74.cell? ⟨gb463, 2, none⟩ = some (.slice none 0 0) := (blk_cell BK463.out 2).trans rfl; have hfz78_0 := blk_frozen BK463.out 0; have hfz78_1 := blk_frozen BK463.out 1; have hfz78_2 := blk_frozen BK463.out 2; obtain ⟨Ao79, co79, eo79⟩ := Kd.R_slice HO461.out; subst eo79; have hcz80_0 : w74.cell? ⟨gb434, 0, none⟩ = some (.int .i64 a0_0) := (blk_cell BK434.out 0).trans rfl; have hcz80_1 : w74.cell? ⟨gb434, 1, none⟩ = some (.int .i64 a0_1) := (blk_cell BK434.out 1).trans rfl; have hcz80_2 : w74.cell? ⟨gb434, 2, none⟩ = some (.slice A0_2 l0_2.length c0_2) := (blk_cell BK434.out 2).trans rfl; have hfz80_0 := blk_frozen BK434.out 0; have hfz80_1 := blk_frozen BK434.out 1; have hfz80_2 := blk_frozen BK434.out 2) | ((with_reducible refine gate_callee (f := 11) rfl ?_); refine goesL_ (some 117) rfl rfl Try.func11 (by kernel_rfl) rfl #[.agg #[.int .i64 a0_0, .int .i64 a0_1, .slice A0_2 l0_2.length c0_2], .int .i64 (ji36)] rfl (by (try simp only [List.map_toArray, List.map_cons, List.map_nil]); first | done | (simp only [hji36]; rfl) | rfl | (simp only [List.length_drop, List.length_take]; rfl)) ?_; (with_reducible refine (pad_Spend.calls a0_0 a0_1 _ _ l0_2 (ji36) t464 t465 t466 t469 _ ?side1 ?side2 A61.out).mono ?_); (case side1 => exact Kd.C_below HR0_2.out (by repeat (first | (with_reducible first | exact HB.out | apply zs_ | apply zt_ | apply zu_ | refine zr_ ?_ GE434.out | refine zr_ ?_ GE440.out | refine zr_ ?_ GE455.out | refine zr_ ?_ GE463.out) | exact HB.out))); (case side2 => exact HC0_2.out); rintro e w81 ⟨v467, rfl, ho0, hb⟩; refine ⟨_, rfl, ?_⟩; have n0_ := Aside0.mk (zj_ (by (with_reducible repeat (first | apply za_ | apply zb_ | apply zc_)); exact (zd_ (ze_ (p := ⟨gb463, 2, none⟩) (ze_ (p := ⟨gb463, 1, none⟩) (ze_ (p := ⟨gb463, 0, none⟩) (zf_ HO_441002.out BK463.out (by decide)) (fun _ hk => hk.2) (.int .i64 t457)) (fun _ hk => hk.2) (.int .i64 t458)) (fun _ hk => hk.2) (.slice Ao79 t459.length co79)) (fun _ h_ => h_.1))) (zk_ ho0) hb); have n1_ := Aside0.mk (zj_ (by (with_reducible repeat (first | apply za_ | apply zb_ | apply zc_)); exact (zd_ (ze_ (p := ⟨gb463, 2, none⟩) (ze_ (p := ⟨gb463, 1, none⟩) (ze_ (p := ⟨gb463, 0, none⟩) (zf_ HO453.out BK463.out (by decide)) (fun _ hk => hk.2) (.int .i64 t457)) (fun _ hk => hk.2) (.int .i64 t458)) (fun _ hk => hk.2) (.slice Ao79 t459.length co79)) (fun _ h_ => h_.1))) (zk_ ho0) hb); have n2_ := Aside0.mk (zj_ (by (with_reducible repeat (first | apply za_ | apply zb_ | apply zc_)); exact (zd_ (ze_ (p := ⟨gb463, 2, none⟩) (ze_ (p := ⟨gb463, 1, none⟩) (ze_ (p := ⟨gb463, 0, none⟩) (zf_ HO461.out BK463.out (by decide)) (fun _ hk => hk.2) (.int .i64 t457)) (fun _ hk => hk.2) (.int .i64 t458)) (fun _ hk => hk.2) (.slice Ao79 t459.length co79)) (fun _ h_ => h_.1))) (zk_ ho0) hb); have n3_ := Aside0.mk (zg_ (zh_ (zh_ (zh_ ho0 (zi_ (by (with_reducible repeat (first | apply za_ | apply zb_ | apply zc_)); exact (zd_ (ze_ (p := ⟨gb463, 2, none⟩) (ze_ (p := ⟨gb463, 1, none⟩) (ze_ (p := ⟨gb463, 0, none⟩) (zf_ HO_441002.out BK463.out (by decide)) (fun _ hk => hk.2) (.int .i64 t457)) (fun _ hk => hk.2) (.int .i64 t458)) (fun _ hk => hk.2) (.slice Ao79 t459.length co79)) (fun _ h_ => h_.1))))) (zi_ (by (with_reducible repeat (first | apply za_ | apply zb_ | apply zc_)); exact (zd_ (ze_ (p := ⟨gb463, 2, none⟩) (ze_ (p := ⟨gb463, 1, none⟩) (ze_ (p := ⟨gb463, 0, none⟩) (zf_ HO453.out BK463.out (by decide)) (fun _ hk => hk.2) (.int .i64 t457)) (fun _ hk => hk.2) (.int .i64 t458)) (fun _ hk => hk.2) (.slice Ao79 t459.length co79)) (fun _ h_ => h_.1))))) (zi_ (by (with_reducible repeat (first | apply za_ | apply zb_ | apply zc_)); exact (zd_ (ze_ (p := ⟨gb463, 2, none⟩) (ze_ (p := ⟨gb463, 1, none⟩) (ze_ (p := ⟨gb463, 0, none⟩) (zf_ HO461.out BK463.out (by decide)) (fun _ hk => hk.2) (.int .i64 t457)) (fun _ hk => hk.2) (.int .i64 t458)) (fun _ hk => hk.2) (.slice Ao79 t459.length co79)) (fun _ h_ => h_.1))))) (zw_ (by repeat (first | (with_reducible first | exact HB.out | apply zs_ | apply zt_ | apply zu_ | refine zr_ ?_ GE434.out | refine zr_ ?_ GE440.out | refine zr_ ?_ GE455.out | refine zr_ ?_ GE463.out) | exact HB.out)))); have n4_ := Aside0.mk (zq_ (g := gb434) (o := .cells #[.int .i64 a0_0, .int .i64 a0_1, .slice A0_2 l0_2.length c0_2] 24 (0, 0)) (by (with_reducible repeat (first | refine zm_ ?_ _ | refine zn_ ?_ | refine zo_ ?_ _)); refine zp_ ?_ NB434_463.out _; (with_reducible repeat (first | refine zm_ ?_ _ | refine zn_ ?_ | refine zo_ ?_ _)); refine zp_ ?_ NB434_463.out _; (with_reducible repeat (first | refine zm_ ?_ _ | refine zn_ ?_ | refine zo_ ?_ _)); refine zp_ ?_ NB434_463.out _; (with_reducible repeat (first | refine zm_ ?_ _ | refine zn_ ?_ | refine zo_ ?_ _)); exact BK434.out) hb); have n5_ := Aside0.mk (zq_ (g := gb440) (o := .cells #[.int .i64 a0_0, .int .i64 a0_1, .slice (some ⟨go39, 0, none⟩) y447.length co49] 24 (0, 0)) (by (with_reducible repeat (first | refine zm_ ?_ _ | refine zn_ ?_ | refine zo_ ?_ _)); refine zp_ ?_ NB440_463.out _; (with_reducible repeat (first | refine zm_ ?_ _ | refine zn_ ?_ | refine zo_ ?_ _)); refine zp_ ?_ NB440_463.out _; (with_reducible repeat (first | refine zm_ ?_ _ | refine zn_ ?_ | refine zo_ ?_ _)); refine zp_ ?_ NB440_463.out _; (with_reducible repeat (first | refine zm_ ?_ _ | refine zn_ ?_ | refine zo_ ?_ _)); exact BK440.out) hb); have n6_ := Aside0.mk (zq_ (g := gb455) (o := .cells #[.int .i64 t449, .int .i64 t450, .slice Ao71 t451.length co71] 24 (0, 0)) (by (with_reducible repeat (first | refine zm_ ?_ _ | refine zn_ ?_ | refine zo_ ?_ _)); refine zp_ ?_ NB455_463.out _; (with_reducible repeat (first | refine zm_ ?_ _ | refine zn_ ?_ | refine zo_ ?_ _)); refine zp_ ?_ NB455_463.out _; (with_reducible repeat (first | refine zm_ ?_ _ | refine zn_ ?_ | refine zo_ ?_ _)); refine zp_ ?_ NB455_463.out _; (with_reducible repeat (first | refine zm_ ?_ _ | refine zn_ ?_ | refine zo_ ?_ _)); exact BK455.out) hb); have n7_ := Aside0.mk (zq_ (g := gb463) (o := .cells #[.int .i64 t457, .int .i64 t458, .slice Ao79 t459.length co79] 24 (0, 0)) (by (with_reducible repeat (first | refine zm_ ?_ _ | refine zn_ ?_ | refine zo_ ?_ _)); refine blk_put (cs := #[.int .i64 t457, .int .i64 t458, .slice none 0 0]) ?_ 2 _ rfl; (with_reducible repeat (first | refine zm_ ?_ _ | refine zn_ ?_ | refine zo_ ?_ _)); refine blk_put (cs := #[.int .i64 t457, .int .i64 0, .slice none 0 0]) ?_ 1 _ rfl; (with_reducible repeat (first | refine zm_ ?_ _ | refine zn_ ?_ | refine zo_ ?_ _)); refine blk_put (cs := #[.int .i64 0, .int .i64 0, .slice none 0 0]) ?_ 0 _ rfl; (with_reducible repeat (first | refine zm_ ?_ _ | refine zn_ ?_ | refine zo_ ?_ _)); exact BK463.out) hb); have n8_ := Aside0.mk (zv_ (by repeat (first | (with_reducible first | exact HB.out | apply zs_ | apply zt_ | apply zu_ | refine zr_ ?_ GE434.out | refine zr_ ?_ GE440.out | refine zr_ ?_ GE455.out | refine zr_ ?_ GE463.out) | exact HB.out)) hb); clear HO_441002; clear HO453; clear HO461; clear BK434; clear BK440; clear BK455; clear BK463; clear HB; have HO_441002 := n0_; have HO453 := n1_; have HO461 := n2_; have HO468 := n3_; have BK434 := n4_; have BK440 := n5_; have BK455 := n6_; have BK463 := n7_; have HB := n8_; clear n0_ n1_ n2_ n3_ n4_ n5_ n6_ n7_ n8_; (try clear hb); (try clear hb2); (try clear hk); (try clear hi); (try clear ho0)) | ((with_reducible refine gate_dst (N := 18) rfl ?_); (try (refine gate_guard (by rfl) ?_; dsimp only)); refine box_event ?hg (N := 18) ?hd (cs := #[.int .i64 0, .int .i64 0, .slice none 0 0]) (t := 24) ?hr ?_; (case hd => rfl); (case hg => rfl); (case hr => first | (go_simp; done) | (go_simp; rfl)); intro gb470 hg w82 hbox hb; have n0_ := Aside0.mk (Kd.R_below (by (with_reducible repeat (first | apply za_ | apply zb_ | apply zc_)); exact HO_441002.out) hb); have n1_ := Aside0.mk (Kd.R_below (by (with_reducible repeat (first | apply za_ | apply zb_ | apply zc_)); exact HO453.out) hb); have n2_ := Aside0.mk (Kd.R_below (by (with_reducible repeat (first | apply za_ | apply zb_ | apply zc_)); exact HO461.out) hb); have n3_ := Aside0.mk (Kd.R_below (by (with_reducible repeat (first | apply za_ | apply zb_ | apply zc_)); exact HO468.out) hb); have n4_ := Aside0.mk (zq_ (g := gb434) (o := .cells #[.int .i64 a0_0, .int .i64 a0_1, .slice A0_2 l0_2.length c0_2] 24 (0, 0)) (by (with_reducible repeat (first | refine zm_ ?_ _ | refine zn_ ?_ | refine zo_ ?_ _)); exact BK434.out) hb); have n5_ := Aside0.mk (zq_ (g := gb440) (o := .cells #[.int .i64 a0_0, .int .i64 a0_1, .slice (some ⟨go39, 0, none⟩) y447.length co49] 24 (0, 0)) (by (with_reducible repeat (first | refine zm_ ?_ _ | refine zn_ ?_ | refine zo_ ?_ _)); exact BK440.out) hb); have n6_ := Aside0.mk (zq_ (g := gb455) (o := .cells #[.int .i64 t449, .int .i64 t450, .slice Ao71 t451.length co71] 24 (0, 0)) (by (with_reducible repeat (first | refine zm_ ?_ _ | refine zn_ ?_ | refine zo_ ?_ _)); exact BK455.out) hb); have n7_ := Aside0.mk (zq_ (g := gb463) (o := .cells #[.int .i64 t457, .int .i64 t458, .slice Ao79 t459.length co79] 24 (0, 0)) (by (with_reducible repeat (first | refine zm_ ?_ _ | refine zn_ ?_ | refine zo_ ?_ _)); exact BK463.out) hb); have n8_ := Aside0.mk (zv_ (by repeat (first | (with_reducible first | exact HB.out | apply zs_ | apply zt_ | apply zu_ | refine zr_ ?_ GE434.out | refine zr_ ?_ GE440.out | refine zr_ ?_ GE455.out | refine zr_ ?_ GE463.out) | exact HB.out)) hb); have n9_ := Aside0.mk (hbox); have n10_ := Aside0.mk ((by rw [hg]; exact (zw_ (by repeat (first | (with_reducible first | exact HB.out | apply zs_ | apply zt_ | apply zu_ | refine zr_ ?_ GE434.out | refine zr_ ?_ GE440.out | refine zr_ ?_ GE455.out | refine zr_ ?_ GE463.out) | exact HB.out))) : w.heap.size ≤ gb470)); have n11_ := Aside0.mk ((by rw [hg]; exact (zw_ (by repeat (first | (with_reducible first | exact HB.out | apply zs_ | apply zt_ | apply zu_ | refine zr_ ?_ GE434.out | refine zr_ ?_ GE440.out | refine zr_ ?_ GE455.out | refine zr_ ?_ GE463.out) | exact HB.out))) : w.heap.size ≤ gb470)); have n12_ := Aside0.mk ((by rw [hg]; exact Nat.ne_of_lt (blk_lt (g := gb434) (o := .cells #[.int .i64 a0_0, .int .i64 a0_1, .slice A0_2 l0_2.length c0_2] 24 (0, 0)) (by (with_reducible repeat (first | refine zm_ ?_ _ | refine zn_ ?_ | refine zo_ ?_ _)); exact BK434.out)) : gb434 ≠ gb470)); have n13_ := Aside0.mk ((by rw [hg]; exact Nat.ne_of_gt (blk_lt (g := gb434) (o := .cells #[.int .i64 a0_0, .int .i64 a0_1, .slice A0_2 l0_2.length c0_2] 24 (0, 0)) (by (with_reducible repeat (first | refine zm_ ?_ _ | refine zn_ ?_ | refine zo_ ?_ _)); exact BK434.out)) : gb470 ≠ gb434)); have n14_ := Aside0.mk ((by rw [hg]; exact Nat.ne_of_lt (blk_lt (g := gb440) (o := .cells #[.int .i64 a0_0, .int .i64 a0_1, .slice (some ⟨go39, 0, none⟩) y447.length co49] 24 (0, 0)) (by (with_reducible repeat (first | refine zm_ ?_ _ | refine zn_ ?_ | refine zo_ ?_ _)); exact BK440.out)) : gb440 ≠ gb470)); have n15_ := Aside0.mk ((by rw [hg]; exact Nat.ne_of_gt (blk_lt (g := gb440) (o := .cells #[.int .i64 a0_0, .int .i64 a0_1, .slice (some ⟨go39, 0, none⟩) y447.length co49] 24 (0, 0)) (by (with_reducible repeat (first | refine zm_ ?_ _ | refine zn_ ?_ | refine zo_ ?_ _)); exact BK440.out)) : gb470 ≠ gb440)); have n16_ := Aside0.mk ((by rw [hg]; exact Nat.ne_of_lt (blk_lt (g := gb455) (o := .cells #[.int .i64 t449, .int .i64 t450, .slice Ao71 t451.length co71] 24 (0, 0)) (by (with_reducible repeat (first | refine zm_ ?_ _ | refine zn_ ?_ | refine zo_ ?_ _)); exact BK455.out)) : gb455 ≠ gb470)); have n17_ := Aside0.mk ((by rw [hg]; exact Nat.ne_of_gt (blk_lt (g := gb455) (o := .cells #[.int .i64 t449, .int .i64 t450, .slice Ao71 t451.length co71] 24 (0, 0)) (by (with_reducible repeat (first | refine zm_ ?_ _ | refine zn_ ?_ | refine zo_ ?_ _)); exact BK455.out)) : gb470 ≠ gb455)); have n18_ := Aside0.mk ((by rw [hg]; exact Nat.ne_of_lt (blk_lt (g := gb463) (o := .cells #[.int .i64 t457, .int .i64 t458, .slice Ao79 t459.length co79] 24 (0, 0)) (by (with_reducible repeat (first | refine zm_ ?_ _ | refine zn_ ?_ | refine zo_ ?_ _)); exact BK463.out)) : gb463 ≠ gb470)); have n19_ := Aside0.mk ((by rw [hg]; exact Nat.ne_of_gt (blk_lt (g := gb463) (o := .cells #[.int .i64 t457, .int .i64 t458, .slice Ao79 t459.length co79] 24 (0, 0)) (by (with_reducible repeat (first | refine zm_ ?_ _ | refine zn_ ?_ | refine zo_ ?_ _)); exact BK463.out)) : gb470 ≠ gb463)); clear HO_441002; clear HO453; clear HO461; clear HO468; clear BK434; clear BK440; clear BK455; clear BK463; clear HB; have HO_441002 := n0_; have HO453 := n1_; have HO461 := n2_; have HO468 := n3_; have BK434 := n4_; have BK440 := n5_; have BK455 := n6_; have BK463 := n7_; have HB := n8_; have BK470 := n9_; have GW470 := n10_; have GE470 := n11_; have NB434_470 := n12_; have NB470_434 := n13_; have NB440_470 := n14_; have NB470_440 := n15_; have NB455_470 := n16_; have NB470_455 := n17_; have NB463_470 := n18_; have NB470_463 := n19_; clear n0_ n1_ n2_ n3_ n4_ n5_ n6_ n7_ n8_ n9_ n10_ n11_ n12_ n13_ n14_ n15_ n16_ n17_ n18_ n19_; clear hb hbox hg; have hnb83 := NB470_434.out; have hnc83 := NB434_470.out; have hnb84 := NB470_440.out; have hnc84 := NB440_470.out; have hnb85 := NB470_455.out; have hnc85 := NB455_470.out; have hnb86 := NB470_463.out; have hnc86 := NB463_470.out; have hcz87_0 : w82.cell? ⟨gb470, 0, none⟩ = some (.int .i64 0) := (blk_cell BK470.out 0).trans rfl; have hcz87_1 : w82.cell? ⟨gb470, 1, none⟩ = some (.int .i64 0) := (blk_cell BK470.out 1).trans rfl; have hcz87_2 : w82.cell? ⟨gb470, 2, none⟩ = some (.slice none 0 0) := (blk_cell BK470.out 2).trans rfl; have hfz87_0 := blk_frozen BK470.out 0; have hfz87_1 := blk_frozen BK470.out 1; have hfz87_2 := blk_frozen BK470.out 2; obtain ⟨Ao88, co88, eo88⟩ := Kd.R_slice HO468.out; subst eo88; have hcz89_0 : w82.cell? ⟨gb440, 0, none⟩ = some (.int .i64 a0_0) := (blk_cell BK440.out 0).trans rfl; have hcz89_1 : w82.cell? ⟨gb440, 1, none⟩ = some (.int .i64 a0_1) := (blk_cell BK440.out 1).trans rfl; have hcz89_2 : w82.cell? ⟨gb440, 2, none⟩ = some (.slice (some ⟨go39, 0, none⟩) y447.length co49) := (blk_cell BK440.out 2).trans rfl; have hfz89_0 := blk_frozen BK440.out 0; have hfz89_1 := blk_frozen BK440.out 1; have hfz89_2 := blk_frozen BK440.out 2) | ((with_reducible refine gate_callee (f := 11) rfl ?_); refine goesL_ (some 123) rfl rfl Try.func11 (by kernel_rfl) rfl #[.agg #[.int .i64 a0_0, .int .i64 a0_1, .slice (some ⟨go39, 0, none⟩) y447.length co49], .int .i64 (ji36)] rfl (by (try simp only [List.map_toArray, List.map_cons, List.map_nil]); first | done | (simp only [hji36]; rfl) | rfl | (simp only [List.length_drop, List.length_take]; rfl)) ?_; (with_reducible refine (pad_Spend.calls a0_0 a0_1 _ _ y447 (ji36) t471 t472 t473 t476 _ ?side1 ?side2 A62.out).mono ?_); (case side1 => refine (zl_ (e := 9) (base := w.heap.size) (ok := fun k_ => (((True ∧ some k_ ≠ (.slice Ao71 t451.length co71 : Value).ownBlock) ∧ some k_ ≠ (.slice Ao79 t459.length co79 : Value).ownBlock) ∧ some k_ ≠ (.slice Ao88 t466.length co88 : Value).ownBlock)) (n := y447.length) (c := co49) ?_).2.2; exact (by (with_reducible repeat (first | apply za_ | apply zb_ | apply zc_)); exact (zd_ (ze_ (p := ⟨gb470, 2, none⟩) (ze_ (p := ⟨gb470, 1, none⟩) (ze_ (p := ⟨gb470, 0, none⟩) (zf_ HO_441002.out BK470.out (by decide)) (fun _ hk => hk.2) (.int .i64 t464)) (fun _ hk => hk.2) (.int .i64 t465)) (fun _ hk => hk.2) (.slice Ao88 t466.length co88)) (fun _ h_ => h_.1)))); (case side2 => exact (zl_ HO_441002.out).2.1); rintro e w90 ⟨v474, rfl, ho0, hb⟩; refine ⟨_, rfl, ?_⟩; have n0_ := Aside0.mk (zj_ (by (with_reducible repeat (first | apply za_ | apply zb_ | apply zc_)); exact (zd_ (ze_ (p := ⟨gb470, 2, none⟩) (ze_ (p := ⟨gb470, 1, none⟩) (ze_ (p := ⟨gb470, 0, none⟩) (zf_ HO_441002.out BK470.out (by decide)) (fun _ hk => hk.2) (.int .i64 t464)) (fun _ hk => hk.2) (.int .i64 t465)) (fun _ hk => hk.2) (.slice Ao88 t466.length co88)) (fun _ h_ => h_.1))) (zk_ ho0) hb); have n1_ := Aside0.mk (zj_ (by (with_reducible repeat (first | apply za_ | apply zb_ | apply zc_)); exact (zd_ (ze_ (p := ⟨gb470, 2, none⟩) (ze_ (p := ⟨gb470, 1, none⟩) (ze_ (p := ⟨gb470, 0, none⟩) (zf_ HO453.out BK470.out (by decide)) (fun _ hk => hk.2) (.int .i64 t464)) (fun _ hk => hk.2) (.int .i64 t465)) (fun _ hk => hk.2) (.slice Ao88 t466.length co88)) (fun _ h_ => h_.1))) (zk_ ho0) hb); have n2_ := Aside0.mk (zj_ (by (with_reducible repeat (first | apply za_ | apply zb_ | apply zc_)); exact (zd_ (ze_ (p := ⟨gb470, 2, none⟩) (ze_ (p := ⟨gb470, 1, none⟩) (ze_ (p := ⟨gb470, 0, none⟩) (zf_ HO461.out BK470.out (by decide)) (fun _ hk => hk.2) (.int .i64 t464)) (fun _ hk => hk.2) (.int .i64 t465)) (fun _ hk => hk.2) (.slice Ao88 t466.length co88)) (fun _ h_ => h_.1))) (zk_ ho0) hb); have n3_ := Aside0.mk (zj_ (by (with_reducible repeat (first | apply za_ | apply zb_ | apply zc_)); exact (zd_ (ze_ (p := ⟨gb470, 2, none⟩) (ze_ (p := ⟨gb470, 1, none⟩) (ze_ (p := ⟨gb470, 0, none⟩) (zf_ HO468.out BK470.out (by decide)) (fun _ hk => hk.2) (.int .i64 t464)) (fun _ hk => hk.2) (.int .i64 t465)) (fun _ hk => hk.2) (.slice Ao88 t466.length co88)) (fun _ h_ => h_.1))) (zk_ ho0) hb); have n4_ := Aside0.mk (zg_ (zh_ (zh_ (zh_ (zh_ ho0 (zi_ (by (with_reducible repeat (first | apply za_ | apply zb_ | apply zc_)); exact (zd_ (ze_ (p := ⟨gb470, 2, none⟩) (ze_ (p := ⟨gb470, 1, none⟩) (ze_ (p := ⟨gb470, 0, none⟩) (zf_ HO_441002.out BK470.out (by decide)) (fun _ hk => hk.2) (.int .i64 t464)) (fun _ hk => hk.2) (.int .i64 t465)) (fun _ hk => hk.2) (.slice Ao88 t466.length co88)) (fun _ h_ => h_.1))))) (zi_ (by (with_reducible repeat (first | apply za_ | apply zb_ | apply zc_)); exact (zd_ (ze_ (p := ⟨gb470, 2, none⟩) (ze_ (p := ⟨gb470, 1, none⟩) (ze_ (p := ⟨gb470, 0, none⟩) (zf_ HO453.out BK470.out (by decide)) (fun _ hk => hk.2) (.int .i64 t464)) (fun _ hk => hk.2) (.int .i64 t465)) (fun _ hk => hk.2) (.slice Ao88 t466.length co88)) (fun _ h_ => h_.1))))) (zi_ (by (with_reducible repeat (first | apply za_ | apply zb_ | apply zc_)); exact (zd_ (ze_ (p := ⟨gb470, 2, none⟩) (ze_ (p := ⟨gb470, 1, none⟩) (ze_ (p := ⟨gb470, 0, none⟩) (zf_ HO461.out BK470.out (by decide)) (fun _ hk => hk.2) (.int .i64 t464)) (fun _ hk => hk.2) (.int .i64 t465)) (fun _ hk => hk.2) (.slice Ao88 t466.length co88)) (fun _ h_ => h_.1))))) (zi_ (by (with_reducible repeat (first | apply za_ | apply zb_ | apply zc_)); exact (zd_ (ze_ (p := ⟨gb470, 2, none⟩) (ze_ (p := ⟨gb470, 1, none⟩) (ze_ (p := ⟨gb470, 0, none⟩) (zf_ HO468.out BK470.out (by decide)) (fun _ hk => hk.2) (.int .i64 t464)) (fun _ hk => hk.2) (.int .i64 t465)) (fun _ hk => hk.2) (.slice Ao88 t466.length co88)) (fun _ h_ => h_.1))))) (zw_ (by repeat (first | (with_reducible first | exact HB.out | apply zs_ | apply zt_ | apply zu_ | refine zr_ ?_ GE434.out | refine zr_ ?_ GE440.out | refine zr_ ?_ GE455.out | refine zr_ ?_ GE463.out | refine zr_ ?_ GE470.out) | exact HB.out)))); have n5_ := Aside0.mk (zq_ (g := gb434) (o := .cells #[.int .i64 a0_0, .int .i64 a0_1, .slice A0_2 l0_2.length c0_2] 24 (0, 0)) (by (with_reducible repeat (first | refine zm_ ?_ _ | refine zn_ ?_ | refine zo_ ?_ _)); refine zp_ ?_ NB434_470.out _; (with_reducible repeat (first | refine zm_ ?_ _ | refine zn_ ?_ | refine zo_ ?_ _)); refine zp_ ?_ NB434_470.out _; (with_reducible repeat (first | refine zm_ ?_ _ | refine zn_ ?_ | refine zo_ ?_ _)); refine zp_ ?_ NB434_470.out _; (with_reducible repeat (first | refine zm_ ?_ _ | refine zn_ ?_ | refine zo_ ?_ _)); exact BK434.out) hb); have n6_ := Aside0.mk (zq_ (g := gb440) (o := .cells #[.int .i64 a0_0, .int .i64 a0_1, .slice (some ⟨go39, 0, none⟩) y447.length co49] 24 (0, 0)) (by (with_reducible repeat (first | refine zm_ ?_ _ | refine zn_ ?_ | refine zo_ ?_ _)); refine zp_ ?_ NB440_470.out _; (with_reducible repeat (first | refine zm_ ?_ _ | refine zn_ ?_ | refine zo_ ?_ _)); refine zp_ ?_ NB440_470.out _; (with_reducible repeat (first | refine zm_ ?_ _ | refine zn_ ?_ | refine zo_ ?_ _)); refine zp_ ?_ NB440_470.out _; (with_reducible repeat (first | refine zm_ ?_ _ | refine zn_ ?_ | refine zo_ ?_ _)); exact BK440.out) hb); have n7_ := Aside0.mk (zq_ (g := gb455) (o := .cells #[.int .i64 t449, .int .i64 t450, .slice Ao71 t451.length co71] 24 (0, 0)) (by (with_reducible repeat (first | refine zm_ ?_ _ | refine zn_ ?_ | refine zo_ ?_ _)); refine zp_ ?_ NB455_470.out _; (with_reducible repeat (first | refine zm_ ?_ _ | refine zn_ ?_ | refine zo_ ?_ _)); refine zp_ ?_ NB455_470.out _; (with_reducible repeat (first | refine zm_ ?_ _ | refine zn_ ?_ | refine zo_ ?_ _)); refine zp_ ?_ NB455_470.out _; (with_reducible repeat (first | refine zm_ ?_ _ | refine zn_ ?_ | refine zo_ ?_ _)); exact BK455.out) hb); have n8_ := Aside0.mk (zq_ (g := gb463) (o := .cells #[.int .i64 t457, .int .i64 t458, .slice Ao79 t459.length co79] 24 (0, 0)) (by (with_reducible repeat (first | refine zm_ ?_ _ | refine zn_ ?_ | refine zo_ ?_ _)); refine zp_ ?_ NB463_470.out _; (with_reducible repeat (first | refine zm_ ?_ _ | refine zn_ ?_ | refine zo_ ?_ _)); refine zp_ ?_ NB463_470.out _; (with_reducible repeat (first | refine zm_ ?_ _ | refine zn_ ?_ | refine zo_ ?_ _)); refine zp_ ?_ NB463_470.out _; (with_reducible repeat (first | refine zm_ ?_ _ | refine zn_ ?_ | refine zo_ ?_ _)); exact BK463.out) hb); have n9_ := Aside0.mk (zq_ (g := gb470) (o := .cells #[.int .i64 t464, .int .i64 t465, .slice Ao88 t466.length co88] 24 (0, 0)) (by (with_reducible repeat (first | refine zm_ ?_ _ | refine zn_ ?_ | refine zo_ ?_ _)); refine blk_put (cs := #[.int .i64 t464, .int .i64 t465, .slice none 0 0]) ?_ 2 _ rfl; (with_reducible repeat (first | refine zm_ ?_ _ | refine zn_ ?_ | refine zo_ ?_ _)); refine blk_put (cs := #[.int .i64 t464, .int .i64 0, .slice none 0 0]) ?_ 1 _ rfl; (with_reducible repeat (first | refine zm_ ?_ _ | refine zn_ ?_ | refine zo_ ?_ _)); refine blk_put (cs := #[.int .i64 0, .int .i64 0, .slice none 0 0]) ?_ 0 _ rfl; (with_reducible repeat (first | refine zm_ ?_ _ | refine zn_ ?_ | refine zo_ ?_ _)); exact BK470.out) hb); have n10_ := Aside0.mk (zv_ (by repeat (first | (with_reducible first | exact HB.out | apply zs_ | apply zt_ | apply zu_ | refine zr_ ?_ GE434.out | refine zr_ ?_ GE440.out | refine zr_ ?_ GE455.out | refine zr_ ?_ GE463.out | refine zr_ ?_ GE470.out) | exact HB.out)) hb); clear HO_441002; clear HO453; clear HO461; clear HO468; clear BK434; clear BK440; clear BK455; clear BK463; clear BK470; clear HB; have HO_441002 := n0_; have HO453 := n1_; have HO461 := n2_; have HO468 := n3_; have HO475 := n4_; have BK434 := n5_; have BK440 := n6_; have BK455 := n7_; have BK463 := n8_; have BK470 := n9_; have HB := n10_; clear n0_ n1_ n2_ n3_ n4_ n5_ n6_ n7_ n8_ n9_ n10_; (try clear hb); (try clear hb2); (try clear hk); (try clear hi); (try clear ho0)) | ((with_reducible refine gate_dst (N := 20) rfl ?_); (try (refine gate_guard (by rfl) ?_; dsimp only)); refine box_event ?hg (N := 20) ?hd (cs := #[.int .i64 0, .int .i64 0, .slice none 0 0]) (t := 24) ?hr ?_; (case hd => rfl); (case hg => rfl); (case hr => first | (go_simp; done) | (go_simp; rfl)); intro gb477 hg w91 hbox hb; have n0_ := Aside0.mk (Kd.R_below (by (with_reducible repeat (first | apply za_ | apply zb_ | apply zc_)); exact HO_441002.out) hb); have n1_ := Aside0.mk (Kd.R_below (by (with_reducible repeat (first | apply za_ | apply zb_ | apply zc_)); exact HO453.out) hb); have n2_ := Aside0.mk (Kd.R_below (by (with_reducible repeat (first | apply za_ | apply zb_ | apply zc_)); exact HO461.out) hb); have n3_ := Aside0.mk (Kd.R_below (by (with_reducible repeat (first | apply za_ | apply zb_ | apply zc_)); exact HO468.out) hb); have n4_ := Aside0.mk (Kd.R_below (by (with_reducible repeat (first | apply za_ | apply zb_ | apply zc_)); exact HO475.out) hb); have n5_ := Aside0.mk (zq_ (g := gb434) (o := .cells #[.int .i64 a0_0, .int .i64 a0_1, .slice A0_2 l0_2.length c0_2] 24 (0, 0)) (by (with_reducible repeat (first | refine zm_ ?_ _ | refine zn_ ?_ | refine zo_ ?_ _)); exact BK434.out) hb); have n6_ := Aside0.mk (zq_ (g := gb440) (o := .cells #[.int .i64 a0_0, .int .i64 a0_1, .slice (some ⟨go39, 0, none⟩) y447.length co49] 24 (0, 0)) (by (with_reducible repeat (first | refine zm_ ?_ _ | refine zn_ ?_ | refine zo_ ?_ _)); exact BK440.out) hb); have n7_ := Aside0.mk (zq_ (g := gb455) (o := .cells #[.int .i64 t449, .int .i64 t450, .slice Ao71 t451.length co71] 24 (0, 0)) (by (with_reducible repeat (first | refine zm_ ?_ _ | refine zn_ ?_ | refine zo_ ?_ _)); exact BK455.out) hb); have n8_ := Aside0.mk (zq_ (g := gb463) (o := .cells #[.int .i64 t457, .int .i64 t458, .slice Ao79 t459.length co79] 24 (0, 0)) (by (with_reducible repeat (first | refine zm_ ?_ _ | refine zn_ ?_ | refine zo_ ?_ _)); exact BK463.out) hb); have n9_ := Aside0.mk (zq_ (g := gb470) (o := .cells #[.int .i64 t464, .int .i64 t465, .slice Ao88 t466.length co88] 24 (0, 0)) (by (with_reducible repeat (first | refine zm_ ?_ _ | refine zn_ ?_ | refine zo_ ?_ _)); exact BK470.out) hb); have n10_ := Aside0.mk (zv_ (by repeat (first | (with_reducible first | exact HB.out | apply zs_ | apply zt_ | apply zu_ | refine zr_ ?_ GE434.out | refine zr_ ?_ GE440.out | refine zr_ ?_ GE455.out | refine zr_ ?_ GE463.out | refine zr_ ?_ GE470.out) | exact HB.out)) hb); have n11_ := Aside0.mk (hbox); have n12_ := Aside0.mk ((by rw [hg]; exact (zw_ (by repeat (first | (with_reducible first | exact HB.out | apply zs_ | apply zt_ | apply zu_ | refine zr_ ?_ GE434.out | refine zr_ ?_ GE440.out | refine zr_ ?_ GE455.out | refine zr_ ?_ GE463.out | refine zr_ ?_ GE470.out) | exact HB.out))) : w.heap.size ≤ gb477)); have n13_ := Aside0.mk ((by rw [hg]; exact (zw_ (by repeat (first | (with_reducible first | exact HB.out | apply zs_ | apply zt_ | apply zu_ | refine zr_ ?_ GE434.out | refine zr_ ?_ GE440.out | refine zr_ ?_ GE455.out | refine zr_ ?_ GE463.out | refine zr_ ?_ GE470.out) | exact HB.out))) : w.heap.size ≤ gb477)); have n14_ := Aside0.mk ((by rw [hg]; exact Nat.ne_of_lt (blk_lt (g := gb434) (o := .cells #[.int .i64 a0_0, .int .i64 a0_1, .slice A0_2 l0_2.length c0_2] 24 (0, 0)) (by (with_reducible repeat (first | refine zm_ ?_ _ | refine zn_ ?_ | refine zo_ ?_ _)); exact BK434.out)) : gb434 ≠ gb477)); have n15_ := Aside0.mk ((by rw [hg]; exact Nat.ne_of_gt (blk_lt (g := gb434) (o := .cells #[.int .i64 a0_0, .int .i64 a0_1, .slice A0_2 l0_2.length c0_2] 24 (0, 0)) (by (with_reducible repeat (first | refine zm_ ?_ _ | refine zn_ ?_ | refine zo_ ?_ _)); exact BK434.out)) : gb477 ≠ gb434)); have n16_ := Aside0.mk ((by rw [hg]; exact Nat.ne_of_lt (blk_lt (g := gb440) (o := .cells #[.int .i64 a0_0, .int .i64 a0_1, .slice (some ⟨go39, 0, none⟩) y447.length co49] 24 (0, 0)) (by (with_reducible repeat (first | refine zm_ ?_ _ | refine zn_ ?_ | refine zo_ ?_ _)); exact BK440.out)) : gb440 ≠ gb477)); have n17_ := Aside0.mk ((by rw [hg]; exact Nat.ne_of_gt (blk_lt (g := gb440) (o := .cells #[.int .i64 a0_0, .int .i64 a0_1, .slice (some ⟨go39, 0, none⟩) y447.length co49] 24 (0, 0)) (by (with_reducible repeat (first | refine zm_ ?_ _ | refine zn_ ?_ | refine zo_ ?_ _)); exact BK440.out)) : gb477 ≠ gb440)); have n18_ := Aside0.mk ((by rw [hg]; exact Nat.ne_of_lt (blk_lt (g := gb455) (o := .cells #[.int .i64 t449, .int .i64 t450, .slice Ao71 t451.length co71] 24 (0, 0)) (by (with_reducible repeat (first | refine zm_ ?_ _ | refine zn_ ?_ | refine zo_ ?_ _)); exact BK455.out)) : gb455 ≠ gb477)); have n19_ := Aside0.mk ((by rw [hg]; exact Nat.ne_of_gt (blk_lt (g := gb455) (o := .cells #[.int .i64 t449, .int .i64 t450, .slice Ao71 t451.length co71] 24 (0, 0)) (by (with_reducible repeat (first | refine zm_ ?_ _ | refine zn_ ?_ | refine zo_ ?_ _)); exact BK455.out)) : gb477 ≠ gb455)); have n20_ := Aside0.mk ((by rw [hg]; exact Nat.ne_of_lt (blk_lt (g := gb463) (o := .cells #[.int .i64 t457, .int .i64 t458, .slice Ao79 t459.length co79] 24 (0, 0)) (by (with_reducible repeat (first | refine zm_ ?_ _ | refine zn_ ?_ | refine zo_ ?_ _)); exact BK463.out)) : gb463 ≠ gb477)); have n21_ := Aside0.mk ((by rw [hg]; exact Nat.ne_of_gt (blk_lt (g := gb463) (o := .cells #[.int .i64 t457, .int .i64 t458, .slice Ao79 t459.length co79] 24 (0, 0)) (by (with_reducible repeat (first | refine zm_ ?_ _ | refine zn_ ?_ | refine zo_ ?_ _)); exact BK463.out)) : gb477 ≠ gb463)); have n22_ := Aside0.mk ((by rw [hg]; exact Nat.ne_of_lt (blk_lt (g := gb470) (o := .cells #[.int .i64 t464, .int .i64 t465, .slice Ao88 t466.length co88] 24 (0, 0)) (by (with_reducible repeat (first | refine zm_ ?_ _ | refine zn_ ?_ | refine zo_ ?_ _)); exact BK470.out)) : gb470 ≠ gb477)); have n23_ := Aside0.mk ((by rw [hg]; exact Nat.ne_of_gt (blk_lt (g := gb470) (o := .cells #[.int .i64 t464, .int .i64 t465, .slice Ao88 t466.length co88] 24 (0, 0)) (by (with_reducible repeat (first | refine zm_ ?_ _ | refine zn_ ?_ | refine zo_ ?_ _)); exact BK470.out)) : gb477 ≠ gb470)); clear HO_441002; clear HO453; clear HO461; clear HO468; clear HO475; clear BK434; clear BK440; clear BK455; clear BK463; clear BK470; clear HB; have HO_441002 := n0_; have HO453 := n1_; have HO461 := n2_; have HO468 := n3_; have HO475 := n4_; have BK434 := n5_; have BK440 := n6_; have BK455 := n7_; have BK463 := n8_; have BK470 := n9_; have HB := n10_; have BK477 := n11_; have GW477 := n12_; have GE477 := n13_; have NB434_477 := n14_; have NB477_434 := n15_; have NB440_477 := n16_; have NB477_440 := n17_; have NB455_477 := n18_; have NB477_455 := n19_; have NB463_477 := n20_; have NB477_463 := n21_; have NB470_477 := n22_; have NB477_470 := n23_; clear n0_ n1_ n2_ n3_ n4_ n5_ n6_ n7_ n8_ n9_ n10_ n11_ n12_ n13_ n14_ n15_ n16_ n17_ n18_ n19_ n20_ n21_ n22_ n23_; clear hb hbox hg; have hnb92 := NB477_434.out; have hnc92 := NB434_477.out; have hnb93 := NB477_440.out; have hnc93 := NB440_477.out; have hnb94 := NB477_455.out; have hnc94 := NB455_477.out; have hnb95 := NB477_463.out; have hnc95 := NB463_477.out; have hnb96 := NB477_470.out; have hnc96 := NB470_477.out; have hcz97_0 : w91.cell? ⟨gb477, 0, none⟩ = some (.int .i64 0) := (blk_cell BK477.out 0).trans rfl; have hcz97_1 : w91.cell? ⟨gb477, 1, none⟩ = some (.int .i64 0) := (blk_cell BK477.out 1).trans rfl; have hcz97_2 : w91.cell? ⟨gb477, 2, none⟩ = some (.slice none 0 0) := (blk_cell BK477.out 2).trans rfl; have hfz97_0 := blk_frozen BK477.out 0; have hfz97_1 := blk_frozen BK477.out 1; have hfz97_2 := blk_frozen BK477.out 2; obtain ⟨Ao98, co98, eo98⟩ := Kd.R_slice HO475.out; subst eo98))
                          (try simp only [Act.put, List.setIfInBounds_toArray, List.set_cons_zero, List.set_cons_succ])
                          go_cut [157] (fun v157 wc => ∃ (kq : Nat) (x157_62 : Bool), v157 = .bool x157_62 ∧ Aside0 (quietuslaw25_PadsAreForgotten.j3 kq a2 a3 (ji36) t448 t456 x157_62 a0_0 a0_1 l0_2 = some r) ∧ Aside0 (kq ≤ kj39) ∧ Aside0 (Kd.R Kd.string 9 wc w.heap.size (fun k_ => some k_ ≠ ((.slice Ao71 t451.length co71) : Value).ownBlock ∧ some k_ ≠ ((.slice Ao79 t459.length co79) : Value).ownBlock ∧ some k_ ≠ ((.slice Ao88 t466.length co88) : Value).ownBlock ∧ some k_ ≠ ((.slice Ao98 t473.length co98) : Value).ownBlock) (.slice (some ⟨go39, 0, none⟩) y447.length co49) y447) ∧ Aside0 (Kd.R Kd.string 9 wc w.heap.size (fun k_ => some k_ ≠ ((.slice (some ⟨go39, 0, none⟩) y447.length co49) : Value).ownBlock ∧ some k_ ≠ ((.slice Ao79 t459.length co79) : Value).ownBlock ∧ some k_ ≠ ((.slice Ao88 t466.length co88) : Value).ownBlock ∧ some k_ ≠ ((.slice Ao98 t473.length co98) : Value).ownBlock) (.slice Ao71 t451.length co71) t451) ∧ Aside0 (Kd.R Kd.string 9 wc w.heap.size (fun k_ => some k_ ≠ ((.slice (some ⟨go39, 0, none⟩) y447.length co49) : Value).ownBlock ∧ some k_ ≠ ((.slice Ao71 t451.length co71) : Value).ownBlock ∧ some k_ ≠ ((.slice Ao88 t466.length co88) : Value).ownBlock ∧ some k_ ≠ ((.slice Ao98 t473.length co98) : Value).ownBlock) (.slice Ao79 t459.length co79) t459) ∧ Aside0 (Kd.R Kd.string 9 wc w.heap.size (fun k_ => some k_ ≠ ((.slice (some ⟨go39, 0, none⟩) y447.length co49) : Value).ownBlock ∧ some k_ ≠ ((.slice Ao71 t451.length co71) : Value).ownBlock ∧ some k_ ≠ ((.slice Ao79 t459.length co79) : Value).ownBlock ∧ some k_ ≠ ((.slice Ao98 t473.length co98) : Value).ownBlock) (.slice Ao88 t466.length co88) t466) ∧ Aside0 (Kd.R Kd.string 9 wc w.heap.size (fun k_ => some k_ ≠ ((.slice (some ⟨go39, 0, none⟩) y447.length co49) : Value).ownBlock ∧ some k_ ≠ ((.slice Ao71 t451.length co71) : Value).ownBlock ∧ some k_ ≠ ((.slice Ao79 t459.length co79) : Value).ownBlock ∧ some k_ ≠ ((.slice Ao88 t466.length co88) : Value).ownBlock) (.slice Ao98 t473.length co98) t473) ∧ Aside0 (wc.heap[gb434]? = some (.cells #[.int .i64 a0_0, .int .i64 a0_1, (.slice A0_2 l0_2.length c0_2)] 24 (0, 0))) ∧ Aside0 (wc.heap[gb440]? = some (.cells #[.int .i64 a0_0, .int .i64 a0_1, (.slice (some ⟨go39, 0, none⟩) y447.length co49)] 24 (0, 0))) ∧ Aside0 (wc.heap[gb455]? = some (.cells #[.int .i64 t449, .int .i64 t450, (.slice Ao71 t451.length co71)] 24 (0, 0))) ∧ Aside0 (wc.heap[gb463]? = some (.cells #[.int .i64 t457, .int .i64 t458, (.slice Ao79 t459.length co79)] 24 (0, 0))) ∧ Aside0 (wc.heap[gb470]? = some (.cells #[.int .i64 t464, .int .i64 t465, (.slice Ao88 t466.length co88)] 24 (0, 0))) ∧ Aside0 (wc.heap[gb477]? = some (.cells #[.int .i64 t471, .int .i64 t472, (.slice Ao98 t473.length co98)] 24 (0, 0))) ∧ Aside0 (Below w.heap.size w wc))
                          case first =>
                            have H := HC63.out
                            clear HC63
                            by_cases c99 : t454 = 0
                            · rw [if_pos c99] at H
                              have c99b0 : (t454 == 0) = true := beq_iff_eq.mpr c99
                              have c99b1 : (t454 != 0) = false := bne_eq_false_iff_eq.mpr c99
                              clear c99
                              (first | rw [c99b0] | (simp only [i64_w, i32_w]; rw [c99b0]) | rw [c99b1] | skip)
                              by_cases c100 : t462 = 0
                              · rw [if_pos c100] at H
                                have c100b0 : (t462 == 0) = true := beq_iff_eq.mpr c100
                                have c100b1 : (t462 != 0) = false := bne_eq_false_iff_eq.mpr c100
                                clear c100
                                by_cases c101 : t469 = 0
                                · rw [if_pos c101] at H
                                  have c101b0 : (t469 == 0) = true := beq_iff_eq.mpr c101
                                  have c101b1 : (t469 != 0) = false := bne_eq_false_iff_eq.mpr c101
                                  clear c101
                                  by_cases c102 : t476 = 0
                                  · rw [if_pos c102] at H
                                    have c102b0 : (t476 == 0) = true := beq_iff_eq.mpr c102
                                    have c102b1 : (t476 != 0) = false := bne_eq_false_iff_eq.mpr c102
                                    clear c102
                                    replace H := Option.bind_eq_some_iff.mp H
                                    obtain ⟨t478, A1030, H⟩ := H
                                    replace H : (if t478 = true then ((quietusref25_Same.f kj39 t464 t465 t466 t471 t472 t473).bind fun t479 => (if t479 = true then ((quietusref25_Same.f kj39 t449 t450 t451 t464 t465 t466).bind fun t480 => (quietuslaw25_PadsAreForgotten.j3 kj39 a2 a3 (ji36) t448 t456 (!t480) a0_0 a0_1 l0_2)) else (none))) else (none)) = some r := H
                                    have A103 := Aside0.mk A1030
                                    clear A1030
                                    by_cases c104 : t478 = true
                                    · subst c104
                                      have H1 : ((quietusref25_Same.f kj39 t464 t465 t466 t471 t472 t473).bind fun t479 => (if t479 = true then ((quietusref25_Same.f kj39 t449 t450 t451 t464 t465 t466).bind fun t480 => (quietuslaw25_PadsAreForgotten.j3 kj39 a2 a3 (ji36) t448 t456 (!t480) a0_0 a0_1 l0_2)) else (none))) = some r := by rw [if_pos rfl] at H; exact H
                                      clear H
                                      have H := H1
                                      clear H1
                                      replace H := Option.bind_eq_some_iff.mp H
                                      obtain ⟨t479, A1050, H⟩ := H
                                      replace H : (if t479 = true then ((quietusref25_Same.f kj39 t449 t450 t451 t464 t465 t466).bind fun t480 => (quietuslaw25_PadsAreForgotten.j3 kj39 a2 a3 (ji36) t448 t456 (!t480) a0_0 a0_1 l0_2)) else (none)) = some r := H
                                      have A105 := Aside0.mk A1050
                                      clear A1050
                                      by_cases c106 : t479 = true
                                      · subst c106
                                        have H1 : ((quietusref25_Same.f kj39 t449 t450 t451 t464 t465 t466).bind fun t480 => (quietuslaw25_PadsAreForgotten.j3 kj39 a2 a3 (ji36) t448 t456 (!t480) a0_0 a0_1 l0_2)) = some r := by rw [if_pos rfl] at H; exact H
                                        clear H
                                        have H := H1
                                        clear H1
                                        replace H := Option.bind_eq_some_iff.mp H
                                        obtain ⟨t480, A1070, H⟩ := H
                                        replace H : (quietuslaw25_PadsAreForgotten.j3 kj39 a2 a3 (ji36) t448 t456 (!t480) a0_0 a0_1 l0_2) = some r := H
                                        have A107 := Aside0.mk A1070
                                        clear A1070
                                        have H' := Aside0.mk H
                                        clear H
                                        have hnb108 := NB455_434.out
                                        have hnc108 := NB434_455.out
                                        have hnb109 := NB455_440.out
                                        have hnc109 := NB440_455.out
                                        have hnb110 := NB455_463.out
                                        have hnc110 := NB463_455.out
                                        have hnb111 := NB455_470.out
                                        have hnc111 := NB470_455.out
                                        have hnb112 := NB455_477.out
                                        have hnc112 := NB477_455.out
                                        have hcz113_0 : w91.cell? ⟨gb455, 0, none⟩ = some (.int .i64 t449) := (blk_cell BK455.out 0).trans rfl
                                        have hcz113_1 : w91.cell? ⟨gb455, 1, none⟩ = some (.int .i64 t450) := (blk_cell BK455.out 1).trans rfl
                                        have hcz113_2 : w91.cell? ⟨gb455, 2, none⟩ = some (.slice Ao71 t451.length co71) := (blk_cell BK455.out 2).trans rfl
                                        have hfz113_0 := blk_frozen BK455.out 0
                                        have hfz113_1 := blk_frozen BK455.out 1
                                        have hfz113_2 := blk_frozen BK455.out 2
                                        have hnb114 := NB463_434.out
                                        have hnc114 := NB434_463.out
                                        have hnb115 := NB463_440.out
                                        have hnc115 := NB440_463.out
                                        have hnb116 := NB463_470.out
                                        have hnc116 := NB470_463.out
                                        have hnb117 := NB463_477.out
                                        have hnc117 := NB477_463.out
                                        have hcz118_0 : w91.cell? ⟨gb463, 0, none⟩ = some (.int .i64 t457) := (blk_cell BK463.out 0).trans rfl
                                        have hcz118_1 : w91.cell? ⟨gb463, 1, none⟩ = some (.int .i64 t458) := (blk_cell BK463.out 1).trans rfl
                                        have hcz118_2 : w91.cell? ⟨gb463, 2, none⟩ = some (.slice Ao79 t459.length co79) := (blk_cell BK463.out 2).trans rfl
                                        have hfz118_0 := blk_frozen BK463.out 0
                                        have hfz118_1 := blk_frozen BK463.out 1
                                        have hfz118_2 := blk_frozen BK463.out 2
                                        go_wp2_with (first | (go_at_call 16; (with_reducible refine (quietusref25_Same.calls kj39 t449 t450 _ _ t451 t457 t458 _ _ t459 true _ ?side1 ?side2 ?side3 ?side4 A103.out).mono ?_); (case side1 => refine (zl_ (e := 9) (base := w.heap.size) (ok := fun k_ => ((((True ∧ some k_ ≠ (.slice (some ⟨go39, 0, none⟩) y447.length co49 : Value).ownBlock) ∧ some k_ ≠ (.slice Ao79 t459.length co79 : Value).ownBlock) ∧ some k_ ≠ (.slice Ao88 t466.length co88 : Value).ownBlock) ∧ some k_ ≠ (.slice Ao98 t473.length co98 : Value).ownBlock)) (n := t451.length) (c := co71) ?_).2.2; exact (by (with_reducible repeat (first | apply za_ | apply zb_ | apply zc_)); exact (zd_ (ze_ (p := ⟨gb477, 2, none⟩) (ze_ (p := ⟨gb477, 1, none⟩) (ze_ (p := ⟨gb477, 0, none⟩) (zf_ HO453.out BK477.out (by decide)) (fun _ hk => hk.2) (.int .i64 t471)) (fun _ hk => hk.2) (.int .i64 t472)) (fun _ hk => hk.2) (.slice Ao98 t473.length co98)) (fun _ h_ => h_.1)))); (case side2 => exact (zl_ HO453.out).2.1); (case side3 => refine (zl_ (e := 9) (base := w.heap.size) (ok := fun k_ => ((((True ∧ some k_ ≠ (.slice (some ⟨go39, 0, none⟩) y447.length co49 : Value).ownBlock) ∧ some k_ ≠ (.slice Ao71 t451.length co71 : Value).ownBlock) ∧ some k_ ≠ (.slice Ao88 t466.length co88 : Value).ownBlock) ∧ some k_ ≠ (.slice Ao98 t473.length co98 : Value).ownBlock)) (n := t459.length) (c := co79) ?_).2.2; exact (by (with_reducible repeat (first | apply za_ | apply zb_ | apply zc_)); exact (zd_ (ze_ (p := ⟨gb477, 2, none⟩) (ze_ (p := ⟨gb477, 1, none⟩) (ze_ (p := ⟨gb477, 0, none⟩) (zf_ HO461.out BK477.out (by decide)) (fun _ hk => hk.2) (.int .i64 t471)) (fun _ hk => hk.2) (.int .i64 t472)) (fun _ hk => hk.2) (.slice Ao98 t473.length co98)) (fun _ h_ => h_.1)))); (case side4 => exact (zl_ HO461.out).2.1); rintro e w119 ⟨rfl, hb⟩; have n0_ := Aside0.mk (Kd.R_below (by (with_reducible repeat (first | apply za_ | apply zb_ | apply zc_)); exact (zd_ (ze_ (p := ⟨gb477, 2, none⟩) (ze_ (p := ⟨gb477, 1, none⟩) (ze_ (p := ⟨gb477, 0, none⟩) (zf_ HO_441002.out BK477.out (by decide)) (fun _ hk => hk.2) (.int .i64 t471)) (fun _ hk => hk.2) (.int .i64 t472)) (fun _ hk => hk.2) (.slice Ao98 t473.length co98)) (fun _ h_ => h_.1))) hb); have n1_ := Aside0.mk (Kd.R_below (by (with_reducible repeat (first | apply za_ | apply zb_ | apply zc_)); exact (zd_ (ze_ (p := ⟨gb477, 2, none⟩) (ze_ (p := ⟨gb477, 1, none⟩) (ze_ (p := ⟨gb477, 0, none⟩) (zf_ HO453.out BK477.out (by decide)) (fun _ hk => hk.2) (.int .i64 t471)) (fun _ hk => hk.2) (.int .i64 t472)) (fun _ hk => hk.2) (.slice Ao98 t473.length co98)) (fun _ h_ => h_.1))) hb); have n2_ := Aside0.mk (Kd.R_below (by (with_reducible repeat (first | apply za_ | apply zb_ | apply zc_)); exact (zd_ (ze_ (p := ⟨gb477, 2, none⟩) (ze_ (p := ⟨gb477, 1, none⟩) (ze_ (p := ⟨gb477, 0, none⟩) (zf_ HO461.out BK477.out (by decide)) (fun _ hk => hk.2) (.int .i64 t471)) (fun _ hk => hk.2) (.int .i64 t472)) (fun _ hk => hk.2) (.slice Ao98 t473.length co98)) (fun _ h_ => h_.1))) hb); have n3_ := Aside0.mk (Kd.R_below (by (with_reducible repeat (first | apply za_ | apply zb_ | apply zc_)); exact (zd_ (ze_ (p := ⟨gb477, 2, none⟩) (ze_ (p := ⟨gb477, 1, none⟩) (ze_ (p := ⟨gb477, 0, none⟩) (zf_ HO468.out BK477.out (by decide)) (fun _ hk => hk.2) (.int .i64 t471)) (fun _ hk => hk.2) (.int .i64 t472)) (fun _ hk => hk.2) (.slice Ao98 t473.length co98)) (fun _ h_ => h_.1))) hb); have n4_ := Aside0.mk (Kd.R_below (by (with_reducible repeat (first | apply za_ | apply zb_ | apply zc_)); exact (zd_ (ze_ (p := ⟨gb477, 2, none⟩) (ze_ (p := ⟨gb477, 1, none⟩) (ze_ (p := ⟨gb477, 0, none⟩) (zf_ HO475.out BK477.out (by decide)) (fun _ hk => hk.2) (.int .i64 t471)) (fun _ hk => hk.2) (.int .i64 t472)) (fun _ hk => hk.2) (.slice Ao98 t473.length co98)) (fun _ h_ => h_.1))) hb); have n5_ := Aside0.mk (zq_ (g := gb434) (o := .cells #[.int .i64 a0_0, .int .i64 a0_1, .slice A0_2 l0_2.length c0_2] 24 (0, 0)) (by (with_reducible repeat (first | refine zm_ ?_ _ | refine zn_ ?_ | refine zo_ ?_ _)); refine zp_ ?_ NB434_477.out _; (with_reducible repeat (first | refine zm_ ?_ _ | refine zn_ ?_ | refine zo_ ?_ _)); refine zp_ ?_ NB434_477.out _; (with_reducible repeat (first | refine zm_ ?_ _ | refine zn_ ?_ | refine zo_ ?_ _)); refine zp_ ?_ NB434_477.out _; (with_reducible repeat (first | refine zm_ ?_ _ | refine zn_ ?_ | refine zo_ ?_ _)); exact BK434.out) hb); have n6_ := Aside0.mk (zq_ (g := gb440) (o := .cells #[.int .i64 a0_0, .int .i64 a0_1, .slice (some ⟨go39, 0, none⟩) y447.length co49] 24 (0, 0)) (by (with_reducible repeat (first | refine zm_ ?_ _ | refine zn_ ?_ | refine zo_ ?_ _)); refine zp_ ?_ NB440_477.out _; (with_reducible repeat (first | refine zm_ ?_ _ | refine zn_ ?_ | refine zo_ ?_ _)); refine zp_ ?_ NB440_477.out _; (with_reducible repeat (first | refine zm_ ?_ _ | refine zn_ ?_ | refine zo_ ?_ _)); refine zp_ ?_ NB440_477.out _; (with_reducible repeat (first | refine zm_ ?_ _ | refine zn_ ?_ | refine zo_ ?_ _)); exact BK440.out) hb); have n7_ := Aside0.mk (zq_ (g := gb455) (o := .cells #[.int .i64 t449, .int .i64 t450, .slice Ao71 t451.length co71] 24 (0, 0)) (by (with_reducible repeat (first | refine zm_ ?_ _ | refine zn_ ?_ | refine zo_ ?_ _)); refine zp_ ?_ NB455_477.out _; (with_reducible repeat (first | refine zm_ ?_ _ | refine zn_ ?_ | refine zo_ ?_ _)); refine zp_ ?_ NB455_477.out _; (with_reducible repeat (first | refine zm_ ?_ _ | refine zn_ ?_ | refine zo_ ?_ _)); refine zp_ ?_ NB455_477.out _; (with_reducible repeat (first | refine zm_ ?_ _ | refine zn_ ?_ | refine zo_ ?_ _)); exact BK455.out) hb); have n8_ := Aside0.mk (zq_ (g := gb463) (o := .cells #[.int .i64 t457, .int .i64 t458, .slice Ao79 t459.length co79] 24 (0, 0)) (by (with_reducible repeat (first | refine zm_ ?_ _ | refine zn_ ?_ | refine zo_ ?_ _)); refine zp_ ?_ NB463_477.out _; (with_reducible repeat (first | refine zm_ ?_ _ | refine zn_ ?_ | refine zo_ ?_ _)); refine zp_ ?_ NB463_477.out _; (with_reducible repeat (first | refine zm_ ?_ _ | refine zn_ ?_ | refine zo_ ?_ _)); refine zp_ ?_ NB463_477.out _; (with_reducible repeat (first | refine zm_ ?_ _ | refine zn_ ?_ | refine zo_ ?_ _)); exact BK463.out) hb); have n9_ := Aside0.mk (zq_ (g := gb470) (o := .cells #[.int .i64 t464, .int .i64 t465, .slice Ao88 t466.length co88] 24 (0, 0)) (by (with_reducible repeat (first | refine zm_ ?_ _ | refine zn_ ?_ | refine zo_ ?_ _)); refine zp_ ?_ NB470_477.out _; (with_reducible repeat (first | refine zm_ ?_ _ | refine zn_ ?_ | refine zo_ ?_ _)); refine zp_ ?_ NB470_477.out _; (with_reducible repeat (first | refine zm_ ?_ _ | refine zn_ ?_ | refine zo_ ?_ _)); refine zp_ ?_ NB470_477.out _; (with_reducible repeat (first | refine zm_ ?_ _ | refine zn_ ?_ | refine zo_ ?_ _)); exact BK470.out) hb); have n10_ := Aside0.mk (zq_ (g := gb477) (o := .cells #[.int .i64 t471, .int .i64 t472, .slice Ao98 t473.length co98] 24 (0, 0)) (by (with_reducible repeat (first | refine zm_ ?_ _ | refine zn_ ?_ | refine zo_ ?_ _)); refine blk_put (cs := #[.int .i64 t471, .int .i64 t472, .slice none 0 0]) ?_ 2 _ rfl; (with_reducible repeat (first | refine zm_ ?_ _ | refine zn_ ?_ | refine zo_ ?_ _)); refine blk_put (cs := #[.int .i64 t471, .int .i64 0, .slice none 0 0]) ?_ 1 _ rfl; (with_reducible repeat (first | refine zm_ ?_ _ | refine zn_ ?_ | refine zo_ ?_ _)); refine blk_put (cs := #[.int .i64 0, .int .i64 0, .slice none 0 0]) ?_ 0 _ rfl; (with_reducible repeat (first | refine zm_ ?_ _ | refine zn_ ?_ | refine zo_ ?_ _)); exact BK477.out) hb); have n11_ := Aside0.mk (zv_ (by repeat (first | (with_reducible first | exact HB.out | apply zs_ | apply zt_ | apply zu_ | refine zr_ ?_ GE434.out | refine zr_ ?_ GE440.out | refine zr_ ?_ GE455.out | refine zr_ ?_ GE463.out | refine zr_ ?_ GE470.out | refine zr_ ?_ GE477.out) | exact HB.out)) hb); clear HO_441002; clear HO453; clear HO461; clear HO468; clear HO475; clear BK434; clear BK440; clear BK455; clear BK463; clear BK470; clear BK477; clear HB; have HO_441002 := n0_; have HO453 := n1_; have HO461 := n2_; have HO468 := n3_; have HO475 := n4_; have BK434 := n5_; have BK440 := n6_; have BK455 := n7_; have BK463 := n8_; have BK470 := n9_; have BK477 := n10_; have HB := n11_; clear n0_ n1_ n2_ n3_ n4_ n5_ n6_ n7_ n8_ n9_ n10_ n11_; (try clear hb); (try clear hb2); (try clear hk); (try clear hi); have hnb120 := NB470_434.out; have hnc120 := NB434_470.out; have hnb121 := NB470_440.out; have hnc121 := NB440_470.out; have hnb122 := NB470_477.out; have hnc122 := NB477_470.out; have hcz123_0 : w119.cell? ⟨gb470, 0, none⟩ = some (.int .i64 t464) := (blk_cell BK470.out 0).trans rfl; have hcz123_1 : w119.cell? ⟨gb470, 1, none⟩ = some (.int .i64 t465) := (blk_cell BK470.out 1).trans rfl; have hcz123_2 : w119.cell? ⟨gb470, 2, none⟩ = some (.slice Ao88 t466.length co88) := (blk_cell BK470.out 2).trans rfl; have hfz123_0 := blk_frozen BK470.out 0; have hfz123_1 := blk_frozen BK470.out 1; have hfz123_2 := blk_frozen BK470.out 2; have hnb124 := NB477_434.out; have hnc124 := NB434_477.out; have hnb125 := NB477_440.out; have hnc125 := NB440_477.out; have hcz126_0 : w119.cell? ⟨gb477, 0, none⟩ = some (.int .i64 t471) := (blk_cell BK477.out 0).trans rfl; have hcz126_1 : w119.cell? ⟨gb477, 1, none⟩ = some (.int .i64 t472) := (blk_cell BK477.out 1).trans rfl; have hcz126_2 : w119.cell? ⟨gb477, 2, none⟩ = some (.slice Ao98 t473.length co98) := (blk_cell BK477.out 2).trans rfl; have hfz126_0 := blk_frozen BK477.out 0; have hfz126_1 := blk_frozen BK477.out 1; have hfz126_2 := blk_frozen BK477.out 2) | (go_at_call 16; (with_reducible refine (quietusref25_Same.calls kj39 t464 t465 _ _ t466 t471 t472 _ _ t473 true _ ?side1 ?side2 ?side3 ?side4 A105.out).mono ?_); (case side1 => repeat (first | exact (zl_ HO468.out).2.2 | (with_reducible refine Kd.C_alloc ?_ _) | (with_reducible refine Kd.C_drewN ?_ _) | (with_reducible refine Kd.C_drew ?_))); (case side2 => exact (zl_ HO468.out).2.1); (case side3 => repeat (first | exact (zl_ HO475.out).2.2 | (with_reducible refine Kd.C_alloc ?_ _) | (with_reducible refine Kd.C_drewN ?_ _) | (with_reducible refine Kd.C_drew ?_))); (case side4 => exact (zl_ HO475.out).2.1); rintro e w127 ⟨rfl, hb⟩; have n0_ := Aside0.mk (Kd.R_below (by (with_reducible repeat (first | apply za_ | apply zb_ | apply zc_)); exact HO_441002.out) hb); have n1_ := Aside0.mk (Kd.R_below (by (with_reducible repeat (first | apply za_ | apply zb_ | apply zc_)); exact HO453.out) hb); have n2_ := Aside0.mk (Kd.R_below (by (with_reducible repeat (first | apply za_ | apply zb_ | apply zc_)); exact HO461.out) hb); have n3_ := Aside0.mk (Kd.R_below (by (with_reducible repeat (first | apply za_ | apply zb_ | apply zc_)); exact HO468.out) hb); have n4_ := Aside0.mk (Kd.R_below (by (with_reducible repeat (first | apply za_ | apply zb_ | apply zc_)); exact HO475.out) hb); have n5_ := Aside0.mk (zq_ (g := gb434) (o := .cells #[.int .i64 a0_0, .int .i64 a0_1, .slice A0_2 l0_2.length c0_2] 24 (0, 0)) (by (with_reducible repeat (first | refine zm_ ?_ _ | refine zn_ ?_ | refine zo_ ?_ _)); exact BK434.out) hb); have n6_ := Aside0.mk (zq_ (g := gb440) (o := .cells #[.int .i64 a0_0, .int .i64 a0_1, .slice (some ⟨go39, 0, none⟩) y447.length co49] 24 (0, 0)) (by (with_reducible repeat (first | refine zm_ ?_ _ | refine zn_ ?_ | refine zo_ ?_ _)); exact BK440.out) hb); have n7_ := Aside0.mk (zq_ (g := gb455) (o := .cells #[.int .i64 t449, .int .i64 t450, .slice Ao71 t451.length co71] 24 (0, 0)) (by (with_reducible repeat (first | refine zm_ ?_ _ | refine zn_ ?_ | refine zo_ ?_ _)); exact BK455.out) hb); have n8_ := Aside0.mk (zq_ (g := gb463) (o := .cells #[.int .i64 t457, .int .i64 t458, .slice Ao79 t459.length co79] 24 (0, 0)) (by (with_reducible repeat (first | refine zm_ ?_ _ | refine zn_ ?_ | refine zo_ ?_ _)); exact BK463.out) hb); have n9_ := Aside0.mk (zq_ (g := gb470) (o := .cells #[.int .i64 t464, .int .i64 t465, .slice Ao88 t466.length co88] 24 (0, 0)) (by (with_reducible repeat (first | refine zm_ ?_ _ | refine zn_ ?_ | refine zo_ ?_ _)); exact BK470.out) hb); have n10_ := Aside0.mk (zq_ (g := gb477) (o := .cells #[.int .i64 t471, .int .i64 t472, .slice Ao98 t473.length co98] 24 (0, 0)) (by (with_reducible repeat (first | refine zm_ ?_ _ | refine zn_ ?_ | refine zo_ ?_ _)); exact BK477.out) hb); have n11_ := Aside0.mk (zv_ (by repeat (first | (with_reducible first | exact HB.out | apply zs_ | apply zt_ | apply zu_ | refine zr_ ?_ GE434.out | refine zr_ ?_ GE440.out | refine zr_ ?_ GE455.out | refine zr_ ?_ GE463.out | refine zr_ ?_ GE470.out | refine zr_ ?_ GE477.out) | exact HB.out)) hb); clear HO_441002; clear HO453; clear HO461; clear HO468; clear HO475; clear BK434; clear BK440; clear BK455; clear BK463; clear BK470; clear BK477; clear HB; have HO_441002 := n0_; have HO453 := n1_; have HO461 := n2_; have HO468 := n3_; have HO475 := n4_; have BK434 := n5_; have BK440 := n6_; have BK455 := n7_; have BK463 := n8_; have BK470 := n9_; have BK477 := n10_; have HB := n11_; clear n0_ n1_ n2_ n3_ n4_ n5_ n6_ n7_ n8_ n9_ n10_ n11_; (try clear hb); (try clear hb2); (try clear hk); (try clear hi); have hcz128_0 : w127.cell? ⟨gb455, 0, none⟩ = some (.int .i64 t449) := (blk_cell BK455.out 0).trans rfl; have hcz128_1 : w127.cell? ⟨gb455, 1, none⟩ = some (.int .i64 t450) := (blk_cell BK455.out 1).trans rfl; have hcz128_2 : w127.cell? ⟨gb455, 2, none⟩ = some (.slice Ao71 t451.length co71) := (blk_cell BK455.out 2).trans rfl; have hfz128_0 := blk_frozen BK455.out 0; have hfz128_1 := blk_frozen BK455.out 1; have hfz128_2 := blk_frozen BK455.out 2; have hcz129_0 : w127.cell? ⟨gb470, 0, none⟩ = some (.int .i64 t464) := (blk_cell BK470.out 0).trans rfl; have hcz129_1 : w127.cell? ⟨gb470, 1, none⟩ = some (.int .i64 t465) := (blk_cell BK470.out 1).trans rfl; have hcz129_2 : w127.cell? ⟨gb470, 2, none⟩ = some (.slice Ao88 t466.length co88) := (blk_cell BK470.out 2).trans rfl; have hfz129_0 := blk_frozen BK470.out 0; have hfz129_1 := blk_frozen BK470.out 1; have hfz129_2 := blk_frozen BK470.out 2) | (go_at_call 16; (with_reducible refine (quietusref25_Same.calls kj39 t449 t450 _ _ t451 t464 t465 _ _ t466 t480 _ ?side1 ?side2 ?side3 ?side4 A107.out).mono ?_); (case side1 => repeat (first | exact (zl_ HO453.out).2.2 | (with_reducible refine Kd.C_alloc ?_ _) | (with_reducible refine Kd.C_drewN ?_ _) | (with_reducible refine Kd.C_drew ?_))); (case side2 => exact (zl_ HO453.out).2.1); (case side3 => repeat (first | exact (zl_ HO468.out).2.2 | (with_reducible refine Kd.C_alloc ?_ _) | (with_reducible refine Kd.C_drewN ?_ _) | (with_reducible refine Kd.C_drew ?_))); (case side4 => exact (zl_ HO468.out).2.1); rintro e w130 ⟨rfl, hb⟩; have n0_ := Aside0.mk (Kd.R_below (by (with_reducible repeat (first | apply za_ | apply zb_ | apply zc_)); exact HO_441002.out) hb); have n1_ := Aside0.mk (Kd.R_below (by (with_reducible repeat (first | apply za_ | apply zb_ | apply zc_)); exact HO453.out) hb); have n2_ := Aside0.mk (Kd.R_below (by (with_reducible repeat (first | apply za_ | apply zb_ | apply zc_)); exact HO461.out) hb); have n3_ := Aside0.mk (Kd.R_below (by (with_reducible repeat (first | apply za_ | apply zb_ | apply zc_)); exact HO468.out) hb); have n4_ := Aside0.mk (Kd.R_below (by (with_reducible repeat (first | apply za_ | apply zb_ | apply zc_)); exact HO475.out) hb); have n5_ := Aside0.mk (zq_ (g := gb434) (o := .cells #[.int .i64 a0_0, .int .i64 a0_1, .slice A0_2 l0_2.length c0_2] 24 (0, 0)) (by (with_reducible repeat (first | refine zm_ ?_ _ | refine zn_ ?_ | refine zo_ ?_ _)); exact BK434.out) hb); have n6_ := Aside0.mk (zq_ (g := gb440) (o := .cells #[.int .i64 a0_0, .int .i64 a0_1, .slice (some ⟨go39, 0, none⟩) y447.length co49] 24 (0, 0)) (by (with_reducible repeat (first | refine zm_ ?_ _ | refine zn_ ?_ | refine zo_ ?_ _)); exact BK440.out) hb); have n7_ := Aside0.mk (zq_ (g := gb455) (o := .cells #[.int .i64 t449, .int .i64 t450, .slice Ao71 t451.length co71] 24 (0, 0)) (by (with_reducible repeat (first | refine zm_ ?_ _ | refine zn_ ?_ | refine zo_ ?_ _)); exact BK455.out) hb); have n8_ := Aside0.mk (zq_ (g := gb463) (o := .cells #[.int .i64 t457, .int .i64 t458, .slice Ao79 t459.length co79] 24 (0, 0)) (by (with_reducible repeat (first | refine zm_ ?_ _ | refine zn_ ?_ | refine zo_ ?_ _)); exact BK463.out) hb); have n9_ := Aside0.mk (zq_ (g := gb470) (o := .cells #[.int .i64 t464, .int .i64 t465, .slice Ao88 t466.length co88] 24 (0, 0)) (by (with_reducible repeat (first | refine zm_ ?_ _ | refine zn_ ?_ | refine zo_ ?_ _)); exact BK470.out) hb); have n10_ := Aside0.mk (zq_ (g := gb477) (o := .cells #[.int .i64 t471, .int .i64 t472, .slice Ao98 t473.length co98] 24 (0, 0)) (by (with_reducible repeat (first | refine zm_ ?_ _ | refine zn_ ?_ | refine zo_ ?_ _)); exact BK477.out) hb); have n11_ := Aside0.mk (zv_ (by repeat (first | (with_reducible first | exact HB.out | apply zs_ | apply zt_ | apply zu_ | refine zr_ ?_ GE434.out | refine zr_ ?_ GE440.out | refine zr_ ?_ GE455.out | refine zr_ ?_ GE463.out | refine zr_ ?_ GE470.out | refine zr_ ?_ GE477.out) | exact HB.out)) hb); clear HO_441002; clear HO453; clear HO461; clear HO468; clear HO475; clear BK434; clear BK440; clear BK455; clear BK463; clear BK470; clear BK477; clear HB; have HO_441002 := n0_; have HO453 := n1_; have HO461 := n2_; have HO468 := n3_; have HO475 := n4_; have BK434 := n5_; have BK440 := n6_; have BK455 := n7_; have BK463 := n8_; have BK470 := n9_; have BK477 := n10_; have HB := n11_; clear n0_ n1_ n2_ n3_ n4_ n5_ n6_ n7_ n8_ n9_ n10_ n11_; (try clear hb); (try clear hb2); (try clear hk); (try clear hi)))
                                        first | go_meet | (simp only [← hji22]; go_meet) | (simp only [hji22]; go_meet) | (simp only [← hji36]; go_meet) | (simp only [hji36]; go_meet)
                                        case rel => exact ⟨_, (!t480), (by first | rfl | (simp; done) | (simp [*]; done)), (by first | exact H' | (simp only [hji22, hji36]; exact H') | (rw [hji22]; exact H') | (rw [hji36]; exact H')), ⟨by have := HJ4.out; have := HJ19.out; have := HJ39.out; first | omega | exact Nat.le_refl _⟩, ⟨by (try simp only [hl441002_39]); (with_reducible repeat (first | apply za_ | apply zb_ | apply zc_)); exact zd_ HO_441002.out (fun _ hk => ⟨hk.1.1.1.2, ⟨hk.1.1.2, ⟨hk.1.2, hk.2⟩⟩⟩)⟩, ⟨by (try simp only [hl441002_39]); (with_reducible repeat (first | apply za_ | apply zb_ | apply zc_)); exact zd_ HO453.out (fun _ hk => ⟨hk.1.1.1.2, ⟨hk.1.1.2, ⟨hk.1.2, hk.2⟩⟩⟩)⟩, ⟨by (try simp only [hl441002_39]); (with_reducible repeat (first | apply za_ | apply zb_ | apply zc_)); exact zd_ HO461.out (fun _ hk => ⟨hk.1.1.1.2, ⟨hk.1.1.2, ⟨hk.1.2, hk.2⟩⟩⟩)⟩, ⟨by (try simp only [hl441002_39]); (with_reducible repeat (first | apply za_ | apply zb_ | apply zc_)); exact zd_ HO468.out (fun _ hk => ⟨hk.1.1.1.2, ⟨hk.1.1.2, ⟨hk.1.2, hk.2⟩⟩⟩)⟩, ⟨by (try simp only [hl441002_39]); (with_reducible repeat (first | apply za_ | apply zb_ | apply zc_)); exact zd_ HO475.out (fun _ hk => ⟨hk.1.1.1.2, ⟨hk.1.1.2, ⟨hk.1.2, hk.2⟩⟩⟩)⟩, ⟨by (try simp only [hl441002_39]); (with_reducible repeat (first | refine zm_ ?_ _ | refine zn_ ?_ | refine zo_ ?_ _)); exact BK434.out⟩, ⟨by (try simp only [hl441002_39]); (with_reducible repeat (first | refine zm_ ?_ _ | refine zn_ ?_ | refine zo_ ?_ _)); exact BK440.out⟩, ⟨by (try simp only [hl441002_39]); (with_reducible repeat (first | refine zm_ ?_ _ | refine zn_ ?_ | refine zo_ ?_ _)); exact BK455.out⟩, ⟨by (try simp only [hl441002_39]); (with_reducible repeat (first | refine zm_ ?_ _ | refine zn_ ?_ | refine zo_ ?_ _)); exact BK463.out⟩, ⟨by (try simp only [hl441002_39]); (with_reducible repeat (first | refine zm_ ?_ _ | refine zn_ ?_ | refine zo_ ?_ _)); exact BK470.out⟩, ⟨by (try simp only [hl441002_39]); (with_reducible repeat (first | refine zm_ ?_ _ | refine zn_ ?_ | refine zo_ ?_ _)); exact BK477.out⟩, ⟨by repeat (first | (with_reducible first | exact HB.out | apply zs_ | apply zt_ | apply zu_ | refine zr_ ?_ GE434.out | refine zr_ ?_ GE440.out | refine zr_ ?_ GE455.out | refine zr_ ?_ GE463.out | refine zr_ ?_ GE470.out | refine zr_ ?_ GE477.out) | exact HB.out)⟩⟩
                                      · replace c106 := Bool.eq_false_iff.mpr c106
                                        subst c106
                                        have H1 : (none) = some r := by rw [if_neg (show ¬ (false = true) by decide)] at H; exact H
                                        clear H
                                        have H := H1
                                        clear H1
                                        exact absurd H (by simp)
                                    · replace c104 := Bool.eq_false_iff.mpr c104
                                      subst c104
                                      have H1 : (none) = some r := by rw [if_neg (show ¬ (false = true) by decide)] at H; exact H
                                      clear H
                                      have H := H1
                                      clear H1
                                      exact absurd H (by simp)
                                  · rw [if_neg c102] at H
                                    exact absurd H (by simp)
                                · rw [if_neg c101] at H
                                  exact absurd H (by simp)
                              · rw [if_neg c100] at H
                                exact absurd H (by simp)
                            · rw [if_neg c99] at H
                              exact absurd H (by simp)
                          case rest =>
                            clear HC63
                            try clear c1
                            try clear c2
                            try clear p2
                            try clear c3
                            try clear p3
                            try clear q3
                            try clear hx3
                            try clear c4
                            try clear p4
                            try clear q4
                            try clear hx4
                            try clear c5
                            try clear c6
                            try clear p6
                            try clear c7
                            try clear c7b0
                            try clear c7b1
                            try clear c7b2
                            try clear c8
                            try clear c9
                            try clear c9b0
                            try clear c9b1
                            try clear c10
                            try clear c11
                            try clear c11b0
                            try clear c11b1
                            try clear c12
                            try clear c16
                            try clear c19
                            try clear c19b0
                            try clear c19b1
                            try clear c19b2
                            try clear c23
                            try clear c23b0
                            try clear c24
                            try clear c24b0
                            try clear c25
                            try clear c25b0
                            try clear c25b1
                            try clear c27
                            try clear c27b0
                            try clear c27b1
                            try clear c29
                            try clear c29b0
                            try clear c29b1
                            try clear c32
                            try clear c35
                            try clear c37
                            try clear c37b0
                            try clear c38
                            try clear c38b0
                            try clear p39
                            try clear q39
                            try clear hx39
                            try clear hf39
                            try clear c43
                            try clear p43
                            try clear q43
                            try clear hx43
                            try clear c56
                            try clear c56b0
                            try clear c56b1
                            try clear c57
                            try clear c64
                            try clear p64
                            try clear c68
                            try clear c69
                            try clear c75
                            try clear c76
                            try clear c77
                            try clear c83
                            try clear c84
                            try clear c85
                            try clear c86
                            try clear c92
                            try clear c93
                            try clear c94
                            try clear c95
                            try clear c96
                            try clear c99
                            try clear c99b0
                            try clear c99b1
                            try clear c100
                            try clear c100b0
                            try clear c100b1
                            try clear c101
                            try clear c101b0
                            try clear c101b1
                            try clear c102
                            try clear c102b0
                            try clear c102b1
                            try clear c104
                            try clear c106
                            try clear c108
                            try clear c109
                            try clear c110
                            try clear c111
                            try clear c112
                            try clear c114
                            try clear c115
                            try clear c116
                            try clear c117
                            try clear c120
                            try clear c121
                            try clear c122
                            try clear c124
                            try clear c125
                            try clear hcz10_0
                            try clear hcz10_1
                            try clear hcz10_2
                            try clear hcz113_0
                            try clear hcz113_1
                            try clear hcz113_2
                            try clear hcz118_0
                            try clear hcz118_1
                            try clear hcz118_2
                            try clear hcz123_0
                            try clear hcz123_1
                            try clear hcz123_2
                            try clear hcz126_0
                            try clear hcz126_1
                            try clear hcz126_2
                            try clear hcz128_0
                            try clear hcz128_1
                            try clear hcz128_2
                            try clear hcz129_0
                            try clear hcz129_1
                            try clear hcz129_2
                            try clear hcz12_0
                            try clear hcz12_1
                            try clear hcz12_2
                            try clear hcz14_0
                            try clear hcz14_1
                            try clear hcz14_2
                            try clear hcz21_0
                            try clear hcz21_1
                            try clear hcz21_2
                            try clear hcz26_0
                            try clear hcz26_1
                            try clear hcz26_2
                            try clear hcz28_0
                            try clear hcz28_1
                            try clear hcz28_2
                            try clear hcz30_0
                            try clear hcz30_1
                            try clear hcz30_2
                            try clear hcz31_0
                            try clear hcz31_1
                            try clear hcz31_2
                            try clear hcz41_0
                            try clear hcz41_1
                            try clear hcz41_2
                            try clear hcz44_0
                            try clear hcz44_1
                            try clear hcz44_2
                            try clear hcz47_0
                            try clear hcz47_1
                            try clear hcz47_2
                            try clear hcz50_0
                            try clear hcz50_1
                            try clear hcz50_2
                            try clear hcz52_0
                            try clear hcz52_1
                            try clear hcz52_2
                            try clear hcz55_0
                            try clear hcz55_1
                            try clear hcz55_2
                            try clear hcz58_0
                            try clear hcz58_1
                            try clear hcz58_2
                            try clear hcz65_0
                            try clear hcz65_1
                            try clear hcz65_2
                            try clear hcz70_0
                            try clear hcz70_1
                            try clear hcz70_2
                            try clear hcz72_0
                            try clear hcz72_1
                            try clear hcz72_2
                            try clear hcz78_0
                            try clear hcz78_1
                            try clear hcz78_2
                            try clear hcz80_0
                            try clear hcz80_1
                            try clear hcz80_2
                            try clear hcz87_0
                            try clear hcz87_1
                            try clear hcz87_2
                            try clear hcz89_0
                            try clear hcz89_1
                            try clear hcz89_2
                            try clear hcz8_0
                            try clear hcz8_1
                            try clear hcz8_2
                            try clear hcz97_0
                            try clear hcz97_1
                            try clear hcz97_2
                            try clear hfz10_0
                            try clear hfz10_1
                            try clear hfz10_2
                            try clear hfz113_0
                            try clear hfz113_1
                            try clear hfz113_2
                            try clear hfz118_0
                            try clear hfz118_1
                            try clear hfz118_2
                            try clear hfz123_0
                            try clear hfz123_1
                            try clear hfz123_2
                            try clear hfz126_0
                            try clear hfz126_1
                            try clear hfz126_2
                            try clear hfz128_0
                            try clear hfz128_1
                            try clear hfz128_2
                            try clear hfz129_0
                            try clear hfz129_1
                            try clear hfz129_2
                            try clear hfz12_0
                            try clear hfz12_1
                            try clear hfz12_2
                            try clear hfz14_0
                            try clear hfz14_1
                            try clear hfz14_2
                            try clear hfz21_0
                            try clear hfz21_1
                            try clear hfz21_2
                            try clear hfz26_0
                            try clear hfz26_1
                            try clear hfz26_2
                            try clear hfz28_0
                            try clear hfz28_1
                            try clear hfz28_2
                            try clear hfz30_0
                            try clear hfz30_1
                            try clear hfz30_2
                            try clear hfz31_0
                            try clear hfz31_1
                            try clear hfz31_2
                            try clear hfz41_0
                            try clear hfz41_1
                            try clear hfz41_2
                            try clear hfz44_0
                            try clear hfz44_1
                            try clear hfz44_2
                            try clear hfz47_0
                            try clear hfz47_1
                            try clear hfz47_2
                            try clear hfz50_0
                            try clear hfz50_1
                            try clear hfz50_2
                            try clear hfz52_0
                            try clear hfz52_1
                            try clear hfz52_2
                            try clear hfz55_0
                            try clear hfz55_1
                            try clear hfz55_2
                            try clear hfz58_0
                            try clear hfz58_1
                            try clear hfz58_2
                            try clear hfz65_0
                            try clear hfz65_1
                            try clear hfz65_2
                            try clear hfz70_0
                            try clear hfz70_1
                            try clear hfz70_2
                            try clear hfz72_0
                            try clear hfz72_1
                            try clear hfz72_2
                            try clear hfz78_0
                            try clear hfz78_1
                            try clear hfz78_2
                            try clear hfz80_0
                            try clear hfz80_1
                            try clear hfz80_2
                            try clear hfz87_0
                            try clear hfz87_1
                            try clear hfz87_2
                            try clear hfz89_0
                            try clear hfz89_1
                            try clear hfz89_2
                            try clear hfz8_0
                            try clear hfz8_1
                            try clear hfz8_2
                            try clear hfz97_0
                            try clear hfz97_1
                            try clear hfz97_2
                            try clear hx39_0
                            try clear hx437_0
                            try clear hx438_0
                            try clear p2
                            try clear p3
                            try clear p39
                            try clear p4
                            try clear p43
                            try clear p437
                            try clear p438
                            try clear p6
                            try clear q3
                            try clear q39
                            try clear q4
                            try clear q43
                            try clear q437
                            try clear q438
                            obtain ⟨kq, x157_62, rfl, HA, HJ62, HO_441002, HO_456002, HO_464002, HO_471002, HO_478002, BK434, BK440, BK455, BK463, BK470, BK477, HB⟩ := hcut
                            cases kq with
                            | zero => exact absurd HA.out (by simp [quietuslaw25_PadsAreForgotten.j3])
                            | succ kj62 =>
                              have H := HA.out
                              clear HA
                              simp only [quietuslaw25_PadsAreForgotten.j3] at H
                              by_cases c131 : x157_62 = true
                              · subst c131
                                have H1 : (none) = some r := by rw [if_pos rfl] at H; exact H
                                clear H
                                have H := H1
                                clear H1
                                exact absurd H (by simp)
                              · replace c131 := Bool.eq_false_iff.mpr c131
                                subst c131
                                have H1 : ((quietuslaw25_sanity.f kj62).bind fun t481 => (if t481 = true then ((gf_Sum.f t448 t456).bind fun t482 => (if 0 ≤ (ji36) then (if (ji36) < (l0_2.length : Int) then (if 0 ≤ (a3.size : Int) then (if (a3.size : Int) ≤ ((rdOf ByteArray.empty l0_2 (ji36)).size : Int) then (if (a3.size : Int) ≤ (a2.size : Int) then ((gf_Sum.f ((rdOf ByteArray.empty l0_2 (ji36)).extract 0 ((a3.size : Int) : Int).toNat) (a2.extract 0 ((a3.size : Int) : Int).toNat)).bind fun t484 => (some (t482.toList == t484.toList))) else (none)) else (none)) else (none)) else (none)) else (none))) else (none))) = some r := by rw [if_neg (show ¬ (false = true) by decide)] at H; exact H
                                clear H
                                have H := H1
                                clear H1
                                replace H := Option.bind_eq_some_iff.mp H
                                obtain ⟨t481, A1320, H⟩ := H
                                replace H : (if t481 = true then ((gf_Sum.f t448 t456).bind fun t482 => (if 0 ≤ (ji36) then (if (ji36) < (l0_2.length : Int) then (if 0 ≤ (a3.size : Int) then (if (a3.size : Int) ≤ ((rdOf ByteArray.empty l0_2 (ji36)).size : Int) then (if (a3.size : Int) ≤ (a2.size : Int) then ((gf_Sum.f ((rdOf ByteArray.empty l0_2 (ji36)).extract 0 ((a3.size : Int) : Int).toNat) (a2.extract 0 ((a3.size : Int) : Int).toNat)).bind fun t484 => (some (t482.toList == t484.toList))) else (none)) else (none)) else (none)) else (none)) else (none))) else (none)) = some r := H
                                have A132 := Aside0.mk A1320
                                clear A1320
                                by_cases c133 : t481 = true
                                · subst c133
                                  have H1 : ((gf_Sum.f t448 t456).bind fun t482 => (if 0 ≤ (ji36) then (if (ji36) < (l0_2.length : Int) then (if 0 ≤ (a3.size : Int) then (if (a3.size : Int) ≤ ((rdOf ByteArray.empty l0_2 (ji36)).size : Int) then (if (a3.size : Int) ≤ (a2.size : Int) then ((gf_Sum.f ((rdOf ByteArray.empty l0_2 (ji36)).extract 0 ((a3.size : Int) : Int).toNat) (a2.extract 0 ((a3.size : Int) : Int).toNat)).bind fun t484 => (some (t482.toList == t484.toList))) else (none)) else (none)) else (none)) else (none)) else (none))) = some r := by rw [if_pos rfl] at H; exact H
                                  clear H
                                  have H := H1
                                  clear H1
                                  replace H := Option.bind_eq_some_iff.mp H
                                  obtain ⟨t482, A1340, H⟩ := H
                                  replace H : (if 0 ≤ (ji36) then (if (ji36) < (l0_2.length : Int) then (if 0 ≤ (a3.size : Int) then (if (a3.size : Int) ≤ ((rdOf ByteArray.empty l0_2 (ji36)).size : Int) then (if (a3.size : Int) ≤ (a2.size : Int) then ((gf_Sum.f ((rdOf ByteArray.empty l0_2 (ji36)).extract 0 ((a3.size : Int) : Int).toNat) (a2.extract 0 ((a3.size : Int) : Int).toNat)).bind fun t484 => (some (t482.toList == t484.toList))) else (none)) else (none)) else (none)) else (none)) else (none)) = some r := H
                                  have A134 := Aside0.mk A1340
                                  clear A1340
                                  by_cases c135 : 0 ≤ (ji36)
                                  · rw [if_pos c135] at H
                                    have c135b0 : decide (0 ≤ (ji36)) = true := decide_eq_true c135
                                    clear c135
                                    by_cases c136 : (ji36) < (l0_2.length : Int)
                                    · rw [if_pos c136] at H
                                      have c136b0 : decide ((ji36) < (l0_2.length : Int)) = true := decide_eq_true c136
                                      clear c136
                                      by_cases c137 : 0 ≤ (a3.size : Int)
                                      · rw [if_pos c137] at H
                                        have c137b0 := eq_true c137
                                        have c137b1 : decide (0 ≤ (a3.size : Int)) = true := decide_eq_true c137
                                        clear c137
                                        by_cases c138 : (a3.size : Int) ≤ ((rdOf ByteArray.empty l0_2 (ji36)).size : Int)
                                        · rw [if_pos c138] at H
                                          have c138b0 := eq_true c138
                                          have c138b1 : decide ((a3.size : Int) ≤ ((rdOf ByteArray.empty l0_2 (ji36)).size : Int)) = true := decide_eq_true c138
                                          clear c138
                                          have c139b0 := eq_true (of_decide_eq_true (by first | (with_reducible assumption) | assumption) : 0 ≤ (a3.size : Int))
                                          by_cases c140 : (a3.size : Int) ≤ (a2.size : Int)
                                          · rw [if_pos c140] at H
                                            have c140b0 := eq_true c140
                                            have c140b1 : decide ((a3.size : Int) ≤ (a2.size : Int)) = true := decide_eq_true c140
                                            clear c140
                                            replace H := Option.bind_eq_some_iff.mp H
                                            obtain ⟨t484, A1410, H⟩ := H
                                            replace H : (some (t482.toList == t484.toList)) = some r := H
                                            have A141 := Aside0.mk A1410
                                            clear A1410
                                            obtain rfl := Option.some.inj H
                                            try go_wp2
                                            have n0_ := Aside0.mk (zc_ HO_441002.out)
                                            have n1_ := Aside0.mk (zc_ HO_456002.out)
                                            have n2_ := Aside0.mk (zc_ HO_464002.out)
                                            have n3_ := Aside0.mk (zc_ HO_471002.out)
                                            have n4_ := Aside0.mk (zc_ HO_478002.out)
                                            have n5_ := Aside0.mk (zn_ BK434.out)
                                            have n6_ := Aside0.mk (zn_ BK440.out)
                                            have n7_ := Aside0.mk (zn_ BK455.out)
                                            have n8_ := Aside0.mk (zn_ BK463.out)
                                            have n9_ := Aside0.mk (zn_ BK470.out)
                                            have n10_ := Aside0.mk (zn_ BK477.out)
                                            have n11_ := Aside0.mk (zu_ HB.out)
                                            clear HO_441002
                                            clear HO_456002
                                            clear HO_464002
                                            clear HO_471002
                                            clear HO_478002
                                            clear BK434
                                            clear BK440
                                            clear BK455
                                            clear BK463
                                            clear BK470
                                            clear BK477
                                            clear HB
                                            have HO_441002 := n0_
                                            have HO_456002 := n1_
                                            have HO_464002 := n2_
                                            have HO_471002 := n3_
                                            have HO_478002 := n4_
                                            have BK434 := n5_
                                            have BK440 := n6_
                                            have BK455 := n7_
                                            have BK463 := n8_
                                            have BK470 := n9_
                                            have BK477 := n10_
                                            have HB := n11_
                                            clear n0_ n1_ n2_ n3_ n4_ n5_ n6_ n7_ n8_ n9_ n10_ n11_
                                            have p483 : 0 ≤ ((ji36) : Int) := of_decide_eq_true (by first | (with_reducible assumption) | assumption)
                                            have q483 : (ji36) < (l0_2.length : Int) := of_decide_eq_true (by first | (with_reducible assumption) | assumption)
                                            obtain ⟨ad483, e483, hx483_0⟩ := Kd.at_string HR0_2.out (ji36) p483 q483
                                            have hw483_0 := hx483_0
                                            cases e483
                                            replace hx483_0 := (HB.out.cell (World.block_lt_of_cell? w _ hx483_0)).trans hx483_0
                                            replace p483 := eq_true p483
                                            replace q483 := eq_true q483
                                            refine start_ (n := 21) (S := fun w' => w'.cell? ⟨gb434, 0, none⟩ = some (.int .i64 a0_0) ∧ w'.cell? ⟨gb434, 1, none⟩ = some (.int .i64 a0_1) ∧ w'.cell? ⟨gb434, 2, none⟩ = some (.slice (some ad483) l0_2.length c0_2) ∧ w'.cell? (ad483.add ((ji36)).toNat) = some (.string (rdOf ByteArray.empty l0_2 (ji36)))) (ds := []) #[false, false, false, false, false, false, false, false, false, false, false, false, false, false, false, false, false, false, false, false, false] (by kernel_rfl) rfl rfl ⟨(blk_cell BK434.out 0).trans rfl, (blk_cell BK434.out 1).trans rfl, (blk_cell BK434.out 2).trans rfl, ((HB.out.cell (World.block_lt_of_cell? w _ hw483_0)).trans hw483_0)⟩ (fun hHeld => ?_); refine with_tabW quietuslaw25_PadsAreForgotten.tab18 quietuslaw25_PadsAreForgotten.bits18 (fun HT_ HW_ => ?_)
                                            generalize wc.drew = w142 at HO_441002 HO_456002 HO_464002 HO_471002 HO_478002 BK434 BK440 BK455 BK463 BK470 BK477 HB hx483_0 hHeld ⊢
                                            refine one_ (i := 0) (N := some 158) #[true, false, false, false, false, false, false, false, false, false, false, false, false, false, false, false, false, false, false, false, false] rfl rfl (one_of HT_.out (by kernel_rfl)) (by decide) (fun K hK => ?_)
                                            refine goes_ Try.func9 (by kernel_rfl) rfl #[] (by rfl) rfl rfl (by (try simp only [List.map_toArray, List.map_cons, List.map_nil]); first | done | rfl | (simp only [List.length_drop, List.length_take]; rfl)) ?_
                                            with_reducible refine (quietuslaw25_sanity.calls kj62  true _ A132.out).mono ?_
                                            rintro e w143 ⟨rfl, hb⟩
                                            refine ⟨_, rfl, ?_⟩
                                            have n0_ := Aside0.mk (Kd.R_below (by (with_reducible repeat (first | apply za_ | apply zb_ | apply zc_)); exact HO_441002.out) hb)
                                            have n1_ := Aside0.mk (Kd.R_below (by (with_reducible repeat (first | apply za_ | apply zb_ | apply zc_)); exact HO_456002.out) hb)
                                            have n2_ := Aside0.mk (Kd.R_below (by (with_reducible repeat (first | apply za_ | apply zb_ | apply zc_)); exact HO_464002.out) hb)
                                            have n3_ := Aside0.mk (Kd.R_below (by (with_reducible repeat (first | apply za_ | apply zb_ | apply zc_)); exact HO_471002.out) hb)
                                            have n4_ := Aside0.mk (Kd.R_below (by (with_reducible repeat (first | apply za_ | apply zb_ | apply zc_)); exact HO_478002.out) hb)
                                            have n5_ := Aside0.mk (zq_ (g := gb434) (o := .cells #[.int .i64 a0_0, .int .i64 a0_1, .slice (some ad483) l0_2.length c0_2] 24 (0, 0)) (by (with_reducible repeat (first | refine zm_ ?_ _ | refine zn_ ?_ | refine zo_ ?_ _)); exact BK434.out) hb)
                                            have n6_ := Aside0.mk (zq_ (g := gb440) (o := .cells #[.int .i64 a0_0, .int .i64 a0_1, .slice (some ⟨go39, 0, none⟩) y447.length co49] 24 (0, 0)) (by (with_reducible repeat (first | refine zm_ ?_ _ | refine zn_ ?_ | refine zo_ ?_ _)); exact BK440.out) hb)
                                            have n7_ := Aside0.mk (zq_ (g := gb455) (o := .cells #[.int .i64 t449, .int .i64 t450, .slice Ao71 t451.length co71] 24 (0, 0)) (by (with_reducible repeat (first | refine zm_ ?_ _ | refine zn_ ?_ | refine zo_ ?_ _)); exact BK455.out) hb)
                                            have n8_ := Aside0.mk (zq_ (g := gb463) (o := .cells #[.int .i64 t457, .int .i64 t458, .slice Ao79 t459.length co79] 24 (0, 0)) (by (with_reducible repeat (first | refine zm_ ?_ _ | refine zn_ ?_ | refine zo_ ?_ _)); exact BK463.out) hb)
                                            have n9_ := Aside0.mk (zq_ (g := gb470) (o := .cells #[.int .i64 t464, .int .i64 t465, .slice Ao88 t466.length co88] 24 (0, 0)) (by (with_reducible repeat (first | refine zm_ ?_ _ | refine zn_ ?_ | refine zo_ ?_ _)); exact BK470.out) hb)
                                            have n10_ := Aside0.mk (zq_ (g := gb477) (o := .cells #[.int .i64 t471, .int .i64 t472, .slice Ao98 t473.length co98] 24 (0, 0)) (by (with_reducible repeat (first | refine zm_ ?_ _ | refine zn_ ?_ | refine zo_ ?_ _)); exact BK477.out) hb)
                                            have n11_ := Aside0.mk (zv_ (by repeat (first | (with_reducible first | exact HB.out | apply zs_ | apply zt_ | apply zu_ | refine zr_ ?_ GE434.out | refine zr_ ?_ GE440.out | refine zr_ ?_ GE455.out | refine zr_ ?_ GE463.out | refine zr_ ?_ GE470.out | refine zr_ ?_ GE477.out) | exact HB.out)) hb)
                                            clear HO_441002
                                            clear HO_456002
                                            clear HO_464002
                                            clear HO_471002
                                            clear HO_478002
                                            clear BK434
                                            clear BK440
                                            clear BK455
                                            clear BK463
                                            clear BK470
                                            clear BK477
                                            clear HB
                                            have HO_441002 := n0_
                                            have HO_456002 := n1_
                                            have HO_464002 := n2_
                                            have HO_471002 := n3_
                                            have HO_478002 := n4_
                                            have BK434 := n5_
                                            have BK440 := n6_
                                            have BK455 := n7_
                                            have BK463 := n8_
                                            have BK470 := n9_
                                            have BK477 := n10_
                                            have HB := n11_
                                            clear n0_ n1_ n2_ n3_ n4_ n5_ n6_ n7_ n8_ n9_ n10_ n11_
                                            (try clear hb)
                                            (try clear hb2)
                                            (try clear hk)
                                            (try clear hi)
                                            refine hK.out _ _ ⟨(blk_cell BK434.out 0).trans rfl, (blk_cell BK434.out 1).trans rfl, (blk_cell BK434.out 2).trans rfl, ((HB.out.cell (World.block_lt_of_cell? w _ hw483_0)).trans hw483_0)⟩ (fun hHeld => ?_)
                                            clear hK K
                                            refine norm_ (a' := ?_) ?_ ?_
                                            rotate_left
                                            · show Act.put _ (some 158) _ = _
                                              simp only [Act.put, List.setIfInBounds_toArray, List.set_cons_zero, List.set_cons_succ, i64_w, i32_w]
                                              rfl
                                            refine pure_ (i := 1) (N := some 159) (v := ?_) (a' := ?_) #[true, true, false, false, false, false, false, false, false, false, false, false, false, false, false, false, false, false, false, false, false] rfl rfl (any_of HT_.out (by kernel_rfl)) (fun _ _ _ h => h) (Or.inl ⟨by rfl, ?_⟩) ?_ ?_
                                            rotate_left
                                            · intro w'
                                              go_simp
                                              with_reducible rfl
                                            rotate_left
                                            · simp only [Act.put, List.setIfInBounds_toArray, List.set_cons_zero, List.set_cons_succ, i64_w, i32_w]
                                              rfl
                                            refine pure_ (i := 2) (N := some 160) (v := ?_) (a' := ?_) #[true, true, true, false, false, false, false, false, false, false, false, false, false, false, false, false, false, false, false, false, false] rfl rfl (any_of HT_.out (by kernel_rfl)) (fun _ _ _ h => h) (Or.inl ⟨by rfl, ?_⟩) ?_ ?_
                                            rotate_left
                                            · intro w'
                                              go_simp
                                              with_reducible rfl
                                            rotate_left
                                            · simp only [Act.put, List.setIfInBounds_toArray, List.set_cons_zero, List.set_cons_succ, i64_w, i32_w]
                                              rfl
                                            refine pure_ (i := 3) (N := some 161) (v := ?_) (a' := ?_) #[true, true, true, true, false, false, false, false, false, false, false, false, false, false, false, false, false, false, false, false, false] rfl rfl (any_of HT_.out (by kernel_rfl)) (fun _ _ _ h => h) (Or.inl ⟨by rfl, ?_⟩) ?_ ?_
                                            rotate_left
                                            · intro w'
                                              go_simp
                                              with_reducible rfl
                                            rotate_left
                                            · simp only [Act.put, List.setIfInBounds_toArray, List.set_cons_zero, List.set_cons_succ, i64_w, i32_w]
                                              rfl
                                            refine pure_ (i := 5) (N := some 163) (v := ?_) (a' := ?_) #[true, true, true, true, false, true, false, false, false, false, false, false, false, false, false, false, false, false, false, false, false] rfl rfl (any_of HT_.out (by kernel_rfl)) (fun _ _ _ h => h) (Or.inl ⟨by rfl, ?_⟩) ?_ ?_
                                            rotate_left
                                            · intro w'
                                              go_simp
                                              with_reducible rfl
                                            rotate_left
                                            · simp only [Act.put, List.setIfInBounds_toArray, List.set_cons_zero, List.set_cons_succ, i64_w, i32_w]
                                              rfl
                                            refine pure_ (i := 7) (N := some 165) (v := ?_) (a' := ?_) #[true, true, true, true, false, true, false, true, false, false, false, false, false, false, false, false, false, false, false, false, false] rfl rfl (any_of HT_.out (by kernel_rfl)) (fun _ _ _ h => h) (Or.inl ⟨by rfl, ?_⟩) ?_ ?_
                                            rotate_left
                                            · intro w'
                                              go_simp
                                              with_reducible rfl
                                            rotate_left
                                            · simp only [Act.put, List.setIfInBounds_toArray, List.set_cons_zero, List.set_cons_succ, i64_w, i32_w]
                                              rfl
                                            refine pure_ (i := 10) (N := some 168) (v := ?_) (a' := ?_) #[true, true, true, true, false, true, false, true, false, false, true, false, false, false, false, false, false, false, false, false, false] rfl rfl (any_of HT_.out (by kernel_rfl)) (fun _ _ _ h => h) (Or.inl ⟨by rfl, ?_⟩) ?_ ?_
                                            rotate_left
                                            · intro w'
                                              go_simp
                                              with_reducible rfl
                                            rotate_left
                                            · simp only [Act.put, List.setIfInBounds_toArray, List.set_cons_zero, List.set_cons_succ, i64_w, i32_w]
                                              rfl
                                            refine pure_ (i := 11) (N := some 169) (v := ?_) (a' := ?_) #[true, true, true, true, false, true, false, true, false, false, true, true, false, false, false, false, false, false, false, false, false] rfl rfl (any_of HT_.out (by kernel_rfl)) (fun _ _ _ h => h) (Or.inl ⟨by rfl, ?_⟩) ?_ ?_
                                            rotate_left
                                            · intro w'
                                              go_simp
                                              with_reducible rfl
                                            rotate_left
                                            · simp only [Act.put, List.setIfInBounds_toArray, List.set_cons_zero, List.set_cons_succ, i64_w, i32_w]
                                              rfl
                                            refine pure_ (i := 13) (N := some 171) (v := ?_) (a' := ?_) #[true, true, true, true, false, true, false, true, false, false, true, true, false, true, false, false, false, false, false, false, false] rfl rfl (any_of HT_.out (by kernel_rfl)) (fun _ _ _ h => h) (Or.inl ⟨by rfl, ?_⟩) ?_ ?_
                                            rotate_left
                                            · intro w'
                                              go_simp
                                              with_reducible rfl
                                            rotate_left
                                            · simp only [Act.put, List.setIfInBounds_toArray, List.set_cons_zero, List.set_cons_succ, i64_w, i32_w]
                                              rfl
                                            refine pure_ (i := 14) (N := some 172) (v := ?_) (a' := ?_) #[true, true, true, true, false, true, false, true, false, false, true, true, false, true, true, false, false, false, false, false, false] rfl rfl (any_of HT_.out (by kernel_rfl)) (fun _ _ _ h => h) (Or.inl ⟨by rfl, ?_⟩) ?_ ?_
                                            rotate_left
                                            · intro w'
                                              go_simp
                                              with_reducible rfl
                                            rotate_left
                                            · simp only [Act.put, List.setIfInBounds_toArray, List.set_cons_zero, List.set_cons_succ, i64_w, i32_w]
                                              rfl
                                            refine pure_ (i := 15) (N := some 173) (v := ?_) (a' := ?_) #[true, true, true, true, false, true, false, true, false, false, true, true, false, true, true, true, false, false, false, false, false] rfl rfl (any_of HT_.out (by kernel_rfl)) (fun _ _ _ h => h) (Or.inl ⟨by rfl, ?_⟩) ?_ ?_
                                            rotate_left
                                            · intro w'
                                              go_simp
                                              with_reducible rfl
                                            rotate_left
                                            · simp only [Act.put, List.setIfInBounds_toArray, List.set_cons_zero, List.set_cons_succ, i64_w, i32_w]
                                              rfl
                                            refine pure_ (i := 16) (N := some 174) (v := ?_) (a' := ?_) #[true, true, true, true, false, true, false, true, false, false, true, true, false, true, true, true, true, false, false, false, false] rfl rfl (any_of HT_.out (by kernel_rfl)) (fun _ _ _ h => h) (Or.inl ⟨by rfl, ?_⟩) ?_ ?_
                                            rotate_left
                                            · intro w'
                                              go_simp
                                              with_reducible rfl
                                            rotate_left
                                            · simp only [Act.put, List.setIfInBounds_toArray, List.set_cons_zero, List.set_cons_succ, i64_w, i32_w]
                                              rfl
                                            refine take_ (i := 6) (N := some 164) (v := ?_) (a' := ?_) #[true, true, true, true, false, true, true, true, false, false, true, true, false, true, true, true, true, false, false, false, false] rfl rfl (take_ofW HT_.out HW_.out (by kernel_rfl)) (fun _ _ _ h => h) (Or.inl ⟨by rfl, ?_⟩) hHeld ?_ ?_
                                            rotate_left
                                            · rintro w' ⟨s0, s1, s2, s3⟩
                                              go_simp
                                              with_reducible rfl
                                            rotate_left
                                            · simp only [Act.put, List.setIfInBounds_toArray, List.set_cons_zero, List.set_cons_succ, i64_w, i32_w]
                                              rfl
                                            refine pure_ (i := 8) (N := some 166) (v := ?_) (a' := ?_) #[true, true, true, true, false, true, true, true, true, false, true, true, false, true, true, true, true, false, false, false, false] rfl rfl (any_of HT_.out (by kernel_rfl)) (fun _ _ _ h => h) (Or.inl ⟨by rfl, ?_⟩) ?_ ?_
                                            rotate_left
                                            · intro w'
                                              go_simp
                                              with_reducible rfl
                                            rotate_left
                                            · simp only [Act.put, List.setIfInBounds_toArray, List.set_cons_zero, List.set_cons_succ, i64_w, i32_w]
                                              rfl
                                            refine take_ (i := 9) (N := some 167) (v := ?_) (a' := ?_) #[true, true, true, true, false, true, true, true, true, true, true, true, false, true, true, true, true, false, false, false, false] rfl rfl (take_ofW HT_.out HW_.out (by kernel_rfl)) (fun _ _ _ h => h) (Or.inl ⟨by rfl, ?_⟩) hHeld ?_ ?_
                                            rotate_left
                                            · rintro w' ⟨s0, s1, s2, s3⟩
                                              go_simp
                                              with_reducible rfl
                                            rotate_left
                                            · simp only [Act.put, List.setIfInBounds_toArray, List.set_cons_zero, List.set_cons_succ, i64_w, i32_w]
                                              rfl
                                            refine pure_ (i := 12) (N := some 170) (v := ?_) (a' := ?_) #[true, true, true, true, false, true, true, true, true, true, true, true, true, true, true, true, true, false, false, false, false] rfl rfl (any_of HT_.out (by kernel_rfl)) (fun _ _ _ h => h) (Or.inl ⟨by rfl, ?_⟩) ?_ ?_
                                            rotate_left
                                            · intro w'
                                              go_simp
                                              with_reducible rfl
                                            rotate_left
                                            · simp only [Act.put, List.setIfInBounds_toArray, List.set_cons_zero, List.set_cons_succ, i64_w, i32_w]
                                              rfl
                                            refine one_ (i := 4) (N := some 162) #[true, true, true, true, true, true, true, true, true, true, true, true, true, true, true, true, true, false, false, false, false] rfl rfl (one_of HT_.out (by kernel_rfl)) (by decide) (fun K hK => ?_)
                                            refine goes_ Try.func18 (by kernel_rfl) rfl #[.string t448, .string t456] (by rfl) rfl rfl (by (try simp only [List.map_toArray, List.map_cons, List.map_nil]); first | done | rfl | (simp only [List.length_drop, List.length_take]; rfl)) ?_
                                            with_reducible refine (gf_Sum.calls t448 t456 t482 _ A134.out).mono ?_
                                            rintro e w144 ⟨rfl, hb⟩
                                            refine ⟨_, rfl, ?_⟩
                                            have n0_ := Aside0.mk (Kd.R_below (by (with_reducible repeat (first | apply za_ | apply zb_ | apply zc_)); exact HO_441002.out) hb)
                                            have n1_ := Aside0.mk (Kd.R_below (by (with_reducible repeat (first | apply za_ | apply zb_ | apply zc_)); exact HO_456002.out) hb)
                                            have n2_ := Aside0.mk (Kd.R_below (by (with_reducible repeat (first | apply za_ | apply zb_ | apply zc_)); exact HO_464002.out) hb)
                                            have n3_ := Aside0.mk (Kd.R_below (by (with_reducible repeat (first | apply za_ | apply zb_ | apply zc_)); exact HO_471002.out) hb)
                                            have n4_ := Aside0.mk (Kd.R_below (by (with_reducible repeat (first | apply za_ | apply zb_ | apply zc_)); exact HO_478002.out) hb)
                                            have n5_ := Aside0.mk (zq_ (g := gb434) (o := .cells #[.int .i64 a0_0, .int .i64 a0_1, .slice (some ad483) l0_2.length c0_2] 24 (0, 0)) (by (with_reducible repeat (first | refine zm_ ?_ _ | refine zn_ ?_ | refine zo_ ?_ _)); exact BK434.out) hb)
                                            have n6_ := Aside0.mk (zq_ (g := gb440) (o := .cells #[.int .i64 a0_0, .int .i64 a0_1, .slice (some ⟨go39, 0, none⟩) y447.length co49] 24 (0, 0)) (by (with_reducible repeat (first | refine zm_ ?_ _ | refine zn_ ?_ | refine zo_ ?_ _)); exact BK440.out) hb)
                                            have n7_ := Aside0.mk (zq_ (g := gb455) (o := .cells #[.int .i64 t449, .int .i64 t450, .slice Ao71 t451.length co71] 24 (0, 0)) (by (with_reducible repeat (first | refine zm_ ?_ _ | refine zn_ ?_ | refine zo_ ?_ _)); exact BK455.out) hb)
                                            have n8_ := Aside0.mk (zq_ (g := gb463) (o := .cells #[.int .i64 t457, .int .i64 t458, .slice Ao79 t459.length co79] 24 (0, 0)) (by (with_reducible repeat (first | refine zm_ ?_ _ | refine zn_ ?_ | refine zo_ ?_ _)); exact BK463.out) hb)
                                            have n9_ := Aside0.mk (zq_ (g := gb470) (o := .cells #[.int .i64 t464, .int .i64 t465, .slice Ao88 t466.length co88] 24 (0, 0)) (by (with_reducible repeat (first | refine zm_ ?_ _ | refine zn_ ?_ | refine zo_ ?_ _)); exact BK470.out) hb)
                                            have n10_ := Aside0.mk (zq_ (g := gb477) (o := .cells #[.int .i64 t471, .int .i64 t472, .slice Ao98 t473.length co98] 24 (0, 0)) (by (with_reducible repeat (first | refine zm_ ?_ _ | refine zn_ ?_ | refine zo_ ?_ _)); exact BK477.out) hb)
                                            have n11_ := Aside0.mk (zv_ (by repeat (first | (with_reducible first | exact HB.out | apply zs_ | apply zt_ | apply zu_ | refine zr_ ?_ GE434.out | refine zr_ ?_ GE440.out | refine zr_ ?_ GE455.out | refine zr_ ?_ GE463.out | refine zr_ ?_ GE470.out | refine zr_ ?_ GE477.out) | exact HB.out)) hb)
                                            clear HO_441002
                                            clear HO_456002
                                            clear HO_464002
                                            clear HO_471002
                                            clear HO_478002
                                            clear BK434
                                            clear BK440
                                            clear BK455
                                            clear BK463
                                            clear BK470
                                            clear BK477
                                            clear HB
                                            have HO_441002 := n0_
                                            have HO_456002 := n1_
                                            have HO_464002 := n2_
                                            have HO_471002 := n3_
                                            have HO_478002 := n4_
                                            have BK434 := n5_
                                            have BK440 := n6_
                                            have BK455 := n7_
                                            have BK463 := n8_
                                            have BK470 := n9_
                                            have BK477 := n10_
                                            have HB := n11_
                                            clear n0_ n1_ n2_ n3_ n4_ n5_ n6_ n7_ n8_ n9_ n10_ n11_
                                            (try clear hb)
                                            (try clear hb2)
                                            (try clear hk)
                                            (try clear hi)
                                            refine hK.out _ _ ⟨(blk_cell BK434.out 0).trans rfl, (blk_cell BK434.out 1).trans rfl, (blk_cell BK434.out 2).trans rfl, ((HB.out.cell (World.block_lt_of_cell? w _ hw483_0)).trans hw483_0)⟩ (fun hHeld => ?_)
                                            clear hK K
                                            refine norm_ (a' := ?_) ?_ ?_
                                            rotate_left
                                            · show Act.put _ (some 162) _ = _
                                              simp only [Act.put, List.setIfInBounds_toArray, List.set_cons_zero, List.set_cons_succ, i64_w, i32_w]
                                              rfl
                                            refine one_ (i := 17) (N := some 175) #[true, true, true, true, true, true, true, true, true, true, true, true, true, true, true, true, true, true, false, false, false] rfl rfl (one_of HT_.out (by kernel_rfl)) (by decide) (fun K hK => ?_)
                                            refine goes_ Try.func18 (by kernel_rfl) rfl #[.string ((rdOf ByteArray.empty l0_2 (ji36)).extract 0 ((a3.size : Int) : Int).toNat), .string (a2.extract 0 ((a3.size : Int) : Int).toNat)] (by rfl) rfl rfl (by (try simp only [List.map_toArray, List.map_cons, List.map_nil]); first | done | (simp only [hji36]; rfl) | rfl | (simp only [List.length_drop, List.length_take]; rfl)) ?_
                                            with_reducible refine (gf_Sum.calls ((rdOf ByteArray.empty l0_2 (ji36)).extract 0 ((a3.size : Int) : Int).toNat) (a2.extract 0 ((a3.size : Int) : Int).toNat) t484 _ A141.out).mono ?_
                                            rintro e w145 ⟨rfl, hb⟩
                                            refine ⟨_, rfl, ?_⟩
                                            have n0_ := Aside0.mk (Kd.R_below (by (with_reducible repeat (first | apply za_ | apply zb_ | apply zc_)); exact HO_441002.out) hb)
                                            have n1_ := Aside0.mk (Kd.R_below (by (with_reducible repeat (first | apply za_ | apply zb_ | apply zc_)); exact HO_456002.out) hb)
                                            have n2_ := Aside0.mk (Kd.R_below (by (with_reducible repeat (first | apply za_ | apply zb_ | apply zc_)); exact HO_464002.out) hb)
                                            have n3_ := Aside0.mk (Kd.R_below (by (with_reducible repeat (first | apply za_ | apply zb_ | apply zc_)); exact HO_471002.out) hb)
                                            have n4_ := Aside0.mk (Kd.R_below (by (with_reducible repeat (first | apply za_ | apply zb_ | apply zc_)); exact HO_478002.out) hb)
                                            have n5_ := Aside0.mk (zq_ (g := gb434) (o := .cells #[.int .i64 a0_0, .int .i64 a0_1, .slice (some ad483) l0_2.length c0_2] 24 (0, 0)) (by (with_reducible repeat (first | refine zm_ ?_ _ | refine zn_ ?_ | refine zo_ ?_ _)); exact BK434.out) hb)
                                            have n6_ := Aside0.mk (zq_ (g := gb440) (o := .cells #[.int .i64 a0_0, .int .i64 a0_1, .slice (some ⟨go39, 0, none⟩) y447.length co49] 24 (0, 0)) (by (with_reducible repeat (first | refine zm_ ?_ _ | refine zn_ ?_ | refine zo_ ?_ _)); exact BK440.out) hb)
                                            have n7_ := Aside0.mk (zq_ (g := gb455) (o := .cells #[.int .i64 t449, .int .i64 t450, .slice Ao71 t451.length co71] 24 (0, 0)) (by (with_reducible repeat (first | refine zm_ ?_ _ | refine zn_ ?_ | refine zo_ ?_ _)); exact BK455.out) hb)
                                            have n8_ := Aside0.mk (zq_ (g := gb463) (o := .cells #[.int .i64 t457, .int .i64 t458, .slice Ao79 t459.length co79] 24 (0, 0)) (by (with_reducible repeat (first | refine zm_ ?_ _ | refine zn_ ?_ | refine zo_ ?_ _)); exact BK463.out) hb)
                                            have n9_ := Aside0.mk (zq_ (g := gb470) (o := .cells #[.int .i64 t464, .int .i64 t465, .slice Ao88 t466.length co88] 24 (0, 0)) (by (with_reducible repeat (first | refine zm_ ?_ _ | refine zn_ ?_ | refine zo_ ?_ _)); exact BK470.out) hb)
                                            have n10_ := Aside0.mk (zq_ (g := gb477) (o := .cells #[.int .i64 t471, .int .i64 t472, .slice Ao98 t473.length co98] 24 (0, 0)) (by (with_reducible repeat (first | refine zm_ ?_ _ | refine zn_ ?_ | refine zo_ ?_ _)); exact BK477.out) hb)
                                            have n11_ := Aside0.mk (zv_ (by repeat (first | (with_reducible first | exact HB.out | apply zs_ | apply zt_ | apply zu_ | refine zr_ ?_ GE434.out | refine zr_ ?_ GE440.out | refine zr_ ?_ GE455.out | refine zr_ ?_ GE463.out | refine zr_ ?_ GE470.out | refine zr_ ?_ GE477.out) | exact HB.out)) hb)
                                            clear HO_441002
                                            clear HO_456002
                                            clear HO_464002
                                            clear HO_471002
                                            clear HO_478002
                                            clear BK434
                                            clear BK440
                                            clear BK455
                                            clear BK463
                                            clear BK470
                                            clear BK477
                                            clear HB
                                            have HO_441002 := n0_
                                            have HO_456002 := n1_
                                            have HO_464002 := n2_
                                            have HO_471002 := n3_
                                            have HO_478002 := n4_
                                            have BK434 := n5_
                                            have BK440 := n6_
                                            have BK455 := n7_
                                            have BK463 := n8_
                                            have BK470 := n9_
                                            have BK477 := n10_
                                            have HB := n11_
                                            clear n0_ n1_ n2_ n3_ n4_ n5_ n6_ n7_ n8_ n9_ n10_ n11_
                                            (try clear hb)
                                            (try clear hb2)
                                            (try clear hk)
                                            (try clear hi)
                                            refine hK.out _ _ ⟨(blk_cell BK434.out 0).trans rfl, (blk_cell BK434.out 1).trans rfl, (blk_cell BK434.out 2).trans rfl, ((HB.out.cell (World.block_lt_of_cell? w _ hw483_0)).trans hw483_0)⟩ (fun hHeld => ?_)
                                            clear hK K
                                            refine norm_ (a' := ?_) ?_ ?_
                                            rotate_left
                                            · show Act.put _ (some 175) _ = _
                                              simp only [Act.put, List.setIfInBounds_toArray, List.set_cons_zero, List.set_cons_succ, i64_w, i32_w]
                                              rfl
                                            refine pure_ (i := 18) (N := some 176) (v := ?_) (a' := ?_) #[true, true, true, true, true, true, true, true, true, true, true, true, true, true, true, true, true, true, true, false, false] rfl rfl (any_of HT_.out (by kernel_rfl)) (fun _ _ _ h => h) (Or.inl ⟨by rfl, ?_⟩) ?_ ?_
                                            rotate_left
                                            · intro w'
                                              go_simp
                                              with_reducible rfl
                                            rotate_left
                                            · simp only [Act.put, List.setIfInBounds_toArray, List.set_cons_zero, List.set_cons_succ, i64_w, i32_w]
                                              rfl
                                            refine pure_ (i := 19) (N := some 177) (v := ?_) (a' := ?_) #[true, true, true, true, true, true, true, true, true, true, true, true, true, true, true, true, true, true, true, true, false] rfl rfl (any_of HT_.out (by kernel_rfl)) (fun _ _ _ h => h) (Or.inl ⟨by rfl, ?_⟩) ?_ ?_
                                            rotate_left
                                            · intro w'
                                              go_simp
                                              with_reducible rfl
                                            rotate_left
                                            · simp only [Act.put, List.setIfInBounds_toArray, List.set_cons_zero, List.set_cons_succ, i64_w, i32_w]
                                              rfl
                                            refine pure_ (i := 20) (N := some 8) (v := ?_) (a' := ?_) #[true, true, true, true, true, true, true, true, true, true, true, true, true, true, true, true, true, true, true, true, true] rfl rfl (any_of HT_.out (by kernel_rfl)) (fun _ _ _ h => h) (Or.inl ⟨by rfl, ?_⟩) ?_ ?_
                                            rotate_left
                                            · intro w'
                                              go_simp
                                              with_reducible rfl
                                            rotate_left
                                            · simp only [Act.put, List.setIfInBounds_toArray, List.set_cons_zero, List.set_cons_succ, i64_w, i32_w]
                                              rfl
                                            refine done_ (done_of HT_.out (by kernel_rfl)) ?_
                                            try go_wp2
                                            go_ret
                                            exact ⟨by first | rfl | (simp [errW_none, errW_some] <;> rfl) | (simp only [← hji36]; first | rfl | (simp [errW_none, errW_some] <;> rfl)) | (simp [*, errW_none, errW_some] <;> rfl), by repeat (first | (with_reducible first | exact HB.out | apply zs_ | apply zt_ | apply zu_ | refine zr_ ?_ GE434.out | refine zr_ ?_ GE440.out | refine zr_ ?_ GE455.out | refine zr_ ?_ GE463.out | refine zr_ ?_ GE470.out | refine zr_ ?_ GE477.out) | exact HB.out)⟩
                                          · rw [if_neg c140] at H
                                            exact absurd H (by simp)
                                        · rw [if_neg c138] at H
                                          exact absurd H (by simp)
                                      · rw [if_neg c137] at H
                                        exact absurd H (by simp)
                                    · rw [if_neg c136] at H
                                      exact absurd H (by simp)
                                  · rw [if_neg c135] at H
                                    exact absurd H (by simp)
                                · replace c133 := Bool.eq_false_iff.mpr c133
                                  subst c133
                                  have H1 : (none) = some r := by rw [if_neg (show ¬ (false = true) by decide)] at H; exact H
                                  clear H
                                  have H := H1
                                  clear H1
                                  exact absurd H (by simp)
                    · rw [if_neg c38] at H
                      exact absurd H (by simp)
                  · rw [if_neg c37] at H
                    exact absurd H (by simp)
                · rw [if_neg c35] at H
                  exact absurd H (by simp)

end Go.Proofs.Ytgfnllaajaoljaa.QA
