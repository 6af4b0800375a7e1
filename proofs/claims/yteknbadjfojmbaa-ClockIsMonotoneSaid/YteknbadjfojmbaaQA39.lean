-- What this claim does not use was left out by prune.py, a program of this session.
import Derived.Test.YteknbadjfojmbaaQA0
import Derived.Test.YteknbadjfojmbaaQA21
import Derived.Test.YteknbadjfojmbaaQA22
import Derived.Test.YteknbadjfojmbaaQA24
import Derived.Test.YteknbadjfojmbaaQA25
import Derived.Test.YteknbadjfojmbaaQA26
import Derived.Test.YteknbadjfojmbaaQA27
namespace Go.Proofs.Yteknbadjfojmbaa.QA
open Go.RowKit Go.Proofs.YteknbadjfojmbaaW.PrintWords Go.Proofs.YteknbadjfojmbaaW.PrintLast Go.Proofs.YteknbadjfojmbaaW.PrintMore
attribute [local go_sem] max2_int min2_int max_two min_two max_three min_three max_four min_four
set_option linter.unusedVariables false
set_option linter.unusedSimpArgs false
open Go.Proofs.YteknbadjfojmbaaW.PrintWords renaming blk_drewN → zm_, blk_far → zp_, blk_below → zq_, below_set → zr_, pw_below_drewN → zt_, below_step → zv_, below_size → zw_
mutual
def quietuslaw14_ClockIsMonotone.j0 : Nat → Bool → Int → List (S58) → Int → Int → Int → Int → Int → Int → Option (Bool)
  | 0, _, _, _, _, _, _, _, _, _ => none
  | k + 1, x29, x699000, x699001, x700000, x700001, x700002, x701000, x701001, x701002 => if x29 = true then ((quietuslaw14_sanity.f).bind fun t703 => (some t703)) else ((clock_Now.f k x699000 x699001 (mn x700000 x700001)).bind fun bt704 => ((clock_Now.f k x699000 x699001 (mx x700000 x700001)).bind fun bt708 => (if bt704.2.2 = 0 then (if bt708.2.2 = 0 then (if bt704.1 > bt708.1 then (none) else (quietuslaw14_ClockIsMonotone.j1 k (mn x700000 x700001) (mx x700000 x700001) x700002 bt704.2.2 bt708.2.2 (decide (bt704.2.1 > bt708.2.1)) x699000 x699001 x701000 x701001 x701002 bt704.1 bt704.2.1 bt708.1 bt708.2.1)) else (quietuslaw14_ClockIsMonotone.j1 k (mn x700000 x700001) (mx x700000 x700001) x700002 bt704.2.2 bt708.2.2 false x699000 x699001 x701000 x701001 x701002 bt704.1 bt704.2.1 bt708.1 bt708.2.1)) else (quietuslaw14_ClockIsMonotone.j1 k (mn x700000 x700001) (mx x700000 x700001) x700002 bt704.2.2 bt708.2.2 false x699000 x699001 x701000 x701001 x701002 bt704.1 bt704.2.1 bt708.1 bt708.2.1))))
def quietuslaw14_ClockIsMonotone.j1 : Nat → Int → Int → Int → Int → Int → Bool → Int → List (S58) → Int → Int → Int → Int → Int → Int → Int → Option (Bool)
  | 0, _, _, _, _, _, _, _, _, _, _, _, _, _, _, _ => none
  | k + 1, x7, x8, x9, x11, x13, x74, x699000, x699001, x701000, x701001, x701002, x708000, x708001, x712000, x712001 => if x74 = true then (none) else ((clock_Latest.f k x699000 x699001 x9).bind fun bt712 => ((clock_Earliest.f k x699000 x699001 x9).bind fun bt714 => (if bt712.2 = 0 then (if x11 = 0 then (if x7 ≤ bt712.1 then (if x708001 > x9 then (none) else (if x13 = 0 then (if x8 > bt712.1 then (quietuslaw14_ClockIsMonotone.j2 k x7 x8 x9 x11 x13 bt714.1 bt714.2 (decide (x712001 ≤ x9)) x699000 x699001 x701000 x701001 x701002 x708000 x708001 x712000 x712001) else (quietuslaw14_ClockIsMonotone.j2 k x7 x8 x9 x11 x13 bt714.1 bt714.2 false x699000 x699001 x701000 x701001 x701002 x708000 x708001 x712000 x712001)) else (quietuslaw14_ClockIsMonotone.j2 k x7 x8 x9 x11 x13 bt714.1 bt714.2 false x699000 x699001 x701000 x701001 x701002 x708000 x708001 x712000 x712001))) else (if x13 = 0 then (if x8 > bt712.1 then (quietuslaw14_ClockIsMonotone.j2 k x7 x8 x9 x11 x13 bt714.1 bt714.2 (decide (x712001 ≤ x9)) x699000 x699001 x701000 x701001 x701002 x708000 x708001 x712000 x712001) else (quietuslaw14_ClockIsMonotone.j2 k x7 x8 x9 x11 x13 bt714.1 bt714.2 false x699000 x699001 x701000 x701001 x701002 x708000 x708001 x712000 x712001)) else (quietuslaw14_ClockIsMonotone.j2 k x7 x8 x9 x11 x13 bt714.1 bt714.2 false x699000 x699001 x701000 x701001 x701002 x708000 x708001 x712000 x712001))) else (if x13 = 0 then (if x8 > bt712.1 then (quietuslaw14_ClockIsMonotone.j2 k x7 x8 x9 x11 x13 bt714.1 bt714.2 (decide (x712001 ≤ x9)) x699000 x699001 x701000 x701001 x701002 x708000 x708001 x712000 x712001) else (quietuslaw14_ClockIsMonotone.j2 k x7 x8 x9 x11 x13 bt714.1 bt714.2 false x699000 x699001 x701000 x701001 x701002 x708000 x708001 x712000 x712001)) else (quietuslaw14_ClockIsMonotone.j2 k x7 x8 x9 x11 x13 bt714.1 bt714.2 false x699000 x699001 x701000 x701001 x701002 x708000 x708001 x712000 x712001))) else (quietuslaw14_ClockIsMonotone.j2 k x7 x8 x9 x11 x13 bt714.1 bt714.2 false x699000 x699001 x701000 x701001 x701002 x708000 x708001 x712000 x712001))))
def quietuslaw14_ClockIsMonotone.j2 : Nat → Int → Int → Int → Int → Int → Int → Int → Bool → Int → List (S58) → Int → Int → Int → Int → Int → Int → Int → Option (Bool)
  | 0, _, _, _, _, _, _, _, _, _, _, _, _, _, _, _, _, _ => none
  | k + 1, x7, x8, x9, x11, x13, x16, x17, x118, x699000, x699001, x701000, x701001, x701002, x708000, x708001, x712000, x712001 => if x118 = true then (none) else (if x17 = 0 then (if x11 = 0 then (if x7 ≥ x16 then (if x708000 < x9 then (none) else (if x13 = 0 then (if x8 < x16 then (quietuslaw14_ClockIsMonotone.j3 k x7 x11 (decide (x712000 ≥ x9)) x699000 x699001 x701000 x701001 x701002 x708000 x708001) else (quietuslaw14_ClockIsMonotone.j3 k x7 x11 false x699000 x699001 x701000 x701001 x701002 x708000 x708001)) else (quietuslaw14_ClockIsMonotone.j3 k x7 x11 false x699000 x699001 x701000 x701001 x701002 x708000 x708001))) else (if x13 = 0 then (if x8 < x16 then (quietuslaw14_ClockIsMonotone.j3 k x7 x11 (decide (x712000 ≥ x9)) x699000 x699001 x701000 x701001 x701002 x708000 x708001) else (quietuslaw14_ClockIsMonotone.j3 k x7 x11 false x699000 x699001 x701000 x701001 x701002 x708000 x708001)) else (quietuslaw14_ClockIsMonotone.j3 k x7 x11 false x699000 x699001 x701000 x701001 x701002 x708000 x708001))) else (if x13 = 0 then (if x8 < x16 then (quietuslaw14_ClockIsMonotone.j3 k x7 x11 (decide (x712000 ≥ x9)) x699000 x699001 x701000 x701001 x701002 x708000 x708001) else (quietuslaw14_ClockIsMonotone.j3 k x7 x11 false x699000 x699001 x701000 x701001 x701002 x708000 x708001)) else (quietuslaw14_ClockIsMonotone.j3 k x7 x11 false x699000 x699001 x701000 x701001 x701002 x708000 x708001))) else (quietuslaw14_ClockIsMonotone.j3 k x7 x11 false x699000 x699001 x701000 x701001 x701002 x708000 x708001))
def quietuslaw14_ClockIsMonotone.j3 : Nat → Int → Int → Bool → Int → List (S58) → Int → Int → Int → Int → Int → Option (Bool)
  | 0, _, _, _, _, _, _, _, _, _, _ => none
  | k + 1, x7, x11, x150, x699000, x699001, x701000, x701001, x701002, x708000, x708001 => if x150 = true then (none) else ((clock_Sync.f k x699000 x699001 x701000 x701001 x701002).bind fun bt716 => (if bt716.2.2 = 0 then (quietuslaw14_ClockIsMonotone.j4 k x7 x11 (decide ((x699001.length : Int) ≥ 16)) x708000 x708001 bt716.1 bt716.2.1) else (quietuslaw14_ClockIsMonotone.j4 k x7 x11 true x708000 x708001 bt716.1 bt716.2.1)))
def quietuslaw14_ClockIsMonotone.j4 : Nat → Int → Int → Bool → Int → Int → Int → List (S58) → Option (Bool)
  | 0, _, _, _, _, _, _, _ => none
  | k + 1, x7, x11, x164, x708000, x708001, x722000, x722001 => if x164 = true then ((quietuslaw14_sanity.f).bind fun t722 => (some t722)) else ((clock_Now.f k x722000 x722001 x7).bind fun bt723 => ((quietuslaw14_sanity.f).bind fun t727 => (if t727 = true then (if x11 = 0 then (if bt723.2.2 = 0 then (if x708000 ≤ bt723.1 then (some (decide (bt723.2.1 ≤ x708001))) else (none)) else (some true)) else (some true)) else (none))))
end
def quietuslaw14_ClockIsMonotone.f (k : Nat) (a0_0 : Int) (l0_1 : List (S58)) (a1_0 : Int) (a1_1 : Int) (a1_2 : Int) (a2_0 : Int) (a2_1 : Int) (a2_2 : Int) : Option (Bool) := (quietuslaw14_few.f a0_0 l0_1).bind fun t701 => (if t701 = true then ((quietusref14_Check.f k a0_0 l0_1).bind fun t702 => (quietuslaw14_ClockIsMonotone.j0 k (t702 != 0) a0_0 l0_1 a1_0 a1_1 a1_2 a2_0 a2_1 a2_2)) else (quietuslaw14_ClockIsMonotone.j0 k true a0_0 l0_1 a1_0 a1_1 a1_2 a2_0 a2_1 a2_2))
set_option maxHeartbeats 8000000 in
set_option maxRecDepth 100000 in
theorem quietuslaw14_ClockIsMonotone.calls (k : Nat) (a0_0 : Int) (A0_1 : Option Addr) (c0_1 : Nat) (l0_1 : List (S58)) (a1_0 : Int) (a1_1 : Int) (a1_2 : Int) (a2_0 : Int) (a2_1 : Int) (a2_2 : Int) (r : Bool) (w : World) (hr0_1 : Kd.C k58 w A0_1 l0_1.length l0_1) (hc0_1 : l0_1.length ≤ c0_1) (h : quietuslaw14_ClockIsMonotone.f k a0_0 l0_1 a1_0 a1_1 a1_2 a2_0 a2_1 a2_2 = some r) :
    Calls Try.prog 13 #[.agg #[.int .i64 a0_0, .slice A0_1 l0_1.length c0_1], .agg #[.int .i64 a1_0, .int .i64 a1_1, .int .i64 a1_2], .agg #[.int .i64 a2_0, .int .i64 a2_1, .int .i64 a2_2]] w fun e w' => e = .returned (.bool r) ∧ Below w.heap.size w w' := by
  have hu54 := Try.underlying54
  have hu26 := Try.underlying26
  have hu58 := Try.underlying58
  have hu56 := Try.underlying56
  have HR0_1 := Aside0.mk hr0_1
  have HC0_1 := Aside0.mk hc0_1
  clear hr0_1 hc0_1
  have HB := Aside0.mk (Below.refl w.heap.size w)
  have H : ((quietuslaw14_few.f a0_0 l0_1).bind fun t701 => (if t701 = true then ((quietusref14_Check.f k a0_0 l0_1).bind fun t702 => (quietuslaw14_ClockIsMonotone.j0 k (t702 != 0) a0_0 l0_1 a1_0 a1_1 a1_2 a2_0 a2_1 a2_2)) else (quietuslaw14_ClockIsMonotone.j0 k true a0_0 l0_1 a1_0 a1_1 a1_2 a2_0 a2_1 a2_2))) = some r := h
  clear h
  have HC4 := Aside0.mk H
  clear H
  go_enter Try.func13, Try.ntmps13
  go_upto_region 1 with (first | ((with_reducible refine gate_dst (N := 3) rfl ?_); (try (refine gate_guard (by rfl) ?_; dsimp only)); refine box_event ?hg (N := 3) ?hd (cs := #[.int .i64 a0_0, .slice A0_1 l0_1.length c0_1]) (t := 54) ?hr ?_; (case hd => rfl); (case hg => rfl); (case hr => ((go_simp; done))); intro gb698 hg w5 hbox hb; have n0_ := Aside0.mk (zv_ (by repeat (((with_reducible (exact HB.out))))) hb); have n1_ := Aside0.mk (hbox); have n2_ := Aside0.mk ((by rw [hg]; exact (zw_ (by repeat (((with_reducible (exact HB.out)))))) : w.heap.size ≤ gb698)); have n3_ := Aside0.mk ((by rw [hg]; exact (zw_ (by repeat (((with_reducible (exact HB.out)))))) : w.heap.size ≤ gb698)); clear HB; have HB := n0_; have BK698 := n1_; have GW698 := n2_; have GE698 := n3_; clear n0_ n1_ n2_ n3_; clear hb hbox hg) | ((with_reducible refine gate_dst (N := 4) rfl ?_); (try (refine gate_guard (by rfl) ?_; dsimp only)); refine box_event ?hg (N := 4) ?hd (cs := #[.int .i64 a1_0, .int .i64 a1_1, .int .i64 a1_2]) (t := 26) ?hr ?_; (case hd => rfl); (case hg => rfl); (case hr => ((go_simp; done))); intro gb699 hg w6 hbox hb; have n0_ := Aside0.mk (zq_ (g := gb698) (o := .cells #[.int .i64 a0_0, .slice A0_1 l0_1.length c0_1] 54 (0, 0)) (by (with_reducible repeat (fail)); exact BK698.out) hb); have n1_ := Aside0.mk (zv_ (by repeat (((with_reducible (exact HB.out))))) hb); have n2_ := Aside0.mk (hbox); have n3_ := Aside0.mk ((by rw [hg]; exact (zw_ (by repeat (((with_reducible (exact HB.out)))))) : w.heap.size ≤ gb699)); have n4_ := Aside0.mk ((by rw [hg]; exact (zw_ (by repeat (((with_reducible (exact HB.out)))))) : w.heap.size ≤ gb699)); have n5_ := Aside0.mk ((by rw [hg]; exact Nat.ne_of_lt (blk_lt (g := gb698) (o := .cells #[.int .i64 a0_0, .slice A0_1 l0_1.length c0_1] 54 (0, 0)) (by (with_reducible repeat (fail)); exact BK698.out)) : gb698 ≠ gb699)); have n6_ := Aside0.mk ((by rw [hg]; exact Nat.ne_of_gt (blk_lt (g := gb698) (o := .cells #[.int .i64 a0_0, .slice A0_1 l0_1.length c0_1] 54 (0, 0)) (by (with_reducible repeat (fail)); exact BK698.out)) : gb699 ≠ gb698)); clear BK698; clear HB; have BK698 := n0_; have HB := n1_; have BK699 := n2_; have GW699 := n3_; have GE699 := n4_; have NB698_699 := n5_; have NB699_698 := n6_; clear n0_ n1_ n2_ n3_ n4_ n5_ n6_; clear hb hbox hg) | ((with_reducible refine gate_dst (N := 5) rfl ?_); (try (refine gate_guard (by rfl) ?_; dsimp only)); refine box_event ?hg (N := 5) ?hd (cs := #[.int .i64 a2_0, .int .i64 a2_1, .int .i64 a2_2]) (t := 58) ?hr ?_; (case hd => rfl); (case hg => rfl); (case hr => ((go_simp; done))); intro gb700 hg w7 hbox hb; have n0_ := Aside0.mk (zq_ (g := gb698) (o := .cells #[.int .i64 a0_0, .slice A0_1 l0_1.length c0_1] 54 (0, 0)) (by (with_reducible repeat (fail)); exact BK698.out) hb); have n1_ := Aside0.mk (zq_ (g := gb699) (o := .cells #[.int .i64 a1_0, .int .i64 a1_1, .int .i64 a1_2] 26 (0, 0)) (by (with_reducible repeat (fail)); exact BK699.out) hb); have n2_ := Aside0.mk (zv_ (by repeat (((with_reducible (exact HB.out))))) hb); have n3_ := Aside0.mk (hbox); have n4_ := Aside0.mk ((by rw [hg]; exact (zw_ (by repeat (((with_reducible (exact HB.out)))))) : w.heap.size ≤ gb700)); have n5_ := Aside0.mk ((by rw [hg]; exact (zw_ (by repeat (((with_reducible (exact HB.out)))))) : w.heap.size ≤ gb700)); have n6_ := Aside0.mk ((by rw [hg]; exact Nat.ne_of_lt (blk_lt (g := gb698) (o := .cells #[.int .i64 a0_0, .slice A0_1 l0_1.length c0_1] 54 (0, 0)) (by (with_reducible repeat (fail)); exact BK698.out)) : gb698 ≠ gb700)); have n7_ := Aside0.mk ((by rw [hg]; exact Nat.ne_of_gt (blk_lt (g := gb698) (o := .cells #[.int .i64 a0_0, .slice A0_1 l0_1.length c0_1] 54 (0, 0)) (by (with_reducible repeat (fail)); exact BK698.out)) : gb700 ≠ gb698)); have n8_ := Aside0.mk ((by rw [hg]; exact Nat.ne_of_lt (blk_lt (g := gb699) (o := .cells #[.int .i64 a1_0, .int .i64 a1_1, .int .i64 a1_2] 26 (0, 0)) (by (with_reducible repeat (fail)); exact BK699.out)) : gb699 ≠ gb700)); have n9_ := Aside0.mk ((by rw [hg]; exact Nat.ne_of_gt (blk_lt (g := gb699) (o := .cells #[.int .i64 a1_0, .int .i64 a1_1, .int .i64 a1_2] 26 (0, 0)) (by (with_reducible repeat (fail)); exact BK699.out)) : gb700 ≠ gb699)); clear BK698; clear BK699; clear HB; have BK698 := n0_; have BK699 := n1_; have HB := n2_; have BK700 := n3_; have GW700 := n4_; have GE700 := n5_; have NB698_700 := n6_; have NB700_698 := n7_; have NB699_700 := n8_; have NB700_699 := n9_; clear n0_ n1_ n2_ n3_ n4_ n5_ n6_ n7_ n8_ n9_; clear hb hbox hg))
  repeat (go_quiet (fail); go_upto_region 1 with (fail))
  (try simp only [Act.put, List.setIfInBounds_toArray, List.set_cons_zero, List.set_cons_succ])
  go_cut [29] (fun v29 wc => ∃ (kq : Nat) (x29_3 : Bool), v29 = .bool x29_3 ∧ Aside0 (quietuslaw14_ClockIsMonotone.j0 kq x29_3 a0_0 l0_1 a1_0 a1_1 a1_2 a2_0 a2_1 a2_2 = some r) ∧ Aside0 (kq ≤ k) ∧ Aside0 (wc.heap[gb698]? = some (.cells #[.int .i64 a0_0, (.slice A0_1 l0_1.length c0_1)] 54 (0, 0))) ∧ Aside0 (wc.heap[gb699]? = some (.cells #[.int .i64 a1_0, .int .i64 a1_1, .int .i64 a1_2] 26 (0, 0))) ∧ Aside0 (wc.heap[gb700]? = some (.cells #[.int .i64 a2_0, .int .i64 a2_1, .int .i64 a2_2] 58 (0, 0))) ∧ Aside0 (Below w.heap.size w wc))
  case first =>
    have H := HC4.out
    clear HC4
    replace H := Option.bind_eq_some_iff.mp H
    obtain ⟨t701, A80, H⟩ := H
    replace H : (if t701 = true then ((quietusref14_Check.f k a0_0 l0_1).bind fun t702 => (quietuslaw14_ClockIsMonotone.j0 k (t702 != 0) a0_0 l0_1 a1_0 a1_1 a1_2 a2_0 a2_1 a2_2)) else (quietuslaw14_ClockIsMonotone.j0 k true a0_0 l0_1 a1_0 a1_1 a1_2 a2_0 a2_1 a2_2)) = some r := H
    have A8 := Aside0.mk A80
    clear A80
    by_cases c9 : t701 = true
    · subst c9
      have H1 : ((quietusref14_Check.f k a0_0 l0_1).bind fun t702 => (quietuslaw14_ClockIsMonotone.j0 k (t702 != 0) a0_0 l0_1 a1_0 a1_1 a1_2 a2_0 a2_1 a2_2)) = some r := by rw [if_pos rfl] at H; exact H
      clear H
      have H := H1
      clear H1
      replace H := Option.bind_eq_some_iff.mp H
      obtain ⟨t702, A100, H⟩ := H
      replace H : (quietuslaw14_ClockIsMonotone.j0 k (t702 != 0) a0_0 l0_1 a1_0 a1_1 a1_2 a2_0 a2_1 a2_2) = some r := H
      have A10 := Aside0.mk A100
      clear A100
      have H' := Aside0.mk H
      clear H
      have hnb11 := NB698_699.out
      have hnc11 := NB699_698.out
      have hnb12 := NB698_700.out
      have hnc12 := NB700_698.out
      have hcz13_0 : w7.cell? ⟨gb698, 0, none⟩ = some (.int .i64 a0_0) := (blk_cell BK698.out 0).trans rfl
      have hcz13_1 : w7.cell? ⟨gb698, 1, none⟩ = some (.slice A0_1 l0_1.length c0_1) := (blk_cell BK698.out 1).trans rfl
      have hfz13_0 := blk_frozen BK698.out 0
      have hfz13_1 := blk_frozen BK698.out 1
      go_wp2_with (first | (go_at_call 35; (with_reducible refine (quietuslaw14_few.calls a0_0 _ _ l0_1 true _ ?side1 ?side2 A8.out).mono ?_); (case side1 => repeat ((exact (Kd.C_below HR0_1.out HB.out)))); (case side2 => exact HC0_1.out); rintro e w14 ⟨rfl, hb⟩; have n0_ := Aside0.mk (zq_ (g := gb698) (o := .cells #[.int .i64 a0_0, .slice A0_1 l0_1.length c0_1] 54 (0, 0)) (by (with_reducible repeat (fail)); exact BK698.out) hb); have n1_ := Aside0.mk (zq_ (g := gb699) (o := .cells #[.int .i64 a1_0, .int .i64 a1_1, .int .i64 a1_2] 26 (0, 0)) (by (with_reducible repeat (fail)); exact BK699.out) hb); have n2_ := Aside0.mk (zq_ (g := gb700) (o := .cells #[.int .i64 a2_0, .int .i64 a2_1, .int .i64 a2_2] 58 (0, 0)) (by (with_reducible repeat (fail)); exact BK700.out) hb); have n3_ := Aside0.mk (zv_ (by repeat (((with_reducible (exact HB.out))))) hb); clear BK698; clear BK699; clear BK700; clear HB; have BK698 := n0_; have BK699 := n1_; have BK700 := n2_; have HB := n3_; clear n0_ n1_ n2_ n3_; (try clear hb); (try clear hb2); (try clear hk); (try clear hi); have hcz15_0 : w14.cell? ⟨gb698, 0, none⟩ = some (.int .i64 a0_0) := (blk_cell BK698.out 0).trans rfl; have hcz15_1 : w14.cell? ⟨gb698, 1, none⟩ = some (.slice A0_1 l0_1.length c0_1) := (blk_cell BK698.out 1).trans rfl; have hfz15_0 := blk_frozen BK698.out 0; have hfz15_1 := blk_frozen BK698.out 1) | (go_at_call 44; (with_reducible refine (quietusref14_Check.calls k a0_0 _ _ l0_1 t702 _ ?side1 ?side2 A10.out).mono ?_); (case side1 => repeat ((exact (Kd.C_below HR0_1.out HB.out)))); (case side2 => exact HC0_1.out); rintro e w16 ⟨rfl, hb⟩; have n0_ := Aside0.mk (zq_ (g := gb698) (o := .cells #[.int .i64 a0_0, .slice A0_1 l0_1.length c0_1] 54 (0, 0)) (by (with_reducible repeat (fail)); exact BK698.out) hb); have n1_ := Aside0.mk (zq_ (g := gb699) (o := .cells #[.int .i64 a1_0, .int .i64 a1_1, .int .i64 a1_2] 26 (0, 0)) (by (with_reducible repeat (fail)); exact BK699.out) hb); have n2_ := Aside0.mk (zq_ (g := gb700) (o := .cells #[.int .i64 a2_0, .int .i64 a2_1, .int .i64 a2_2] 58 (0, 0)) (by (with_reducible repeat (fail)); exact BK700.out) hb); have n3_ := Aside0.mk (zv_ (by repeat (((with_reducible (exact HB.out))))) hb); clear BK698; clear BK699; clear BK700; clear HB; have BK698 := n0_; have BK699 := n1_; have BK700 := n2_; have HB := n3_; clear n0_ n1_ n2_ n3_; (try clear hb); (try clear hb2); (try clear hk); (try clear hi)))
      repeat (go_quiet (fail); try go_wp2_with (fail))
      (go_meet)
      case rel => exact ⟨_, ((t702 != 0)), (by (rfl)), (by (exact H')), ⟨by (omega)⟩, ⟨by (with_reducible repeat (fail)); exact BK698.out⟩, ⟨by (with_reducible repeat (fail)); exact BK699.out⟩, ⟨by (with_reducible repeat (fail)); exact BK700.out⟩, ⟨by repeat (((with_reducible (exact HB.out))))⟩⟩
    · replace c9 := Bool.eq_false_iff.mpr c9
      subst c9
      have H1 : (quietuslaw14_ClockIsMonotone.j0 k true a0_0 l0_1 a1_0 a1_1 a1_2 a2_0 a2_1 a2_2) = some r := by rw [if_neg (show ¬ (false = true) by decide)] at H; exact H
      clear H
      have H := H1
      clear H1
      have H' := Aside0.mk H
      clear H
      have hnb17 := NB698_699.out
      have hnc17 := NB699_698.out
      have hnb18 := NB698_700.out
      have hnc18 := NB700_698.out
      have hcz19_0 : w7.cell? ⟨gb698, 0, none⟩ = some (.int .i64 a0_0) := (blk_cell BK698.out 0).trans rfl
      have hcz19_1 : w7.cell? ⟨gb698, 1, none⟩ = some (.slice A0_1 l0_1.length c0_1) := (blk_cell BK698.out 1).trans rfl
      have hfz19_0 := blk_frozen BK698.out 0
      have hfz19_1 := blk_frozen BK698.out 1
      go_wp2_with (((go_at_call 35; (with_reducible refine (quietuslaw14_few.calls a0_0 _ _ l0_1 false _ ?side1 ?side2 A8.out).mono ?_); (case side1 => repeat ((exact (Kd.C_below HR0_1.out HB.out)))); (case side2 => exact HC0_1.out); rintro e w20 ⟨rfl, hb⟩; have n0_ := Aside0.mk (zq_ (g := gb698) (o := .cells #[.int .i64 a0_0, .slice A0_1 l0_1.length c0_1] 54 (0, 0)) (by (with_reducible repeat (fail)); exact BK698.out) hb); have n1_ := Aside0.mk (zq_ (g := gb699) (o := .cells #[.int .i64 a1_0, .int .i64 a1_1, .int .i64 a1_2] 26 (0, 0)) (by (with_reducible repeat (fail)); exact BK699.out) hb); have n2_ := Aside0.mk (zq_ (g := gb700) (o := .cells #[.int .i64 a2_0, .int .i64 a2_1, .int .i64 a2_2] 58 (0, 0)) (by (with_reducible repeat (fail)); exact BK700.out) hb); have n3_ := Aside0.mk (zv_ (by repeat (((with_reducible (exact HB.out))))) hb); clear BK698; clear BK699; clear BK700; clear HB; have BK698 := n0_; have BK699 := n1_; have BK700 := n2_; have HB := n3_; clear n0_ n1_ n2_ n3_; (try clear hb); (try clear hb2); (try clear hk); (try clear hi))))
      repeat (go_quiet (fail); try go_wp2_with (fail))
      (go_meet)
      case rel => exact ⟨_, (true), (by (rfl)), (by (exact H')), ⟨by (omega)⟩, ⟨by (with_reducible repeat (fail)); exact BK698.out⟩, ⟨by (with_reducible repeat (fail)); exact BK699.out⟩, ⟨by (with_reducible repeat (fail)); exact BK700.out⟩, ⟨by repeat (((with_reducible (exact HB.out))))⟩⟩
  case rest =>
    clear HC4
    try clear c1
    try clear p2
    try clear c9
    try clear c11
    try clear c12
    try clear c13
    try clear c17
    try clear c18
    try clear hcz13_0
    try clear hcz13_1
    try clear hcz15_0
    try clear hcz15_1
    try clear hcz19_0
    try clear hcz19_1
    try clear hfz13_0
    try clear hfz13_1
    try clear hfz15_0
    try clear hfz15_1
    try clear hfz19_0
    try clear hfz19_1
    obtain ⟨kq, x29_3, rfl, HA, HJ3, BK698, BK699, BK700, HB⟩ := hcut
    cases kq with
    | zero => exact absurd HA.out (by simp [quietuslaw14_ClockIsMonotone.j0])
    | succ kj3 =>
      have H := HA.out
      clear HA
      simp only [quietuslaw14_ClockIsMonotone.j0] at H
      by_cases c21 : x29_3 = true
      · subst c21
        have H1 : ((quietuslaw14_sanity.f).bind fun t703 => (some t703)) = some r := by rw [if_pos rfl] at H; exact H
        clear H
        have H := H1
        clear H1
        replace H := Option.bind_eq_some_iff.mp H
        obtain ⟨t703, A220, H⟩ := H
        replace H : (some t703) = some r := H
        have A22 := Aside0.mk A220
        clear A220
        obtain rfl := Option.some.inj H
        go_wp2_with (((go_at_call 36; (with_reducible refine (quietuslaw14_sanity.calls  t703 _ A22.out).mono ?_); rintro e w23 ⟨rfl, hb⟩; have n0_ := Aside0.mk (zq_ (g := gb698) (o := .cells #[.int .i64 a0_0, .slice A0_1 l0_1.length c0_1] 54 (0, 0)) (by (with_reducible repeat (fail)); exact BK698.out) hb); have n1_ := Aside0.mk (zq_ (g := gb699) (o := .cells #[.int .i64 a1_0, .int .i64 a1_1, .int .i64 a1_2] 26 (0, 0)) (by (with_reducible repeat (fail)); exact BK699.out) hb); have n2_ := Aside0.mk (zq_ (g := gb700) (o := .cells #[.int .i64 a2_0, .int .i64 a2_1, .int .i64 a2_2] 58 (0, 0)) (by (with_reducible repeat (fail)); exact BK700.out) hb); have n3_ := Aside0.mk (zv_ (by repeat (((with_reducible (exact HB.out))))) hb); clear BK698; clear BK699; clear BK700; clear HB; have BK698 := n0_; have BK699 := n1_; have BK700 := n2_; have HB := n3_; clear n0_ n1_ n2_ n3_; (try clear hb); (try clear hb2); (try clear hk); (try clear hi))))
        repeat (go_quiet (fail); try go_wp2_with (fail))
        go_ret
        exact ⟨by (rfl), by repeat (((with_reducible (exact HB.out))))⟩
      · as_aux_lemma =>
          replace c21 := Bool.eq_false_iff.mpr c21
          subst c21
          have H1 : ((clock_Now.f kj3 a0_0 l0_1 (mn a1_0 a1_1)).bind fun bt704 => ((clock_Now.f kj3 a0_0 l0_1 (mx a1_0 a1_1)).bind fun bt708 => (if bt704.2.2 = 0 then (if bt708.2.2 = 0 then (if bt704.1 > bt708.1 then (none) else (quietuslaw14_ClockIsMonotone.j1 kj3 (mn a1_0 a1_1) (mx a1_0 a1_1) a1_2 bt704.2.2 bt708.2.2 (decide (bt704.2.1 > bt708.2.1)) a0_0 l0_1 a2_0 a2_1 a2_2 bt704.1 bt704.2.1 bt708.1 bt708.2.1)) else (quietuslaw14_ClockIsMonotone.j1 kj3 (mn a1_0 a1_1) (mx a1_0 a1_1) a1_2 bt704.2.2 bt708.2.2 false a0_0 l0_1 a2_0 a2_1 a2_2 bt704.1 bt704.2.1 bt708.1 bt708.2.1)) else (quietuslaw14_ClockIsMonotone.j1 kj3 (mn a1_0 a1_1) (mx a1_0 a1_1) a1_2 bt704.2.2 bt708.2.2 false a0_0 l0_1 a2_0 a2_1 a2_2 bt704.1 bt704.2.1 bt708.1 bt708.2.1)))) = some r := by rw [if_neg (show ¬ (false = true) by decide)] at H; exact H
          clear H
          have H := H1
          clear H1
          obtain ⟨ji24, hji24⟩ : ∃ j_ : Int, (mn a1_0 a1_1) = j_ := ⟨_, rfl⟩
          replace H : ((clock_Now.f kj3 a0_0 l0_1 (ji24)).bind fun bt704 => ((clock_Now.f kj3 a0_0 l0_1 (mx a1_0 a1_1)).bind fun bt708 => (if bt704.2.2 = 0 then (if bt708.2.2 = 0 then (if bt704.1 > bt708.1 then (none) else (quietuslaw14_ClockIsMonotone.j1 kj3 ji24 (mx a1_0 a1_1) a1_2 bt704.2.2 bt708.2.2 (decide (bt704.2.1 > bt708.2.1)) a0_0 l0_1 a2_0 a2_1 a2_2 bt704.1 bt704.2.1 bt708.1 bt708.2.1)) else (quietuslaw14_ClockIsMonotone.j1 kj3 ji24 (mx a1_0 a1_1) a1_2 bt704.2.2 bt708.2.2 false a0_0 l0_1 a2_0 a2_1 a2_2 bt704.1 bt704.2.1 bt708.1 bt708.2.1)) else (quietuslaw14_ClockIsMonotone.j1 kj3 ji24 (mx a1_0 a1_1) a1_2 bt704.2.2 bt708.2.2 false a0_0 l0_1 a2_0 a2_1 a2_2 bt704.1 bt704.2.1 bt708.1 bt708.2.1)))) = some r := by ((rw [hji24] at H; exact H))
          have hji24_ : (if a1_1 < a1_0 then a1_1 else a1_0) = ji24 := hji24
          obtain ⟨ji25, hji25⟩ : ∃ j_ : Int, (mx a1_0 a1_1) = j_ := ⟨_, rfl⟩
          replace H : ((clock_Now.f kj3 a0_0 l0_1 (ji24)).bind fun bt704 => ((clock_Now.f kj3 a0_0 l0_1 (ji25)).bind fun bt708 => (if bt704.2.2 = 0 then (if bt708.2.2 = 0 then (if bt704.1 > bt708.1 then (none) else (quietuslaw14_ClockIsMonotone.j1 kj3 ji24 ji25 a1_2 bt704.2.2 bt708.2.2 (decide (bt704.2.1 > bt708.2.1)) a0_0 l0_1 a2_0 a2_1 a2_2 bt704.1 bt704.2.1 bt708.1 bt708.2.1)) else (quietuslaw14_ClockIsMonotone.j1 kj3 ji24 ji25 a1_2 bt704.2.2 bt708.2.2 false a0_0 l0_1 a2_0 a2_1 a2_2 bt704.1 bt704.2.1 bt708.1 bt708.2.1)) else (quietuslaw14_ClockIsMonotone.j1 kj3 ji24 ji25 a1_2 bt704.2.2 bt708.2.2 false a0_0 l0_1 a2_0 a2_1 a2_2 bt704.1 bt704.2.1 bt708.1 bt708.2.1)))) = some r := by ((rw [hji25] at H; exact H))
          have hji25_ : (if a1_0 < a1_1 then a1_1 else a1_0) = ji25 := hji25
          replace H := Option.bind_eq_some_iff.mp H
          obtain ⟨⟨t704, t705, t706⟩, A260, H⟩ := H
          replace H : ((clock_Now.f kj3 a0_0 l0_1 (ji25)).bind fun bt708 => (if t706 = 0 then (if bt708.2.2 = 0 then (if t704 > bt708.1 then (none) else (quietuslaw14_ClockIsMonotone.j1 kj3 ji24 ji25 a1_2 t706 bt708.2.2 (decide (t705 > bt708.2.1)) a0_0 l0_1 a2_0 a2_1 a2_2 t704 t705 bt708.1 bt708.2.1)) else (quietuslaw14_ClockIsMonotone.j1 kj3 ji24 ji25 a1_2 t706 bt708.2.2 false a0_0 l0_1 a2_0 a2_1 a2_2 t704 t705 bt708.1 bt708.2.1)) else (quietuslaw14_ClockIsMonotone.j1 kj3 ji24 ji25 a1_2 t706 bt708.2.2 false a0_0 l0_1 a2_0 a2_1 a2_2 t704 t705 bt708.1 bt708.2.1))) = some r := H
          have A26 := Aside0.mk A260
          clear A260
          replace H := Option.bind_eq_some_iff.mp H
          obtain ⟨⟨t708, t709, t710⟩, A270, H⟩ := H
          replace H : (if t706 = 0 then (if t710 = 0 then (if t704 > t708 then (none) else (quietuslaw14_ClockIsMonotone.j1 kj3 ji24 ji25 a1_2 t706 t710 (decide (t705 > t709)) a0_0 l0_1 a2_0 a2_1 a2_2 t704 t705 t708 t709)) else (quietuslaw14_ClockIsMonotone.j1 kj3 ji24 ji25 a1_2 t706 t710 false a0_0 l0_1 a2_0 a2_1 a2_2 t704 t705 t708 t709)) else (quietuslaw14_ClockIsMonotone.j1 kj3 ji24 ji25 a1_2 t706 t710 false a0_0 l0_1 a2_0 a2_1 a2_2 t704 t705 t708 t709)) = some r := H
          have A27 := Aside0.mk A270
          clear A270
          have HC28 := Aside0.mk H
          clear H
          have hnb29 := NB699_698.out
          have hnc29 := NB698_699.out
          have hnb30 := NB699_700.out
          have hnc30 := NB700_699.out
          have hcz31_0 : wc.cell? ⟨gb699, 0, none⟩ = some (.int .i64 a1_0) := (blk_cell BK699.out 0).trans rfl
          have hcz31_1 : wc.cell? ⟨gb699, 1, none⟩ = some (.int .i64 a1_1) := (blk_cell BK699.out 1).trans rfl
          have hcz31_2 : wc.cell? ⟨gb699, 2, none⟩ = some (.int .i64 a1_2) := (blk_cell BK699.out 2).trans rfl
          have hfz31_0 := blk_frozen BK699.out 0
          have hfz31_1 := blk_frozen BK699.out 1
          have hfz31_2 := blk_frozen BK699.out 2
          have hnb32 := NB698_700.out
          have hnc32 := NB700_698.out
          have hcz33_0 : wc.cell? ⟨gb698, 0, none⟩ = some (.int .i64 a0_0) := (blk_cell BK698.out 0).trans rfl
          have hcz33_1 : wc.cell? ⟨gb698, 1, none⟩ = some (.slice A0_1 l0_1.length c0_1) := (blk_cell BK698.out 1).trans rfl
          have hfz33_0 := blk_frozen BK698.out 0
          have hfz33_1 := blk_frozen BK698.out 1
          go_upto_region 6 with (fail)
          repeat (go_quiet (fail); go_upto_region 6 with (first | (go_at_call 39; (with_reducible refine (clock_Now.calls kj3 a0_0 _ _ l0_1 ji24 t704 t705 t706 _ ?side1 ?side2 A26.out).mono ?_); (case side1 => repeat (first | exact (Kd.C_below HR0_1.out HB.out) | (with_reducible refine Kd.C_drewN ?_ _))); (case side2 => exact HC0_1.out); rintro e w34 ⟨rfl, hb⟩; have n0_ := Aside0.mk (zq_ (g := gb698) (o := .cells #[.int .i64 a0_0, .slice A0_1 l0_1.length c0_1] 54 (0, 0)) (by (with_reducible repeat ((refine zm_ ?_ _))); exact BK698.out) hb); have n1_ := Aside0.mk (zq_ (g := gb699) (o := .cells #[.int .i64 a1_0, .int .i64 a1_1, .int .i64 a1_2] 26 (0, 0)) (by (with_reducible repeat ((refine zm_ ?_ _))); exact BK699.out) hb); have n2_ := Aside0.mk (zq_ (g := gb700) (o := .cells #[.int .i64 a2_0, .int .i64 a2_1, .int .i64 a2_2] 58 (0, 0)) (by (with_reducible repeat ((refine zm_ ?_ _))); exact BK700.out) hb); have n3_ := Aside0.mk (zv_ (by repeat (((with_reducible first | exact HB.out | apply zt_)))) hb); clear BK698; clear BK699; clear BK700; clear HB; have BK698 := n0_; have BK699 := n1_; have BK700 := n2_; have HB := n3_; clear n0_ n1_ n2_ n3_; (try clear hb); (try clear hb2); (try clear hk); (try clear hi)) | ((with_reducible refine gate_dst (N := 10) rfl ?_); (try (refine gate_guard (by rfl) ?_; dsimp only)); refine box_event ?hg (N := 10) ?hd (cs := #[.int .i64 0, .int .i64 0]) (t := 56) ?hr ?_; (case hd => rfl); (case hg => rfl); (case hr => ((go_simp; done))); intro gb707 hg w35 hbox hb; have n0_ := Aside0.mk (zq_ (g := gb698) (o := .cells #[.int .i64 a0_0, .slice A0_1 l0_1.length c0_1] 54 (0, 0)) (by (with_reducible repeat (fail)); exact BK698.out) hb); have n1_ := Aside0.mk (zq_ (g := gb699) (o := .cells #[.int .i64 a1_0, .int .i64 a1_1, .int .i64 a1_2] 26 (0, 0)) (by (with_reducible repeat (fail)); exact BK699.out) hb); have n2_ := Aside0.mk (zq_ (g := gb700) (o := .cells #[.int .i64 a2_0, .int .i64 a2_1, .int .i64 a2_2] 58 (0, 0)) (by (with_reducible repeat (fail)); exact BK700.out) hb); have n3_ := Aside0.mk (zv_ (by repeat (((with_reducible (exact HB.out))))) hb); have n4_ := Aside0.mk (hbox); have n5_ := Aside0.mk ((by rw [hg]; exact (zw_ (by repeat (((with_reducible (exact HB.out)))))) : w.heap.size ≤ gb707)); have n6_ := Aside0.mk ((by rw [hg]; exact (zw_ (by repeat (((with_reducible (exact HB.out)))))) : w.heap.size ≤ gb707)); have n7_ := Aside0.mk ((by rw [hg]; exact Nat.ne_of_lt (blk_lt (g := gb698) (o := .cells #[.int .i64 a0_0, .slice A0_1 l0_1.length c0_1] 54 (0, 0)) (by (with_reducible repeat (fail)); exact BK698.out)) : gb698 ≠ gb707)); have n8_ := Aside0.mk ((by rw [hg]; exact Nat.ne_of_gt (blk_lt (g := gb698) (o := .cells #[.int .i64 a0_0, .slice A0_1 l0_1.length c0_1] 54 (0, 0)) (by (with_reducible repeat (fail)); exact BK698.out)) : gb707 ≠ gb698)); have n9_ := Aside0.mk ((by rw [hg]; exact Nat.ne_of_lt (blk_lt (g := gb699) (o := .cells #[.int .i64 a1_0, .int .i64 a1_1, .int .i64 a1_2] 26 (0, 0)) (by (with_reducible repeat (fail)); exact BK699.out)) : gb699 ≠ gb707)); have n10_ := Aside0.mk ((by rw [hg]; exact Nat.ne_of_gt (blk_lt (g := gb699) (o := .cells #[.int .i64 a1_0, .int .i64 a1_1, .int .i64 a1_2] 26 (0, 0)) (by (with_reducible repeat (fail)); exact BK699.out)) : gb707 ≠ gb699)); have n11_ := Aside0.mk ((by rw [hg]; exact Nat.ne_of_lt (blk_lt (g := gb700) (o := .cells #[.int .i64 a2_0, .int .i64 a2_1, .int .i64 a2_2] 58 (0, 0)) (by (with_reducible repeat (fail)); exact BK700.out)) : gb700 ≠ gb707)); have n12_ := Aside0.mk ((by rw [hg]; exact Nat.ne_of_gt (blk_lt (g := gb700) (o := .cells #[.int .i64 a2_0, .int .i64 a2_1, .int .i64 a2_2] 58 (0, 0)) (by (with_reducible repeat (fail)); exact BK700.out)) : gb707 ≠ gb700)); clear BK698; clear BK699; clear BK700; clear HB; have BK698 := n0_; have BK699 := n1_; have BK700 := n2_; have HB := n3_; have BK707 := n4_; have GW707 := n5_; have GE707 := n6_; have NB698_707 := n7_; have NB707_698 := n8_; have NB699_707 := n9_; have NB707_699 := n10_; have NB700_707 := n11_; have NB707_700 := n12_; clear n0_ n1_ n2_ n3_ n4_ n5_ n6_ n7_ n8_ n9_ n10_ n11_ n12_; clear hb hbox hg; have hnb36 := NB707_698.out; have hnc36 := NB698_707.out; have hnb37 := NB707_699.out; have hnc37 := NB699_707.out; have hnb38 := NB707_700.out; have hnc38 := NB700_707.out; have hcz39_0 : w35.cell? ⟨gb707, 0, none⟩ = some (.int .i64 0) := (blk_cell BK707.out 0).trans rfl; have hcz39_1 : w35.cell? ⟨gb707, 1, none⟩ = some (.int .i64 0) := (blk_cell BK707.out 1).trans rfl; have hfz39_0 := blk_frozen BK707.out 0; have hfz39_1 := blk_frozen BK707.out 1; have hcz40_0 : w35.cell? ⟨gb698, 0, none⟩ = some (.int .i64 a0_0) := (blk_cell BK698.out 0).trans rfl; have hcz40_1 : w35.cell? ⟨gb698, 1, none⟩ = some (.slice A0_1 l0_1.length c0_1) := (blk_cell BK698.out 1).trans rfl; have hfz40_0 := blk_frozen BK698.out 0; have hfz40_1 := blk_frozen BK698.out 1) | (go_at_call 39; (with_reducible refine (clock_Now.calls kj3 a0_0 _ _ l0_1 ji25 t708 t709 t710 _ ?side1 ?side2 A27.out).mono ?_); (case side1 => exact Kd.C_below HR0_1.out (by repeat (((with_reducible first | exact HB.out | refine zr_ ?_ GE707.out))))); (case side2 => exact HC0_1.out); rintro e w41 ⟨rfl, hb⟩; have n0_ := Aside0.mk (zq_ (g := gb698) (o := .cells #[.int .i64 a0_0, .slice A0_1 l0_1.length c0_1] 54 (0, 0)) (by (with_reducible repeat (fail)); refine zp_ ?_ NB698_707.out _; (with_reducible repeat (fail)); refine zp_ ?_ NB698_707.out _; (with_reducible repeat (fail)); exact BK698.out) hb); have n1_ := Aside0.mk (zq_ (g := gb699) (o := .cells #[.int .i64 a1_0, .int .i64 a1_1, .int .i64 a1_2] 26 (0, 0)) (by (with_reducible repeat (fail)); refine zp_ ?_ NB699_707.out _; (with_reducible repeat (fail)); refine zp_ ?_ NB699_707.out _; (with_reducible repeat (fail)); exact BK699.out) hb); have n2_ := Aside0.mk (zq_ (g := gb700) (o := .cells #[.int .i64 a2_0, .int .i64 a2_1, .int .i64 a2_2] 58 (0, 0)) (by (with_reducible repeat (fail)); refine zp_ ?_ NB700_707.out _; (with_reducible repeat (fail)); refine zp_ ?_ NB700_707.out _; (with_reducible repeat (fail)); exact BK700.out) hb); have n3_ := Aside0.mk (zq_ (g := gb707) (o := .cells #[.int .i64 t704, .int .i64 t705] 56 (0, 0)) (by (with_reducible repeat (fail)); refine blk_put (cs := #[.int .i64 t704, .int .i64 0]) ?_ 1 _ rfl; (with_reducible repeat (fail)); refine blk_put (cs := #[.int .i64 0, .int .i64 0]) ?_ 0 _ rfl; (with_reducible repeat (fail)); exact BK707.out) hb); have n4_ := Aside0.mk (zv_ (by repeat (((with_reducible first | exact HB.out | refine zr_ ?_ GE707.out)))) hb); clear BK698; clear BK699; clear BK700; clear BK707; clear HB; have BK698 := n0_; have BK699 := n1_; have BK700 := n2_; have BK707 := n3_; have HB := n4_; clear n0_ n1_ n2_ n3_ n4_; (try clear hb); (try clear hb2); (try clear hk); (try clear hi)) | ((with_reducible refine gate_dst (N := 12) rfl ?_); (try (refine gate_guard (by rfl) ?_; dsimp only)); refine box_event ?hg (N := 12) ?hd (cs := #[.int .i64 0, .int .i64 0]) (t := 56) ?hr ?_; (case hd => rfl); (case hg => rfl); (case hr => ((go_simp; done))); intro gb711 hg w42 hbox hb; have n0_ := Aside0.mk (zq_ (g := gb698) (o := .cells #[.int .i64 a0_0, .slice A0_1 l0_1.length c0_1] 54 (0, 0)) (by (with_reducible repeat (fail)); exact BK698.out) hb); have n1_ := Aside0.mk (zq_ (g := gb699) (o := .cells #[.int .i64 a1_0, .int .i64 a1_1, .int .i64 a1_2] 26 (0, 0)) (by (with_reducible repeat (fail)); exact BK699.out) hb); have n2_ := Aside0.mk (zq_ (g := gb700) (o := .cells #[.int .i64 a2_0, .int .i64 a2_1, .int .i64 a2_2] 58 (0, 0)) (by (with_reducible repeat (fail)); exact BK700.out) hb); have n3_ := Aside0.mk (zq_ (g := gb707) (o := .cells #[.int .i64 t704, .int .i64 t705] 56 (0, 0)) (by (with_reducible repeat (fail)); exact BK707.out) hb); have n4_ := Aside0.mk (zv_ (by repeat (((with_reducible (exact HB.out))))) hb); have n5_ := Aside0.mk (hbox); have n6_ := Aside0.mk ((by rw [hg]; exact (zw_ (by repeat (((with_reducible (exact HB.out)))))) : w.heap.size ≤ gb711)); have n7_ := Aside0.mk ((by rw [hg]; exact (zw_ (by repeat (((with_reducible (exact HB.out)))))) : w.heap.size ≤ gb711)); have n8_ := Aside0.mk ((by rw [hg]; exact Nat.ne_of_lt (blk_lt (g := gb698) (o := .cells #[.int .i64 a0_0, .slice A0_1 l0_1.length c0_1] 54 (0, 0)) (by (with_reducible repeat (fail)); exact BK698.out)) : gb698 ≠ gb711)); have n9_ := Aside0.mk ((by rw [hg]; exact Nat.ne_of_gt (blk_lt (g := gb698) (o := .cells #[.int .i64 a0_0, .slice A0_1 l0_1.length c0_1] 54 (0, 0)) (by (with_reducible repeat (fail)); exact BK698.out)) : gb711 ≠ gb698)); have n10_ := Aside0.mk ((by rw [hg]; exact Nat.ne_of_lt (blk_lt (g := gb699) (o := .cells #[.int .i64 a1_0, .int .i64 a1_1, .int .i64 a1_2] 26 (0, 0)) (by (with_reducible repeat (fail)); exact BK699.out)) : gb699 ≠ gb711)); have n11_ := Aside0.mk ((by rw [hg]; exact Nat.ne_of_gt (blk_lt (g := gb699) (o := .cells #[.int .i64 a1_0, .int .i64 a1_1, .int .i64 a1_2] 26 (0, 0)) (by (with_reducible repeat (fail)); exact BK699.out)) : gb711 ≠ gb699)); have n12_ := Aside0.mk ((by rw [hg]; exact Nat.ne_of_lt (blk_lt (g := gb700) (o := .cells #[.int .i64 a2_0, .int .i64 a2_1, .int .i64 a2_2] 58 (0, 0)) (by (with_reducible repeat (fail)); exact BK700.out)) : gb700 ≠ gb711)); have n13_ := Aside0.mk ((by rw [hg]; exact Nat.ne_of_gt (blk_lt (g := gb700) (o := .cells #[.int .i64 a2_0, .int .i64 a2_1, .int .i64 a2_2] 58 (0, 0)) (by (with_reducible repeat (fail)); exact BK700.out)) : gb711 ≠ gb700)); have n14_ := Aside0.mk ((by rw [hg]; exact Nat.ne_of_lt (blk_lt (g := gb707) (o := .cells #[.int .i64 t704, .int .i64 t705] 56 (0, 0)) (by (with_reducible repeat (fail)); exact BK707.out)) : gb707 ≠ gb711)); have n15_ := Aside0.mk ((by rw [hg]; exact Nat.ne_of_gt (blk_lt (g := gb707) (o := .cells #[.int .i64 t704, .int .i64 t705] 56 (0, 0)) (by (with_reducible repeat (fail)); exact BK707.out)) : gb711 ≠ gb707)); clear BK698; clear BK699; clear BK700; clear BK707; clear HB; have BK698 := n0_; have BK699 := n1_; have BK700 := n2_; have BK707 := n3_; have HB := n4_; have BK711 := n5_; have GW711 := n6_; have GE711 := n7_; have NB698_711 := n8_; have NB711_698 := n9_; have NB699_711 := n10_; have NB711_699 := n11_; have NB700_711 := n12_; have NB711_700 := n13_; have NB707_711 := n14_; have NB711_707 := n15_; clear n0_ n1_ n2_ n3_ n4_ n5_ n6_ n7_ n8_ n9_ n10_ n11_ n12_ n13_ n14_ n15_; clear hb hbox hg; have hnb43 := NB711_698.out; have hnc43 := NB698_711.out; have hnb44 := NB711_699.out; have hnc44 := NB699_711.out; have hnb45 := NB711_700.out; have hnc45 := NB700_711.out; have hnb46 := NB711_707.out; have hnc46 := NB707_711.out; have hcz47_0 : w42.cell? ⟨gb711, 0, none⟩ = some (.int .i64 0) := (blk_cell BK711.out 0).trans rfl; have hcz47_1 : w42.cell? ⟨gb711, 1, none⟩ = some (.int .i64 0) := (blk_cell BK711.out 1).trans rfl; have hfz47_0 := blk_frozen BK711.out 0; have hfz47_1 := blk_frozen BK711.out 1)))
          (try simp only [Act.put, List.setIfInBounds_toArray, List.set_cons_zero, List.set_cons_succ])
          go_cut [74] (fun v74 wc => ∃ (kq : Nat) (x74_27 : Bool), v74 = .bool x74_27 ∧ Aside0 (quietuslaw14_ClockIsMonotone.j1 kq ji24 ji25 a1_2 t706 t710 x74_27 a0_0 l0_1 a2_0 a2_1 a2_2 t704 t705 t708 t709 = some r) ∧ Aside0 (kq ≤ kj3) ∧ Aside0 (wc.heap[gb698]? = some (.cells #[.int .i64 a0_0, (.slice A0_1 l0_1.length c0_1)] 54 (0, 0))) ∧ Aside0 (wc.heap[gb699]? = some (.cells #[.int .i64 a1_0, .int .i64 a1_1, .int .i64 a1_2] 26 (0, 0))) ∧ Aside0 (wc.heap[gb700]? = some (.cells #[.int .i64 a2_0, .int .i64 a2_1, .int .i64 a2_2] 58 (0, 0))) ∧ Aside0 (wc.heap[gb707]? = some (.cells #[.int .i64 t704, .int .i64 t705] 56 (0, 0))) ∧ Aside0 (wc.heap[gb711]? = some (.cells #[.int .i64 t708, .int .i64 t709] 56 (0, 0))) ∧ Aside0 (Below w.heap.size w wc))
          case first =>
            have H := HC28.out
            clear HC28
            by_cases c48 : t706 = 0
            · rw [if_pos c48] at H
              have c48b0 : (t706 == 0) = true := beq_iff_eq.mpr c48
              have c48b1 : (t706 != 0) = false := bne_eq_false_iff_eq.mpr c48
              clear c48
              ((skip))
              by_cases c49 : t710 = 0
              · rw [if_pos c49] at H
                have c49b0 : (t710 == 0) = true := beq_iff_eq.mpr c49
                have c49b1 : (t710 != 0) = false := bne_eq_false_iff_eq.mpr c49
                clear c49
                by_cases c50 : t704 > t708
                · rw [if_pos c50] at H
                  exact absurd H (by simp)
                · rw [if_neg c50] at H
                  have c50b0 : decide (t708 < t704) = false := decide_eq_false c50
                  clear c50
                  have H' := Aside0.mk H
                  clear H
                  have hnb51 := NB707_698.out
                  have hnc51 := NB698_707.out
                  have hnb52 := NB707_699.out
                  have hnc52 := NB699_707.out
                  have hnb53 := NB707_700.out
                  have hnc53 := NB700_707.out
                  have hnb54 := NB707_711.out
                  have hnc54 := NB711_707.out
                  have hcz55_0 : w42.cell? ⟨gb707, 0, none⟩ = some (.int .i64 t704) := (blk_cell BK707.out 0).trans rfl
                  have hcz55_1 : w42.cell? ⟨gb707, 1, none⟩ = some (.int .i64 t705) := (blk_cell BK707.out 1).trans rfl
                  have hfz55_0 := blk_frozen BK707.out 0
                  have hfz55_1 := blk_frozen BK707.out 1
                  have hnb56 := NB711_698.out
                  have hnc56 := NB698_711.out
                  have hnb57 := NB711_699.out
                  have hnc57 := NB699_711.out
                  have hnb58 := NB711_700.out
                  have hnc58 := NB700_711.out
                  have hcz59_0 : w42.cell? ⟨gb711, 0, none⟩ = some (.int .i64 0) := (blk_cell BK711.out 0).trans rfl
                  have hcz59_1 : w42.cell? ⟨gb711, 1, none⟩ = some (.int .i64 0) := (blk_cell BK711.out 1).trans rfl
                  have hfz59_0 := blk_frozen BK711.out 0
                  have hfz59_1 := blk_frozen BK711.out 1
                  go_wp2
                  repeat (go_quiet (fail); try go_wp2)
                  (go_meet)
                  case rel => exact ⟨_, (decide (t705 > t709)), (by (rfl)), (by (exact H')), ⟨by have := HJ3.out; (omega)⟩, ⟨by (with_reducible repeat (fail)); refine zp_ ?_ NB698_711.out _; (with_reducible repeat (fail)); refine zp_ ?_ NB698_711.out _; (with_reducible repeat (fail)); exact BK698.out⟩, ⟨by (with_reducible repeat (fail)); refine zp_ ?_ NB699_711.out _; (with_reducible repeat (fail)); refine zp_ ?_ NB699_711.out _; (with_reducible repeat (fail)); exact BK699.out⟩, ⟨by (with_reducible repeat (fail)); refine zp_ ?_ NB700_711.out _; (with_reducible repeat (fail)); refine zp_ ?_ NB700_711.out _; (with_reducible repeat (fail)); exact BK700.out⟩, ⟨by (with_reducible repeat (fail)); refine zp_ ?_ NB707_711.out _; (with_reducible repeat (fail)); refine zp_ ?_ NB707_711.out _; (with_reducible repeat (fail)); exact BK707.out⟩, ⟨by (with_reducible repeat (fail)); refine blk_put (cs := #[.int .i64 t708, .int .i64 0]) ?_ 1 _ rfl; (with_reducible repeat (fail)); refine blk_put (cs := #[.int .i64 0, .int .i64 0]) ?_ 0 _ rfl; (with_reducible repeat (fail)); exact BK711.out⟩, ⟨by repeat (((with_reducible first | exact HB.out | refine zr_ ?_ GE711.out)))⟩⟩
              · rw [if_neg c49] at H
                have c49b0 : (t710 == 0) = false := beq_eq_false_iff_ne.mpr c49
                have c49b1 : (t710 != 0) = true := bne_iff_ne.mpr c49
                have H' := Aside0.mk H
                clear H
                go_wp2
                repeat (go_quiet (fail); try go_wp2)
                (go_meet)
                case rel => exact ⟨_, (false), (by (rfl)), (by (exact H')), ⟨by have := HJ3.out; (omega)⟩, ⟨by (with_reducible repeat (fail)); refine zp_ ?_ NB698_711.out _; (with_reducible repeat (fail)); refine zp_ ?_ NB698_711.out _; (with_reducible repeat (fail)); exact BK698.out⟩, ⟨by (with_reducible repeat (fail)); refine zp_ ?_ NB699_711.out _; (with_reducible repeat (fail)); refine zp_ ?_ NB699_711.out _; (with_reducible repeat (fail)); exact BK699.out⟩, ⟨by (with_reducible repeat (fail)); refine zp_ ?_ NB700_711.out _; (with_reducible repeat (fail)); refine zp_ ?_ NB700_711.out _; (with_reducible repeat (fail)); exact BK700.out⟩, ⟨by (with_reducible repeat (fail)); refine zp_ ?_ NB707_711.out _; (with_reducible repeat (fail)); refine zp_ ?_ NB707_711.out _; (with_reducible repeat (fail)); exact BK707.out⟩, ⟨by (with_reducible repeat (fail)); refine blk_put (cs := #[.int .i64 t708, .int .i64 0]) ?_ 1 _ rfl; (with_reducible repeat (fail)); refine blk_put (cs := #[.int .i64 0, .int .i64 0]) ?_ 0 _ rfl; (with_reducible repeat (fail)); exact BK711.out⟩, ⟨by repeat (((with_reducible first | exact HB.out | refine zr_ ?_ GE711.out)))⟩⟩
            · rw [if_neg c48] at H
              have c48b0 : (t706 == 0) = false := beq_eq_false_iff_ne.mpr c48
              have c48b1 : (t706 != 0) = true := bne_iff_ne.mpr c48
              ((skip))
              have H' := Aside0.mk H
              clear H
              go_wp2
              repeat (go_quiet (fail); try go_wp2)
              (go_meet)
              case rel => exact ⟨_, (false), (by (rfl)), (by (exact H')), ⟨by have := HJ3.out; (omega)⟩, ⟨by (with_reducible repeat (fail)); refine zp_ ?_ NB698_711.out _; (with_reducible repeat (fail)); refine zp_ ?_ NB698_711.out _; (with_reducible repeat (fail)); exact BK698.out⟩, ⟨by (with_reducible repeat (fail)); refine zp_ ?_ NB699_711.out _; (with_reducible repeat (fail)); refine zp_ ?_ NB699_711.out _; (with_reducible repeat (fail)); exact BK699.out⟩, ⟨by (with_reducible repeat (fail)); refine zp_ ?_ NB700_711.out _; (with_reducible repeat (fail)); refine zp_ ?_ NB700_711.out _; (with_reducible repeat (fail)); exact BK700.out⟩, ⟨by (with_reducible repeat (fail)); refine zp_ ?_ NB707_711.out _; (with_reducible repeat (fail)); refine zp_ ?_ NB707_711.out _; (with_reducible repeat (fail)); exact BK707.out⟩, ⟨by (with_reducible repeat (fail)); refine blk_put (cs := #[.int .i64 t708, .int .i64 0]) ?_ 1 _ rfl; (with_reducible repeat (fail)); refine blk_put (cs := #[.int .i64 0, .int .i64 0]) ?_ 0 _ rfl; (with_reducible repeat (fail)); exact BK711.out⟩, ⟨by repeat (((with_reducible first | exact HB.out | refine zr_ ?_ GE711.out)))⟩⟩
          case rest =>
            clear HC28
            try clear c1
            try clear c2
            try clear p2
            try clear c3
            try clear c4
            try clear c5
            try clear c9
            try clear c11
            try clear c12
            try clear c13
            try clear c17
            try clear c18
            try clear c21
            try clear c29
            try clear c30
            try clear c32
            try clear c36
            try clear c37
            try clear c38
            try clear c43
            try clear c44
            try clear c45
            try clear c46
            try clear c48
            try clear c48b0
            try clear c48b1
            try clear c49
            try clear c49b0
            try clear c49b1
            try clear c50
            try clear c50b0
            try clear c51
            try clear c52
            try clear c53
            try clear c54
            try clear c56
            try clear c57
            try clear c58
            try clear hcz13_0
            try clear hcz13_1
            try clear hcz15_0
            try clear hcz15_1
            try clear hcz19_0
            try clear hcz19_1
            try clear hcz31_0
            try clear hcz31_1
            try clear hcz31_2
            try clear hcz33_0
            try clear hcz33_1
            try clear hcz39_0
            try clear hcz39_1
            try clear hcz40_0
            try clear hcz40_1
            try clear hcz47_0
            try clear hcz47_1
            try clear hcz55_0
            try clear hcz55_1
            try clear hcz59_0
            try clear hcz59_1
            try clear hfz13_0
            try clear hfz13_1
            try clear hfz15_0
            try clear hfz15_1
            try clear hfz19_0
            try clear hfz19_1
            try clear hfz31_0
            try clear hfz31_1
            try clear hfz31_2
            try clear hfz33_0
            try clear hfz33_1
            try clear hfz39_0
            try clear hfz39_1
            try clear hfz40_0
            try clear hfz40_1
            try clear hfz47_0
            try clear hfz47_1
            try clear hfz55_0
            try clear hfz55_1
            try clear hfz59_0
            try clear hfz59_1
            try clear p2
            obtain ⟨kq, x74_27, rfl, HA, HJ27, BK698, BK699, BK700, BK707, BK711, HB⟩ := hcut
            cases kq with
            | zero => exact absurd HA.out (by simp [quietuslaw14_ClockIsMonotone.j1])
            | succ kj27 =>
              have H := HA.out
              clear HA
              simp only [quietuslaw14_ClockIsMonotone.j1] at H
              by_cases c60 : x74_27 = true
              · subst c60
                have H1 : (none) = some r := by rw [if_pos rfl] at H; exact H
                clear H
                have H := H1
                clear H1
                exact absurd H (by simp)
              · as_aux_lemma =>
                  replace c60 := Bool.eq_false_iff.mpr c60
                  subst c60
                  have H1 : ((clock_Latest.f kj27 a0_0 l0_1 a1_2).bind fun bt712 => ((clock_Earliest.f kj27 a0_0 l0_1 a1_2).bind fun bt714 => (if bt712.2 = 0 then (if t706 = 0 then (if ji24 ≤ bt712.1 then (if t705 > a1_2 then (none) else (if t710 = 0 then (if ji25 > bt712.1 then (quietuslaw14_ClockIsMonotone.j2 kj27 ji24 ji25 a1_2 t706 t710 bt714.1 bt714.2 (decide (t709 ≤ a1_2)) a0_0 l0_1 a2_0 a2_1 a2_2 t704 t705 t708 t709) else (quietuslaw14_ClockIsMonotone.j2 kj27 ji24 ji25 a1_2 t706 t710 bt714.1 bt714.2 false a0_0 l0_1 a2_0 a2_1 a2_2 t704 t705 t708 t709)) else (quietuslaw14_ClockIsMonotone.j2 kj27 ji24 ji25 a1_2 t706 t710 bt714.1 bt714.2 false a0_0 l0_1 a2_0 a2_1 a2_2 t704 t705 t708 t709))) else (if t710 = 0 then (if ji25 > bt712.1 then (quietuslaw14_ClockIsMonotone.j2 kj27 ji24 ji25 a1_2 t706 t710 bt714.1 bt714.2 (decide (t709 ≤ a1_2)) a0_0 l0_1 a2_0 a2_1 a2_2 t704 t705 t708 t709) else (quietuslaw14_ClockIsMonotone.j2 kj27 ji24 ji25 a1_2 t706 t710 bt714.1 bt714.2 false a0_0 l0_1 a2_0 a2_1 a2_2 t704 t705 t708 t709)) else (quietuslaw14_ClockIsMonotone.j2 kj27 ji24 ji25 a1_2 t706 t710 bt714.1 bt714.2 false a0_0 l0_1 a2_0 a2_1 a2_2 t704 t705 t708 t709))) else (if t710 = 0 then (if ji25 > bt712.1 then (quietuslaw14_ClockIsMonotone.j2 kj27 ji24 ji25 a1_2 t706 t710 bt714.1 bt714.2 (decide (t709 ≤ a1_2)) a0_0 l0_1 a2_0 a2_1 a2_2 t704 t705 t708 t709) else (quietuslaw14_ClockIsMonotone.j2 kj27 ji24 ji25 a1_2 t706 t710 bt714.1 bt714.2 false a0_0 l0_1 a2_0 a2_1 a2_2 t704 t705 t708 t709)) else (quietuslaw14_ClockIsMonotone.j2 kj27 ji24 ji25 a1_2 t706 t710 bt714.1 bt714.2 false a0_0 l0_1 a2_0 a2_1 a2_2 t704 t705 t708 t709))) else (quietuslaw14_ClockIsMonotone.j2 kj27 ji24 ji25 a1_2 t706 t710 bt714.1 bt714.2 false a0_0 l0_1 a2_0 a2_1 a2_2 t704 t705 t708 t709)))) = some r := by rw [if_neg (show ¬ (false = true) by decide)] at H; exact H
                  clear H
                  have H := H1
                  clear H1
                  replace H := Option.bind_eq_some_iff.mp H
                  obtain ⟨⟨t712, t713⟩, A610, H⟩ := H
                  replace H : ((clock_Earliest.f kj27 a0_0 l0_1 a1_2).bind fun bt714 => (if t713 = 0 then (if t706 = 0 then (if ji24 ≤ t712 then (if t705 > a1_2 then (none) else (if t710 = 0 then (if ji25 > t712 then (quietuslaw14_ClockIsMonotone.j2 kj27 ji24 ji25 a1_2 t706 t710 bt714.1 bt714.2 (decide (t709 ≤ a1_2)) a0_0 l0_1 a2_0 a2_1 a2_2 t704 t705 t708 t709) else (quietuslaw14_ClockIsMonotone.j2 kj27 ji24 ji25 a1_2 t706 t710 bt714.1 bt714.2 false a0_0 l0_1 a2_0 a2_1 a2_2 t704 t705 t708 t709)) else (quietuslaw14_ClockIsMonotone.j2 kj27 ji24 ji25 a1_2 t706 t710 bt714.1 bt714.2 false a0_0 l0_1 a2_0 a2_1 a2_2 t704 t705 t708 t709))) else (if t710 = 0 then (if ji25 > t712 then (quietuslaw14_ClockIsMonotone.j2 kj27 ji24 ji25 a1_2 t706 t710 bt714.1 bt714.2 (decide (t709 ≤ a1_2)) a0_0 l0_1 a2_0 a2_1 a2_2 t704 t705 t708 t709) else (quietuslaw14_ClockIsMonotone.j2 kj27 ji24 ji25 a1_2 t706 t710 bt714.1 bt714.2 false a0_0 l0_1 a2_0 a2_1 a2_2 t704 t705 t708 t709)) else (quietuslaw14_ClockIsMonotone.j2 kj27 ji24 ji25 a1_2 t706 t710 bt714.1 bt714.2 false a0_0 l0_1 a2_0 a2_1 a2_2 t704 t705 t708 t709))) else (if t710 = 0 then (if ji25 > t712 then (quietuslaw14_ClockIsMonotone.j2 kj27 ji24 ji25 a1_2 t706 t710 bt714.1 bt714.2 (decide (t709 ≤ a1_2)) a0_0 l0_1 a2_0 a2_1 a2_2 t704 t705 t708 t709) else (quietuslaw14_ClockIsMonotone.j2 kj27 ji24 ji25 a1_2 t706 t710 bt714.1 bt714.2 false a0_0 l0_1 a2_0 a2_1 a2_2 t704 t705 t708 t709)) else (quietuslaw14_ClockIsMonotone.j2 kj27 ji24 ji25 a1_2 t706 t710 bt714.1 bt714.2 false a0_0 l0_1 a2_0 a2_1 a2_2 t704 t705 t708 t709))) else (quietuslaw14_ClockIsMonotone.j2 kj27 ji24 ji25 a1_2 t706 t710 bt714.1 bt714.2 false a0_0 l0_1 a2_0 a2_1 a2_2 t704 t705 t708 t709))) = some r := H
                  have A61 := Aside0.mk A610
                  clear A610
                  replace H := Option.bind_eq_some_iff.mp H
                  obtain ⟨⟨t714, t715⟩, A620, H⟩ := H
                  replace H : (if t713 = 0 then (if t706 = 0 then (if ji24 ≤ t712 then (if t705 > a1_2 then (none) else (if t710 = 0 then (if ji25 > t712 then (quietuslaw14_ClockIsMonotone.j2 kj27 ji24 ji25 a1_2 t706 t710 t714 t715 (decide (t709 ≤ a1_2)) a0_0 l0_1 a2_0 a2_1 a2_2 t704 t705 t708 t709) else (quietuslaw14_ClockIsMonotone.j2 kj27 ji24 ji25 a1_2 t706 t710 t714 t715 false a0_0 l0_1 a2_0 a2_1 a2_2 t704 t705 t708 t709)) else (quietuslaw14_ClockIsMonotone.j2 kj27 ji24 ji25 a1_2 t706 t710 t714 t715 false a0_0 l0_1 a2_0 a2_1 a2_2 t704 t705 t708 t709))) else (if t710 = 0 then (if ji25 > t712 then (quietuslaw14_ClockIsMonotone.j2 kj27 ji24 ji25 a1_2 t706 t710 t714 t715 (decide (t709 ≤ a1_2)) a0_0 l0_1 a2_0 a2_1 a2_2 t704 t705 t708 t709) else (quietuslaw14_ClockIsMonotone.j2 kj27 ji24 ji25 a1_2 t706 t710 t714 t715 false a0_0 l0_1 a2_0 a2_1 a2_2 t704 t705 t708 t709)) else (quietuslaw14_ClockIsMonotone.j2 kj27 ji24 ji25 a1_2 t706 t710 t714 t715 false a0_0 l0_1 a2_0 a2_1 a2_2 t704 t705 t708 t709))) else (if t710 = 0 then (if ji25 > t712 then (quietuslaw14_ClockIsMonotone.j2 kj27 ji24 ji25 a1_2 t706 t710 t714 t715 (decide (t709 ≤ a1_2)) a0_0 l0_1 a2_0 a2_1 a2_2 t704 t705 t708 t709) else (quietuslaw14_ClockIsMonotone.j2 kj27 ji24 ji25 a1_2 t706 t710 t714 t715 false a0_0 l0_1 a2_0 a2_1 a2_2 t704 t705 t708 t709)) else (quietuslaw14_ClockIsMonotone.j2 kj27 ji24 ji25 a1_2 t706 t710 t714 t715 false a0_0 l0_1 a2_0 a2_1 a2_2 t704 t705 t708 t709))) else (quietuslaw14_ClockIsMonotone.j2 kj27 ji24 ji25 a1_2 t706 t710 t714 t715 false a0_0 l0_1 a2_0 a2_1 a2_2 t704 t705 t708 t709)) = some r := H
                  have A62 := Aside0.mk A620
                  clear A620
                  have HC63 := Aside0.mk H
                  clear H
                  have hnb64 := NB698_699.out
                  have hnc64 := NB699_698.out
                  have hnb65 := NB698_700.out
                  have hnc65 := NB700_698.out
                  have hnb66 := NB698_707.out
                  have hnc66 := NB707_698.out
                  have hnb67 := NB698_711.out
                  have hnc67 := NB711_698.out
                  have hcz68_0 : wc.cell? ⟨gb698, 0, none⟩ = some (.int .i64 a0_0) := (blk_cell BK698.out 0).trans rfl
                  have hcz68_1 : wc.cell? ⟨gb698, 1, none⟩ = some (.slice A0_1 l0_1.length c0_1) := (blk_cell BK698.out 1).trans rfl
                  have hfz68_0 := blk_frozen BK698.out 0
                  have hfz68_1 := blk_frozen BK698.out 1
                  go_upto_region 10 with (first | (go_at_call 53; (with_reducible refine (clock_Latest.calls kj27 a0_0 _ _ l0_1 a1_2 t712 t713 _ ?side1 ?side2 A61.out).mono ?_); (case side1 => repeat ((exact (Kd.C_below HR0_1.out HB.out)))); (case side2 => exact HC0_1.out); rintro e w69 ⟨rfl, hb⟩; have n0_ := Aside0.mk (zq_ (g := gb698) (o := .cells #[.int .i64 a0_0, .slice A0_1 l0_1.length c0_1] 54 (0, 0)) (by (with_reducible repeat (fail)); exact BK698.out) hb); have n1_ := Aside0.mk (zq_ (g := gb699) (o := .cells #[.int .i64 a1_0, .int .i64 a1_1, .int .i64 a1_2] 26 (0, 0)) (by (with_reducible repeat (fail)); exact BK699.out) hb); have n2_ := Aside0.mk (zq_ (g := gb700) (o := .cells #[.int .i64 a2_0, .int .i64 a2_1, .int .i64 a2_2] 58 (0, 0)) (by (with_reducible repeat (fail)); exact BK700.out) hb); have n3_ := Aside0.mk (zq_ (g := gb707) (o := .cells #[.int .i64 t704, .int .i64 t705] 56 (0, 0)) (by (with_reducible repeat (fail)); exact BK707.out) hb); have n4_ := Aside0.mk (zq_ (g := gb711) (o := .cells #[.int .i64 t708, .int .i64 t709] 56 (0, 0)) (by (with_reducible repeat (fail)); exact BK711.out) hb); have n5_ := Aside0.mk (zv_ (by repeat (((with_reducible (exact HB.out))))) hb); clear BK698; clear BK699; clear BK700; clear BK707; clear BK711; clear HB; have BK698 := n0_; have BK699 := n1_; have BK700 := n2_; have BK707 := n3_; have BK711 := n4_; have HB := n5_; clear n0_ n1_ n2_ n3_ n4_ n5_; (try clear hb); (try clear hb2); (try clear hk); (try clear hi); have hcz70_0 : w69.cell? ⟨gb698, 0, none⟩ = some (.int .i64 a0_0) := (blk_cell BK698.out 0).trans rfl; have hcz70_1 : w69.cell? ⟨gb698, 1, none⟩ = some (.slice A0_1 l0_1.length c0_1) := (blk_cell BK698.out 1).trans rfl; have hfz70_0 := blk_frozen BK698.out 0; have hfz70_1 := blk_frozen BK698.out 1) | (go_at_call 54; (with_reducible refine (clock_Earliest.calls kj27 a0_0 _ _ l0_1 a1_2 t714 t715 _ ?side1 ?side2 A62.out).mono ?_); (case side1 => repeat ((exact (Kd.C_below HR0_1.out HB.out)))); (case side2 => exact HC0_1.out); rintro e w71 ⟨rfl, hb⟩; have n0_ := Aside0.mk (zq_ (g := gb698) (o := .cells #[.int .i64 a0_0, .slice A0_1 l0_1.length c0_1] 54 (0, 0)) (by (with_reducible repeat (fail)); exact BK698.out) hb); have n1_ := Aside0.mk (zq_ (g := gb699) (o := .cells #[.int .i64 a1_0, .int .i64 a1_1, .int .i64 a1_2] 26 (0, 0)) (by (with_reducible repeat (fail)); exact BK699.out) hb); have n2_ := Aside0.mk (zq_ (g := gb700) (o := .cells #[.int .i64 a2_0, .int .i64 a2_1, .int .i64 a2_2] 58 (0, 0)) (by (with_reducible repeat (fail)); exact BK700.out) hb); have n3_ := Aside0.mk (zq_ (g := gb707) (o := .cells #[.int .i64 t704, .int .i64 t705] 56 (0, 0)) (by (with_reducible repeat (fail)); exact BK707.out) hb); have n4_ := Aside0.mk (zq_ (g := gb711) (o := .cells #[.int .i64 t708, .int .i64 t709] 56 (0, 0)) (by (with_reducible repeat (fail)); exact BK711.out) hb); have n5_ := Aside0.mk (zv_ (by repeat (((with_reducible (exact HB.out))))) hb); clear BK698; clear BK699; clear BK700; clear BK707; clear BK711; clear HB; have BK698 := n0_; have BK699 := n1_; have BK700 := n2_; have BK707 := n3_; have BK711 := n4_; have HB := n5_; clear n0_ n1_ n2_ n3_ n4_ n5_; (try clear hb); (try clear hb2); (try clear hk); (try clear hi)))
                  repeat (go_quiet (fail); go_upto_region 10 with (fail))
                  (try simp only [Act.put, List.setIfInBounds_toArray, List.set_cons_zero, List.set_cons_succ])
                  go_cut [118] (fun v118 wc => ∃ (kq : Nat) (x118_62 : Bool), v118 = .bool x118_62 ∧ Aside0 (quietuslaw14_ClockIsMonotone.j2 kq ji24 ji25 a1_2 t706 t710 t714 t715 x118_62 a0_0 l0_1 a2_0 a2_1 a2_2 t704 t705 t708 t709 = some r) ∧ Aside0 (kq ≤ kj27) ∧ Aside0 (wc.heap[gb698]? = some (.cells #[.int .i64 a0_0, (.slice A0_1 l0_1.length c0_1)] 54 (0, 0))) ∧ Aside0 (wc.heap[gb699]? = some (.cells #[.int .i64 a1_0, .int .i64 a1_1, .int .i64 a1_2] 26 (0, 0))) ∧ Aside0 (wc.heap[gb700]? = some (.cells #[.int .i64 a2_0, .int .i64 a2_1, .int .i64 a2_2] 58 (0, 0))) ∧ Aside0 (wc.heap[gb707]? = some (.cells #[.int .i64 t704, .int .i64 t705] 56 (0, 0))) ∧ Aside0 (wc.heap[gb711]? = some (.cells #[.int .i64 t708, .int .i64 t709] 56 (0, 0))) ∧ Aside0 (Below w.heap.size w wc))
                  case first =>
                    have H := HC63.out
                    clear HC63
                    by_cases c72 : t713 = 0
                    · as_aux_lemma =>
                        rw [if_pos c72] at H
                        have c72b0 : (t713 == 0) = true := beq_iff_eq.mpr c72
                        have c72b1 : (t713 != 0) = false := bne_eq_false_iff_eq.mpr c72
                        clear c72
                        ((skip))
                        by_cases c73 : t706 = 0
                        · as_aux_lemma =>
                            rw [if_pos c73] at H
                            have c73b0 : (t706 == 0) = true := beq_iff_eq.mpr c73
                            have c73b1 : (t706 != 0) = false := bne_eq_false_iff_eq.mpr c73
                            clear c73
                            by_cases c74 : ji24 ≤ t712
                            · rw [if_pos c74] at H
                              have c74b0 : decide (ji24 ≤ t712) = true := decide_eq_true c74
                              clear c74
                              by_cases c75 : t705 > a1_2
                              · rw [if_pos c75] at H
                                exact absurd H (by simp)
                              · rw [if_neg c75] at H
                                have c75b0 : decide (a1_2 < t705) = false := decide_eq_false c75
                                clear c75
                                by_cases c76 : t710 = 0
                                · rw [if_pos c76] at H
                                  have c76b0 : (t710 == 0) = true := beq_iff_eq.mpr c76
                                  have c76b1 : (t710 != 0) = false := bne_eq_false_iff_eq.mpr c76
                                  clear c76
                                  by_cases c77 : ji25 > t712
                                  · rw [if_pos c77] at H
                                    have c77b0 : decide (t712 < ji25) = true := decide_eq_true c77
                                    clear c77
                                    have H' := Aside0.mk H
                                    clear H
                                    have hnb78 := NB707_698.out
                                    have hnc78 := NB698_707.out
                                    have hnb79 := NB707_699.out
                                    have hnc79 := NB699_707.out
                                    have hnb80 := NB707_700.out
                                    have hnc80 := NB700_707.out
                                    have hnb81 := NB707_711.out
                                    have hnc81 := NB711_707.out
                                    have hcz82_0 : w71.cell? ⟨gb707, 0, none⟩ = some (.int .i64 t704) := (blk_cell BK707.out 0).trans rfl
                                    have hcz82_1 : w71.cell? ⟨gb707, 1, none⟩ = some (.int .i64 t705) := (blk_cell BK707.out 1).trans rfl
                                    have hfz82_0 := blk_frozen BK707.out 0
                                    have hfz82_1 := blk_frozen BK707.out 1
                                    have hnb83 := NB711_698.out
                                    have hnc83 := NB698_711.out
                                    have hnb84 := NB711_699.out
                                    have hnc84 := NB699_711.out
                                    have hnb85 := NB711_700.out
                                    have hnc85 := NB700_711.out
                                    have hcz86_0 : w71.cell? ⟨gb711, 0, none⟩ = some (.int .i64 t708) := (blk_cell BK711.out 0).trans rfl
                                    have hcz86_1 : w71.cell? ⟨gb711, 1, none⟩ = some (.int .i64 t709) := (blk_cell BK711.out 1).trans rfl
                                    have hfz86_0 := blk_frozen BK711.out 0
                                    have hfz86_1 := blk_frozen BK711.out 1
                                    go_wp2
                                    repeat (go_quiet (fail); try go_wp2)
                                    (go_meet)
                                    case rel => exact ⟨_, (decide (t709 ≤ a1_2)), (by (rfl)), (by (exact H')), ⟨by have := HJ3.out; have := HJ27.out; (omega)⟩, ⟨by (with_reducible repeat (fail)); exact BK698.out⟩, ⟨by (with_reducible repeat (fail)); exact BK699.out⟩, ⟨by (with_reducible repeat (fail)); exact BK700.out⟩, ⟨by (with_reducible repeat (fail)); exact BK707.out⟩, ⟨by (with_reducible repeat (fail)); exact BK711.out⟩, ⟨by repeat (((with_reducible (exact HB.out))))⟩⟩
                                  · rw [if_neg c77] at H
                                    have c77b0 : decide (t712 < ji25) = false := decide_eq_false c77
                                    clear c77
                                    have H' := Aside0.mk H
                                    clear H
                                    have hnb87 := NB707_698.out
                                    have hnc87 := NB698_707.out
                                    have hnb88 := NB707_699.out
                                    have hnc88 := NB699_707.out
                                    have hnb89 := NB707_700.out
                                    have hnc89 := NB700_707.out
                                    have hnb90 := NB707_711.out
                                    have hnc90 := NB711_707.out
                                    have hcz91_0 : w71.cell? ⟨gb707, 0, none⟩ = some (.int .i64 t704) := (blk_cell BK707.out 0).trans rfl
                                    have hcz91_1 : w71.cell? ⟨gb707, 1, none⟩ = some (.int .i64 t705) := (blk_cell BK707.out 1).trans rfl
                                    have hfz91_0 := blk_frozen BK707.out 0
                                    have hfz91_1 := blk_frozen BK707.out 1
                                    go_wp2
                                    repeat (go_quiet (fail); try go_wp2)
                                    (go_meet)
                                    case rel => exact ⟨_, (false), (by (rfl)), (by (exact H')), ⟨by have := HJ3.out; have := HJ27.out; (omega)⟩, ⟨by (with_reducible repeat (fail)); exact BK698.out⟩, ⟨by (with_reducible repeat (fail)); exact BK699.out⟩, ⟨by (with_reducible repeat (fail)); exact BK700.out⟩, ⟨by (with_reducible repeat (fail)); exact BK707.out⟩, ⟨by (with_reducible repeat (fail)); exact BK711.out⟩, ⟨by repeat (((with_reducible (exact HB.out))))⟩⟩
                                · rw [if_neg c76] at H
                                  have c76b0 : (t710 == 0) = false := beq_eq_false_iff_ne.mpr c76
                                  have c76b1 : (t710 != 0) = true := bne_iff_ne.mpr c76
                                  have H' := Aside0.mk H
                                  clear H
                                  have hnb92 := NB707_698.out
                                  have hnc92 := NB698_707.out
                                  have hnb93 := NB707_699.out
                                  have hnc93 := NB699_707.out
                                  have hnb94 := NB707_700.out
                                  have hnc94 := NB700_707.out
                                  have hnb95 := NB707_711.out
                                  have hnc95 := NB711_707.out
                                  have hcz96_0 : w71.cell? ⟨gb707, 0, none⟩ = some (.int .i64 t704) := (blk_cell BK707.out 0).trans rfl
                                  have hcz96_1 : w71.cell? ⟨gb707, 1, none⟩ = some (.int .i64 t705) := (blk_cell BK707.out 1).trans rfl
                                  have hfz96_0 := blk_frozen BK707.out 0
                                  have hfz96_1 := blk_frozen BK707.out 1
                                  go_wp2
                                  repeat (go_quiet (fail); try go_wp2)
                                  (go_meet)
                                  case rel => exact ⟨_, (false), (by (rfl)), (by (exact H')), ⟨by have := HJ3.out; have := HJ27.out; (omega)⟩, ⟨by (with_reducible repeat (fail)); exact BK698.out⟩, ⟨by (with_reducible repeat (fail)); exact BK699.out⟩, ⟨by (with_reducible repeat (fail)); exact BK700.out⟩, ⟨by (with_reducible repeat (fail)); exact BK707.out⟩, ⟨by (with_reducible repeat (fail)); exact BK711.out⟩, ⟨by repeat (((with_reducible (exact HB.out))))⟩⟩
                            · rw [if_neg c74] at H
                              have c74b0 : decide (ji24 ≤ t712) = false := decide_eq_false c74
                              clear c74
                              by_cases c97 : t710 = 0
                              · rw [if_pos c97] at H
                                have c97b0 : (t710 == 0) = true := beq_iff_eq.mpr c97
                                have c97b1 : (t710 != 0) = false := bne_eq_false_iff_eq.mpr c97
                                clear c97
                                by_cases c98 : ji25 > t712
                                · rw [if_pos c98] at H
                                  have c98b0 : decide (t712 < ji25) = true := decide_eq_true c98
                                  clear c98
                                  have H' := Aside0.mk H
                                  clear H
                                  have hnb99 := NB711_698.out
                                  have hnc99 := NB698_711.out
                                  have hnb100 := NB711_699.out
                                  have hnc100 := NB699_711.out
                                  have hnb101 := NB711_700.out
                                  have hnc101 := NB700_711.out
                                  have hnb102 := NB711_707.out
                                  have hnc102 := NB707_711.out
                                  have hcz103_0 : w71.cell? ⟨gb711, 0, none⟩ = some (.int .i64 t708) := (blk_cell BK711.out 0).trans rfl
                                  have hcz103_1 : w71.cell? ⟨gb711, 1, none⟩ = some (.int .i64 t709) := (blk_cell BK711.out 1).trans rfl
                                  have hfz103_0 := blk_frozen BK711.out 0
                                  have hfz103_1 := blk_frozen BK711.out 1
                                  go_wp2
                                  repeat (go_quiet (fail); try go_wp2)
                                  (go_meet)
                                  case rel => exact ⟨_, (decide (t709 ≤ a1_2)), (by (rfl)), (by (exact H')), ⟨by have := HJ3.out; have := HJ27.out; (omega)⟩, ⟨by (with_reducible repeat (fail)); exact BK698.out⟩, ⟨by (with_reducible repeat (fail)); exact BK699.out⟩, ⟨by (with_reducible repeat (fail)); exact BK700.out⟩, ⟨by (with_reducible repeat (fail)); exact BK707.out⟩, ⟨by (with_reducible repeat (fail)); exact BK711.out⟩, ⟨by repeat (((with_reducible (exact HB.out))))⟩⟩
                                · rw [if_neg c98] at H
                                  have c98b0 : decide (t712 < ji25) = false := decide_eq_false c98
                                  clear c98
                                  have H' := Aside0.mk H
                                  clear H
                                  go_wp2
                                  repeat (go_quiet (fail); try go_wp2)
                                  (go_meet)
                                  case rel => exact ⟨_, (false), (by (rfl)), (by (exact H')), ⟨by have := HJ3.out; have := HJ27.out; (omega)⟩, ⟨by (with_reducible repeat (fail)); exact BK698.out⟩, ⟨by (with_reducible repeat (fail)); exact BK699.out⟩, ⟨by (with_reducible repeat (fail)); exact BK700.out⟩, ⟨by (with_reducible repeat (fail)); exact BK707.out⟩, ⟨by (with_reducible repeat (fail)); exact BK711.out⟩, ⟨by repeat (((with_reducible (exact HB.out))))⟩⟩
                              · rw [if_neg c97] at H
                                have c97b0 : (t710 == 0) = false := beq_eq_false_iff_ne.mpr c97
                                have c97b1 : (t710 != 0) = true := bne_iff_ne.mpr c97
                                have H' := Aside0.mk H
                                clear H
                                go_wp2
                                repeat (go_quiet (fail); try go_wp2)
                                (go_meet)
                                case rel => exact ⟨_, (false), (by (rfl)), (by (exact H')), ⟨by have := HJ3.out; have := HJ27.out; (omega)⟩, ⟨by (with_reducible repeat (fail)); exact BK698.out⟩, ⟨by (with_reducible repeat (fail)); exact BK699.out⟩, ⟨by (with_reducible repeat (fail)); exact BK700.out⟩, ⟨by (with_reducible repeat (fail)); exact BK707.out⟩, ⟨by (with_reducible repeat (fail)); exact BK711.out⟩, ⟨by repeat (((with_reducible (exact HB.out))))⟩⟩
                        · rw [if_neg c73] at H
                          have c73b0 : (t706 == 0) = false := beq_eq_false_iff_ne.mpr c73
                          have c73b1 : (t706 != 0) = true := bne_iff_ne.mpr c73
                          by_cases c104 : t710 = 0
                          · rw [if_pos c104] at H
                            have c104b0 : (t710 == 0) = true := beq_iff_eq.mpr c104
                            have c104b1 : (t710 != 0) = false := bne_eq_false_iff_eq.mpr c104
                            clear c104
                            by_cases c105 : ji25 > t712
                            · rw [if_pos c105] at H
                              have c105b0 : decide (t712 < ji25) = true := decide_eq_true c105
                              clear c105
                              have H' := Aside0.mk H
                              clear H
                              have hnb106 := NB711_698.out
                              have hnc106 := NB698_711.out
                              have hnb107 := NB711_699.out
                              have hnc107 := NB699_711.out
                              have hnb108 := NB711_700.out
                              have hnc108 := NB700_711.out
                              have hnb109 := NB711_707.out
                              have hnc109 := NB707_711.out
                              have hcz110_0 : w71.cell? ⟨gb711, 0, none⟩ = some (.int .i64 t708) := (blk_cell BK711.out 0).trans rfl
                              have hcz110_1 : w71.cell? ⟨gb711, 1, none⟩ = some (.int .i64 t709) := (blk_cell BK711.out 1).trans rfl
                              have hfz110_0 := blk_frozen BK711.out 0
                              have hfz110_1 := blk_frozen BK711.out 1
                              go_wp2
                              repeat (go_quiet (fail); try go_wp2)
                              (go_meet)
                              case rel => exact ⟨_, (decide (t709 ≤ a1_2)), (by (rfl)), (by (exact H')), ⟨by have := HJ3.out; have := HJ27.out; (omega)⟩, ⟨by (with_reducible repeat (fail)); exact BK698.out⟩, ⟨by (with_reducible repeat (fail)); exact BK699.out⟩, ⟨by (with_reducible repeat (fail)); exact BK700.out⟩, ⟨by (with_reducible repeat (fail)); exact BK707.out⟩, ⟨by (with_reducible repeat (fail)); exact BK711.out⟩, ⟨by repeat (((with_reducible (exact HB.out))))⟩⟩
                            · rw [if_neg c105] at H
                              have c105b0 : decide (t712 < ji25) = false := decide_eq_false c105
                              clear c105
                              have H' := Aside0.mk H
                              clear H
                              go_wp2
                              repeat (go_quiet (fail); try go_wp2)
                              (go_meet)
                              case rel => exact ⟨_, (false), (by (rfl)), (by (exact H')), ⟨by have := HJ3.out; have := HJ27.out; (omega)⟩, ⟨by (with_reducible repeat (fail)); exact BK698.out⟩, ⟨by (with_reducible repeat (fail)); exact BK699.out⟩, ⟨by (with_reducible repeat (fail)); exact BK700.out⟩, ⟨by (with_reducible repeat (fail)); exact BK707.out⟩, ⟨by (with_reducible repeat (fail)); exact BK711.out⟩, ⟨by repeat (((with_reducible (exact HB.out))))⟩⟩
                          · rw [if_neg c104] at H
                            have c104b0 : (t710 == 0) = false := beq_eq_false_iff_ne.mpr c104
                            have c104b1 : (t710 != 0) = true := bne_iff_ne.mpr c104
                            have H' := Aside0.mk H
                            clear H
                            go_wp2
                            repeat (go_quiet (fail); try go_wp2)
                            (go_meet)
                            case rel => exact ⟨_, (false), (by (rfl)), (by (exact H')), ⟨by have := HJ3.out; have := HJ27.out; (omega)⟩, ⟨by (with_reducible repeat (fail)); exact BK698.out⟩, ⟨by (with_reducible repeat (fail)); exact BK699.out⟩, ⟨by (with_reducible repeat (fail)); exact BK700.out⟩, ⟨by (with_reducible repeat (fail)); exact BK707.out⟩, ⟨by (with_reducible repeat (fail)); exact BK711.out⟩, ⟨by repeat (((with_reducible (exact HB.out))))⟩⟩
                    · rw [if_neg c72] at H
                      have c72b0 : (t713 == 0) = false := beq_eq_false_iff_ne.mpr c72
                      have c72b1 : (t713 != 0) = true := bne_iff_ne.mpr c72
                      ((skip))
                      have H' := Aside0.mk H
                      clear H
                      go_wp2
                      repeat (go_quiet (fail); try go_wp2)
                      (go_meet)
                      case rel => exact ⟨_, (false), (by (rfl)), (by (exact H')), ⟨by have := HJ3.out; have := HJ27.out; (omega)⟩, ⟨by (with_reducible repeat (fail)); exact BK698.out⟩, ⟨by (with_reducible repeat (fail)); exact BK699.out⟩, ⟨by (with_reducible repeat (fail)); exact BK700.out⟩, ⟨by (with_reducible repeat (fail)); exact BK707.out⟩, ⟨by (with_reducible repeat (fail)); exact BK711.out⟩, ⟨by repeat (((with_reducible (exact HB.out))))⟩⟩
                  case rest =>
                    clear HC63
                    try clear c1
                    try clear c2
                    try clear p2
                    try clear c3
                    try clear c4
                    try clear c5
                    try clear c6
                    try clear c7
                    try clear c8
                    try clear c9
                    try clear c10
                    try clear c11
                    try clear c12
                    try clear c13
                    try clear c17
                    try clear c18
                    try clear c21
                    try clear c29
                    try clear c30
                    try clear c32
                    try clear c36
                    try clear c37
                    try clear c38
                    try clear c43
                    try clear c44
                    try clear c45
                    try clear c46
                    try clear c48
                    try clear c48b0
                    try clear c48b1
                    try clear c49
                    try clear c49b0
                    try clear c49b1
                    try clear c50
                    try clear c50b0
                    try clear c51
                    try clear c52
                    try clear c53
                    try clear c54
                    try clear c56
                    try clear c57
                    try clear c58
                    try clear c60
                    try clear c64
                    try clear c65
                    try clear c66
                    try clear c67
                    try clear c72
                    try clear c72b0
                    try clear c72b1
                    try clear c73
                    try clear c73b0
                    try clear c73b1
                    try clear c74
                    try clear c74b0
                    try clear c75
                    try clear c75b0
                    try clear c76
                    try clear c76b0
                    try clear c76b1
                    try clear c77
                    try clear c77b0
                    try clear c78
                    try clear c79
                    try clear c80
                    try clear c81
                    try clear c83
                    try clear c84
                    try clear c85
                    try clear c87
                    try clear c88
                    try clear c89
                    try clear c90
                    try clear c92
                    try clear c93
                    try clear c94
                    try clear c95
                    try clear c97
                    try clear c97b0
                    try clear c97b1
                    try clear c98
                    try clear c98b0
                    try clear c99
                    try clear c100
                    try clear c101
                    try clear c102
                    try clear c104
                    try clear c104b0
                    try clear c104b1
                    try clear c105
                    try clear c105b0
                    try clear c106
                    try clear c107
                    try clear c108
                    try clear c109
                    try clear hcz103_0
                    try clear hcz103_1
                    try clear hcz110_0
                    try clear hcz110_1
                    try clear hcz13_0
                    try clear hcz13_1
                    try clear hcz15_0
                    try clear hcz15_1
                    try clear hcz19_0
                    try clear hcz19_1
                    try clear hcz31_0
                    try clear hcz31_1
                    try clear hcz31_2
                    try clear hcz33_0
                    try clear hcz33_1
                    try clear hcz39_0
                    try clear hcz39_1
                    try clear hcz40_0
                    try clear hcz40_1
                    try clear hcz47_0
                    try clear hcz47_1
                    try clear hcz55_0
                    try clear hcz55_1
                    try clear hcz59_0
                    try clear hcz59_1
                    try clear hcz68_0
                    try clear hcz68_1
                    try clear hcz70_0
                    try clear hcz70_1
                    try clear hcz82_0
                    try clear hcz82_1
                    try clear hcz86_0
                    try clear hcz86_1
                    try clear hcz91_0
                    try clear hcz91_1
                    try clear hcz96_0
                    try clear hcz96_1
                    try clear hfz103_0
                    try clear hfz103_1
                    try clear hfz110_0
                    try clear hfz110_1
                    try clear hfz13_0
                    try clear hfz13_1
                    try clear hfz15_0
                    try clear hfz15_1
                    try clear hfz19_0
                    try clear hfz19_1
                    try clear hfz31_0
                    try clear hfz31_1
                    try clear hfz31_2
                    try clear hfz33_0
                    try clear hfz33_1
                    try clear hfz39_0
                    try clear hfz39_1
                    try clear hfz40_0
                    try clear hfz40_1
                    try clear hfz47_0
                    try clear hfz47_1
                    try clear hfz55_0
                    try clear hfz55_1
                    try clear hfz59_0
                    try clear hfz59_1
                    try clear hfz68_0
                    try clear hfz68_1
                    try clear hfz70_0
                    try clear hfz70_1
                    try clear hfz82_0
                    try clear hfz82_1
                    try clear hfz86_0
                    try clear hfz86_1
                    try clear hfz91_0
                    try clear hfz91_1
                    try clear hfz96_0
                    try clear hfz96_1
                    try clear p2
                    obtain ⟨kq, x118_62, rfl, HA, HJ62, BK698, BK699, BK700, BK707, BK711, HB⟩ := hcut
                    cases kq with
                    | zero => exact absurd HA.out (by simp [quietuslaw14_ClockIsMonotone.j2])
                    | succ kj62 =>
                      have H := HA.out
                      clear HA
                      simp only [quietuslaw14_ClockIsMonotone.j2] at H
                      by_cases c111 : x118_62 = true
                      · subst c111
                        have H1 : (none) = some r := by rw [if_pos rfl] at H; exact H
                        clear H
                        have H := H1
                        clear H1
                        exact absurd H (by simp)
                      · as_aux_lemma =>
                          replace c111 := Bool.eq_false_iff.mpr c111
                          subst c111
                          have H1 : (if t715 = 0 then (if t706 = 0 then (if ji24 ≥ t714 then (if t704 < a1_2 then (none) else (if t710 = 0 then (if ji25 < t714 then (quietuslaw14_ClockIsMonotone.j3 kj62 ji24 t706 (decide (t708 ≥ a1_2)) a0_0 l0_1 a2_0 a2_1 a2_2 t704 t705) else (quietuslaw14_ClockIsMonotone.j3 kj62 ji24 t706 false a0_0 l0_1 a2_0 a2_1 a2_2 t704 t705)) else (quietuslaw14_ClockIsMonotone.j3 kj62 ji24 t706 false a0_0 l0_1 a2_0 a2_1 a2_2 t704 t705))) else (if t710 = 0 then (if ji25 < t714 then (quietuslaw14_ClockIsMonotone.j3 kj62 ji24 t706 (decide (t708 ≥ a1_2)) a0_0 l0_1 a2_0 a2_1 a2_2 t704 t705) else (quietuslaw14_ClockIsMonotone.j3 kj62 ji24 t706 false a0_0 l0_1 a2_0 a2_1 a2_2 t704 t705)) else (quietuslaw14_ClockIsMonotone.j3 kj62 ji24 t706 false a0_0 l0_1 a2_0 a2_1 a2_2 t704 t705))) else (if t710 = 0 then (if ji25 < t714 then (quietuslaw14_ClockIsMonotone.j3 kj62 ji24 t706 (decide (t708 ≥ a1_2)) a0_0 l0_1 a2_0 a2_1 a2_2 t704 t705) else (quietuslaw14_ClockIsMonotone.j3 kj62 ji24 t706 false a0_0 l0_1 a2_0 a2_1 a2_2 t704 t705)) else (quietuslaw14_ClockIsMonotone.j3 kj62 ji24 t706 false a0_0 l0_1 a2_0 a2_1 a2_2 t704 t705))) else (quietuslaw14_ClockIsMonotone.j3 kj62 ji24 t706 false a0_0 l0_1 a2_0 a2_1 a2_2 t704 t705)) = some r := by rw [if_neg (show ¬ (false = true) by decide)] at H; exact H
                          clear H
                          have H := H1
                          clear H1
                          have HC112 := Aside0.mk H
                          clear H
                          go_upto_region 12 with (fail)
                          repeat (go_quiet (fail); go_upto_region 12 with (fail))
                          go_cut [150] (fun v150 wc => ∃ (kq : Nat) (x150_111 : Bool), v150 = .bool x150_111 ∧ Aside0 (quietuslaw14_ClockIsMonotone.j3 kq ji24 t706 x150_111 a0_0 l0_1 a2_0 a2_1 a2_2 t704 t705 = some r) ∧ Aside0 (kq ≤ kj62) ∧ Aside0 (wc.heap[gb698]? = some (.cells #[.int .i64 a0_0, (.slice A0_1 l0_1.length c0_1)] 54 (0, 0))) ∧ Aside0 (wc.heap[gb699]? = some (.cells #[.int .i64 a1_0, .int .i64 a1_1, .int .i64 a1_2] 26 (0, 0))) ∧ Aside0 (wc.heap[gb700]? = some (.cells #[.int .i64 a2_0, .int .i64 a2_1, .int .i64 a2_2] 58 (0, 0))) ∧ Aside0 (wc.heap[gb707]? = some (.cells #[.int .i64 t704, .int .i64 t705] 56 (0, 0))) ∧ Aside0 (wc.heap[gb711]? = some (.cells #[.int .i64 t708, .int .i64 t709] 56 (0, 0))) ∧ Aside0 (Below w.heap.size w wc))
                          case first =>
                            have H := HC112.out
                            clear HC112
                            by_cases c113 : t715 = 0
                            · as_aux_lemma =>
                                rw [if_pos c113] at H
                                have c113b0 : (t715 == 0) = true := beq_iff_eq.mpr c113
                                have c113b1 : (t715 != 0) = false := bne_eq_false_iff_eq.mpr c113
                                clear c113
                                ((skip))
                                by_cases c114 : t706 = 0
                                · as_aux_lemma =>
                                    rw [if_pos c114] at H
                                    have c114b0 : (t706 == 0) = true := beq_iff_eq.mpr c114
                                    have c114b1 : (t706 != 0) = false := bne_eq_false_iff_eq.mpr c114
                                    clear c114
                                    by_cases c115 : ji24 ≥ t714
                                    · rw [if_pos c115] at H
                                      have c115b0 : decide (t714 ≤ ji24) = true := decide_eq_true c115
                                      clear c115
                                      by_cases c116 : t704 < a1_2
                                      · rw [if_pos c116] at H
                                        exact absurd H (by simp)
                                      · rw [if_neg c116] at H
                                        have c116b0 : decide (t704 < a1_2) = false := decide_eq_false c116
                                        clear c116
                                        by_cases c117 : t710 = 0
                                        · rw [if_pos c117] at H
                                          have c117b0 : (t710 == 0) = true := beq_iff_eq.mpr c117
                                          have c117b1 : (t710 != 0) = false := bne_eq_false_iff_eq.mpr c117
                                          clear c117
                                          by_cases c118 : ji25 < t714
                                          · rw [if_pos c118] at H
                                            have c118b0 : decide (ji25 < t714) = true := decide_eq_true c118
                                            clear c118
                                            have H' := Aside0.mk H
                                            clear H
                                            have hnb119 := NB707_698.out
                                            have hnc119 := NB698_707.out
                                            have hnb120 := NB707_699.out
                                            have hnc120 := NB699_707.out
                                            have hnb121 := NB707_700.out
                                            have hnc121 := NB700_707.out
                                            have hnb122 := NB707_711.out
                                            have hnc122 := NB711_707.out
                                            have hcz123_0 : wc.cell? ⟨gb707, 0, none⟩ = some (.int .i64 t704) := (blk_cell BK707.out 0).trans rfl
                                            have hcz123_1 : wc.cell? ⟨gb707, 1, none⟩ = some (.int .i64 t705) := (blk_cell BK707.out 1).trans rfl
                                            have hfz123_0 := blk_frozen BK707.out 0
                                            have hfz123_1 := blk_frozen BK707.out 1
                                            have hnb124 := NB711_698.out
                                            have hnc124 := NB698_711.out
                                            have hnb125 := NB711_699.out
                                            have hnc125 := NB699_711.out
                                            have hnb126 := NB711_700.out
                                            have hnc126 := NB700_711.out
                                            have hcz127_0 : wc.cell? ⟨gb711, 0, none⟩ = some (.int .i64 t708) := (blk_cell BK711.out 0).trans rfl
                                            have hcz127_1 : wc.cell? ⟨gb711, 1, none⟩ = some (.int .i64 t709) := (blk_cell BK711.out 1).trans rfl
                                            have hfz127_0 := blk_frozen BK711.out 0
                                            have hfz127_1 := blk_frozen BK711.out 1
                                            go_wp2
                                            repeat (go_quiet (fail); try go_wp2)
                                            (go_meet)
                                            case rel => exact ⟨_, (decide (t708 ≥ a1_2)), (by (rfl)), (by (exact H')), ⟨by have := HJ3.out; have := HJ27.out; have := HJ62.out; (omega)⟩, ⟨by (with_reducible repeat (fail)); exact BK698.out⟩, ⟨by (with_reducible repeat (fail)); exact BK699.out⟩, ⟨by (with_reducible repeat (fail)); exact BK700.out⟩, ⟨by (with_reducible repeat (fail)); exact BK707.out⟩, ⟨by (with_reducible repeat (fail)); exact BK711.out⟩, ⟨by repeat (((with_reducible (exact HB.out))))⟩⟩
                                          · rw [if_neg c118] at H
                                            have c118b0 : decide (ji25 < t714) = false := decide_eq_false c118
                                            clear c118
                                            have H' := Aside0.mk H
                                            clear H
                                            have hnb128 := NB707_698.out
                                            have hnc128 := NB698_707.out
                                            have hnb129 := NB707_699.out
                                            have hnc129 := NB699_707.out
                                            have hnb130 := NB707_700.out
                                            have hnc130 := NB700_707.out
                                            have hnb131 := NB707_711.out
                                            have hnc131 := NB711_707.out
                                            have hcz132_0 : wc.cell? ⟨gb707, 0, none⟩ = some (.int .i64 t704) := (blk_cell BK707.out 0).trans rfl
                                            have hcz132_1 : wc.cell? ⟨gb707, 1, none⟩ = some (.int .i64 t705) := (blk_cell BK707.out 1).trans rfl
                                            have hfz132_0 := blk_frozen BK707.out 0
                                            have hfz132_1 := blk_frozen BK707.out 1
                                            go_wp2
                                            repeat (go_quiet (fail); try go_wp2)
                                            (go_meet)
                                            case rel => exact ⟨_, (false), (by (rfl)), (by (exact H')), ⟨by have := HJ3.out; have := HJ27.out; have := HJ62.out; (omega)⟩, ⟨by (with_reducible repeat (fail)); exact BK698.out⟩, ⟨by (with_reducible repeat (fail)); exact BK699.out⟩, ⟨by (with_reducible repeat (fail)); exact BK700.out⟩, ⟨by (with_reducible repeat (fail)); exact BK707.out⟩, ⟨by (with_reducible repeat (fail)); exact BK711.out⟩, ⟨by repeat (((with_reducible (exact HB.out))))⟩⟩
                                        · rw [if_neg c117] at H
                                          have c117b0 : (t710 == 0) = false := beq_eq_false_iff_ne.mpr c117
                                          have c117b1 : (t710 != 0) = true := bne_iff_ne.mpr c117
                                          have H' := Aside0.mk H
                                          clear H
                                          have hnb133 := NB707_698.out
                                          have hnc133 := NB698_707.out
                                          have hnb134 := NB707_699.out
                                          have hnc134 := NB699_707.out
                                          have hnb135 := NB707_700.out
                                          have hnc135 := NB700_707.out
                                          have hnb136 := NB707_711.out
                                          have hnc136 := NB711_707.out
                                          have hcz137_0 : wc.cell? ⟨gb707, 0, none⟩ = some (.int .i64 t704) := (blk_cell BK707.out 0).trans rfl
                                          have hcz137_1 : wc.cell? ⟨gb707, 1, none⟩ = some (.int .i64 t705) := (blk_cell BK707.out 1).trans rfl
                                          have hfz137_0 := blk_frozen BK707.out 0
                                          have hfz137_1 := blk_frozen BK707.out 1
                                          go_wp2
                                          repeat (go_quiet (fail); try go_wp2)
                                          (go_meet)
                                          case rel => exact ⟨_, (false), (by (rfl)), (by (exact H')), ⟨by have := HJ3.out; have := HJ27.out; have := HJ62.out; (omega)⟩, ⟨by (with_reducible repeat (fail)); exact BK698.out⟩, ⟨by (with_reducible repeat (fail)); exact BK699.out⟩, ⟨by (with_reducible repeat (fail)); exact BK700.out⟩, ⟨by (with_reducible repeat (fail)); exact BK707.out⟩, ⟨by (with_reducible repeat (fail)); exact BK711.out⟩, ⟨by repeat (((with_reducible (exact HB.out))))⟩⟩
                                    · rw [if_neg c115] at H
                                      have c115b0 : decide (t714 ≤ ji24) = false := decide_eq_false c115
                                      clear c115
                                      by_cases c138 : t710 = 0
                                      · rw [if_pos c138] at H
                                        have c138b0 : (t710 == 0) = true := beq_iff_eq.mpr c138
                                        have c138b1 : (t710 != 0) = false := bne_eq_false_iff_eq.mpr c138
                                        clear c138
                                        by_cases c139 : ji25 < t714
                                        · rw [if_pos c139] at H
                                          have c139b0 : decide (ji25 < t714) = true := decide_eq_true c139
                                          clear c139
                                          have H' := Aside0.mk H
                                          clear H
                                          have hnb140 := NB711_698.out
                                          have hnc140 := NB698_711.out
                                          have hnb141 := NB711_699.out
                                          have hnc141 := NB699_711.out
                                          have hnb142 := NB711_700.out
                                          have hnc142 := NB700_711.out
                                          have hnb143 := NB711_707.out
                                          have hnc143 := NB707_711.out
                                          have hcz144_0 : wc.cell? ⟨gb711, 0, none⟩ = some (.int .i64 t708) := (blk_cell BK711.out 0).trans rfl
                                          have hcz144_1 : wc.cell? ⟨gb711, 1, none⟩ = some (.int .i64 t709) := (blk_cell BK711.out 1).trans rfl
                                          have hfz144_0 := blk_frozen BK711.out 0
                                          have hfz144_1 := blk_frozen BK711.out 1
                                          go_wp2
                                          repeat (go_quiet (fail); try go_wp2)
                                          (go_meet)
                                          case rel => exact ⟨_, (decide (t708 ≥ a1_2)), (by (rfl)), (by (exact H')), ⟨by have := HJ3.out; have := HJ27.out; have := HJ62.out; (omega)⟩, ⟨by (with_reducible repeat (fail)); exact BK698.out⟩, ⟨by (with_reducible repeat (fail)); exact BK699.out⟩, ⟨by (with_reducible repeat (fail)); exact BK700.out⟩, ⟨by (with_reducible repeat (fail)); exact BK707.out⟩, ⟨by (with_reducible repeat (fail)); exact BK711.out⟩, ⟨by repeat (((with_reducible (exact HB.out))))⟩⟩
                                        · rw [if_neg c139] at H
                                          have c139b0 : decide (ji25 < t714) = false := decide_eq_false c139
                                          clear c139
                                          have H' := Aside0.mk H
                                          clear H
                                          go_wp2
                                          repeat (go_quiet (fail); try go_wp2)
                                          (go_meet)
                                          case rel => exact ⟨_, (false), (by (rfl)), (by (exact H')), ⟨by have := HJ3.out; have := HJ27.out; have := HJ62.out; (omega)⟩, ⟨by (with_reducible repeat (fail)); exact BK698.out⟩, ⟨by (with_reducible repeat (fail)); exact BK699.out⟩, ⟨by (with_reducible repeat (fail)); exact BK700.out⟩, ⟨by (with_reducible repeat (fail)); exact BK707.out⟩, ⟨by (with_reducible repeat (fail)); exact BK711.out⟩, ⟨by repeat (((with_reducible (exact HB.out))))⟩⟩
                                      · rw [if_neg c138] at H
                                        have c138b0 : (t710 == 0) = false := beq_eq_false_iff_ne.mpr c138
                                        have c138b1 : (t710 != 0) = true := bne_iff_ne.mpr c138
                                        have H' := Aside0.mk H
                                        clear H
                                        go_wp2
                                        repeat (go_quiet (fail); try go_wp2)
                                        (go_meet)
                                        case rel => exact ⟨_, (false), (by (rfl)), (by (exact H')), ⟨by have := HJ3.out; have := HJ27.out; have := HJ62.out; (omega)⟩, ⟨by (with_reducible repeat (fail)); exact BK698.out⟩, ⟨by (with_reducible repeat (fail)); exact BK699.out⟩, ⟨by (with_reducible repeat (fail)); exact BK700.out⟩, ⟨by (with_reducible repeat (fail)); exact BK707.out⟩, ⟨by (with_reducible repeat (fail)); exact BK711.out⟩, ⟨by repeat (((with_reducible (exact HB.out))))⟩⟩
                                · rw [if_neg c114] at H
                                  have c114b0 : (t706 == 0) = false := beq_eq_false_iff_ne.mpr c114
                                  have c114b1 : (t706 != 0) = true := bne_iff_ne.mpr c114
                                  by_cases c145 : t710 = 0
                                  · rw [if_pos c145] at H
                                    have c145b0 : (t710 == 0) = true := beq_iff_eq.mpr c145
                                    have c145b1 : (t710 != 0) = false := bne_eq_false_iff_eq.mpr c145
                                    clear c145
                                    by_cases c146 : ji25 < t714
                                    · rw [if_pos c146] at H
                                      have c146b0 : decide (ji25 < t714) = true := decide_eq_true c146
                                      clear c146
                                      have H' := Aside0.mk H
                                      clear H
                                      have hnb147 := NB711_698.out
                                      have hnc147 := NB698_711.out
                                      have hnb148 := NB711_699.out
                                      have hnc148 := NB699_711.out
                                      have hnb149 := NB711_700.out
                                      have hnc149 := NB700_711.out
                                      have hnb150 := NB711_707.out
                                      have hnc150 := NB707_711.out
                                      have hcz151_0 : wc.cell? ⟨gb711, 0, none⟩ = some (.int .i64 t708) := (blk_cell BK711.out 0).trans rfl
                                      have hcz151_1 : wc.cell? ⟨gb711, 1, none⟩ = some (.int .i64 t709) := (blk_cell BK711.out 1).trans rfl
                                      have hfz151_0 := blk_frozen BK711.out 0
                                      have hfz151_1 := blk_frozen BK711.out 1
                                      go_wp2
                                      repeat (go_quiet (fail); try go_wp2)
                                      (go_meet)
                                      case rel => exact ⟨_, (decide (t708 ≥ a1_2)), (by (rfl)), (by (exact H')), ⟨by have := HJ3.out; have := HJ27.out; have := HJ62.out; (omega)⟩, ⟨by (with_reducible repeat (fail)); exact BK698.out⟩, ⟨by (with_reducible repeat (fail)); exact BK699.out⟩, ⟨by (with_reducible repeat (fail)); exact BK700.out⟩, ⟨by (with_reducible repeat (fail)); exact BK707.out⟩, ⟨by (with_reducible repeat (fail)); exact BK711.out⟩, ⟨by repeat (((with_reducible (exact HB.out))))⟩⟩
                                    · rw [if_neg c146] at H
                                      have c146b0 : decide (ji25 < t714) = false := decide_eq_false c146
                                      clear c146
                                      have H' := Aside0.mk H
                                      clear H
                                      go_wp2
                                      repeat (go_quiet (fail); try go_wp2)
                                      (go_meet)
                                      case rel => exact ⟨_, (false), (by (rfl)), (by (exact H')), ⟨by have := HJ3.out; have := HJ27.out; have := HJ62.out; (omega)⟩, ⟨by (with_reducible repeat (fail)); exact BK698.out⟩, ⟨by (with_reducible repeat (fail)); exact BK699.out⟩, ⟨by (with_reducible repeat (fail)); exact BK700.out⟩, ⟨by (with_reducible repeat (fail)); exact BK707.out⟩, ⟨by (with_reducible repeat (fail)); exact BK711.out⟩, ⟨by repeat (((with_reducible (exact HB.out))))⟩⟩
                                  · rw [if_neg c145] at H
                                    have c145b0 : (t710 == 0) = false := beq_eq_false_iff_ne.mpr c145
                                    have c145b1 : (t710 != 0) = true := bne_iff_ne.mpr c145
                                    have H' := Aside0.mk H
                                    clear H
                                    go_wp2
                                    repeat (go_quiet (fail); try go_wp2)
                                    (go_meet)
                                    case rel => exact ⟨_, (false), (by (rfl)), (by (exact H')), ⟨by have := HJ3.out; have := HJ27.out; have := HJ62.out; (omega)⟩, ⟨by (with_reducible repeat (fail)); exact BK698.out⟩, ⟨by (with_reducible repeat (fail)); exact BK699.out⟩, ⟨by (with_reducible repeat (fail)); exact BK700.out⟩, ⟨by (with_reducible repeat (fail)); exact BK707.out⟩, ⟨by (with_reducible repeat (fail)); exact BK711.out⟩, ⟨by repeat (((with_reducible (exact HB.out))))⟩⟩
                            · rw [if_neg c113] at H
                              have c113b0 : (t715 == 0) = false := beq_eq_false_iff_ne.mpr c113
                              have c113b1 : (t715 != 0) = true := bne_iff_ne.mpr c113
                              ((skip))
                              have H' := Aside0.mk H
                              clear H
                              go_wp2
                              repeat (go_quiet (fail); try go_wp2)
                              (go_meet)
                              case rel => exact ⟨_, (false), (by (rfl)), (by (exact H')), ⟨by have := HJ3.out; have := HJ27.out; have := HJ62.out; (omega)⟩, ⟨by (with_reducible repeat (fail)); exact BK698.out⟩, ⟨by (with_reducible repeat (fail)); exact BK699.out⟩, ⟨by (with_reducible repeat (fail)); exact BK700.out⟩, ⟨by (with_reducible repeat (fail)); exact BK707.out⟩, ⟨by (with_reducible repeat (fail)); exact BK711.out⟩, ⟨by repeat (((with_reducible (exact HB.out))))⟩⟩
                          case rest =>
                            clear HC112
                            try clear c1
                            try clear c2
                            try clear p2
                            try clear c3
                            try clear c4
                            try clear c5
                            try clear c6
                            try clear c7
                            try clear c8
                            try clear c9
                            try clear c10
                            try clear c11
                            try clear c12
                            try clear c13
                            try clear c14
                            try clear c15
                            try clear c17
                            try clear c18
                            try clear c21
                            try clear c29
                            try clear c30
                            try clear c32
                            try clear c36
                            try clear c37
                            try clear c38
                            try clear c43
                            try clear c44
                            try clear c45
                            try clear c46
                            try clear c48
                            try clear c48b0
                            try clear c48b1
                            try clear c49
                            try clear c49b0
                            try clear c49b1
                            try clear c50
                            try clear c50b0
                            try clear c51
                            try clear c52
                            try clear c53
                            try clear c54
                            try clear c56
                            try clear c57
                            try clear c58
                            try clear c60
                            try clear c64
                            try clear c65
                            try clear c66
                            try clear c67
                            try clear c72
                            try clear c72b0
                            try clear c72b1
                            try clear c73
                            try clear c73b0
                            try clear c73b1
                            try clear c74
                            try clear c74b0
                            try clear c75
                            try clear c75b0
                            try clear c76
                            try clear c76b0
                            try clear c76b1
                            try clear c77
                            try clear c77b0
                            try clear c78
                            try clear c79
                            try clear c80
                            try clear c81
                            try clear c83
                            try clear c84
                            try clear c85
                            try clear c87
                            try clear c88
                            try clear c89
                            try clear c90
                            try clear c92
                            try clear c93
                            try clear c94
                            try clear c95
                            try clear c97
                            try clear c97b0
                            try clear c97b1
                            try clear c98
                            try clear c98b0
                            try clear c99
                            try clear c100
                            try clear c101
                            try clear c102
                            try clear c104
                            try clear c104b0
                            try clear c104b1
                            try clear c105
                            try clear c105b0
                            try clear c106
                            try clear c107
                            try clear c108
                            try clear c109
                            try clear c111
                            try clear c113
                            try clear c113b0
                            try clear c113b1
                            try clear c114
                            try clear c114b0
                            try clear c114b1
                            try clear c115
                            try clear c115b0
                            try clear c116
                            try clear c116b0
                            try clear c117
                            try clear c117b0
                            try clear c117b1
                            try clear c118
                            try clear c118b0
                            try clear c119
                            try clear c120
                            try clear c121
                            try clear c122
                            try clear c124
                            try clear c125
                            try clear c126
                            try clear c128
                            try clear c129
                            try clear c130
                            try clear c131
                            try clear c133
                            try clear c134
                            try clear c135
                            try clear c136
                            try clear c138
                            try clear c138b0
                            try clear c138b1
                            try clear c139
                            try clear c139b0
                            try clear c140
                            try clear c141
                            try clear c142
                            try clear c143
                            try clear c145
                            try clear c145b0
                            try clear c145b1
                            try clear c146
                            try clear c146b0
                            try clear c147
                            try clear c148
                            try clear c149
                            try clear c150
                            try clear hcz103_0
                            try clear hcz103_1
                            try clear hcz110_0
                            try clear hcz110_1
                            try clear hcz123_0
                            try clear hcz123_1
                            try clear hcz127_0
                            try clear hcz127_1
                            try clear hcz132_0
                            try clear hcz132_1
                            try clear hcz137_0
                            try clear hcz137_1
                            try clear hcz13_0
                            try clear hcz13_1
                            try clear hcz144_0
                            try clear hcz144_1
                            try clear hcz151_0
                            try clear hcz151_1
                            try clear hcz15_0
                            try clear hcz15_1
                            try clear hcz19_0
                            try clear hcz19_1
                            try clear hcz31_0
                            try clear hcz31_1
                            try clear hcz31_2
                            try clear hcz33_0
                            try clear hcz33_1
                            try clear hcz39_0
                            try clear hcz39_1
                            try clear hcz40_0
                            try clear hcz40_1
                            try clear hcz47_0
                            try clear hcz47_1
                            try clear hcz55_0
                            try clear hcz55_1
                            try clear hcz59_0
                            try clear hcz59_1
                            try clear hcz68_0
                            try clear hcz68_1
                            try clear hcz70_0
                            try clear hcz70_1
                            try clear hcz82_0
                            try clear hcz82_1
                            try clear hcz86_0
                            try clear hcz86_1
                            try clear hcz91_0
                            try clear hcz91_1
                            try clear hcz96_0
                            try clear hcz96_1
                            try clear hfz103_0
                            try clear hfz103_1
                            try clear hfz110_0
                            try clear hfz110_1
                            try clear hfz123_0
                            try clear hfz123_1
                            try clear hfz127_0
                            try clear hfz127_1
                            try clear hfz132_0
                            try clear hfz132_1
                            try clear hfz137_0
                            try clear hfz137_1
                            try clear hfz13_0
                            try clear hfz13_1
                            try clear hfz144_0
                            try clear hfz144_1
                            try clear hfz151_0
                            try clear hfz151_1
                            try clear hfz15_0
                            try clear hfz15_1
                            try clear hfz19_0
                            try clear hfz19_1
                            try clear hfz31_0
                            try clear hfz31_1
                            try clear hfz31_2
                            try clear hfz33_0
                            try clear hfz33_1
                            try clear hfz39_0
                            try clear hfz39_1
                            try clear hfz40_0
                            try clear hfz40_1
                            try clear hfz47_0
                            try clear hfz47_1
                            try clear hfz55_0
                            try clear hfz55_1
                            try clear hfz59_0
                            try clear hfz59_1
                            try clear hfz68_0
                            try clear hfz68_1
                            try clear hfz70_0
                            try clear hfz70_1
                            try clear hfz82_0
                            try clear hfz82_1
                            try clear hfz86_0
                            try clear hfz86_1
                            try clear hfz91_0
                            try clear hfz91_1
                            try clear hfz96_0
                            try clear hfz96_1
                            try clear p2
                            obtain ⟨kq, x150_111, rfl, HA, HJ111, BK698, BK699, BK700, BK707, BK711, HB⟩ := hcut
                            cases kq with
                            | zero => exact absurd HA.out (by simp [quietuslaw14_ClockIsMonotone.j3])
                            | succ kj111 =>
                              have H := HA.out
                              clear HA
                              simp only [quietuslaw14_ClockIsMonotone.j3] at H
                              by_cases c152 : x150_111 = true
                              · subst c152
                                have H1 : (none) = some r := by rw [if_pos rfl] at H; exact H
                                clear H
                                have H := H1
                                clear H1
                                exact absurd H (by simp)
                              · as_aux_lemma =>
                                  replace c152 := Bool.eq_false_iff.mpr c152
                                  subst c152
                                  have H1 : ((clock_Sync.f kj111 a0_0 l0_1 a2_0 a2_1 a2_2).bind fun bt716 => (if bt716.2.2 = 0 then (quietuslaw14_ClockIsMonotone.j4 kj111 ji24 t706 (decide ((l0_1.length : Int) ≥ 16)) t704 t705 bt716.1 bt716.2.1) else (quietuslaw14_ClockIsMonotone.j4 kj111 ji24 t706 true t704 t705 bt716.1 bt716.2.1))) = some r := by rw [if_neg (show ¬ (false = true) by decide)] at H; exact H
                                  clear H
                                  have H := H1
                                  clear H1
                                  replace H := Option.bind_eq_some_iff.mp H
                                  obtain ⟨⟨t716, t717, t720⟩, A1530, H⟩ := H
                                  replace H : (if t720 = 0 then (quietuslaw14_ClockIsMonotone.j4 kj111 ji24 t706 (decide ((l0_1.length : Int) ≥ 16)) t704 t705 t716 t717) else (quietuslaw14_ClockIsMonotone.j4 kj111 ji24 t706 true t704 t705 t716 t717)) = some r := H
                                  have A153 := Aside0.mk A1530
                                  clear A1530
                                  have HC154 := Aside0.mk H
                                  clear H
                                  have hnb155 := NB698_699.out
                                  have hnc155 := NB699_698.out
                                  have hnb156 := NB698_700.out
                                  have hnc156 := NB700_698.out
                                  have hnb157 := NB698_707.out
                                  have hnc157 := NB707_698.out
                                  have hnb158 := NB698_711.out
                                  have hnc158 := NB711_698.out
                                  have hcz159_0 : wc.cell? ⟨gb698, 0, none⟩ = some (.int .i64 a0_0) := (blk_cell BK698.out 0).trans rfl
                                  have hcz159_1 : wc.cell? ⟨gb698, 1, none⟩ = some (.slice A0_1 l0_1.length c0_1) := (blk_cell BK698.out 1).trans rfl
                                  have hfz159_0 := blk_frozen BK698.out 0
                                  have hfz159_1 := blk_frozen BK698.out 1
                                  have hnb160 := NB700_699.out
                                  have hnc160 := NB699_700.out
                                  have hnb161 := NB700_707.out
                                  have hnc161 := NB707_700.out
                                  have hnb162 := NB700_711.out
                                  have hnc162 := NB711_700.out
                                  have hcz163_0 : wc.cell? ⟨gb700, 0, none⟩ = some (.int .i64 a2_0) := (blk_cell BK700.out 0).trans rfl
                                  have hcz163_1 : wc.cell? ⟨gb700, 1, none⟩ = some (.int .i64 a2_1) := (blk_cell BK700.out 1).trans rfl
                                  have hcz163_2 : wc.cell? ⟨gb700, 2, none⟩ = some (.int .i64 a2_2) := (blk_cell BK700.out 2).trans rfl
                                  have hfz163_0 := blk_frozen BK700.out 0
                                  have hfz163_1 := blk_frozen BK700.out 1
                                  have hfz163_2 := blk_frozen BK700.out 2
                                  go_upto_region 15 with (first | (go_at_call 41; (with_reducible refine (clock_Sync.calls kj111 a0_0 _ _ l0_1 a2_0 a2_1 a2_2 t716 t717 t720 _ ?side1 ?side2 A153.out).mono ?_); (case side1 => repeat ((exact (Kd.C_below HR0_1.out HB.out)))); (case side2 => exact HC0_1.out); rintro e w164 ⟨v718, rfl, ho0, hb⟩; have n0_ := Aside0.mk (Kd.Q_lower (Kd.Q_newB ho0 (g := gb700) (o := .cells #[.int .i64 a2_0, .int .i64 a2_1, .int .i64 a2_2] 58 (0, 0)) (by (with_reducible repeat (fail)); exact BK700.out)) (zw_ (by repeat (((with_reducible (exact HB.out))))))); have n1_ := Aside0.mk (zq_ (g := gb698) (o := .cells #[.int .i64 a0_0, .slice A0_1 l0_1.length c0_1] 54 (0, 0)) (by (with_reducible repeat (fail)); exact BK698.out) hb); have n2_ := Aside0.mk (zq_ (g := gb699) (o := .cells #[.int .i64 a1_0, .int .i64 a1_1, .int .i64 a1_2] 26 (0, 0)) (by (with_reducible repeat (fail)); exact BK699.out) hb); have n3_ := Aside0.mk (zq_ (g := gb700) (o := .cells #[.int .i64 a2_0, .int .i64 a2_1, .int .i64 a2_2] 58 (0, 0)) (by (with_reducible repeat (fail)); exact BK700.out) hb); have n4_ := Aside0.mk (zq_ (g := gb707) (o := .cells #[.int .i64 t704, .int .i64 t705] 56 (0, 0)) (by (with_reducible repeat (fail)); exact BK707.out) hb); have n5_ := Aside0.mk (zq_ (g := gb711) (o := .cells #[.int .i64 t708, .int .i64 t709] 56 (0, 0)) (by (with_reducible repeat (fail)); exact BK711.out) hb); have n6_ := Aside0.mk (zv_ (by repeat (((with_reducible (exact HB.out))))) hb); clear BK698; clear BK699; clear BK700; clear BK707; clear BK711; clear HB; have HO719 := n0_; have BK698 := n1_; have BK699 := n2_; have BK700 := n3_; have BK707 := n4_; have BK711 := n5_; have HB := n6_; clear n0_ n1_ n2_ n3_ n4_ n5_ n6_; (try clear hb); (try clear hb2); (try clear hk); (try clear hi); (try clear ho0)) | ((with_reducible refine gate_dst (N := 18) rfl ?_); (try (refine gate_guard (by rfl) ?_; dsimp only)); refine box_event ?hg (N := 18) ?hd (cs := #[.int .i64 0, .slice none 0 0]) (t := 54) ?hr ?_; (case hd => rfl); (case hg => rfl); (case hr => ((go_simp; done))); intro gb721 hg w165 hbox hb; have n0_ := Aside0.mk (Kd.Q_below (by (with_reducible repeat (fail)); exact HO719.out) hb); have n1_ := Aside0.mk (zq_ (g := gb698) (o := .cells #[.int .i64 a0_0, .slice A0_1 l0_1.length c0_1] 54 (0, 0)) (by (with_reducible repeat (fail)); exact BK698.out) hb); have n2_ := Aside0.mk (zq_ (g := gb699) (o := .cells #[.int .i64 a1_0, .int .i64 a1_1, .int .i64 a1_2] 26 (0, 0)) (by (with_reducible repeat (fail)); exact BK699.out) hb); have n3_ := Aside0.mk (zq_ (g := gb700) (o := .cells #[.int .i64 a2_0, .int .i64 a2_1, .int .i64 a2_2] 58 (0, 0)) (by (with_reducible repeat (fail)); exact BK700.out) hb); have n4_ := Aside0.mk (zq_ (g := gb707) (o := .cells #[.int .i64 t704, .int .i64 t705] 56 (0, 0)) (by (with_reducible repeat (fail)); exact BK707.out) hb); have n5_ := Aside0.mk (zq_ (g := gb711) (o := .cells #[.int .i64 t708, .int .i64 t709] 56 (0, 0)) (by (with_reducible repeat (fail)); exact BK711.out) hb); have n6_ := Aside0.mk (zv_ (by repeat (((with_reducible (exact HB.out))))) hb); have n7_ := Aside0.mk (hbox); have n8_ := Aside0.mk ((by rw [hg]; exact (zw_ (by repeat (((with_reducible (exact HB.out)))))) : w.heap.size ≤ gb721)); have n9_ := Aside0.mk ((by rw [hg]; exact (zw_ (by repeat (((with_reducible (exact HB.out)))))) : w.heap.size ≤ gb721)); have n10_ := Aside0.mk ((by rw [hg]; exact Nat.ne_of_lt (blk_lt (g := gb698) (o := .cells #[.int .i64 a0_0, .slice A0_1 l0_1.length c0_1] 54 (0, 0)) (by (with_reducible repeat (fail)); exact BK698.out)) : gb698 ≠ gb721)); have n11_ := Aside0.mk ((by rw [hg]; exact Nat.ne_of_gt (blk_lt (g := gb698) (o := .cells #[.int .i64 a0_0, .slice A0_1 l0_1.length c0_1] 54 (0, 0)) (by (with_reducible repeat (fail)); exact BK698.out)) : gb721 ≠ gb698)); have n12_ := Aside0.mk ((by rw [hg]; exact Nat.ne_of_lt (blk_lt (g := gb699) (o := .cells #[.int .i64 a1_0, .int .i64 a1_1, .int .i64 a1_2] 26 (0, 0)) (by (with_reducible repeat (fail)); exact BK699.out)) : gb699 ≠ gb721)); have n13_ := Aside0.mk ((by rw [hg]; exact Nat.ne_of_gt (blk_lt (g := gb699) (o := .cells #[.int .i64 a1_0, .int .i64 a1_1, .int .i64 a1_2] 26 (0, 0)) (by (with_reducible repeat (fail)); exact BK699.out)) : gb721 ≠ gb699)); have n14_ := Aside0.mk ((by rw [hg]; exact Nat.ne_of_lt (blk_lt (g := gb700) (o := .cells #[.int .i64 a2_0, .int .i64 a2_1, .int .i64 a2_2] 58 (0, 0)) (by (with_reducible repeat (fail)); exact BK700.out)) : gb700 ≠ gb721)); have n15_ := Aside0.mk ((by rw [hg]; exact Nat.ne_of_gt (blk_lt (g := gb700) (o := .cells #[.int .i64 a2_0, .int .i64 a2_1, .int .i64 a2_2] 58 (0, 0)) (by (with_reducible repeat (fail)); exact BK700.out)) : gb721 ≠ gb700)); have n16_ := Aside0.mk ((by rw [hg]; exact Nat.ne_of_lt (blk_lt (g := gb707) (o := .cells #[.int .i64 t704, .int .i64 t705] 56 (0, 0)) (by (with_reducible repeat (fail)); exact BK707.out)) : gb707 ≠ gb721)); have n17_ := Aside0.mk ((by rw [hg]; exact Nat.ne_of_gt (blk_lt (g := gb707) (o := .cells #[.int .i64 t704, .int .i64 t705] 56 (0, 0)) (by (with_reducible repeat (fail)); exact BK707.out)) : gb721 ≠ gb707)); have n18_ := Aside0.mk ((by rw [hg]; exact Nat.ne_of_lt (blk_lt (g := gb711) (o := .cells #[.int .i64 t708, .int .i64 t709] 56 (0, 0)) (by (with_reducible repeat (fail)); exact BK711.out)) : gb711 ≠ gb721)); have n19_ := Aside0.mk ((by rw [hg]; exact Nat.ne_of_gt (blk_lt (g := gb711) (o := .cells #[.int .i64 t708, .int .i64 t709] 56 (0, 0)) (by (with_reducible repeat (fail)); exact BK711.out)) : gb721 ≠ gb711)); clear HO719; clear BK698; clear BK699; clear BK700; clear BK707; clear BK711; clear HB; have HO719 := n0_; have BK698 := n1_; have BK699 := n2_; have BK700 := n3_; have BK707 := n4_; have BK711 := n5_; have HB := n6_; have BK721 := n7_; have GW721 := n8_; have GE721 := n9_; have NB698_721 := n10_; have NB721_698 := n11_; have NB699_721 := n12_; have NB721_699 := n13_; have NB700_721 := n14_; have NB721_700 := n15_; have NB707_721 := n16_; have NB721_707 := n17_; have NB711_721 := n18_; have NB721_711 := n19_; clear n0_ n1_ n2_ n3_ n4_ n5_ n6_ n7_ n8_ n9_ n10_ n11_ n12_ n13_ n14_ n15_ n16_ n17_ n18_ n19_; clear hb hbox hg; have hnb166 := NB721_698.out; have hnc166 := NB698_721.out; have hnb167 := NB721_699.out; have hnc167 := NB699_721.out; have hnb168 := NB721_700.out; have hnc168 := NB700_721.out; have hnb169 := NB721_707.out; have hnc169 := NB707_721.out; have hnb170 := NB721_711.out; have hnc170 := NB711_721.out; have hcz171_0 : w165.cell? ⟨gb721, 0, none⟩ = some (.int .i64 0) := (blk_cell BK721.out 0).trans rfl; have hcz171_1 : w165.cell? ⟨gb721, 1, none⟩ = some (.slice none 0 0) := (blk_cell BK721.out 1).trans rfl; have hfz171_0 := blk_frozen BK721.out 0; have hfz171_1 := blk_frozen BK721.out 1; obtain ⟨Ao172, co172, eo172, _⟩ := Kd.Q_slice HO719.out; subst eo172))
                                  repeat (go_quiet (fail); go_upto_region 15 with (fail))
                                  (try simp only [Act.put, List.setIfInBounds_toArray, List.set_cons_zero, List.set_cons_succ])
                                  go_cut [164] (fun v164 wc => ∃ (kq : Nat) (x164_153 : Bool), v164 = .bool x164_153 ∧ Aside0 (quietuslaw14_ClockIsMonotone.j4 kq ji24 t706 x164_153 t704 t705 t716 t717 = some r) ∧ Aside0 (kq ≤ kj111) ∧ Aside0 (Kd.Q k58 58 wc w.heap.size (fun k_ => k_ ≠ gb700) (.slice Ao172 t717.length co172) t717) ∧ Aside0 (wc.heap[gb698]? = some (.cells #[.int .i64 a0_0, (.slice A0_1 l0_1.length c0_1)] 54 (0, 0))) ∧ Aside0 (wc.heap[gb699]? = some (.cells #[.int .i64 a1_0, .int .i64 a1_1, .int .i64 a1_2] 26 (0, 0))) ∧ Aside0 (wc.heap[gb700]? = some (.cells #[.int .i64 a2_0, .int .i64 a2_1, .int .i64 a2_2] 58 (0, 0))) ∧ Aside0 (wc.heap[gb707]? = some (.cells #[.int .i64 t704, .int .i64 t705] 56 (0, 0))) ∧ Aside0 (wc.heap[gb711]? = some (.cells #[.int .i64 t708, .int .i64 t709] 56 (0, 0))) ∧ Aside0 (wc.heap[gb721]? = some (.cells #[.int .i64 t716, (.slice Ao172 t717.length co172)] 54 (0, 0))) ∧ Aside0 (Below w.heap.size w wc))
                                  case first =>
                                    have H := HC154.out
                                    clear HC154
                                    by_cases c173 : t720 = 0
                                    · rw [if_pos c173] at H
                                      have c173b0 : (t720 == 0) = true := beq_iff_eq.mpr c173
                                      have c173b1 : (t720 != 0) = false := bne_eq_false_iff_eq.mpr c173
                                      clear c173
                                      ((skip))
                                      have H' := Aside0.mk H
                                      clear H
                                      have hnb174 := NB698_699.out
                                      have hnc174 := NB699_698.out
                                      have hnb175 := NB698_700.out
                                      have hnc175 := NB700_698.out
                                      have hnb176 := NB698_707.out
                                      have hnc176 := NB707_698.out
                                      have hnb177 := NB698_711.out
                                      have hnc177 := NB711_698.out
                                      have hnb178 := NB698_721.out
                                      have hnc178 := NB721_698.out
                                      have hcz179_0 : w165.cell? ⟨gb698, 0, none⟩ = some (.int .i64 a0_0) := (blk_cell BK698.out 0).trans rfl
                                      have hcz179_1 : w165.cell? ⟨gb698, 1, none⟩ = some (.slice A0_1 l0_1.length c0_1) := (blk_cell BK698.out 1).trans rfl
                                      have hfz179_0 := blk_frozen BK698.out 0
                                      have hfz179_1 := blk_frozen BK698.out 1
                                      go_wp2
                                      repeat (go_quiet (fail); try go_wp2)
                                      (go_meet)
                                      case rel => exact ⟨_, (decide ((l0_1.length : Int) ≥ 16)), (by (rfl)), (by (exact H')), ⟨by have := HJ3.out; have := HJ27.out; have := HJ62.out; have := HJ111.out; (omega)⟩, ⟨by (with_reducible repeat (fail)); exact Kd.Q_mono (Kd.Q_far (p := ⟨gb721, 1, none⟩) (Kd.Q_far (p := ⟨gb721, 0, none⟩) (Kd.Q_types HO719.out BK721.out (by decide)) (fun _ hk => hk.2) (.int .i64 t716)) (fun _ hk => hk.2) (.slice Ao172 t717.length co172)) (fun _ hk => hk.1.2)⟩, ⟨by (with_reducible repeat (fail)); refine zp_ ?_ NB698_721.out _; (with_reducible repeat (fail)); refine zp_ ?_ NB698_721.out _; (with_reducible repeat (fail)); exact BK698.out⟩, ⟨by (with_reducible repeat (fail)); refine zp_ ?_ NB699_721.out _; (with_reducible repeat (fail)); refine zp_ ?_ NB699_721.out _; (with_reducible repeat (fail)); exact BK699.out⟩, ⟨by (with_reducible repeat (fail)); refine zp_ ?_ NB700_721.out _; (with_reducible repeat (fail)); refine zp_ ?_ NB700_721.out _; (with_reducible repeat (fail)); exact BK700.out⟩, ⟨by (with_reducible repeat (fail)); refine zp_ ?_ NB707_721.out _; (with_reducible repeat (fail)); refine zp_ ?_ NB707_721.out _; (with_reducible repeat (fail)); exact BK707.out⟩, ⟨by (with_reducible repeat (fail)); refine zp_ ?_ NB711_721.out _; (with_reducible repeat (fail)); refine zp_ ?_ NB711_721.out _; (with_reducible repeat (fail)); exact BK711.out⟩, ⟨by (with_reducible repeat (fail)); refine blk_put (cs := #[.int .i64 t716, .slice none 0 0]) ?_ 1 _ rfl; (with_reducible repeat (fail)); refine blk_put (cs := #[.int .i64 0, .slice none 0 0]) ?_ 0 _ rfl; (with_reducible repeat (fail)); exact BK721.out⟩, ⟨by repeat (((with_reducible first | exact HB.out | refine zr_ ?_ GE721.out)))⟩⟩
                                    · rw [if_neg c173] at H
                                      have c173b0 : (t720 == 0) = false := beq_eq_false_iff_ne.mpr c173
                                      have c173b1 : (t720 != 0) = true := bne_iff_ne.mpr c173
                                      ((skip))
                                      have H' := Aside0.mk H
                                      clear H
                                      go_wp2
                                      repeat (go_quiet (fail); try go_wp2)
                                      (go_meet)
                                      case rel => exact ⟨_, (true), (by (rfl)), (by (exact H')), ⟨by have := HJ3.out; have := HJ27.out; have := HJ62.out; have := HJ111.out; (omega)⟩, ⟨by (with_reducible repeat (fail)); exact Kd.Q_mono (Kd.Q_far (p := ⟨gb721, 1, none⟩) (Kd.Q_far (p := ⟨gb721, 0, none⟩) (Kd.Q_types HO719.out BK721.out (by decide)) (fun _ hk => hk.2) (.int .i64 t716)) (fun _ hk => hk.2) (.slice Ao172 t717.length co172)) (fun _ hk => hk.1.2)⟩, ⟨by (with_reducible repeat (fail)); refine zp_ ?_ NB698_721.out _; (with_reducible repeat (fail)); refine zp_ ?_ NB698_721.out _; (with_reducible repeat (fail)); exact BK698.out⟩, ⟨by (with_reducible repeat (fail)); refine zp_ ?_ NB699_721.out _; (with_reducible repeat (fail)); refine zp_ ?_ NB699_721.out _; (with_reducible repeat (fail)); exact BK699.out⟩, ⟨by (with_reducible repeat (fail)); refine zp_ ?_ NB700_721.out _; (with_reducible repeat (fail)); refine zp_ ?_ NB700_721.out _; (with_reducible repeat (fail)); exact BK700.out⟩, ⟨by (with_reducible repeat (fail)); refine zp_ ?_ NB707_721.out _; (with_reducible repeat (fail)); refine zp_ ?_ NB707_721.out _; (with_reducible repeat (fail)); exact BK707.out⟩, ⟨by (with_reducible repeat (fail)); refine zp_ ?_ NB711_721.out _; (with_reducible repeat (fail)); refine zp_ ?_ NB711_721.out _; (with_reducible repeat (fail)); exact BK711.out⟩, ⟨by (with_reducible repeat (fail)); refine blk_put (cs := #[.int .i64 t716, .slice none 0 0]) ?_ 1 _ rfl; (with_reducible repeat (fail)); refine blk_put (cs := #[.int .i64 0, .slice none 0 0]) ?_ 0 _ rfl; (with_reducible repeat (fail)); exact BK721.out⟩, ⟨by repeat (((with_reducible first | exact HB.out | refine zr_ ?_ GE721.out)))⟩⟩
                                  case rest =>
                                    clear HC154
                                    try clear c1
                                    try clear c2
                                    try clear p2
                                    try clear c3
                                    try clear c4
                                    try clear c5
                                    try clear c6
                                    try clear c7
                                    try clear c8
                                    try clear c9
                                    try clear c10
                                    try clear c11
                                    try clear c12
                                    try clear c13
                                    try clear c14
                                    try clear c15
                                    try clear c16
                                    try clear c17
                                    try clear c18
                                    try clear c21
                                    try clear c29
                                    try clear c30
                                    try clear c32
                                    try clear c36
                                    try clear c37
                                    try clear c38
                                    try clear c43
                                    try clear c44
                                    try clear c45
                                    try clear c46
                                    try clear c48
                                    try clear c48b0
                                    try clear c48b1
                                    try clear c49
                                    try clear c49b0
                                    try clear c49b1
                                    try clear c50
                                    try clear c50b0
                                    try clear c51
                                    try clear c52
                                    try clear c53
                                    try clear c54
                                    try clear c56
                                    try clear c57
                                    try clear c58
                                    try clear c60
                                    try clear c64
                                    try clear c65
                                    try clear c66
                                    try clear c67
                                    try clear c72
                                    try clear c72b0
                                    try clear c72b1
                                    try clear c73
                                    try clear c73b0
                                    try clear c73b1
                                    try clear c74
                                    try clear c74b0
                                    try clear c75
                                    try clear c75b0
                                    try clear c76
                                    try clear c76b0
                                    try clear c76b1
                                    try clear c77
                                    try clear c77b0
                                    try clear c78
                                    try clear c79
                                    try clear c80
                                    try clear c81
                                    try clear c83
                                    try clear c84
                                    try clear c85
                                    try clear c87
                                    try clear c88
                                    try clear c89
                                    try clear c90
                                    try clear c92
                                    try clear c93
                                    try clear c94
                                    try clear c95
                                    try clear c97
                                    try clear c97b0
                                    try clear c97b1
                                    try clear c98
                                    try clear c98b0
                                    try clear c99
                                    try clear c100
                                    try clear c101
                                    try clear c102
                                    try clear c104
                                    try clear c104b0
                                    try clear c104b1
                                    try clear c105
                                    try clear c105b0
                                    try clear c106
                                    try clear c107
                                    try clear c108
                                    try clear c109
                                    try clear c111
                                    try clear c113
                                    try clear c113b0
                                    try clear c113b1
                                    try clear c114
                                    try clear c114b0
                                    try clear c114b1
                                    try clear c115
                                    try clear c115b0
                                    try clear c116
                                    try clear c116b0
                                    try clear c117
                                    try clear c117b0
                                    try clear c117b1
                                    try clear c118
                                    try clear c118b0
                                    try clear c119
                                    try clear c120
                                    try clear c121
                                    try clear c122
                                    try clear c124
                                    try clear c125
                                    try clear c126
                                    try clear c128
                                    try clear c129
                                    try clear c130
                                    try clear c131
                                    try clear c133
                                    try clear c134
                                    try clear c135
                                    try clear c136
                                    try clear c138
                                    try clear c138b0
                                    try clear c138b1
                                    try clear c139
                                    try clear c139b0
                                    try clear c140
                                    try clear c141
                                    try clear c142
                                    try clear c143
                                    try clear c145
                                    try clear c145b0
                                    try clear c145b1
                                    try clear c146
                                    try clear c146b0
                                    try clear c147
                                    try clear c148
                                    try clear c149
                                    try clear c150
                                    try clear c152
                                    try clear c155
                                    try clear c156
                                    try clear c157
                                    try clear c158
                                    try clear c160
                                    try clear c161
                                    try clear c162
                                    try clear c166
                                    try clear c167
                                    try clear c168
                                    try clear c169
                                    try clear c170
                                    try clear c173
                                    try clear c173b0
                                    try clear c173b1
                                    try clear c174
                                    try clear c175
                                    try clear c176
                                    try clear c177
                                    try clear c178
                                    try clear hcz103_0
                                    try clear hcz103_1
                                    try clear hcz110_0
                                    try clear hcz110_1
                                    try clear hcz123_0
                                    try clear hcz123_1
                                    try clear hcz127_0
                                    try clear hcz127_1
                                    try clear hcz132_0
                                    try clear hcz132_1
                                    try clear hcz137_0
                                    try clear hcz137_1
                                    try clear hcz13_0
                                    try clear hcz13_1
                                    try clear hcz144_0
                                    try clear hcz144_1
                                    try clear hcz151_0
                                    try clear hcz151_1
                                    try clear hcz159_0
                                    try clear hcz159_1
                                    try clear hcz15_0
                                    try clear hcz15_1
                                    try clear hcz163_0
                                    try clear hcz163_1
                                    try clear hcz163_2
                                    try clear hcz171_0
                                    try clear hcz171_1
                                    try clear hcz179_0
                                    try clear hcz179_1
                                    try clear hcz19_0
                                    try clear hcz19_1
                                    try clear hcz31_0
                                    try clear hcz31_1
                                    try clear hcz31_2
                                    try clear hcz33_0
                                    try clear hcz33_1
                                    try clear hcz39_0
                                    try clear hcz39_1
                                    try clear hcz40_0
                                    try clear hcz40_1
                                    try clear hcz47_0
                                    try clear hcz47_1
                                    try clear hcz55_0
                                    try clear hcz55_1
                                    try clear hcz59_0
                                    try clear hcz59_1
                                    try clear hcz68_0
                                    try clear hcz68_1
                                    try clear hcz70_0
                                    try clear hcz70_1
                                    try clear hcz82_0
                                    try clear hcz82_1
                                    try clear hcz86_0
                                    try clear hcz86_1
                                    try clear hcz91_0
                                    try clear hcz91_1
                                    try clear hcz96_0
                                    try clear hcz96_1
                                    try clear hfz103_0
                                    try clear hfz103_1
                                    try clear hfz110_0
                                    try clear hfz110_1
                                    try clear hfz123_0
                                    try clear hfz123_1
                                    try clear hfz127_0
                                    try clear hfz127_1
                                    try clear hfz132_0
                                    try clear hfz132_1
                                    try clear hfz137_0
                                    try clear hfz137_1
                                    try clear hfz13_0
                                    try clear hfz13_1
                                    try clear hfz144_0
                                    try clear hfz144_1
                                    try clear hfz151_0
                                    try clear hfz151_1
                                    try clear hfz159_0
                                    try clear hfz159_1
                                    try clear hfz15_0
                                    try clear hfz15_1
                                    try clear hfz163_0
                                    try clear hfz163_1
                                    try clear hfz163_2
                                    try clear hfz171_0
                                    try clear hfz171_1
                                    try clear hfz179_0
                                    try clear hfz179_1
                                    try clear hfz19_0
                                    try clear hfz19_1
                                    try clear hfz31_0
                                    try clear hfz31_1
                                    try clear hfz31_2
                                    try clear hfz33_0
                                    try clear hfz33_1
                                    try clear hfz39_0
                                    try clear hfz39_1
                                    try clear hfz40_0
                                    try clear hfz40_1
                                    try clear hfz47_0
                                    try clear hfz47_1
                                    try clear hfz55_0
                                    try clear hfz55_1
                                    try clear hfz59_0
                                    try clear hfz59_1
                                    try clear hfz68_0
                                    try clear hfz68_1
                                    try clear hfz70_0
                                    try clear hfz70_1
                                    try clear hfz82_0
                                    try clear hfz82_1
                                    try clear hfz86_0
                                    try clear hfz86_1
                                    try clear hfz91_0
                                    try clear hfz91_1
                                    try clear hfz96_0
                                    try clear hfz96_1
                                    try clear p2
                                    obtain ⟨kq, x164_153, rfl, HA, HJ153, HO_722001, BK698, BK699, BK700, BK707, BK711, BK721, HB⟩ := hcut
                                    cases kq with
                                    | zero => exact absurd HA.out (by simp [quietuslaw14_ClockIsMonotone.j4])
                                    | succ kj153 =>
                                      have H := HA.out
                                      clear HA
                                      simp only [quietuslaw14_ClockIsMonotone.j4] at H
                                      by_cases c180 : x164_153 = true
                                      · subst c180
                                        have H1 : ((quietuslaw14_sanity.f).bind fun t722 => (some t722)) = some r := by rw [if_pos rfl] at H; exact H
                                        clear H
                                        have H := H1
                                        clear H1
                                        replace H := Option.bind_eq_some_iff.mp H
                                        obtain ⟨t722, A1810, H⟩ := H
                                        replace H : (some t722) = some r := H
                                        have A181 := Aside0.mk A1810
                                        clear A1810
                                        obtain rfl := Option.some.inj H
                                        go_wp2_with (((go_at_call 36; (with_reducible refine (quietuslaw14_sanity.calls  t722 _ A181.out).mono ?_); rintro e w182 ⟨rfl, hb⟩; have n0_ := Aside0.mk (Kd.Q_below (by (with_reducible repeat (fail)); exact HO_722001.out) hb); have n1_ := Aside0.mk (zq_ (g := gb698) (o := .cells #[.int .i64 a0_0, .slice A0_1 l0_1.length c0_1] 54 (0, 0)) (by (with_reducible repeat (fail)); exact BK698.out) hb); have n2_ := Aside0.mk (zq_ (g := gb699) (o := .cells #[.int .i64 a1_0, .int .i64 a1_1, .int .i64 a1_2] 26 (0, 0)) (by (with_reducible repeat (fail)); exact BK699.out) hb); have n3_ := Aside0.mk (zq_ (g := gb700) (o := .cells #[.int .i64 a2_0, .int .i64 a2_1, .int .i64 a2_2] 58 (0, 0)) (by (with_reducible repeat (fail)); exact BK700.out) hb); have n4_ := Aside0.mk (zq_ (g := gb707) (o := .cells #[.int .i64 t704, .int .i64 t705] 56 (0, 0)) (by (with_reducible repeat (fail)); exact BK707.out) hb); have n5_ := Aside0.mk (zq_ (g := gb711) (o := .cells #[.int .i64 t708, .int .i64 t709] 56 (0, 0)) (by (with_reducible repeat (fail)); exact BK711.out) hb); have n6_ := Aside0.mk (zq_ (g := gb721) (o := .cells #[.int .i64 t716, .slice Ao172 t717.length co172] 54 (0, 0)) (by (with_reducible repeat (fail)); exact BK721.out) hb); have n7_ := Aside0.mk (zv_ (by repeat (((with_reducible (exact HB.out))))) hb); clear HO_722001; clear BK698; clear BK699; clear BK700; clear BK707; clear BK711; clear BK721; clear HB; have HO_722001 := n0_; have BK698 := n1_; have BK699 := n2_; have BK700 := n3_; have BK707 := n4_; have BK711 := n5_; have BK721 := n6_; have HB := n7_; clear n0_ n1_ n2_ n3_ n4_ n5_ n6_ n7_; (try clear hb); (try clear hb2); (try clear hk); (try clear hi))))
                                        repeat (go_quiet (fail); try go_wp2_with (fail))
                                        go_ret
                                        exact ⟨by (rfl), by repeat (((with_reducible (exact HB.out))))⟩
                                      · as_aux_lemma =>
                                          replace c180 := Bool.eq_false_iff.mpr c180
                                          subst c180
                                          have H1 : ((clock_Now.f kj153 t716 t717 ji24).bind fun bt723 => ((quietuslaw14_sanity.f).bind fun t727 => (if t727 = true then (if t706 = 0 then (if bt723.2.2 = 0 then (if t704 ≤ bt723.1 then (some (decide (bt723.2.1 ≤ t705))) else (none)) else (some true)) else (some true)) else (none)))) = some r := by rw [if_neg (show ¬ (false = true) by decide)] at H; exact H
                                          clear H
                                          have H := H1
                                          clear H1
                                          replace H := Option.bind_eq_some_iff.mp H
                                          obtain ⟨⟨t723, t724, t725⟩, A1830, H⟩ := H
                                          replace H : ((quietuslaw14_sanity.f).bind fun t727 => (if t727 = true then (if t706 = 0 then (if t725 = 0 then (if t704 ≤ t723 then (some (decide (t724 ≤ t705))) else (none)) else (some true)) else (some true)) else (none))) = some r := H
                                          have A183 := Aside0.mk A1830
                                          clear A1830
                                          replace H := Option.bind_eq_some_iff.mp H
                                          obtain ⟨t727, A1840, H⟩ := H
                                          replace H : (if t727 = true then (if t706 = 0 then (if t725 = 0 then (if t704 ≤ t723 then (some (decide (t724 ≤ t705))) else (none)) else (some true)) else (some true)) else (none)) = some r := H
                                          have A184 := Aside0.mk A1840
                                          clear A1840
                                          by_cases c185 : t727 = true
                                          · as_aux_lemma =>
                                              subst c185
                                              have H1 : (if t706 = 0 then (if t725 = 0 then (if t704 ≤ t723 then (some (decide (t724 ≤ t705))) else (none)) else (some true)) else (some true)) = some r := by rw [if_pos rfl] at H; exact H
                                              clear H
                                              have H := H1
                                              clear H1
                                              by_cases c186 : t706 = 0
                                              · as_aux_lemma =>
                                                  rw [if_pos c186] at H
                                                  have c186b0 : (t706 == 0) = true := beq_iff_eq.mpr c186
                                                  have c186b1 : (t706 != 0) = false := bne_eq_false_iff_eq.mpr c186
                                                  clear c186
                                                  by_cases c187 : t725 = 0
                                                  · as_aux_lemma =>
                                                      rw [if_pos c187] at H
                                                      have c187b0 : (t725 == 0) = true := beq_iff_eq.mpr c187
                                                      have c187b1 : (t725 != 0) = false := bne_eq_false_iff_eq.mpr c187
                                                      clear c187
                                                      by_cases c188 : t704 ≤ t723
                                                      · as_aux_lemma =>
                                                          rw [if_pos c188] at H
                                                          have c188b0 : decide (t704 ≤ t723) = true := decide_eq_true c188
                                                          clear c188
                                                          obtain rfl := Option.some.inj H
                                                          have hnb189 := NB721_698.out
                                                          have hnc189 := NB698_721.out
                                                          have hnb190 := NB721_699.out
                                                          have hnc190 := NB699_721.out
                                                          have hnb191 := NB721_700.out
                                                          have hnc191 := NB700_721.out
                                                          have hnb192 := NB721_707.out
                                                          have hnc192 := NB707_721.out
                                                          have hnb193 := NB721_711.out
                                                          have hnc193 := NB711_721.out
                                                          have hcz194_0 : wc.cell? ⟨gb721, 0, none⟩ = some (.int .i64 t716) := (blk_cell BK721.out 0).trans rfl
                                                          have hcz194_1 : wc.cell? ⟨gb721, 1, none⟩ = some (.slice Ao172 t717.length co172) := (blk_cell BK721.out 1).trans rfl
                                                          have hfz194_0 := blk_frozen BK721.out 0
                                                          have hfz194_1 := blk_frozen BK721.out 1
                                                          go_wp2_with (first | (go_at_call 39; (with_reducible refine (clock_Now.calls kj153 t716 _ _ t717 ji24 t723 t724 t725 _ ?side1 ?side2 A183.out).mono ?_); (case side1 => repeat ((exact (Kd.Q_reads' HO_722001.out).2.2))); (case side2 => exact (Kd.Q_reads' HO_722001.out).2.1); rintro e w195 ⟨rfl, hb⟩; have n0_ := Aside0.mk (Kd.Q_below (by (with_reducible repeat (fail)); exact HO_722001.out) hb); have n1_ := Aside0.mk (zq_ (g := gb698) (o := .cells #[.int .i64 a0_0, .slice A0_1 l0_1.length c0_1] 54 (0, 0)) (by (with_reducible repeat (fail)); exact BK698.out) hb); have n2_ := Aside0.mk (zq_ (g := gb699) (o := .cells #[.int .i64 a1_0, .int .i64 a1_1, .int .i64 a1_2] 26 (0, 0)) (by (with_reducible repeat (fail)); exact BK699.out) hb); have n3_ := Aside0.mk (zq_ (g := gb700) (o := .cells #[.int .i64 a2_0, .int .i64 a2_1, .int .i64 a2_2] 58 (0, 0)) (by (with_reducible repeat (fail)); exact BK700.out) hb); have n4_ := Aside0.mk (zq_ (g := gb707) (o := .cells #[.int .i64 t704, .int .i64 t705] 56 (0, 0)) (by (with_reducible repeat (fail)); exact BK707.out) hb); have n5_ := Aside0.mk (zq_ (g := gb711) (o := .cells #[.int .i64 t708, .int .i64 t709] 56 (0, 0)) (by (with_reducible repeat (fail)); exact BK711.out) hb); have n6_ := Aside0.mk (zq_ (g := gb721) (o := .cells #[.int .i64 t716, .slice Ao172 t717.length co172] 54 (0, 0)) (by (with_reducible repeat (fail)); exact BK721.out) hb); have n7_ := Aside0.mk (zv_ (by repeat (((with_reducible (exact HB.out))))) hb); clear HO_722001; clear BK698; clear BK699; clear BK700; clear BK707; clear BK711; clear BK721; clear HB; have HO_722001 := n0_; have BK698 := n1_; have BK699 := n2_; have BK700 := n3_; have BK707 := n4_; have BK711 := n5_; have BK721 := n6_; have HB := n7_; clear n0_ n1_ n2_ n3_ n4_ n5_ n6_ n7_; (try clear hb); (try clear hb2); (try clear hk); (try clear hi)) | ((with_reducible refine gate_dst (N := 20) rfl ?_); (try (refine gate_guard (by rfl) ?_; dsimp only)); refine box_event ?hg (N := 20) ?hd (cs := #[.int .i64 0, .int .i64 0]) (t := 56) ?hr ?_; (case hd => rfl); (case hg => rfl); (case hr => ((go_simp; done))); intro gb726 hg w196 hbox hb; have n0_ := Aside0.mk (Kd.Q_below (by (with_reducible repeat (fail)); exact HO_722001.out) hb); have n1_ := Aside0.mk (zq_ (g := gb698) (o := .cells #[.int .i64 a0_0, .slice A0_1 l0_1.length c0_1] 54 (0, 0)) (by (with_reducible repeat (fail)); exact BK698.out) hb); have n2_ := Aside0.mk (zq_ (g := gb699) (o := .cells #[.int .i64 a1_0, .int .i64 a1_1, .int .i64 a1_2] 26 (0, 0)) (by (with_reducible repeat (fail)); exact BK699.out) hb); have n3_ := Aside0.mk (zq_ (g := gb700) (o := .cells #[.int .i64 a2_0, .int .i64 a2_1, .int .i64 a2_2] 58 (0, 0)) (by (with_reducible repeat (fail)); exact BK700.out) hb); have n4_ := Aside0.mk (zq_ (g := gb707) (o := .cells #[.int .i64 t704, .int .i64 t705] 56 (0, 0)) (by (with_reducible repeat (fail)); exact BK707.out) hb); have n5_ := Aside0.mk (zq_ (g := gb711) (o := .cells #[.int .i64 t708, .int .i64 t709] 56 (0, 0)) (by (with_reducible repeat (fail)); exact BK711.out) hb); have n6_ := Aside0.mk (zq_ (g := gb721) (o := .cells #[.int .i64 t716, .slice Ao172 t717.length co172] 54 (0, 0)) (by (with_reducible repeat (fail)); exact BK721.out) hb); have n7_ := Aside0.mk (zv_ (by repeat (((with_reducible (exact HB.out))))) hb); have n8_ := Aside0.mk (hbox); have n9_ := Aside0.mk ((by rw [hg]; exact (zw_ (by repeat (((with_reducible (exact HB.out)))))) : w.heap.size ≤ gb726)); have n10_ := Aside0.mk ((by rw [hg]; exact (zw_ (by repeat (((with_reducible (exact HB.out)))))) : w.heap.size ≤ gb726)); have n11_ := Aside0.mk ((by rw [hg]; exact Nat.ne_of_lt (blk_lt (g := gb698) (o := .cells #[.int .i64 a0_0, .slice A0_1 l0_1.length c0_1] 54 (0, 0)) (by (with_reducible repeat (fail)); exact BK698.out)) : gb698 ≠ gb726)); have n12_ := Aside0.mk ((by rw [hg]; exact Nat.ne_of_gt (blk_lt (g := gb698) (o := .cells #[.int .i64 a0_0, .slice A0_1 l0_1.length c0_1] 54 (0, 0)) (by (with_reducible repeat (fail)); exact BK698.out)) : gb726 ≠ gb698)); have n13_ := Aside0.mk ((by rw [hg]; exact Nat.ne_of_lt (blk_lt (g := gb699) (o := .cells #[.int .i64 a1_0, .int .i64 a1_1, .int .i64 a1_2] 26 (0, 0)) (by (with_reducible repeat (fail)); exact BK699.out)) : gb699 ≠ gb726)); have n14_ := Aside0.mk ((by rw [hg]; exact Nat.ne_of_gt (blk_lt (g := gb699) (o := .cells #[.int .i64 a1_0, .int .i64 a1_1, .int .i64 a1_2] 26 (0, 0)) (by (with_reducible repeat (fail)); exact BK699.out)) : gb726 ≠ gb699)); have n15_ := Aside0.mk ((by rw [hg]; exact Nat.ne_of_lt (blk_lt (g := gb700) (o := .cells #[.int .i64 a2_0, .int .i64 a2_1, .int .i64 a2_2] 58 (0, 0)) (by (with_reducible repeat (fail)); exact BK700.out)) : gb700 ≠ gb726)); have n16_ := Aside0.mk ((by rw [hg]; exact Nat.ne_of_gt (blk_lt (g := gb700) (o := .cells #[.int .i64 a2_0, .int .i64 a2_1, .int .i64 a2_2] 58 (0, 0)) (by (with_reducible repeat (fail)); exact BK700.out)) : gb726 ≠ gb700)); have n17_ := Aside0.mk ((by rw [hg]; exact Nat.ne_of_lt (blk_lt (g := gb707) (o := .cells #[.int .i64 t704, .int .i64 t705] 56 (0, 0)) (by (with_reducible repeat (fail)); exact BK707.out)) : gb707 ≠ gb726)); have n18_ := Aside0.mk ((by rw [hg]; exact Nat.ne_of_gt (blk_lt (g := gb707) (o := .cells #[.int .i64 t704, .int .i64 t705] 56 (0, 0)) (by (with_reducible repeat (fail)); exact BK707.out)) : gb726 ≠ gb707)); have n19_ := Aside0.mk ((by rw [hg]; exact Nat.ne_of_lt (blk_lt (g := gb711) (o := .cells #[.int .i64 t708, .int .i64 t709] 56 (0, 0)) (by (with_reducible repeat (fail)); exact BK711.out)) : gb711 ≠ gb726)); have n20_ := Aside0.mk ((by rw [hg]; exact Nat.ne_of_gt (blk_lt (g := gb711) (o := .cells #[.int .i64 t708, .int .i64 t709] 56 (0, 0)) (by (with_reducible repeat (fail)); exact BK711.out)) : gb726 ≠ gb711)); have n21_ := Aside0.mk ((by rw [hg]; exact Nat.ne_of_lt (blk_lt (g := gb721) (o := .cells #[.int .i64 t716, .slice Ao172 t717.length co172] 54 (0, 0)) (by (with_reducible repeat (fail)); exact BK721.out)) : gb721 ≠ gb726)); have n22_ := Aside0.mk ((by rw [hg]; exact Nat.ne_of_gt (blk_lt (g := gb721) (o := .cells #[.int .i64 t716, .slice Ao172 t717.length co172] 54 (0, 0)) (by (with_reducible repeat (fail)); exact BK721.out)) : gb726 ≠ gb721)); clear HO_722001; clear BK698; clear BK699; clear BK700; clear BK707; clear BK711; clear BK721; clear HB; have HO_722001 := n0_; have BK698 := n1_; have BK699 := n2_; have BK700 := n3_; have BK707 := n4_; have BK711 := n5_; have BK721 := n6_; have HB := n7_; have BK726 := n8_; have GW726 := n9_; have GE726 := n10_; have NB698_726 := n11_; have NB726_698 := n12_; have NB699_726 := n13_; have NB726_699 := n14_; have NB700_726 := n15_; have NB726_700 := n16_; have NB707_726 := n17_; have NB726_707 := n18_; have NB711_726 := n19_; have NB726_711 := n20_; have NB721_726 := n21_; have NB726_721 := n22_; clear n0_ n1_ n2_ n3_ n4_ n5_ n6_ n7_ n8_ n9_ n10_ n11_ n12_ n13_ n14_ n15_ n16_ n17_ n18_ n19_ n20_ n21_ n22_; clear hb hbox hg; have hnb197 := NB726_698.out; have hnc197 := NB698_726.out; have hnb198 := NB726_699.out; have hnc198 := NB699_726.out; have hnb199 := NB726_700.out; have hnc199 := NB700_726.out; have hnb200 := NB726_707.out; have hnc200 := NB707_726.out; have hnb201 := NB726_711.out; have hnc201 := NB711_726.out; have hnb202 := NB726_721.out; have hnc202 := NB721_726.out; have hcz203_0 : w196.cell? ⟨gb726, 0, none⟩ = some (.int .i64 0) := (blk_cell BK726.out 0).trans rfl; have hcz203_1 : w196.cell? ⟨gb726, 1, none⟩ = some (.int .i64 0) := (blk_cell BK726.out 1).trans rfl; have hfz203_0 := blk_frozen BK726.out 0; have hfz203_1 := blk_frozen BK726.out 1) | (go_at_call 36; (with_reducible refine (quietuslaw14_sanity.calls  true _ A184.out).mono ?_); rintro e w204 ⟨rfl, hb⟩; have n0_ := Aside0.mk (Kd.Q_below (by (with_reducible repeat (fail)); exact (Kd.Q_mono (Kd.Q_far (p := ⟨gb726, 1, none⟩) (Kd.Q_far (p := ⟨gb726, 0, none⟩) (Kd.Q_types HO_722001.out BK726.out (by decide)) (fun _ hk => hk.2) (.int .i64 t723)) (fun _ hk => hk.2) (.int .i64 t724)) (fun _ h_ => h_.1))) hb); have n1_ := Aside0.mk (zq_ (g := gb698) (o := .cells #[.int .i64 a0_0, .slice A0_1 l0_1.length c0_1] 54 (0, 0)) (by (with_reducible repeat (fail)); refine zp_ ?_ NB698_726.out _; (with_reducible repeat (fail)); refine zp_ ?_ NB698_726.out _; (with_reducible repeat (fail)); exact BK698.out) hb); have n2_ := Aside0.mk (zq_ (g := gb699) (o := .cells #[.int .i64 a1_0, .int .i64 a1_1, .int .i64 a1_2] 26 (0, 0)) (by (with_reducible repeat (fail)); refine zp_ ?_ NB699_726.out _; (with_reducible repeat (fail)); refine zp_ ?_ NB699_726.out _; (with_reducible repeat (fail)); exact BK699.out) hb); have n3_ := Aside0.mk (zq_ (g := gb700) (o := .cells #[.int .i64 a2_0, .int .i64 a2_1, .int .i64 a2_2] 58 (0, 0)) (by (with_reducible repeat (fail)); refine zp_ ?_ NB700_726.out _; (with_reducible repeat (fail)); refine zp_ ?_ NB700_726.out _; (with_reducible repeat (fail)); exact BK700.out) hb); have n4_ := Aside0.mk (zq_ (g := gb707) (o := .cells #[.int .i64 t704, .int .i64 t705] 56 (0, 0)) (by (with_reducible repeat (fail)); refine zp_ ?_ NB707_726.out _; (with_reducible repeat (fail)); refine zp_ ?_ NB707_726.out _; (with_reducible repeat (fail)); exact BK707.out) hb); have n5_ := Aside0.mk (zq_ (g := gb711) (o := .cells #[.int .i64 t708, .int .i64 t709] 56 (0, 0)) (by (with_reducible repeat (fail)); refine zp_ ?_ NB711_726.out _; (with_reducible repeat (fail)); refine zp_ ?_ NB711_726.out _; (with_reducible repeat (fail)); exact BK711.out) hb); have n6_ := Aside0.mk (zq_ (g := gb721) (o := .cells #[.int .i64 t716, .slice Ao172 t717.length co172] 54 (0, 0)) (by (with_reducible repeat (fail)); refine zp_ ?_ NB721_726.out _; (with_reducible repeat (fail)); refine zp_ ?_ NB721_726.out _; (with_reducible repeat (fail)); exact BK721.out) hb); have n7_ := Aside0.mk (zq_ (g := gb726) (o := .cells #[.int .i64 t723, .int .i64 t724] 56 (0, 0)) (by (with_reducible repeat (fail)); refine blk_put (cs := #[.int .i64 t723, .int .i64 0]) ?_ 1 _ rfl; (with_reducible repeat (fail)); refine blk_put (cs := #[.int .i64 0, .int .i64 0]) ?_ 0 _ rfl; (with_reducible repeat (fail)); exact BK726.out) hb); have n8_ := Aside0.mk (zv_ (by repeat (((with_reducible first | exact HB.out | refine zr_ ?_ GE726.out)))) hb); clear HO_722001; clear BK698; clear BK699; clear BK700; clear BK707; clear BK711; clear BK721; clear BK726; clear HB; have HO_722001 := n0_; have BK698 := n1_; have BK699 := n2_; have BK700 := n3_; have BK707 := n4_; have BK711 := n5_; have BK721 := n6_; have BK726 := n7_; have HB := n8_; clear n0_ n1_ n2_ n3_ n4_ n5_ n6_ n7_ n8_; (try clear hb); (try clear hb2); (try clear hk); (try clear hi); have hnb205 := NB707_698.out; have hnc205 := NB698_707.out; have hnb206 := NB707_699.out; have hnc206 := NB699_707.out; have hnb207 := NB707_700.out; have hnc207 := NB700_707.out; have hnb208 := NB707_711.out; have hnc208 := NB711_707.out; have hcz209_0 : w204.cell? ⟨gb707, 0, none⟩ = some (.int .i64 t704) := (blk_cell BK707.out 0).trans rfl; have hcz209_1 : w204.cell? ⟨gb707, 1, none⟩ = some (.int .i64 t705) := (blk_cell BK707.out 1).trans rfl; have hfz209_0 := blk_frozen BK707.out 0; have hfz209_1 := blk_frozen BK707.out 1; have hcz210_0 : w204.cell? ⟨gb726, 0, none⟩ = some (.int .i64 t723) := (blk_cell BK726.out 0).trans rfl; have hcz210_1 : w204.cell? ⟨gb726, 1, none⟩ = some (.int .i64 t724) := (blk_cell BK726.out 1).trans rfl; have hfz210_0 := blk_frozen BK726.out 0; have hfz210_1 := blk_frozen BK726.out 1))
                                                          repeat (go_quiet (fail); try go_wp2_with (fail))
                                                          go_ret
                                                          exact ⟨by (rfl), by repeat (((with_reducible (exact HB.out))))⟩
                                                      · rw [if_neg c188] at H
                                                        exact absurd H (by simp)
                                                  · as_aux_lemma =>
                                                      rw [if_neg c187] at H
                                                      have c187b0 : (t725 == 0) = false := beq_eq_false_iff_ne.mpr c187
                                                      have c187b1 : (t725 != 0) = true := bne_iff_ne.mpr c187
                                                      obtain rfl := Option.some.inj H
                                                      have hnb211 := NB721_698.out
                                                      have hnc211 := NB698_721.out
                                                      have hnb212 := NB721_699.out
                                                      have hnc212 := NB699_721.out
                                                      have hnb213 := NB721_700.out
                                                      have hnc213 := NB700_721.out
                                                      have hnb214 := NB721_707.out
                                                      have hnc214 := NB707_721.out
                                                      have hnb215 := NB721_711.out
                                                      have hnc215 := NB711_721.out
                                                      have hcz216_0 : wc.cell? ⟨gb721, 0, none⟩ = some (.int .i64 t716) := (blk_cell BK721.out 0).trans rfl
                                                      have hcz216_1 : wc.cell? ⟨gb721, 1, none⟩ = some (.slice Ao172 t717.length co172) := (blk_cell BK721.out 1).trans rfl
                                                      have hfz216_0 := blk_frozen BK721.out 0
                                                      have hfz216_1 := blk_frozen BK721.out 1
                                                      go_wp2_with (first | (go_at_call 39; (with_reducible refine (clock_Now.calls kj153 t716 _ _ t717 ji24 t723 t724 t725 _ ?side1 ?side2 A183.out).mono ?_); (case side1 => repeat ((exact (Kd.Q_reads' HO_722001.out).2.2))); (case side2 => exact (Kd.Q_reads' HO_722001.out).2.1); rintro e w217 ⟨rfl, hb⟩; have n0_ := Aside0.mk (Kd.Q_below (by (with_reducible repeat (fail)); exact HO_722001.out) hb); have n1_ := Aside0.mk (zq_ (g := gb698) (o := .cells #[.int .i64 a0_0, .slice A0_1 l0_1.length c0_1] 54 (0, 0)) (by (with_reducible repeat (fail)); exact BK698.out) hb); have n2_ := Aside0.mk (zq_ (g := gb699) (o := .cells #[.int .i64 a1_0, .int .i64 a1_1, .int .i64 a1_2] 26 (0, 0)) (by (with_reducible repeat (fail)); exact BK699.out) hb); have n3_ := Aside0.mk (zq_ (g := gb700) (o := .cells #[.int .i64 a2_0, .int .i64 a2_1, .int .i64 a2_2] 58 (0, 0)) (by (with_reducible repeat (fail)); exact BK700.out) hb); have n4_ := Aside0.mk (zq_ (g := gb707) (o := .cells #[.int .i64 t704, .int .i64 t705] 56 (0, 0)) (by (with_reducible repeat (fail)); exact BK707.out) hb); have n5_ := Aside0.mk (zq_ (g := gb711) (o := .cells #[.int .i64 t708, .int .i64 t709] 56 (0, 0)) (by (with_reducible repeat (fail)); exact BK711.out) hb); have n6_ := Aside0.mk (zq_ (g := gb721) (o := .cells #[.int .i64 t716, .slice Ao172 t717.length co172] 54 (0, 0)) (by (with_reducible repeat (fail)); exact BK721.out) hb); have n7_ := Aside0.mk (zv_ (by repeat (((with_reducible (exact HB.out))))) hb); clear HO_722001; clear BK698; clear BK699; clear BK700; clear BK707; clear BK711; clear BK721; clear HB; have HO_722001 := n0_; have BK698 := n1_; have BK699 := n2_; have BK700 := n3_; have BK707 := n4_; have BK711 := n5_; have BK721 := n6_; have HB := n7_; clear n0_ n1_ n2_ n3_ n4_ n5_ n6_ n7_; (try clear hb); (try clear hb2); (try clear hk); (try clear hi)) | ((with_reducible refine gate_dst (N := 20) rfl ?_); (try (refine gate_guard (by rfl) ?_; dsimp only)); refine box_event ?hg (N := 20) ?hd (cs := #[.int .i64 0, .int .i64 0]) (t := 56) ?hr ?_; (case hd => rfl); (case hg => rfl); (case hr => ((go_simp; done))); intro gb726 hg w218 hbox hb; have n0_ := Aside0.mk (Kd.Q_below (by (with_reducible repeat (fail)); exact HO_722001.out) hb); have n1_ := Aside0.mk (zq_ (g := gb698) (o := .cells #[.int .i64 a0_0, .slice A0_1 l0_1.length c0_1] 54 (0, 0)) (by (with_reducible repeat (fail)); exact BK698.out) hb); have n2_ := Aside0.mk (zq_ (g := gb699) (o := .cells #[.int .i64 a1_0, .int .i64 a1_1, .int .i64 a1_2] 26 (0, 0)) (by (with_reducible repeat (fail)); exact BK699.out) hb); have n3_ := Aside0.mk (zq_ (g := gb700) (o := .cells #[.int .i64 a2_0, .int .i64 a2_1, .int .i64 a2_2] 58 (0, 0)) (by (with_reducible repeat (fail)); exact BK700.out) hb); have n4_ := Aside0.mk (zq_ (g := gb707) (o := .cells #[.int .i64 t704, .int .i64 t705] 56 (0, 0)) (by (with_reducible repeat (fail)); exact BK707.out) hb); have n5_ := Aside0.mk (zq_ (g := gb711) (o := .cells #[.int .i64 t708, .int .i64 t709] 56 (0, 0)) (by (with_reducible repeat (fail)); exact BK711.out) hb); have n6_ := Aside0.mk (zq_ (g := gb721) (o := .cells #[.int .i64 t716, .slice Ao172 t717.length co172] 54 (0, 0)) (by (with_reducible repeat (fail)); exact BK721.out) hb); have n7_ := Aside0.mk (zv_ (by repeat (((with_reducible (exact HB.out))))) hb); have n8_ := Aside0.mk (hbox); have n9_ := Aside0.mk ((by rw [hg]; exact (zw_ (by repeat (((with_reducible (exact HB.out)))))) : w.heap.size ≤ gb726)); have n10_ := Aside0.mk ((by rw [hg]; exact (zw_ (by repeat (((with_reducible (exact HB.out)))))) : w.heap.size ≤ gb726)); have n11_ := Aside0.mk ((by rw [hg]; exact Nat.ne_of_lt (blk_lt (g := gb698) (o := .cells #[.int .i64 a0_0, .slice A0_1 l0_1.length c0_1] 54 (0, 0)) (by (with_reducible repeat (fail)); exact BK698.out)) : gb698 ≠ gb726)); have n12_ := Aside0.mk ((by rw [hg]; exact Nat.ne_of_gt (blk_lt (g := gb698) (o := .cells #[.int .i64 a0_0, .slice A0_1 l0_1.length c0_1] 54 (0, 0)) (by (with_reducible repeat (fail)); exact BK698.out)) : gb726 ≠ gb698)); have n13_ := Aside0.mk ((by rw [hg]; exact Nat.ne_of_lt (blk_lt (g := gb699) (o := .cells #[.int .i64 a1_0, .int .i64 a1_1, .int .i64 a1_2] 26 (0, 0)) (by (with_reducible repeat (fail)); exact BK699.out)) : gb699 ≠ gb726)); have n14_ := Aside0.mk ((by rw [hg]; exact Nat.ne_of_gt (blk_lt (g := gb699) (o := .cells #[.int .i64 a1_0, .int .i64 a1_1, .int .i64 a1_2] 26 (0, 0)) (by (with_reducible repeat (fail)); exact BK699.out)) : gb726 ≠ gb699)); have n15_ := Aside0.mk ((by rw [hg]; exact Nat.ne_of_lt (blk_lt (g := gb700) (o := .cells #[.int .i64 a2_0, .int .i64 a2_1, .int .i64 a2_2] 58 (0, 0)) (by (with_reducible repeat (fail)); exact BK700.out)) : gb700 ≠ gb726)); have n16_ := Aside0.mk ((by rw [hg]; exact Nat.ne_of_gt (blk_lt (g := gb700) (o := .cells #[.int .i64 a2_0, .int .i64 a2_1, .int .i64 a2_2] 58 (0, 0)) (by (with_reducible repeat (fail)); exact BK700.out)) : gb726 ≠ gb700)); have n17_ := Aside0.mk ((by rw [hg]; exact Nat.ne_of_lt (blk_lt (g := gb707) (o := .cells #[.int .i64 t704, .int .i64 t705] 56 (0, 0)) (by (with_reducible repeat (fail)); exact BK707.out)) : gb707 ≠ gb726)); have n18_ := Aside0.mk ((by rw [hg]; exact Nat.ne_of_gt (blk_lt (g := gb707) (o := .cells #[.int .i64 t704, .int .i64 t705] 56 (0, 0)) (by (with_reducible repeat (fail)); exact BK707.out)) : gb726 ≠ gb707)); have n19_ := Aside0.mk ((by rw [hg]; exact Nat.ne_of_lt (blk_lt (g := gb711) (o := .cells #[.int .i64 t708, .int .i64 t709] 56 (0, 0)) (by (with_reducible repeat (fail)); exact BK711.out)) : gb711 ≠ gb726)); have n20_ := Aside0.mk ((by rw [hg]; exact Nat.ne_of_gt (blk_lt (g := gb711) (o := .cells #[.int .i64 t708, .int .i64 t709] 56 (0, 0)) (by (with_reducible repeat (fail)); exact BK711.out)) : gb726 ≠ gb711)); have n21_ := Aside0.mk ((by rw [hg]; exact Nat.ne_of_lt (blk_lt (g := gb721) (o := .cells #[.int .i64 t716, .slice Ao172 t717.length co172] 54 (0, 0)) (by (with_reducible repeat (fail)); exact BK721.out)) : gb721 ≠ gb726)); have n22_ := Aside0.mk ((by rw [hg]; exact Nat.ne_of_gt (blk_lt (g := gb721) (o := .cells #[.int .i64 t716, .slice Ao172 t717.length co172] 54 (0, 0)) (by (with_reducible repeat (fail)); exact BK721.out)) : gb726 ≠ gb721)); clear HO_722001; clear BK698; clear BK699; clear BK700; clear BK707; clear BK711; clear BK721; clear HB; have HO_722001 := n0_; have BK698 := n1_; have BK699 := n2_; have BK700 := n3_; have BK707 := n4_; have BK711 := n5_; have BK721 := n6_; have HB := n7_; have BK726 := n8_; have GW726 := n9_; have GE726 := n10_; have NB698_726 := n11_; have NB726_698 := n12_; have NB699_726 := n13_; have NB726_699 := n14_; have NB700_726 := n15_; have NB726_700 := n16_; have NB707_726 := n17_; have NB726_707 := n18_; have NB711_726 := n19_; have NB726_711 := n20_; have NB721_726 := n21_; have NB726_721 := n22_; clear n0_ n1_ n2_ n3_ n4_ n5_ n6_ n7_ n8_ n9_ n10_ n11_ n12_ n13_ n14_ n15_ n16_ n17_ n18_ n19_ n20_ n21_ n22_; clear hb hbox hg; have hnb219 := NB726_698.out; have hnc219 := NB698_726.out; have hnb220 := NB726_699.out; have hnc220 := NB699_726.out; have hnb221 := NB726_700.out; have hnc221 := NB700_726.out; have hnb222 := NB726_707.out; have hnc222 := NB707_726.out; have hnb223 := NB726_711.out; have hnc223 := NB711_726.out; have hnb224 := NB726_721.out; have hnc224 := NB721_726.out; have hcz225_0 : w218.cell? ⟨gb726, 0, none⟩ = some (.int .i64 0) := (blk_cell BK726.out 0).trans rfl; have hcz225_1 : w218.cell? ⟨gb726, 1, none⟩ = some (.int .i64 0) := (blk_cell BK726.out 1).trans rfl; have hfz225_0 := blk_frozen BK726.out 0; have hfz225_1 := blk_frozen BK726.out 1) | (go_at_call 36; (with_reducible refine (quietuslaw14_sanity.calls  true _ A184.out).mono ?_); rintro e w226 ⟨rfl, hb⟩; have n0_ := Aside0.mk (Kd.Q_below (by (with_reducible repeat (fail)); exact (Kd.Q_mono (Kd.Q_far (p := ⟨gb726, 1, none⟩) (Kd.Q_far (p := ⟨gb726, 0, none⟩) (Kd.Q_types HO_722001.out BK726.out (by decide)) (fun _ hk => hk.2) (.int .i64 t723)) (fun _ hk => hk.2) (.int .i64 t724)) (fun _ h_ => h_.1))) hb); have n1_ := Aside0.mk (zq_ (g := gb698) (o := .cells #[.int .i64 a0_0, .slice A0_1 l0_1.length c0_1] 54 (0, 0)) (by (with_reducible repeat (fail)); refine zp_ ?_ NB698_726.out _; (with_reducible repeat (fail)); refine zp_ ?_ NB698_726.out _; (with_reducible repeat (fail)); exact BK698.out) hb); have n2_ := Aside0.mk (zq_ (g := gb699) (o := .cells #[.int .i64 a1_0, .int .i64 a1_1, .int .i64 a1_2] 26 (0, 0)) (by (with_reducible repeat (fail)); refine zp_ ?_ NB699_726.out _; (with_reducible repeat (fail)); refine zp_ ?_ NB699_726.out _; (with_reducible repeat (fail)); exact BK699.out) hb); have n3_ := Aside0.mk (zq_ (g := gb700) (o := .cells #[.int .i64 a2_0, .int .i64 a2_1, .int .i64 a2_2] 58 (0, 0)) (by (with_reducible repeat (fail)); refine zp_ ?_ NB700_726.out _; (with_reducible repeat (fail)); refine zp_ ?_ NB700_726.out _; (with_reducible repeat (fail)); exact BK700.out) hb); have n4_ := Aside0.mk (zq_ (g := gb707) (o := .cells #[.int .i64 t704, .int .i64 t705] 56 (0, 0)) (by (with_reducible repeat (fail)); refine zp_ ?_ NB707_726.out _; (with_reducible repeat (fail)); refine zp_ ?_ NB707_726.out _; (with_reducible repeat (fail)); exact BK707.out) hb); have n5_ := Aside0.mk (zq_ (g := gb711) (o := .cells #[.int .i64 t708, .int .i64 t709] 56 (0, 0)) (by (with_reducible repeat (fail)); refine zp_ ?_ NB711_726.out _; (with_reducible repeat (fail)); refine zp_ ?_ NB711_726.out _; (with_reducible repeat (fail)); exact BK711.out) hb); have n6_ := Aside0.mk (zq_ (g := gb721) (o := .cells #[.int .i64 t716, .slice Ao172 t717.length co172] 54 (0, 0)) (by (with_reducible repeat (fail)); refine zp_ ?_ NB721_726.out _; (with_reducible repeat (fail)); refine zp_ ?_ NB721_726.out _; (with_reducible repeat (fail)); exact BK721.out) hb); have n7_ := Aside0.mk (zq_ (g := gb726) (o := .cells #[.int .i64 t723, .int .i64 t724] 56 (0, 0)) (by (with_reducible repeat (fail)); refine blk_put (cs := #[.int .i64 t723, .int .i64 0]) ?_ 1 _ rfl; (with_reducible repeat (fail)); refine blk_put (cs := #[.int .i64 0, .int .i64 0]) ?_ 0 _ rfl; (with_reducible repeat (fail)); exact BK726.out) hb); have n8_ := Aside0.mk (zv_ (by repeat (((with_reducible first | exact HB.out | refine zr_ ?_ GE726.out)))) hb); clear HO_722001; clear BK698; clear BK699; clear BK700; clear BK707; clear BK711; clear BK721; clear BK726; clear HB; have HO_722001 := n0_; have BK698 := n1_; have BK699 := n2_; have BK700 := n3_; have BK707 := n4_; have BK711 := n5_; have BK721 := n6_; have BK726 := n7_; have HB := n8_; clear n0_ n1_ n2_ n3_ n4_ n5_ n6_ n7_ n8_; (try clear hb); (try clear hb2); (try clear hk); (try clear hi)))
                                                      repeat (go_quiet (fail); try go_wp2_with (fail))
                                                      go_ret
                                                      exact ⟨by (rfl), by repeat (((with_reducible (exact HB.out))))⟩
                                              · as_aux_lemma =>
                                                  rw [if_neg c186] at H
                                                  have c186b0 : (t706 == 0) = false := beq_eq_false_iff_ne.mpr c186
                                                  have c186b1 : (t706 != 0) = true := bne_iff_ne.mpr c186
                                                  obtain rfl := Option.some.inj H
                                                  have hnb227 := NB721_698.out
                                                  have hnc227 := NB698_721.out
                                                  have hnb228 := NB721_699.out
                                                  have hnc228 := NB699_721.out
                                                  have hnb229 := NB721_700.out
                                                  have hnc229 := NB700_721.out
                                                  have hnb230 := NB721_707.out
                                                  have hnc230 := NB707_721.out
                                                  have hnb231 := NB721_711.out
                                                  have hnc231 := NB711_721.out
                                                  have hcz232_0 : wc.cell? ⟨gb721, 0, none⟩ = some (.int .i64 t716) := (blk_cell BK721.out 0).trans rfl
                                                  have hcz232_1 : wc.cell? ⟨gb721, 1, none⟩ = some (.slice Ao172 t717.length co172) := (blk_cell BK721.out 1).trans rfl
                                                  have hfz232_0 := blk_frozen BK721.out 0
                                                  have hfz232_1 := blk_frozen BK721.out 1
                                                  go_wp2_with (first | (go_at_call 39; (with_reducible refine (clock_Now.calls kj153 t716 _ _ t717 ji24 t723 t724 t725 _ ?side1 ?side2 A183.out).mono ?_); (case side1 => repeat ((exact (Kd.Q_reads' HO_722001.out).2.2))); (case side2 => exact (Kd.Q_reads' HO_722001.out).2.1); rintro e w233 ⟨rfl, hb⟩; have n0_ := Aside0.mk (Kd.Q_below (by (with_reducible repeat (fail)); exact HO_722001.out) hb); have n1_ := Aside0.mk (zq_ (g := gb698) (o := .cells #[.int .i64 a0_0, .slice A0_1 l0_1.length c0_1] 54 (0, 0)) (by (with_reducible repeat (fail)); exact BK698.out) hb); have n2_ := Aside0.mk (zq_ (g := gb699) (o := .cells #[.int .i64 a1_0, .int .i64 a1_1, .int .i64 a1_2] 26 (0, 0)) (by (with_reducible repeat (fail)); exact BK699.out) hb); have n3_ := Aside0.mk (zq_ (g := gb700) (o := .cells #[.int .i64 a2_0, .int .i64 a2_1, .int .i64 a2_2] 58 (0, 0)) (by (with_reducible repeat (fail)); exact BK700.out) hb); have n4_ := Aside0.mk (zq_ (g := gb707) (o := .cells #[.int .i64 t704, .int .i64 t705] 56 (0, 0)) (by (with_reducible repeat (fail)); exact BK707.out) hb); have n5_ := Aside0.mk (zq_ (g := gb711) (o := .cells #[.int .i64 t708, .int .i64 t709] 56 (0, 0)) (by (with_reducible repeat (fail)); exact BK711.out) hb); have n6_ := Aside0.mk (zq_ (g := gb721) (o := .cells #[.int .i64 t716, .slice Ao172 t717.length co172] 54 (0, 0)) (by (with_reducible repeat (fail)); exact BK721.out) hb); have n7_ := Aside0.mk (zv_ (by repeat (((with_reducible (exact HB.out))))) hb); clear HO_722001; clear BK698; clear BK699; clear BK700; clear BK707; clear BK711; clear BK721; clear HB; have HO_722001 := n0_; have BK698 := n1_; have BK699 := n2_; have BK700 := n3_; have BK707 := n4_; have BK711 := n5_; have BK721 := n6_; have HB := n7_; clear n0_ n1_ n2_ n3_ n4_ n5_ n6_ n7_; (try clear hb); (try clear hb2); (try clear hk); (try clear hi)) | ((with_reducible refine gate_dst (N := 20) rfl ?_); (try (refine gate_guard (by rfl) ?_; dsimp only)); refine box_event ?hg (N := 20) ?hd (cs := #[.int .i64 0, .int .i64 0]) (t := 56) ?hr ?_; (case hd => rfl); (case hg => rfl); (case hr => ((go_simp; done))); intro gb726 hg w234 hbox hb; have n0_ := Aside0.mk (Kd.Q_below (by (with_reducible repeat (fail)); exact HO_722001.out) hb); have n1_ := Aside0.mk (zq_ (g := gb698) (o := .cells #[.int .i64 a0_0, .slice A0_1 l0_1.length c0_1] 54 (0, 0)) (by (with_reducible repeat (fail)); exact BK698.out) hb); have n2_ := Aside0.mk (zq_ (g := gb699) (o := .cells #[.int .i64 a1_0, .int .i64 a1_1, .int .i64 a1_2] 26 (0, 0)) (by (with_reducible repeat (fail)); exact BK699.out) hb); have n3_ := Aside0.mk (zq_ (g := gb700) (o := .cells #[.int .i64 a2_0, .int .i64 a2_1, .int .i64 a2_2] 58 (0, 0)) (by (with_reducible repeat (fail)); exact BK700.out) hb); have n4_ := Aside0.mk (zq_ (g := gb707) (o := .cells #[.int .i64 t704, .int .i64 t705] 56 (0, 0)) (by (with_reducible repeat (fail)); exact BK707.out) hb); have n5_ := Aside0.mk (zq_ (g := gb711) (o := .cells #[.int .i64 t708, .int .i64 t709] 56 (0, 0)) (by (with_reducible repeat (fail)); exact BK711.out) hb); have n6_ := Aside0.mk (zq_ (g := gb721) (o := .cells #[.int .i64 t716, .slice Ao172 t717.length co172] 54 (0, 0)) (by (with_reducible repeat (fail)); exact BK721.out) hb); have n7_ := Aside0.mk (zv_ (by repeat (((with_reducible (exact HB.out))))) hb); have n8_ := Aside0.mk (hbox); have n9_ := Aside0.mk ((by rw [hg]; exact (zw_ (by repeat (((with_reducible (exact HB.out)))))) : w.heap.size ≤ gb726)); have n10_ := Aside0.mk ((by rw [hg]; exact (zw_ (by repeat (((with_reducible (exact HB.out)))))) : w.heap.size ≤ gb726)); have n11_ := Aside0.mk ((by rw [hg]; exact Nat.ne_of_lt (blk_lt (g := gb698) (o := .cells #[.int .i64 a0_0, .slice A0_1 l0_1.length c0_1] 54 (0, 0)) (by (with_reducible repeat (fail)); exact BK698.out)) : gb698 ≠ gb726)); have n12_ := Aside0.mk ((by rw [hg]; exact Nat.ne_of_gt (blk_lt (g := gb698) (o := .cells #[.int .i64 a0_0, .slice A0_1 l0_1.length c0_1] 54 (0, 0)) (by (with_reducible repeat (fail)); exact BK698.out)) : gb726 ≠ gb698)); have n13_ := Aside0.mk ((by rw [hg]; exact Nat.ne_of_lt (blk_lt (g := gb699) (o := .cells #[.int .i64 a1_0, .int .i64 a1_1, .int .i64 a1_2] 26 (0, 0)) (by (with_reducible repeat (fail)); exact BK699.out)) : gb699 ≠ gb726)); have n14_ := Aside0.mk ((by rw [hg]; exact Nat.ne_of_gt (blk_lt (g := gb699) (o := .cells #[.int .i64 a1_0, .int .i64 a1_1, .int .i64 a1_2] 26 (0, 0)) (by (with_reducible repeat (fail)); exact BK699.out)) : gb726 ≠ gb699)); have n15_ := Aside0.mk ((by rw [hg]; exact Nat.ne_of_lt (blk_lt (g := gb700) (o := .cells #[.int .i64 a2_0, .int .i64 a2_1, .int .i64 a2_2] 58 (0, 0)) (by (with_reducible repeat (fail)); exact BK700.out)) : gb700 ≠ gb726)); have n16_ := Aside0.mk ((by rw [hg]; exact Nat.ne_of_gt (blk_lt (g := gb700) (o := .cells #[.int .i64 a2_0, .int .i64 a2_1, .int .i64 a2_2] 58 (0, 0)) (by (with_reducible repeat (fail)); exact BK700.out)) : gb726 ≠ gb700)); have n17_ := Aside0.mk ((by rw [hg]; exact Nat.ne_of_lt (blk_lt (g := gb707) (o := .cells #[.int .i64 t704, .int .i64 t705] 56 (0, 0)) (by (with_reducible repeat (fail)); exact BK707.out)) : gb707 ≠ gb726)); have n18_ := Aside0.mk ((by rw [hg]; exact Nat.ne_of_gt (blk_lt (g := gb707) (o := .cells #[.int .i64 t704, .int .i64 t705] 56 (0, 0)) (by (with_reducible repeat (fail)); exact BK707.out)) : gb726 ≠ gb707)); have n19_ := Aside0.mk ((by rw [hg]; exact Nat.ne_of_lt (blk_lt (g := gb711) (o := .cells #[.int .i64 t708, .int .i64 t709] 56 (0, 0)) (by (with_reducible repeat (fail)); exact BK711.out)) : gb711 ≠ gb726)); have n20_ := Aside0.mk ((by rw [hg]; exact Nat.ne_of_gt (blk_lt (g := gb711) (o := .cells #[.int .i64 t708, .int .i64 t709] 56 (0, 0)) (by (with_reducible repeat (fail)); exact BK711.out)) : gb726 ≠ gb711)); have n21_ := Aside0.mk ((by rw [hg]; exact Nat.ne_of_lt (blk_lt (g := gb721) (o := .cells #[.int .i64 t716, .slice Ao172 t717.length co172] 54 (0, 0)) (by (with_reducible repeat (fail)); exact BK721.out)) : gb721 ≠ gb726)); have n22_ := Aside0.mk ((by rw [hg]; exact Nat.ne_of_gt (blk_lt (g := gb721) (o := .cells #[.int .i64 t716, .slice Ao172 t717.length co172] 54 (0, 0)) (by (with_reducible repeat (fail)); exact BK721.out)) : gb726 ≠ gb721)); clear HO_722001; clear BK698; clear BK699; clear BK700; clear BK707; clear BK711; clear BK721; clear HB; have HO_722001 := n0_; have BK698 := n1_; have BK699 := n2_; have BK700 := n3_; have BK707 := n4_; have BK711 := n5_; have BK721 := n6_; have HB := n7_; have BK726 := n8_; have GW726 := n9_; have GE726 := n10_; have NB698_726 := n11_; have NB726_698 := n12_; have NB699_726 := n13_; have NB726_699 := n14_; have NB700_726 := n15_; have NB726_700 := n16_; have NB707_726 := n17_; have NB726_707 := n18_; have NB711_726 := n19_; have NB726_711 := n20_; have NB721_726 := n21_; have NB726_721 := n22_; clear n0_ n1_ n2_ n3_ n4_ n5_ n6_ n7_ n8_ n9_ n10_ n11_ n12_ n13_ n14_ n15_ n16_ n17_ n18_ n19_ n20_ n21_ n22_; clear hb hbox hg; have hnb235 := NB726_698.out; have hnc235 := NB698_726.out; have hnb236 := NB726_699.out; have hnc236 := NB699_726.out; have hnb237 := NB726_700.out; have hnc237 := NB700_726.out; have hnb238 := NB726_707.out; have hnc238 := NB707_726.out; have hnb239 := NB726_711.out; have hnc239 := NB711_726.out; have hnb240 := NB726_721.out; have hnc240 := NB721_726.out; have hcz241_0 : w234.cell? ⟨gb726, 0, none⟩ = some (.int .i64 0) := (blk_cell BK726.out 0).trans rfl; have hcz241_1 : w234.cell? ⟨gb726, 1, none⟩ = some (.int .i64 0) := (blk_cell BK726.out 1).trans rfl; have hfz241_0 := blk_frozen BK726.out 0; have hfz241_1 := blk_frozen BK726.out 1) | (go_at_call 36; (with_reducible refine (quietuslaw14_sanity.calls  true _ A184.out).mono ?_); rintro e w242 ⟨rfl, hb⟩; have n0_ := Aside0.mk (Kd.Q_below (by (with_reducible repeat (fail)); exact (Kd.Q_mono (Kd.Q_far (p := ⟨gb726, 1, none⟩) (Kd.Q_far (p := ⟨gb726, 0, none⟩) (Kd.Q_types HO_722001.out BK726.out (by decide)) (fun _ hk => hk.2) (.int .i64 t723)) (fun _ hk => hk.2) (.int .i64 t724)) (fun _ h_ => h_.1))) hb); have n1_ := Aside0.mk (zq_ (g := gb698) (o := .cells #[.int .i64 a0_0, .slice A0_1 l0_1.length c0_1] 54 (0, 0)) (by (with_reducible repeat (fail)); refine zp_ ?_ NB698_726.out _; (with_reducible repeat (fail)); refine zp_ ?_ NB698_726.out _; (with_reducible repeat (fail)); exact BK698.out) hb); have n2_ := Aside0.mk (zq_ (g := gb699) (o := .cells #[.int .i64 a1_0, .int .i64 a1_1, .int .i64 a1_2] 26 (0, 0)) (by (with_reducible repeat (fail)); refine zp_ ?_ NB699_726.out _; (with_reducible repeat (fail)); refine zp_ ?_ NB699_726.out _; (with_reducible repeat (fail)); exact BK699.out) hb); have n3_ := Aside0.mk (zq_ (g := gb700) (o := .cells #[.int .i64 a2_0, .int .i64 a2_1, .int .i64 a2_2] 58 (0, 0)) (by (with_reducible repeat (fail)); refine zp_ ?_ NB700_726.out _; (with_reducible repeat (fail)); refine zp_ ?_ NB700_726.out _; (with_reducible repeat (fail)); exact BK700.out) hb); have n4_ := Aside0.mk (zq_ (g := gb707) (o := .cells #[.int .i64 t704, .int .i64 t705] 56 (0, 0)) (by (with_reducible repeat (fail)); refine zp_ ?_ NB707_726.out _; (with_reducible repeat (fail)); refine zp_ ?_ NB707_726.out _; (with_reducible repeat (fail)); exact BK707.out) hb); have n5_ := Aside0.mk (zq_ (g := gb711) (o := .cells #[.int .i64 t708, .int .i64 t709] 56 (0, 0)) (by (with_reducible repeat (fail)); refine zp_ ?_ NB711_726.out _; (with_reducible repeat (fail)); refine zp_ ?_ NB711_726.out _; (with_reducible repeat (fail)); exact BK711.out) hb); have n6_ := Aside0.mk (zq_ (g := gb721) (o := .cells #[.int .i64 t716, .slice Ao172 t717.length co172] 54 (0, 0)) (by (with_reducible repeat (fail)); refine zp_ ?_ NB721_726.out _; (with_reducible repeat (fail)); refine zp_ ?_ NB721_726.out _; (with_reducible repeat (fail)); exact BK721.out) hb); have n7_ := Aside0.mk (zq_ (g := gb726) (o := .cells #[.int .i64 t723, .int .i64 t724] 56 (0, 0)) (by (with_reducible repeat (fail)); refine blk_put (cs := #[.int .i64 t723, .int .i64 0]) ?_ 1 _ rfl; (with_reducible repeat (fail)); refine blk_put (cs := #[.int .i64 0, .int .i64 0]) ?_ 0 _ rfl; (with_reducible repeat (fail)); exact BK726.out) hb); have n8_ := Aside0.mk (zv_ (by repeat (((with_reducible first | exact HB.out | refine zr_ ?_ GE726.out)))) hb); clear HO_722001; clear BK698; clear BK699; clear BK700; clear BK707; clear BK711; clear BK721; clear BK726; clear HB; have HO_722001 := n0_; have BK698 := n1_; have BK699 := n2_; have BK700 := n3_; have BK707 := n4_; have BK711 := n5_; have BK721 := n6_; have BK726 := n7_; have HB := n8_; clear n0_ n1_ n2_ n3_ n4_ n5_ n6_ n7_ n8_; (try clear hb); (try clear hb2); (try clear hk); (try clear hi)))
                                                  repeat (go_quiet (fail); try go_wp2_with (fail))
                                                  go_ret
                                                  exact ⟨by (rfl), by repeat (((with_reducible (exact HB.out))))⟩
                                          · replace c185 := Bool.eq_false_iff.mpr c185
                                            subst c185
                                            have H1 : (none) = some r := by rw [if_neg (show ¬ (false = true) by decide)] at H; exact H
                                            clear H
                                            have H := H1
                                            clear H1
                                            exact absurd H (by simp)
end Go.Proofs.Yteknbadjfojmbaa.QA
