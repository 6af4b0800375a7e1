-- What this claim does not use was left out by prune.py, a program of this session.
import Derived.Test.YteknbadjfojmbaaQA20d
import Derived.Test.YteknbadjfojmbaaQA0
import Derived.Test.YteknbadjfojmbaaQA4
import Derived.Test.YteknbadjfojmbaaQA6
import Derived.Test.YteknbadjfojmbaaQA8
import Derived.Test.YteknbadjfojmbaaQA9
import Derived.Test.YteknbadjfojmbaaQA10
import Derived.Test.YteknbadjfojmbaaQA18
import Derived.Test.YteknbadjfojmbaaQA19
namespace Go.Proofs.Yteknbadjfojmbaa.QA
open Go.RowKit Go.Proofs.YteknbadjfojmbaaW.PrintWords Go.Proofs.YteknbadjfojmbaaW.PrintLast Go.Proofs.YteknbadjfojmbaaW.PrintMore
attribute [local go_sem] max2_int min2_int max_two min_two max_three min_three max_four min_four
open Bool renaming true → Y, false → Z
open List renaming setIfInBounds_toArray → zA_, set_cons_zero → zB_, set_cons_succ → zC_
set_option linter.unusedVariables false
set_option linter.unusedSimpArgs false
open Go.Proofs.YteknbadjfojmbaaW.PrintWords.Kd renaming R_drew → zc_, R_mono → zd_, R_far → ze_, R_types → zf_, R_lower → zg_, R_reads' → zl_
open Go.Proofs.YteknbadjfojmbaaW.PrintWords renaming blk_drew → zn_, blk_far → zp_, blk_below → zq_, below_set → zr_, below_drew1 → zu_, below_step → zv_, below_size → zw_
set_option maxHeartbeats 8000000 in
set_option maxRecDepth 100000 in
theorem quietuslaw10_DomainsChange.calls (k : Nat) (A0_0 : Option Addr) (c0_0 : Nat) (l0_0 : List Int) (A0_1 : Option Addr) (c0_1 : Nat) (l0_1 : List (S117)) (A0_2 : Option Addr) (c0_2 : Nat) (l0_2 : List Int) (a0_3 : Int) (a1_0 : Int) (a1_1 : Int) (r : Bool) (w : World) (hr0_0 : Kd.C (Kd.int .i64) w A0_0 l0_0.length l0_0) (hc0_0 : l0_0.length ≤ c0_0) (hr0_1 : Kd.C k117 w A0_1 l0_1.length l0_1) (hc0_1 : l0_1.length ≤ c0_1) (hr0_2 : Kd.C (Kd.int .i64) w A0_2 l0_2.length l0_2) (hc0_2 : l0_2.length ≤ c0_2) (h : quietuslaw10_DomainsChange.f k l0_0 l0_1 l0_2 a0_3 a1_0 a1_1 = some r) :
  Calls Try.prog 6 #[.agg #[.slice A0_0 l0_0.length c0_0, .slice A0_1 l0_1.length c0_1, .slice A0_2 l0_2.length c0_2, .int .i64 a0_3], .agg #[.int .i64 a1_0, .int .i64 a1_1]] w fun e w' => e = .returned (.bool r) ∧ Below w.heap.size w w' := by
 have hu25 := Try.underlying25
 have hu44 := Try.underlying44
 have hu48 := Try.underlying48
 have HR0_0 := Aside0.mk hr0_0
 have HC0_0 := Aside0.mk hc0_0
 clear hr0_0 hc0_0
 have HR0_1 := Aside0.mk hr0_1
 have HC0_1 := Aside0.mk hc0_1
 clear hr0_1 hc0_1
 have HR0_2 := Aside0.mk hr0_2
 have HC0_2 := Aside0.mk hc0_2
 clear hr0_2 hc0_2
 have HB := Aside0.mk (Below.refl w.heap.size w)
 have H : ((quietusref10_Few.f l0_0 l0_1 l0_2 a0_3 80).bind fun t338 => (if t338 = true then ((domain_Sell.f l0_0 l0_1 l0_2 a0_3 a1_0 a1_1).bind fun bt340 => ((domain_Ship.f k l0_0 l0_1 l0_2 a0_3 a1_0 a1_1).bind fun bt352 => ((quietusref10_Sell.f k l0_0 l0_1 l0_2 a0_3 a1_0 a1_1).bind fun bt364 => ((quietusref10_Ship.f k l0_0 l0_1 l0_2 a0_3 a1_0 a1_1).bind fun bt376 => (if bt340.2.2.2.2 = bt364.2.2.2.2 then (if bt352.2.2.2.2 = bt376.2.2.2.2 then ((quietusref10_Same.f k bt340.1 bt340.2.1 bt340.2.2.1 bt340.2.2.2.1 bt364.1 bt364.2.1 bt364.2.2.1 bt364.2.2.2.1).bind fun t388 => (if t388 = true then ((quietusref10_Same.f k bt352.1 bt352.2.1 bt352.2.2.1 bt352.2.2.2.1 bt376.1 bt376.2.1 bt376.2.2.1 bt376.2.2.2.1).bind fun t389 => (quietuslaw10_DomainsChange.j0 k bt340.2.2.2.2 bt352.2.2.2.2 (!t389) l0_0 l0_1 l0_2 a0_3 a1_0 a1_1 bt340.1 bt340.2.1 bt340.2.2.1 bt340.2.2.2.1 bt352.1 bt352.2.1 bt352.2.2.1 bt352.2.2.2.1)) else (none))) else (none)) else (none)))))) else ((quietuslaw10_sanity.f).bind fun t339 => (some t339)))) = some r := h
 clear h
 replace H := Option.bind_eq_some_iff.mp H
 obtain ⟨t338, A30, H⟩ := H
 replace H : (if t338 = true then ((domain_Sell.f l0_0 l0_1 l0_2 a0_3 a1_0 a1_1).bind fun bt340 => ((domain_Ship.f k l0_0 l0_1 l0_2 a0_3 a1_0 a1_1).bind fun bt352 => ((quietusref10_Sell.f k l0_0 l0_1 l0_2 a0_3 a1_0 a1_1).bind fun bt364 => ((quietusref10_Ship.f k l0_0 l0_1 l0_2 a0_3 a1_0 a1_1).bind fun bt376 => (if bt340.2.2.2.2 = bt364.2.2.2.2 then (if bt352.2.2.2.2 = bt376.2.2.2.2 then ((quietusref10_Same.f k bt340.1 bt340.2.1 bt340.2.2.1 bt340.2.2.2.1 bt364.1 bt364.2.1 bt364.2.2.1 bt364.2.2.2.1).bind fun t388 => (if t388 = true then ((quietusref10_Same.f k bt352.1 bt352.2.1 bt352.2.2.1 bt352.2.2.2.1 bt376.1 bt376.2.1 bt376.2.2.1 bt376.2.2.2.1).bind fun t389 => (quietuslaw10_DomainsChange.j0 k bt340.2.2.2.2 bt352.2.2.2.2 (!t389) l0_0 l0_1 l0_2 a0_3 a1_0 a1_1 bt340.1 bt340.2.1 bt340.2.2.1 bt340.2.2.2.1 bt352.1 bt352.2.1 bt352.2.2.1 bt352.2.2.2.1)) else (none))) else (none)) else (none)))))) else ((quietuslaw10_sanity.f).bind fun t339 => (some t339))) = some r := H
 have A3 := Aside0.mk A30
 clear A30
 by_cases c4 : t338 = true
 ·subst c4
  have H1 : ((domain_Sell.f l0_0 l0_1 l0_2 a0_3 a1_0 a1_1).bind fun bt340 => ((domain_Ship.f k l0_0 l0_1 l0_2 a0_3 a1_0 a1_1).bind fun bt352 => ((quietusref10_Sell.f k l0_0 l0_1 l0_2 a0_3 a1_0 a1_1).bind fun bt364 => ((quietusref10_Ship.f k l0_0 l0_1 l0_2 a0_3 a1_0 a1_1).bind fun bt376 => (if bt340.2.2.2.2 = bt364.2.2.2.2 then (if bt352.2.2.2.2 = bt376.2.2.2.2 then ((quietusref10_Same.f k bt340.1 bt340.2.1 bt340.2.2.1 bt340.2.2.2.1 bt364.1 bt364.2.1 bt364.2.2.1 bt364.2.2.2.1).bind fun t388 => (if t388 = true then ((quietusref10_Same.f k bt352.1 bt352.2.1 bt352.2.2.1 bt352.2.2.2.1 bt376.1 bt376.2.1 bt376.2.2.1 bt376.2.2.2.1).bind fun t389 => (quietuslaw10_DomainsChange.j0 k bt340.2.2.2.2 bt352.2.2.2.2 (!t389) l0_0 l0_1 l0_2 a0_3 a1_0 a1_1 bt340.1 bt340.2.1 bt340.2.2.1 bt340.2.2.2.1 bt352.1 bt352.2.1 bt352.2.2.1 bt352.2.2.2.1)) else (none))) else (none)) else (none)))))) = some r := by rw [if_pos rfl] at H; exact H
  clear H
  have H := H1
  clear H1
  replace H := Option.bind_eq_some_iff.mp H
  obtain ⟨⟨t340, t343, t346, t349, t350⟩, A50, H⟩ := H
  replace H : ((domain_Ship.f k l0_0 l0_1 l0_2 a0_3 a1_0 a1_1).bind fun bt352 => ((quietusref10_Sell.f k l0_0 l0_1 l0_2 a0_3 a1_0 a1_1).bind fun bt364 => ((quietusref10_Ship.f k l0_0 l0_1 l0_2 a0_3 a1_0 a1_1).bind fun bt376 => (if t350 = bt364.2.2.2.2 then (if bt352.2.2.2.2 = bt376.2.2.2.2 then ((quietusref10_Same.f k t340 t343 t346 t349 bt364.1 bt364.2.1 bt364.2.2.1 bt364.2.2.2.1).bind fun t388 => (if t388 = true then ((quietusref10_Same.f k bt352.1 bt352.2.1 bt352.2.2.1 bt352.2.2.2.1 bt376.1 bt376.2.1 bt376.2.2.1 bt376.2.2.2.1).bind fun t389 => (quietuslaw10_DomainsChange.j0 k t350 bt352.2.2.2.2 (!t389) l0_0 l0_1 l0_2 a0_3 a1_0 a1_1 t340 t343 t346 t349 bt352.1 bt352.2.1 bt352.2.2.1 bt352.2.2.2.1)) else (none))) else (none)) else (none))))) = some r := H
  have A5 := Aside0.mk A50
  clear A50
  replace H := Option.bind_eq_some_iff.mp H
  obtain ⟨⟨t352, t355, t358, t361, t362⟩, A60, H⟩ := H
  replace H : ((quietusref10_Sell.f k l0_0 l0_1 l0_2 a0_3 a1_0 a1_1).bind fun bt364 => ((quietusref10_Ship.f k l0_0 l0_1 l0_2 a0_3 a1_0 a1_1).bind fun bt376 => (if t350 = bt364.2.2.2.2 then (if t362 = bt376.2.2.2.2 then ((quietusref10_Same.f k t340 t343 t346 t349 bt364.1 bt364.2.1 bt364.2.2.1 bt364.2.2.2.1).bind fun t388 => (if t388 = true then ((quietusref10_Same.f k t352 t355 t358 t361 bt376.1 bt376.2.1 bt376.2.2.1 bt376.2.2.2.1).bind fun t389 => (quietuslaw10_DomainsChange.j0 k t350 t362 (!t389) l0_0 l0_1 l0_2 a0_3 a1_0 a1_1 t340 t343 t346 t349 t352 t355 t358 t361)) else (none))) else (none)) else (none)))) = some r := H
  have A6 := Aside0.mk A60
  clear A60
  replace H := Option.bind_eq_some_iff.mp H
  obtain ⟨⟨t364, t367, t370, t373, t374⟩, A70, H⟩ := H
  replace H : ((quietusref10_Ship.f k l0_0 l0_1 l0_2 a0_3 a1_0 a1_1).bind fun bt376 => (if t350 = t374 then (if t362 = bt376.2.2.2.2 then ((quietusref10_Same.f k t340 t343 t346 t349 t364 t367 t370 t373).bind fun t388 => (if t388 = true then ((quietusref10_Same.f k t352 t355 t358 t361 bt376.1 bt376.2.1 bt376.2.2.1 bt376.2.2.2.1).bind fun t389 => (quietuslaw10_DomainsChange.j0 k t350 t362 (!t389) l0_0 l0_1 l0_2 a0_3 a1_0 a1_1 t340 t343 t346 t349 t352 t355 t358 t361)) else (none))) else (none)) else (none))) = some r := H
  have A7 := Aside0.mk A70
  clear A70
  replace H := Option.bind_eq_some_iff.mp H
  obtain ⟨⟨t376, t379, t382, t385, t386⟩, A80, H⟩ := H
  replace H : (if t350 = t374 then (if t362 = t386 then ((quietusref10_Same.f k t340 t343 t346 t349 t364 t367 t370 t373).bind fun t388 => (if t388 = true then ((quietusref10_Same.f k t352 t355 t358 t361 t376 t379 t382 t385).bind fun t389 => (quietuslaw10_DomainsChange.j0 k t350 t362 (!t389) l0_0 l0_1 l0_2 a0_3 a1_0 a1_1 t340 t343 t346 t349 t352 t355 t358 t361)) else (none))) else (none)) else (none)) = some r := H
  have A8 := Aside0.mk A80
  clear A80
  have HC9 := Aside0.mk H
  clear H
  go_enter Try.func6, Try.ntmps6
  go_upto_region 8 with (first | ((with_reducible refine gate_dst (N := 2) rfl ?_); refine box_event ?hg (N := 2) ?hd (cs := #[.slice A0_0 l0_0.length c0_0, .slice A0_1 l0_1.length c0_1, .slice A0_2 l0_2.length c0_2, .int .i64 a0_3]) (t := 25) ?hr ?_; (case hd => rfl); (case hg => rfl); (case hr => (go_simp; done)); intro gb336 hg w10 hbox hb; have n0_ := Aside0.mk (zv_ (by repeat (((with_reducible (exact HB.out))))) hb); have n1_ := Aside0.mk (hbox); have n2_ := Aside0.mk ((by rw [hg]; exact (zw_ (by repeat (((with_reducible (exact HB.out)))))) : w.heap.size ≤ gb336)); have n3_ := Aside0.mk ((by rw [hg]; exact (zw_ (by repeat (((with_reducible (exact HB.out)))))) : w.heap.size ≤ gb336)); clear HB; have HB := n0_; have BK336 := n1_; have GW336 := n2_; have GE336 := n3_; clear n0_ n1_ n2_ n3_; clear hb hbox hg) | ((with_reducible refine gate_dst (N := 3) rfl ?_); refine box_event ?hg (N := 3) ?hd (cs := #[.int .i64 a1_0, .int .i64 a1_1]) (t := 44) ?hr ?_; (case hd => rfl); (case hg => rfl); (case hr => (go_simp; done)); intro gb337 hg w11 hbox hb; have n0_ := Aside0.mk (zq_ (g := gb336) (o := .cells #[.slice A0_0 l0_0.length c0_0, .slice A0_1 l0_1.length c0_1, .slice A0_2 l0_2.length c0_2, .int .i64 a0_3] 25 (0, 0)) BK336.out hb); have n1_ := Aside0.mk (zv_ (by repeat (((with_reducible (exact HB.out))))) hb); have n2_ := Aside0.mk (hbox); have n3_ := Aside0.mk ((by rw [hg]; exact (zw_ (by repeat (((with_reducible (exact HB.out)))))) : w.heap.size ≤ gb337)); have n4_ := Aside0.mk ((by rw [hg]; exact (zw_ (by repeat (((with_reducible (exact HB.out)))))) : w.heap.size ≤ gb337)); have n5_ := Aside0.mk ((by rw [hg]; exact Nat.ne_of_lt (blk_lt (g := gb336) (o := .cells #[.slice A0_0 l0_0.length c0_0, .slice A0_1 l0_1.length c0_1, .slice A0_2 l0_2.length c0_2, .int .i64 a0_3] 25 (0, 0)) BK336.out) : gb336 ≠ gb337)); have n6_ := Aside0.mk ((by rw [hg]; exact Nat.ne_of_gt (blk_lt (g := gb336) (o := .cells #[.slice A0_0 l0_0.length c0_0, .slice A0_1 l0_1.length c0_1, .slice A0_2 l0_2.length c0_2, .int .i64 a0_3] 25 (0, 0)) BK336.out) : gb337 ≠ gb336)); clear BK336 HB; have BK336 := n0_; have HB := n1_; have BK337 := n2_; have GW337 := n3_; have GE337 := n4_; have NB336_337 := n5_; have NB337_336 := n6_; clear n0_ n1_ n2_ n3_ n4_ n5_ n6_; clear hb hbox hg; have hnb12 := NB336_337.out; have hnc12 := NB337_336.out; have hcz13_0 : w11.cell? ⟨gb336, 0, none⟩ = some (.slice A0_0 l0_0.length c0_0) := (blk_cell BK336.out 0).trans rfl; have hcz13_1 : w11.cell? ⟨gb336, 1, none⟩ = some (.slice A0_1 l0_1.length c0_1) := (blk_cell BK336.out 1).trans rfl; have hcz13_2 : w11.cell? ⟨gb336, 2, none⟩ = some (.slice A0_2 l0_2.length c0_2) := (blk_cell BK336.out 2).trans rfl; have hcz13_3 : w11.cell? ⟨gb336, 3, none⟩ = some (.int .i64 a0_3) := (blk_cell BK336.out 3).trans rfl; have hfz13_0 := blk_frozen BK336.out 0; have hfz13_1 := blk_frozen BK336.out 1; have hfz13_2 := blk_frozen BK336.out 2; have hfz13_3 := blk_frozen BK336.out 3) | ((with_reducible refine gate_callee (f := 14) rfl ?_); refine goesL_ (some 16) rfl rfl Try.func14 (by kernel_rfl) rfl #[.agg #[.slice A0_0 l0_0.length c0_0, .slice A0_1 l0_1.length c0_1, .slice A0_2 l0_2.length c0_2, .int .i64 a0_3], .int .i64 80] rfl (by (try simp only [List.map_toArray, List.map_cons, List.map_nil]); (rfl)) ?_; (with_reducible refine (quietusref10_Few.calls _ _ l0_0 _ _ l0_1 _ _ l0_2 a0_3 80 true _ ?side1 ?side2 ?side3 ?side4 ?side5 ?side6 A3.out).mono ?_); (case side1 => repeat ((exact (Kd.C_below HR0_0.out HB.out)))); (case side2 => exact HC0_0.out); (case side3 => repeat ((exact (Kd.C_below HR0_1.out HB.out)))); (case side4 => exact HC0_1.out); (case side5 => repeat ((exact (Kd.C_below HR0_2.out HB.out)))); (case side6 => exact HC0_2.out); rintro e w14 ⟨rfl, hb⟩; refine ⟨_, rfl, ?_⟩; have n0_ := Aside0.mk (zq_ (g := gb336) (o := .cells #[.slice A0_0 l0_0.length c0_0, .slice A0_1 l0_1.length c0_1, .slice A0_2 l0_2.length c0_2, .int .i64 a0_3] 25 (0, 0)) BK336.out hb); have n1_ := Aside0.mk (zq_ (g := gb337) (o := .cells #[.int .i64 a1_0, .int .i64 a1_1] 44 (0, 0)) BK337.out hb); have n2_ := Aside0.mk (zv_ (by repeat (((with_reducible (exact HB.out))))) hb); clear BK336 BK337 HB; have BK336 := n0_; have BK337 := n1_; have HB := n2_; clear n0_ n1_ n2_; (try clear hb); (try clear hb2); (try clear hk); (try clear hi); have hcz15_0 : w14.cell? ⟨gb336, 0, none⟩ = some (.slice A0_0 l0_0.length c0_0) := (blk_cell BK336.out 0).trans rfl; have hcz15_1 : w14.cell? ⟨gb336, 1, none⟩ = some (.slice A0_1 l0_1.length c0_1) := (blk_cell BK336.out 1).trans rfl; have hcz15_2 : w14.cell? ⟨gb336, 2, none⟩ = some (.slice A0_2 l0_2.length c0_2) := (blk_cell BK336.out 2).trans rfl; have hcz15_3 : w14.cell? ⟨gb336, 3, none⟩ = some (.int .i64 a0_3) := (blk_cell BK336.out 3).trans rfl; have hfz15_0 := blk_frozen BK336.out 0; have hfz15_1 := blk_frozen BK336.out 1; have hfz15_2 := blk_frozen BK336.out 2; have hfz15_3 := blk_frozen BK336.out 3; have hcz16_0 : w14.cell? ⟨gb337, 0, none⟩ = some (.int .i64 a1_0) := (blk_cell BK337.out 0).trans rfl; have hcz16_1 : w14.cell? ⟨gb337, 1, none⟩ = some (.int .i64 a1_1) := (blk_cell BK337.out 1).trans rfl; have hfz16_0 := blk_frozen BK337.out 0; have hfz16_1 := blk_frozen BK337.out 1) | ((with_reducible refine gate_callee (f := 30) rfl ?_); refine goesL_ (some 26) rfl rfl Try.func30 (by kernel_rfl) rfl #[.agg #[.slice A0_0 l0_0.length c0_0, .slice A0_1 l0_1.length c0_1, .slice A0_2 l0_2.length c0_2, .int .i64 a0_3], .int .i64 a1_0, .int .i64 a1_1] rfl (by (try simp only [List.map_toArray, List.map_cons, List.map_nil]); (rfl)) ?_; (with_reducible refine (domain_Sell.calls _ _ l0_0 _ _ l0_1 _ _ l0_2 a0_3 a1_0 a1_1 t340 t343 t346 t349 t350 _ ?side1 ?side2 ?side3 ?side4 ?side5 ?side6 A5.out).mono ?_); (case side1 => repeat ((exact (Kd.C_below HR0_0.out HB.out)))); (case side2 => exact HC0_0.out); (case side3 => repeat ((exact (Kd.C_below HR0_1.out HB.out)))); (case side4 => exact HC0_1.out); (case side5 => repeat ((exact (Kd.C_below HR0_2.out HB.out)))); (case side6 => exact HC0_2.out); rintro e w17 ⟨v341, v344, v347, rfl, ho0, ho1, ho2, hb⟩; refine ⟨_, rfl, ?_⟩; have n0_ := Aside0.mk (zg_ ho0 (zw_ (by repeat (((with_reducible (exact HB.out))))))); have n1_ := Aside0.mk (zg_ ho1 (zw_ (by repeat (((with_reducible (exact HB.out))))))); have n2_ := Aside0.mk (zg_ ho2 (zw_ (by repeat (((with_reducible (exact HB.out))))))); have n3_ := Aside0.mk (zq_ (g := gb336) (o := .cells #[.slice A0_0 l0_0.length c0_0, .slice A0_1 l0_1.length c0_1, .slice A0_2 l0_2.length c0_2, .int .i64 a0_3] 25 (0, 0)) BK336.out hb); have n4_ := Aside0.mk (zq_ (g := gb337) (o := .cells #[.int .i64 a1_0, .int .i64 a1_1] 44 (0, 0)) BK337.out hb); have n5_ := Aside0.mk (zv_ (by repeat (((with_reducible (exact HB.out))))) hb); clear BK336 BK337 HB; have HO342 := n0_; have HO345 := n1_; have HO348 := n2_; have BK336 := n3_; have BK337 := n4_; have HB := n5_; clear n0_ n1_ n2_ n3_ n4_ n5_; (try clear hb); (try clear hb2); (try clear hk); (try clear hi); (try clear ho0); (try clear ho1); (try clear ho2)) | ((with_reducible refine gate_dst (N := 6) rfl ?_); refine box_event ?hg (N := 6) ?hd (cs := #[.slice none 0 0, .slice none 0 0, .slice none 0 0, .int .i64 0]) (t := 25) ?hr ?_; (case hd => rfl); (case hg => rfl); (case hr => (go_simp; done)); intro gb351 hg w18 hbox hb; have n0_ := Aside0.mk (Kd.R_below HO342.out hb); have n1_ := Aside0.mk (Kd.R_below HO345.out hb); have n2_ := Aside0.mk (Kd.R_below HO348.out hb); have n3_ := Aside0.mk (zq_ (g := gb336) (o := .cells #[.slice A0_0 l0_0.length c0_0, .slice A0_1 l0_1.length c0_1, .slice A0_2 l0_2.length c0_2, .int .i64 a0_3] 25 (0, 0)) BK336.out hb); have n4_ := Aside0.mk (zq_ (g := gb337) (o := .cells #[.int .i64 a1_0, .int .i64 a1_1] 44 (0, 0)) BK337.out hb); have n5_ := Aside0.mk (zv_ (by repeat (((with_reducible (exact HB.out))))) hb); have n6_ := Aside0.mk (hbox); have n7_ := Aside0.mk ((by rw [hg]; exact (zw_ (by repeat (((with_reducible (exact HB.out)))))) : w.heap.size ≤ gb351)); have n8_ := Aside0.mk ((by rw [hg]; exact (zw_ (by repeat (((with_reducible (exact HB.out)))))) : w.heap.size ≤ gb351)); have n9_ := Aside0.mk ((by rw [hg]; exact Nat.ne_of_lt (blk_lt (g := gb336) (o := .cells #[.slice A0_0 l0_0.length c0_0, .slice A0_1 l0_1.length c0_1, .slice A0_2 l0_2.length c0_2, .int .i64 a0_3] 25 (0, 0)) BK336.out) : gb336 ≠ gb351)); have n10_ := Aside0.mk ((by rw [hg]; exact Nat.ne_of_gt (blk_lt (g := gb336) (o := .cells #[.slice A0_0 l0_0.length c0_0, .slice A0_1 l0_1.length c0_1, .slice A0_2 l0_2.length c0_2, .int .i64 a0_3] 25 (0, 0)) BK336.out) : gb351 ≠ gb336)); have n11_ := Aside0.mk ((by rw [hg]; exact Nat.ne_of_lt (blk_lt (g := gb337) (o := .cells #[.int .i64 a1_0, .int .i64 a1_1] 44 (0, 0)) BK337.out) : gb337 ≠ gb351)); have n12_ := Aside0.mk ((by rw [hg]; exact Nat.ne_of_gt (blk_lt (g := gb337) (o := .cells #[.int .i64 a1_0, .int .i64 a1_1] 44 (0, 0)) BK337.out) : gb351 ≠ gb337)); clear HO342 HO345 HO348 BK336 BK337 HB; have HO342 := n0_; have HO345 := n1_; have HO348 := n2_; have BK336 := n3_; have BK337 := n4_; have HB := n5_; have BK351 := n6_; have GW351 := n7_; have GE351 := n8_; have NB336_351 := n9_; have NB351_336 := n10_; have NB337_351 := n11_; have NB351_337 := n12_; clear n0_ n1_ n2_ n3_ n4_ n5_ n6_ n7_ n8_ n9_ n10_ n11_ n12_; clear hb hbox hg; obtain ⟨Ao19, co19, eo19⟩ := Kd.R_slice HO342.out; subst eo19; have hnb20 := NB351_336.out; have hnc20 := NB336_351.out; have hnb21 := NB351_337.out; have hnc21 := NB337_351.out; have hcz22_0 : w18.cell? ⟨gb351, 0, none⟩ = some (.slice none 0 0) := (blk_cell BK351.out 0).trans rfl; have hcz22_1 : w18.cell? ⟨gb351, 1, none⟩ = some (.slice none 0 0) := (blk_cell BK351.out 1).trans rfl; have hcz22_2 : w18.cell? ⟨gb351, 2, none⟩ = some (.slice none 0 0) := (blk_cell BK351.out 2).trans rfl; have hcz22_3 : w18.cell? ⟨gb351, 3, none⟩ = some (.int .i64 0) := (blk_cell BK351.out 3).trans rfl; have hfz22_0 := blk_frozen BK351.out 0; have hfz22_1 := blk_frozen BK351.out 1; have hfz22_2 := blk_frozen BK351.out 2; have hfz22_3 := blk_frozen BK351.out 3; obtain ⟨Ao23, co23, eo23⟩ := Kd.R_slice HO345.out; subst eo23; obtain ⟨Ao24, co24, eo24⟩ := Kd.R_slice HO348.out; subst eo24; have hcz25_0 : w18.cell? ⟨gb336, 0, none⟩ = some (.slice A0_0 l0_0.length c0_0) := (blk_cell BK336.out 0).trans rfl; have hcz25_1 : w18.cell? ⟨gb336, 1, none⟩ = some (.slice A0_1 l0_1.length c0_1) := (blk_cell BK336.out 1).trans rfl; have hcz25_2 : w18.cell? ⟨gb336, 2, none⟩ = some (.slice A0_2 l0_2.length c0_2) := (blk_cell BK336.out 2).trans rfl; have hcz25_3 : w18.cell? ⟨gb336, 3, none⟩ = some (.int .i64 a0_3) := (blk_cell BK336.out 3).trans rfl; have hfz25_0 := blk_frozen BK336.out 0; have hfz25_1 := blk_frozen BK336.out 1; have hfz25_2 := blk_frozen BK336.out 2; have hfz25_3 := blk_frozen BK336.out 3; have hcz26_0 : w18.cell? ⟨gb337, 0, none⟩ = some (.int .i64 a1_0) := (blk_cell BK337.out 0).trans rfl; have hcz26_1 : w18.cell? ⟨gb337, 1, none⟩ = some (.int .i64 a1_1) := (blk_cell BK337.out 1).trans rfl; have hfz26_0 := blk_frozen BK337.out 0; have hfz26_1 := blk_frozen BK337.out 1) | ((with_reducible refine gate_callee (f := 31) rfl ?_); refine goesL_ (some 35) rfl rfl Try.func31 (by kernel_rfl) rfl #[.agg #[.slice A0_0 l0_0.length c0_0, .slice A0_1 l0_1.length c0_1, .slice A0_2 l0_2.length c0_2, .int .i64 a0_3], .int .i64 a1_0, .int .i64 a1_1] rfl (by (try simp only [List.map_toArray, List.map_cons, List.map_nil]); (rfl)) ?_; (with_reducible refine (domain_Ship.calls k _ _ l0_0 _ _ l0_1 _ _ l0_2 a0_3 a1_0 a1_1 t352 t355 t358 t361 t362 _ ?side1 ?side2 ?side3 ?side4 ?side5 ?side6 A6.out).mono ?_); (case side1 => exact Kd.C_below HR0_0.out (by repeat (with_reducible first | exact HB.out | refine zr_ ?_ GE351.out))); (case side2 => exact HC0_0.out); (case side3 => exact Kd.C_below HR0_1.out (by repeat (with_reducible first | exact HB.out | refine zr_ ?_ GE351.out))); (case side4 => exact HC0_1.out); (case side5 => exact Kd.C_below HR0_2.out (by repeat (with_reducible first | exact HB.out | refine zr_ ?_ GE351.out))); (case side6 => exact HC0_2.out); rintro e w27 ⟨v353, v356, v359, rfl, ho0, ho1, ho2, hb⟩; refine ⟨_, rfl, ?_⟩; have n0_ := Aside0.mk (Kd.R_below (by exact (zd_ (ze_ (p := ⟨gb351, 3, none⟩) (ze_ (p := ⟨gb351, 2, none⟩) (ze_ (p := ⟨gb351, 1, none⟩) (ze_ (p := ⟨gb351, 0, none⟩) (zf_ HO342.out BK351.out (by decide)) (fun _ hk => hk.2) (.slice Ao19 t340.length co19)) (fun _ hk => hk.2) (.slice Ao23 t343.length co23)) (fun _ hk => hk.2) (.slice Ao24 t346.length co24)) (fun _ hk => hk.2) (.int .i64 t349)) (fun _ h_ => (h_.1)))) hb); have n1_ := Aside0.mk (Kd.R_below (by exact (zd_ (ze_ (p := ⟨gb351, 3, none⟩) (ze_ (p := ⟨gb351, 2, none⟩) (ze_ (p := ⟨gb351, 1, none⟩) (ze_ (p := ⟨gb351, 0, none⟩) (zf_ HO345.out BK351.out (by decide)) (fun _ hk => hk.2) (.slice Ao19 t340.length co19)) (fun _ hk => hk.2) (.slice Ao23 t343.length co23)) (fun _ hk => hk.2) (.slice Ao24 t346.length co24)) (fun _ hk => hk.2) (.int .i64 t349)) (fun _ h_ => (h_.1)))) hb); have n2_ := Aside0.mk (Kd.R_below (by exact (zd_ (ze_ (p := ⟨gb351, 3, none⟩) (ze_ (p := ⟨gb351, 2, none⟩) (ze_ (p := ⟨gb351, 1, none⟩) (ze_ (p := ⟨gb351, 0, none⟩) (zf_ HO348.out BK351.out (by decide)) (fun _ hk => hk.2) (.slice Ao19 t340.length co19)) (fun _ hk => hk.2) (.slice Ao23 t343.length co23)) (fun _ hk => hk.2) (.slice Ao24 t346.length co24)) (fun _ hk => hk.2) (.int .i64 t349)) (fun _ h_ => (h_.1)))) hb); have n3_ := Aside0.mk (zg_ ho0 (zw_ (by repeat (with_reducible first | exact HB.out | refine zr_ ?_ GE351.out)))); have n4_ := Aside0.mk (zg_ ho1 (zw_ (by repeat (with_reducible first | exact HB.out | refine zr_ ?_ GE351.out)))); have n5_ := Aside0.mk (zg_ ho2 (zw_ (by repeat (with_reducible first | exact HB.out | refine zr_ ?_ GE351.out)))); have n6_ := Aside0.mk (zq_ (g := gb336) (o := .cells #[.slice A0_0 l0_0.length c0_0, .slice A0_1 l0_1.length c0_1, .slice A0_2 l0_2.length c0_2, .int .i64 a0_3] 25 (0, 0)) (by refine zp_ ?_ NB336_351.out _; refine zp_ ?_ NB336_351.out _; refine zp_ ?_ NB336_351.out _; refine zp_ ?_ NB336_351.out _; exact BK336.out) hb); have n7_ := Aside0.mk (zq_ (g := gb337) (o := .cells #[.int .i64 a1_0, .int .i64 a1_1] 44 (0, 0)) (by refine zp_ ?_ NB337_351.out _; refine zp_ ?_ NB337_351.out _; refine zp_ ?_ NB337_351.out _; refine zp_ ?_ NB337_351.out _; exact BK337.out) hb); have n8_ := Aside0.mk (zq_ (g := gb351) (o := .cells #[.slice Ao19 t340.length co19, .slice Ao23 t343.length co23, .slice Ao24 t346.length co24, .int .i64 t349] 25 (0, 0)) (by refine blk_put (cs := #[.slice Ao19 t340.length co19, .slice Ao23 t343.length co23, .slice Ao24 t346.length co24, .int .i64 0]) ?_ 3 _ rfl; refine blk_put (cs := #[.slice Ao19 t340.length co19, .slice Ao23 t343.length co23, .slice none 0 0, .int .i64 0]) ?_ 2 _ rfl; refine blk_put (cs := #[.slice Ao19 t340.length co19, .slice none 0 0, .slice none 0 0, .int .i64 0]) ?_ 1 _ rfl; refine blk_put (cs := #[.slice none 0 0, .slice none 0 0, .slice none 0 0, .int .i64 0]) ?_ 0 _ rfl; exact BK351.out) hb); have n9_ := Aside0.mk (zv_ (by repeat (with_reducible first | exact HB.out | refine zr_ ?_ GE351.out)) hb); clear HO342 HO345 HO348 BK336 BK337 BK351 HB; have HO342 := n0_; have HO345 := n1_; have HO348 := n2_; have HO354 := n3_; have HO357 := n4_; have HO360 := n5_; have BK336 := n6_; have BK337 := n7_; have BK351 := n8_; have HB := n9_; clear n0_ n1_ n2_ n3_ n4_ n5_ n6_ n7_ n8_ n9_; (try clear hb); (try clear hb2); (try clear hk); (try clear hi); (try clear ho0); (try clear ho1); (try clear ho2)) | ((with_reducible refine gate_dst (N := 8) rfl ?_); refine box_event ?hg (N := 8) ?hd (cs := #[.slice none 0 0, .slice none 0 0, .slice none 0 0, .int .i64 0]) (t := 25) ?hr ?_; (case hd => rfl); (case hg => rfl); (case hr => (go_simp; done)); intro gb363 hg w28 hbox hb; have n0_ := Aside0.mk (Kd.R_below HO342.out hb); have n1_ := Aside0.mk (Kd.R_below HO345.out hb); have n2_ := Aside0.mk (Kd.R_below HO348.out hb); have n3_ := Aside0.mk (Kd.R_below HO354.out hb); have n4_ := Aside0.mk (Kd.R_below HO357.out hb); have n5_ := Aside0.mk (Kd.R_below HO360.out hb); have n6_ := Aside0.mk (zq_ (g := gb336) (o := .cells #[.slice A0_0 l0_0.length c0_0, .slice A0_1 l0_1.length c0_1, .slice A0_2 l0_2.length c0_2, .int .i64 a0_3] 25 (0, 0)) BK336.out hb); have n7_ := Aside0.mk (zq_ (g := gb337) (o := .cells #[.int .i64 a1_0, .int .i64 a1_1] 44 (0, 0)) BK337.out hb); have n8_ := Aside0.mk (zq_ (g := gb351) (o := .cells #[.slice Ao19 t340.length co19, .slice Ao23 t343.length co23, .slice Ao24 t346.length co24, .int .i64 t349] 25 (0, 0)) BK351.out hb); have n9_ := Aside0.mk (zv_ (by repeat (((with_reducible (exact HB.out))))) hb); have n10_ := Aside0.mk (hbox); have n11_ := Aside0.mk ((by rw [hg]; exact (zw_ (by repeat (((with_reducible (exact HB.out)))))) : w.heap.size ≤ gb363)); have n12_ := Aside0.mk ((by rw [hg]; exact (zw_ (by repeat (((with_reducible (exact HB.out)))))) : w.heap.size ≤ gb363)); have n13_ := Aside0.mk ((by rw [hg]; exact Nat.ne_of_lt (blk_lt (g := gb336) (o := .cells #[.slice A0_0 l0_0.length c0_0, .slice A0_1 l0_1.length c0_1, .slice A0_2 l0_2.length c0_2, .int .i64 a0_3] 25 (0, 0)) BK336.out) : gb336 ≠ gb363)); have n14_ := Aside0.mk ((by rw [hg]; exact Nat.ne_of_gt (blk_lt (g := gb336) (o := .cells #[.slice A0_0 l0_0.length c0_0, .slice A0_1 l0_1.length c0_1, .slice A0_2 l0_2.length c0_2, .int .i64 a0_3] 25 (0, 0)) BK336.out) : gb363 ≠ gb336)); have n15_ := Aside0.mk ((by rw [hg]; exact Nat.ne_of_lt (blk_lt (g := gb337) (o := .cells #[.int .i64 a1_0, .int .i64 a1_1] 44 (0, 0)) BK337.out) : gb337 ≠ gb363)); have n16_ := Aside0.mk ((by rw [hg]; exact Nat.ne_of_gt (blk_lt (g := gb337) (o := .cells #[.int .i64 a1_0, .int .i64 a1_1] 44 (0, 0)) BK337.out) : gb363 ≠ gb337)); have n17_ := Aside0.mk ((by rw [hg]; exact Nat.ne_of_lt (blk_lt (g := gb351) (o := .cells #[.slice Ao19 t340.length co19, .slice Ao23 t343.length co23, .slice Ao24 t346.length co24, .int .i64 t349] 25 (0, 0)) BK351.out) : gb351 ≠ gb363)); have n18_ := Aside0.mk ((by rw [hg]; exact Nat.ne_of_gt (blk_lt (g := gb351) (o := .cells #[.slice Ao19 t340.length co19, .slice Ao23 t343.length co23, .slice Ao24 t346.length co24, .int .i64 t349] 25 (0, 0)) BK351.out) : gb363 ≠ gb351)); clear HO342 HO345 HO348 HO354 HO357 HO360 BK336 BK337 BK351 HB; have HO342 := n0_; have HO345 := n1_; have HO348 := n2_; have HO354 := n3_; have HO357 := n4_; have HO360 := n5_; have BK336 := n6_; have BK337 := n7_; have BK351 := n8_; have HB := n9_; have BK363 := n10_; have GW363 := n11_; have GE363 := n12_; have NB336_363 := n13_; have NB363_336 := n14_; have NB337_363 := n15_; have NB363_337 := n16_; have NB351_363 := n17_; have NB363_351 := n18_; clear n0_ n1_ n2_ n3_ n4_ n5_ n6_ n7_ n8_ n9_ n10_ n11_ n12_ n13_ n14_ n15_ n16_ n17_ n18_; clear hb hbox hg; obtain ⟨Ao29, co29, eo29⟩ := Kd.R_slice HO354.out; subst eo29; have hnb30 := NB363_336.out; have hnc30 := NB336_363.out; have hnb31 := NB363_337.out; have hnc31 := NB337_363.out; have hnb32 := NB363_351.out; have hnc32 := NB351_363.out; have hcz33_0 : w28.cell? ⟨gb363, 0, none⟩ = some (.slice none 0 0) := (blk_cell BK363.out 0).trans rfl; have hcz33_1 : w28.cell? ⟨gb363, 1, none⟩ = some (.slice none 0 0) := (blk_cell BK363.out 1).trans rfl; have hcz33_2 : w28.cell? ⟨gb363, 2, none⟩ = some (.slice none 0 0) := (blk_cell BK363.out 2).trans rfl; have hcz33_3 : w28.cell? ⟨gb363, 3, none⟩ = some (.int .i64 0) := (blk_cell BK363.out 3).trans rfl; have hfz33_0 := blk_frozen BK363.out 0; have hfz33_1 := blk_frozen BK363.out 1; have hfz33_2 := blk_frozen BK363.out 2; have hfz33_3 := blk_frozen BK363.out 3; obtain ⟨Ao34, co34, eo34⟩ := Kd.R_slice HO357.out; subst eo34; obtain ⟨Ao35, co35, eo35⟩ := Kd.R_slice HO360.out; subst eo35; have hcz36_0 : w28.cell? ⟨gb336, 0, none⟩ = some (.slice A0_0 l0_0.length c0_0) := (blk_cell BK336.out 0).trans rfl; have hcz36_1 : w28.cell? ⟨gb336, 1, none⟩ = some (.slice A0_1 l0_1.length c0_1) := (blk_cell BK336.out 1).trans rfl; have hcz36_2 : w28.cell? ⟨gb336, 2, none⟩ = some (.slice A0_2 l0_2.length c0_2) := (blk_cell BK336.out 2).trans rfl; have hcz36_3 : w28.cell? ⟨gb336, 3, none⟩ = some (.int .i64 a0_3) := (blk_cell BK336.out 3).trans rfl; have hfz36_0 := blk_frozen BK336.out 0; have hfz36_1 := blk_frozen BK336.out 1; have hfz36_2 := blk_frozen BK336.out 2; have hfz36_3 := blk_frozen BK336.out 3; have hcz37_0 : w28.cell? ⟨gb337, 0, none⟩ = some (.int .i64 a1_0) := (blk_cell BK337.out 0).trans rfl; have hcz37_1 : w28.cell? ⟨gb337, 1, none⟩ = some (.int .i64 a1_1) := (blk_cell BK337.out 1).trans rfl; have hfz37_0 := blk_frozen BK337.out 0; have hfz37_1 := blk_frozen BK337.out 1) | ((with_reducible refine gate_callee (f := 32) rfl ?_); refine goesL_ (some 43) rfl rfl Try.func32 (by kernel_rfl) rfl #[.agg #[.slice A0_0 l0_0.length c0_0, .slice A0_1 l0_1.length c0_1, .slice A0_2 l0_2.length c0_2, .int .i64 a0_3], .int .i64 a1_0, .int .i64 a1_1] rfl (by (try simp only [List.map_toArray, List.map_cons, List.map_nil]); (rfl)) ?_; (with_reducible refine (quietusref10_Sell.calls k _ _ l0_0 _ _ l0_1 _ _ l0_2 a0_3 a1_0 a1_1 t364 t367 t370 t373 t374 _ ?side1 ?side2 ?side3 ?side4 ?side5 ?side6 A7.out).mono ?_); (case side1 => exact Kd.C_below HR0_0.out (by repeat (with_reducible first | exact HB.out | refine zr_ ?_ GE363.out))); (case side2 => exact HC0_0.out); (case side3 => exact Kd.C_below HR0_1.out (by repeat (with_reducible first | exact HB.out | refine zr_ ?_ GE363.out))); (case side4 => exact HC0_1.out); (case side5 => exact Kd.C_below HR0_2.out (by repeat (with_reducible first | exact HB.out | refine zr_ ?_ GE363.out))); (case side6 => exact HC0_2.out); rintro e w38 ⟨v365, v368, v371, rfl, ho0, ho1, ho2, hb⟩; refine ⟨_, rfl, ?_⟩; have n0_ := Aside0.mk (Kd.R_below (by exact (zd_ (ze_ (p := ⟨gb363, 3, none⟩) (ze_ (p := ⟨gb363, 2, none⟩) (ze_ (p := ⟨gb363, 1, none⟩) (ze_ (p := ⟨gb363, 0, none⟩) (zf_ HO342.out BK363.out (by decide)) (fun _ hk => hk.2) (.slice Ao29 t352.length co29)) (fun _ hk => hk.2) (.slice Ao34 t355.length co34)) (fun _ hk => hk.2) (.slice Ao35 t358.length co35)) (fun _ hk => hk.2) (.int .i64 t361)) (fun _ h_ => (h_.1)))) hb); have n1_ := Aside0.mk (Kd.R_below (by exact (zd_ (ze_ (p := ⟨gb363, 3, none⟩) (ze_ (p := ⟨gb363, 2, none⟩) (ze_ (p := ⟨gb363, 1, none⟩) (ze_ (p := ⟨gb363, 0, none⟩) (zf_ HO345.out BK363.out (by decide)) (fun _ hk => hk.2) (.slice Ao29 t352.length co29)) (fun _ hk => hk.2) (.slice Ao34 t355.length co34)) (fun _ hk => hk.2) (.slice Ao35 t358.length co35)) (fun _ hk => hk.2) (.int .i64 t361)) (fun _ h_ => (h_.1)))) hb); have n2_ := Aside0.mk (Kd.R_below (by exact (zd_ (ze_ (p := ⟨gb363, 3, none⟩) (ze_ (p := ⟨gb363, 2, none⟩) (ze_ (p := ⟨gb363, 1, none⟩) (ze_ (p := ⟨gb363, 0, none⟩) (zf_ HO348.out BK363.out (by decide)) (fun _ hk => hk.2) (.slice Ao29 t352.length co29)) (fun _ hk => hk.2) (.slice Ao34 t355.length co34)) (fun _ hk => hk.2) (.slice Ao35 t358.length co35)) (fun _ hk => hk.2) (.int .i64 t361)) (fun _ h_ => (h_.1)))) hb); have n3_ := Aside0.mk (Kd.R_below (by exact (zd_ (ze_ (p := ⟨gb363, 3, none⟩) (ze_ (p := ⟨gb363, 2, none⟩) (ze_ (p := ⟨gb363, 1, none⟩) (ze_ (p := ⟨gb363, 0, none⟩) (zf_ HO354.out BK363.out (by decide)) (fun _ hk => hk.2) (.slice Ao29 t352.length co29)) (fun _ hk => hk.2) (.slice Ao34 t355.length co34)) (fun _ hk => hk.2) (.slice Ao35 t358.length co35)) (fun _ hk => hk.2) (.int .i64 t361)) (fun _ h_ => (h_.1)))) hb); have n4_ := Aside0.mk (Kd.R_below (by exact (zd_ (ze_ (p := ⟨gb363, 3, none⟩) (ze_ (p := ⟨gb363, 2, none⟩) (ze_ (p := ⟨gb363, 1, none⟩) (ze_ (p := ⟨gb363, 0, none⟩) (zf_ HO357.out BK363.out (by decide)) (fun _ hk => hk.2) (.slice Ao29 t352.length co29)) (fun _ hk => hk.2) (.slice Ao34 t355.length co34)) (fun _ hk => hk.2) (.slice Ao35 t358.length co35)) (fun _ hk => hk.2) (.int .i64 t361)) (fun _ h_ => (h_.1)))) hb); have n5_ := Aside0.mk (Kd.R_below (by exact (zd_ (ze_ (p := ⟨gb363, 3, none⟩) (ze_ (p := ⟨gb363, 2, none⟩) (ze_ (p := ⟨gb363, 1, none⟩) (ze_ (p := ⟨gb363, 0, none⟩) (zf_ HO360.out BK363.out (by decide)) (fun _ hk => hk.2) (.slice Ao29 t352.length co29)) (fun _ hk => hk.2) (.slice Ao34 t355.length co34)) (fun _ hk => hk.2) (.slice Ao35 t358.length co35)) (fun _ hk => hk.2) (.int .i64 t361)) (fun _ h_ => (h_.1)))) hb); have n6_ := Aside0.mk (zg_ ho0 (zw_ (by repeat (with_reducible first | exact HB.out | refine zr_ ?_ GE363.out)))); have n7_ := Aside0.mk (zg_ ho1 (zw_ (by repeat (with_reducible first | exact HB.out | refine zr_ ?_ GE363.out)))); have n8_ := Aside0.mk (zg_ ho2 (zw_ (by repeat (with_reducible first | exact HB.out | refine zr_ ?_ GE363.out)))); have n9_ := Aside0.mk (zq_ (g := gb336) (o := .cells #[.slice A0_0 l0_0.length c0_0, .slice A0_1 l0_1.length c0_1, .slice A0_2 l0_2.length c0_2, .int .i64 a0_3] 25 (0, 0)) (by refine zp_ ?_ NB336_363.out _; refine zp_ ?_ NB336_363.out _; refine zp_ ?_ NB336_363.out _; refine zp_ ?_ NB336_363.out _; exact BK336.out) hb); have n10_ := Aside0.mk (zq_ (g := gb337) (o := .cells #[.int .i64 a1_0, .int .i64 a1_1] 44 (0, 0)) (by refine zp_ ?_ NB337_363.out _; refine zp_ ?_ NB337_363.out _; refine zp_ ?_ NB337_363.out _; refine zp_ ?_ NB337_363.out _; exact BK337.out) hb); have n11_ := Aside0.mk (zq_ (g := gb351) (o := .cells #[.slice Ao19 t340.length co19, .slice Ao23 t343.length co23, .slice Ao24 t346.length co24, .int .i64 t349] 25 (0, 0)) (by refine zp_ ?_ NB351_363.out _; refine zp_ ?_ NB351_363.out _; refine zp_ ?_ NB351_363.out _; refine zp_ ?_ NB351_363.out _; exact BK351.out) hb); have n12_ := Aside0.mk (zq_ (g := gb363) (o := .cells #[.slice Ao29 t352.length co29, .slice Ao34 t355.length co34, .slice Ao35 t358.length co35, .int .i64 t361] 25 (0, 0)) (by refine blk_put (cs := #[.slice Ao29 t352.length co29, .slice Ao34 t355.length co34, .slice Ao35 t358.length co35, .int .i64 0]) ?_ 3 _ rfl; refine blk_put (cs := #[.slice Ao29 t352.length co29, .slice Ao34 t355.length co34, .slice none 0 0, .int .i64 0]) ?_ 2 _ rfl; refine blk_put (cs := #[.slice Ao29 t352.length co29, .slice none 0 0, .slice none 0 0, .int .i64 0]) ?_ 1 _ rfl; refine blk_put (cs := #[.slice none 0 0, .slice none 0 0, .slice none 0 0, .int .i64 0]) ?_ 0 _ rfl; exact BK363.out) hb); have n13_ := Aside0.mk (zv_ (by repeat (with_reducible first | exact HB.out | refine zr_ ?_ GE363.out)) hb); clear HO342 HO345 HO348 HO354 HO357 HO360 BK336 BK337 BK351 BK363 HB; have HO342 := n0_; have HO345 := n1_; have HO348 := n2_; have HO354 := n3_; have HO357 := n4_; have HO360 := n5_; have HO366 := n6_; have HO369 := n7_; have HO372 := n8_; have BK336 := n9_; have BK337 := n10_; have BK351 := n11_; have BK363 := n12_; have HB := n13_; clear n0_ n1_ n2_ n3_ n4_ n5_ n6_ n7_ n8_ n9_ n10_ n11_ n12_ n13_; (try clear hb); (try clear hb2); (try clear hk); (try clear hi); (try clear ho0); (try clear ho1); (try clear ho2)) | ((with_reducible refine gate_dst (N := 10) rfl ?_); refine box_event ?hg (N := 10) ?hd (cs := #[.slice none 0 0, .slice none 0 0, .slice none 0 0, .int .i64 0, .int .i64 0]) (t := 48) ?hr ?_; (case hd => rfl); (case hg => rfl); (case hr => (go_simp; done)); intro gb375 hg w39 hbox hb; have n0_ := Aside0.mk (Kd.R_below HO342.out hb); have n1_ := Aside0.mk (Kd.R_below HO345.out hb); have n2_ := Aside0.mk (Kd.R_below HO348.out hb); have n3_ := Aside0.mk (Kd.R_below HO354.out hb); have n4_ := Aside0.mk (Kd.R_below HO357.out hb); have n5_ := Aside0.mk (Kd.R_below HO360.out hb); have n6_ := Aside0.mk (Kd.R_below HO366.out hb); have n7_ := Aside0.mk (Kd.R_below HO369.out hb); have n8_ := Aside0.mk (Kd.R_below HO372.out hb); have n9_ := Aside0.mk (zq_ (g := gb336) (o := .cells #[.slice A0_0 l0_0.length c0_0, .slice A0_1 l0_1.length c0_1, .slice A0_2 l0_2.length c0_2, .int .i64 a0_3] 25 (0, 0)) BK336.out hb); have n10_ := Aside0.mk (zq_ (g := gb337) (o := .cells #[.int .i64 a1_0, .int .i64 a1_1] 44 (0, 0)) BK337.out hb); have n11_ := Aside0.mk (zq_ (g := gb351) (o := .cells #[.slice Ao19 t340.length co19, .slice Ao23 t343.length co23, .slice Ao24 t346.length co24, .int .i64 t349] 25 (0, 0)) BK351.out hb); have n12_ := Aside0.mk (zq_ (g := gb363) (o := .cells #[.slice Ao29 t352.length co29, .slice Ao34 t355.length co34, .slice Ao35 t358.length co35, .int .i64 t361] 25 (0, 0)) BK363.out hb); have n13_ := Aside0.mk (zv_ (by repeat (((with_reducible (exact HB.out))))) hb); have n14_ := Aside0.mk (hbox); have n15_ := Aside0.mk ((by rw [hg]; exact (zw_ (by repeat (((with_reducible (exact HB.out)))))) : w.heap.size ≤ gb375)); have n16_ := Aside0.mk ((by rw [hg]; exact (zw_ (by repeat (((with_reducible (exact HB.out)))))) : w.heap.size ≤ gb375)); have n17_ := Aside0.mk ((by rw [hg]; exact Nat.ne_of_lt (blk_lt (g := gb336) (o := .cells #[.slice A0_0 l0_0.length c0_0, .slice A0_1 l0_1.length c0_1, .slice A0_2 l0_2.length c0_2, .int .i64 a0_3] 25 (0, 0)) BK336.out) : gb336 ≠ gb375)); have n18_ := Aside0.mk ((by rw [hg]; exact Nat.ne_of_gt (blk_lt (g := gb336) (o := .cells #[.slice A0_0 l0_0.length c0_0, .slice A0_1 l0_1.length c0_1, .slice A0_2 l0_2.length c0_2, .int .i64 a0_3] 25 (0, 0)) BK336.out) : gb375 ≠ gb336)); have n19_ := Aside0.mk ((by rw [hg]; exact Nat.ne_of_lt (blk_lt (g := gb337) (o := .cells #[.int .i64 a1_0, .int .i64 a1_1] 44 (0, 0)) BK337.out) : gb337 ≠ gb375)); have n20_ := Aside0.mk ((by rw [hg]; exact Nat.ne_of_gt (blk_lt (g := gb337) (o := .cells #[.int .i64 a1_0, .int .i64 a1_1] 44 (0, 0)) BK337.out) : gb375 ≠ gb337)); have n21_ := Aside0.mk ((by rw [hg]; exact Nat.ne_of_lt (blk_lt (g := gb351) (o := .cells #[.slice Ao19 t340.length co19, .slice Ao23 t343.length co23, .slice Ao24 t346.length co24, .int .i64 t349] 25 (0, 0)) BK351.out) : gb351 ≠ gb375)); have n22_ := Aside0.mk ((by rw [hg]; exact Nat.ne_of_gt (blk_lt (g := gb351) (o := .cells #[.slice Ao19 t340.length co19, .slice Ao23 t343.length co23, .slice Ao24 t346.length co24, .int .i64 t349] 25 (0, 0)) BK351.out) : gb375 ≠ gb351)); have n23_ := Aside0.mk ((by rw [hg]; exact Nat.ne_of_lt (blk_lt (g := gb363) (o := .cells #[.slice Ao29 t352.length co29, .slice Ao34 t355.length co34, .slice Ao35 t358.length co35, .int .i64 t361] 25 (0, 0)) BK363.out) : gb363 ≠ gb375)); have n24_ := Aside0.mk ((by rw [hg]; exact Nat.ne_of_gt (blk_lt (g := gb363) (o := .cells #[.slice Ao29 t352.length co29, .slice Ao34 t355.length co34, .slice Ao35 t358.length co35, .int .i64 t361] 25 (0, 0)) BK363.out) : gb375 ≠ gb363)); clear HO342 HO345 HO348 HO354 HO357 HO360 HO366 HO369 HO372 BK336 BK337 BK351 BK363 HB; have HO342 := n0_; have HO345 := n1_; have HO348 := n2_; have HO354 := n3_; have HO357 := n4_; have HO360 := n5_; have HO366 := n6_; have HO369 := n7_; have HO372 := n8_; have BK336 := n9_; have BK337 := n10_; have BK351 := n11_; have BK363 := n12_; have HB := n13_; have BK375 := n14_; have GW375 := n15_; have GE375 := n16_; have NB336_375 := n17_; have NB375_336 := n18_; have NB337_375 := n19_; have NB375_337 := n20_; have NB351_375 := n21_; have NB375_351 := n22_; have NB363_375 := n23_; have NB375_363 := n24_; clear n0_ n1_ n2_ n3_ n4_ n5_ n6_ n7_ n8_ n9_ n10_ n11_ n12_ n13_ n14_ n15_ n16_ n17_ n18_ n19_ n20_ n21_ n22_ n23_ n24_; clear hb hbox hg; obtain ⟨Ao40, co40, eo40⟩ := Kd.R_slice HO366.out; subst eo40; have hnb41 := NB375_336.out; have hnc41 := NB336_375.out; have hnb42 := NB375_337.out; have hnc42 := NB337_375.out; have hnb43 := NB375_351.out; have hnc43 := NB351_375.out; have hnb44 := NB375_363.out; have hnc44 := NB363_375.out; have hcz45_0 : w39.cell? ⟨gb375, 0, none⟩ = some (.slice none 0 0) := (blk_cell BK375.out 0).trans rfl; have hcz45_1 : w39.cell? ⟨gb375, 1, none⟩ = some (.slice none 0 0) := (blk_cell BK375.out 1).trans rfl; have hcz45_2 : w39.cell? ⟨gb375, 2, none⟩ = some (.slice none 0 0) := (blk_cell BK375.out 2).trans rfl; have hcz45_3 : w39.cell? ⟨gb375, 3, none⟩ = some (.int .i64 0) := (blk_cell BK375.out 3).trans rfl; have hcz45_4 : w39.cell? ⟨gb375, 4, none⟩ = some (.int .i64 0) := (blk_cell BK375.out 4).trans rfl; have hfz45_0 := blk_frozen BK375.out 0; have hfz45_1 := blk_frozen BK375.out 1; have hfz45_2 := blk_frozen BK375.out 2; have hfz45_3 := blk_frozen BK375.out 3; have hfz45_4 := blk_frozen BK375.out 4; obtain ⟨Ao46, co46, eo46⟩ := Kd.R_slice HO369.out; subst eo46; obtain ⟨Ao47, co47, eo47⟩ := Kd.R_slice HO372.out; subst eo47; have hcz48_0 : w39.cell? ⟨gb336, 0, none⟩ = some (.slice A0_0 l0_0.length c0_0) := (blk_cell BK336.out 0).trans rfl; have hcz48_1 : w39.cell? ⟨gb336, 1, none⟩ = some (.slice A0_1 l0_1.length c0_1) := (blk_cell BK336.out 1).trans rfl; have hcz48_2 : w39.cell? ⟨gb336, 2, none⟩ = some (.slice A0_2 l0_2.length c0_2) := (blk_cell BK336.out 2).trans rfl; have hcz48_3 : w39.cell? ⟨gb336, 3, none⟩ = some (.int .i64 a0_3) := (blk_cell BK336.out 3).trans rfl; have hfz48_0 := blk_frozen BK336.out 0; have hfz48_1 := blk_frozen BK336.out 1; have hfz48_2 := blk_frozen BK336.out 2; have hfz48_3 := blk_frozen BK336.out 3; have hcz49_0 : w39.cell? ⟨gb337, 0, none⟩ = some (.int .i64 a1_0) := (blk_cell BK337.out 0).trans rfl; have hcz49_1 : w39.cell? ⟨gb337, 1, none⟩ = some (.int .i64 a1_1) := (blk_cell BK337.out 1).trans rfl; have hfz49_0 := blk_frozen BK337.out 0; have hfz49_1 := blk_frozen BK337.out 1) | ((with_reducible refine gate_callee (f := 33) rfl ?_); refine goesL_ (some 49) rfl rfl Try.func33 (by kernel_rfl) rfl #[.agg #[.slice A0_0 l0_0.length c0_0, .slice A0_1 l0_1.length c0_1, .slice A0_2 l0_2.length c0_2, .int .i64 a0_3], .int .i64 a1_0, .int .i64 a1_1] rfl (by (try simp only [List.map_toArray, List.map_cons, List.map_nil]); (rfl)) ?_; (with_reducible refine (quietusref10_Ship.calls k _ _ l0_0 _ _ l0_1 _ _ l0_2 a0_3 a1_0 a1_1 t376 t379 t382 t385 t386 _ ?side1 ?side2 ?side3 ?side4 ?side5 ?side6 A8.out).mono ?_); (case side1 => exact Kd.C_below HR0_0.out (by repeat (with_reducible first | exact HB.out | refine zr_ ?_ GE375.out))); (case side2 => exact HC0_0.out); (case side3 => exact Kd.C_below HR0_1.out (by repeat (with_reducible first | exact HB.out | refine zr_ ?_ GE375.out))); (case side4 => exact HC0_1.out); (case side5 => exact Kd.C_below HR0_2.out (by repeat (with_reducible first | exact HB.out | refine zr_ ?_ GE375.out))); (case side6 => exact HC0_2.out); rintro e w50 ⟨v377, v380, v383, rfl, ho0, ho1, ho2, hb⟩; refine ⟨_, rfl, ?_⟩; have n0_ := Aside0.mk (Kd.R_below (by exact (zd_ (ze_ (p := ⟨gb375, 4, none⟩) (ze_ (p := ⟨gb375, 3, none⟩) (ze_ (p := ⟨gb375, 2, none⟩) (ze_ (p := ⟨gb375, 1, none⟩) (ze_ (p := ⟨gb375, 0, none⟩) (zf_ HO342.out BK375.out (by decide)) (fun _ hk => hk.2) (.slice Ao40 t364.length co40)) (fun _ hk => hk.2) (.slice Ao46 t367.length co46)) (fun _ hk => hk.2) (.slice Ao47 t370.length co47)) (fun _ hk => hk.2) (.int .i64 t373)) (fun _ hk => hk.2) (.int .i64 t374)) (fun _ h_ => (h_.1)))) hb); have n1_ := Aside0.mk (Kd.R_below (by exact (zd_ (ze_ (p := ⟨gb375, 4, none⟩) (ze_ (p := ⟨gb375, 3, none⟩) (ze_ (p := ⟨gb375, 2, none⟩) (ze_ (p := ⟨gb375, 1, none⟩) (ze_ (p := ⟨gb375, 0, none⟩) (zf_ HO345.out BK375.out (by decide)) (fun _ hk => hk.2) (.slice Ao40 t364.length co40)) (fun _ hk => hk.2) (.slice Ao46 t367.length co46)) (fun _ hk => hk.2) (.slice Ao47 t370.length co47)) (fun _ hk => hk.2) (.int .i64 t373)) (fun _ hk => hk.2) (.int .i64 t374)) (fun _ h_ => (h_.1)))) hb); have n2_ := Aside0.mk (Kd.R_below (by exact (zd_ (ze_ (p := ⟨gb375, 4, none⟩) (ze_ (p := ⟨gb375, 3, none⟩) (ze_ (p := ⟨gb375, 2, none⟩) (ze_ (p := ⟨gb375, 1, none⟩) (ze_ (p := ⟨gb375, 0, none⟩) (zf_ HO348.out BK375.out (by decide)) (fun _ hk => hk.2) (.slice Ao40 t364.length co40)) (fun _ hk => hk.2) (.slice Ao46 t367.length co46)) (fun _ hk => hk.2) (.slice Ao47 t370.length co47)) (fun _ hk => hk.2) (.int .i64 t373)) (fun _ hk => hk.2) (.int .i64 t374)) (fun _ h_ => (h_.1)))) hb); have n3_ := Aside0.mk (Kd.R_below (by exact (zd_ (ze_ (p := ⟨gb375, 4, none⟩) (ze_ (p := ⟨gb375, 3, none⟩) (ze_ (p := ⟨gb375, 2, none⟩) (ze_ (p := ⟨gb375, 1, none⟩) (ze_ (p := ⟨gb375, 0, none⟩) (zf_ HO354.out BK375.out (by decide)) (fun _ hk => hk.2) (.slice Ao40 t364.length co40)) (fun _ hk => hk.2) (.slice Ao46 t367.length co46)) (fun _ hk => hk.2) (.slice Ao47 t370.length co47)) (fun _ hk => hk.2) (.int .i64 t373)) (fun _ hk => hk.2) (.int .i64 t374)) (fun _ h_ => (h_.1)))) hb); have n4_ := Aside0.mk (Kd.R_below (by exact (zd_ (ze_ (p := ⟨gb375, 4, none⟩) (ze_ (p := ⟨gb375, 3, none⟩) (ze_ (p := ⟨gb375, 2, none⟩) (ze_ (p := ⟨gb375, 1, none⟩) (ze_ (p := ⟨gb375, 0, none⟩) (zf_ HO357.out BK375.out (by decide)) (fun _ hk => hk.2) (.slice Ao40 t364.length co40)) (fun _ hk => hk.2) (.slice Ao46 t367.length co46)) (fun _ hk => hk.2) (.slice Ao47 t370.length co47)) (fun _ hk => hk.2) (.int .i64 t373)) (fun _ hk => hk.2) (.int .i64 t374)) (fun _ h_ => (h_.1)))) hb); have n5_ := Aside0.mk (Kd.R_below (by exact (zd_ (ze_ (p := ⟨gb375, 4, none⟩) (ze_ (p := ⟨gb375, 3, none⟩) (ze_ (p := ⟨gb375, 2, none⟩) (ze_ (p := ⟨gb375, 1, none⟩) (ze_ (p := ⟨gb375, 0, none⟩) (zf_ HO360.out BK375.out (by decide)) (fun _ hk => hk.2) (.slice Ao40 t364.length co40)) (fun _ hk => hk.2) (.slice Ao46 t367.length co46)) (fun _ hk => hk.2) (.slice Ao47 t370.length co47)) (fun _ hk => hk.2) (.int .i64 t373)) (fun _ hk => hk.2) (.int .i64 t374)) (fun _ h_ => (h_.1)))) hb); have n6_ := Aside0.mk (Kd.R_below (by exact (zd_ (ze_ (p := ⟨gb375, 4, none⟩) (ze_ (p := ⟨gb375, 3, none⟩) (ze_ (p := ⟨gb375, 2, none⟩) (ze_ (p := ⟨gb375, 1, none⟩) (ze_ (p := ⟨gb375, 0, none⟩) (zf_ HO366.out BK375.out (by decide)) (fun _ hk => hk.2) (.slice Ao40 t364.length co40)) (fun _ hk => hk.2) (.slice Ao46 t367.length co46)) (fun _ hk => hk.2) (.slice Ao47 t370.length co47)) (fun _ hk => hk.2) (.int .i64 t373)) (fun _ hk => hk.2) (.int .i64 t374)) (fun _ h_ => (h_.1)))) hb); have n7_ := Aside0.mk (Kd.R_below (by exact (zd_ (ze_ (p := ⟨gb375, 4, none⟩) (ze_ (p := ⟨gb375, 3, none⟩) (ze_ (p := ⟨gb375, 2, none⟩) (ze_ (p := ⟨gb375, 1, none⟩) (ze_ (p := ⟨gb375, 0, none⟩) (zf_ HO369.out BK375.out (by decide)) (fun _ hk => hk.2) (.slice Ao40 t364.length co40)) (fun _ hk => hk.2) (.slice Ao46 t367.length co46)) (fun _ hk => hk.2) (.slice Ao47 t370.length co47)) (fun _ hk => hk.2) (.int .i64 t373)) (fun _ hk => hk.2) (.int .i64 t374)) (fun _ h_ => (h_.1)))) hb); have n8_ := Aside0.mk (Kd.R_below (by exact (zd_ (ze_ (p := ⟨gb375, 4, none⟩) (ze_ (p := ⟨gb375, 3, none⟩) (ze_ (p := ⟨gb375, 2, none⟩) (ze_ (p := ⟨gb375, 1, none⟩) (ze_ (p := ⟨gb375, 0, none⟩) (zf_ HO372.out BK375.out (by decide)) (fun _ hk => hk.2) (.slice Ao40 t364.length co40)) (fun _ hk => hk.2) (.slice Ao46 t367.length co46)) (fun _ hk => hk.2) (.slice Ao47 t370.length co47)) (fun _ hk => hk.2) (.int .i64 t373)) (fun _ hk => hk.2) (.int .i64 t374)) (fun _ h_ => (h_.1)))) hb); have n9_ := Aside0.mk (zg_ ho0 (zw_ (by repeat (with_reducible first | exact HB.out | refine zr_ ?_ GE375.out)))); have n10_ := Aside0.mk (zg_ ho1 (zw_ (by repeat (with_reducible first | exact HB.out | refine zr_ ?_ GE375.out)))); have n11_ := Aside0.mk (zg_ ho2 (zw_ (by repeat (with_reducible first | exact HB.out | refine zr_ ?_ GE375.out)))); have n12_ := Aside0.mk (zq_ (g := gb336) (o := .cells #[.slice A0_0 l0_0.length c0_0, .slice A0_1 l0_1.length c0_1, .slice A0_2 l0_2.length c0_2, .int .i64 a0_3] 25 (0, 0)) (by refine zp_ ?_ NB336_375.out _; refine zp_ ?_ NB336_375.out _; refine zp_ ?_ NB336_375.out _; refine zp_ ?_ NB336_375.out _; refine zp_ ?_ NB336_375.out _; exact BK336.out) hb); have n13_ := Aside0.mk (zq_ (g := gb337) (o := .cells #[.int .i64 a1_0, .int .i64 a1_1] 44 (0, 0)) (by refine zp_ ?_ NB337_375.out _; refine zp_ ?_ NB337_375.out _; refine zp_ ?_ NB337_375.out _; refine zp_ ?_ NB337_375.out _; refine zp_ ?_ NB337_375.out _; exact BK337.out) hb); have n14_ := Aside0.mk (zq_ (g := gb351) (o := .cells #[.slice Ao19 t340.length co19, .slice Ao23 t343.length co23, .slice Ao24 t346.length co24, .int .i64 t349] 25 (0, 0)) (by refine zp_ ?_ NB351_375.out _; refine zp_ ?_ NB351_375.out _; refine zp_ ?_ NB351_375.out _; refine zp_ ?_ NB351_375.out _; refine zp_ ?_ NB351_375.out _; exact BK351.out) hb); have n15_ := Aside0.mk (zq_ (g := gb363) (o := .cells #[.slice Ao29 t352.length co29, .slice Ao34 t355.length co34, .slice Ao35 t358.length co35, .int .i64 t361] 25 (0, 0)) (by refine zp_ ?_ NB363_375.out _; refine zp_ ?_ NB363_375.out _; refine zp_ ?_ NB363_375.out _; refine zp_ ?_ NB363_375.out _; refine zp_ ?_ NB363_375.out _; exact BK363.out) hb); have n16_ := Aside0.mk (zq_ (g := gb375) (o := .cells #[.slice Ao40 t364.length co40, .slice Ao46 t367.length co46, .slice Ao47 t370.length co47, .int .i64 t373, .int .i64 t374] 48 (0, 0)) (by refine blk_put (cs := #[.slice Ao40 t364.length co40, .slice Ao46 t367.length co46, .slice Ao47 t370.length co47, .int .i64 t373, .int .i64 0]) ?_ 4 _ rfl; refine blk_put (cs := #[.slice Ao40 t364.length co40, .slice Ao46 t367.length co46, .slice Ao47 t370.length co47, .int .i64 0, .int .i64 0]) ?_ 3 _ rfl; refine blk_put (cs := #[.slice Ao40 t364.length co40, .slice Ao46 t367.length co46, .slice none 0 0, .int .i64 0, .int .i64 0]) ?_ 2 _ rfl; refine blk_put (cs := #[.slice Ao40 t364.length co40, .slice none 0 0, .slice none 0 0, .int .i64 0, .int .i64 0]) ?_ 1 _ rfl; refine blk_put (cs := #[.slice none 0 0, .slice none 0 0, .slice none 0 0, .int .i64 0, .int .i64 0]) ?_ 0 _ rfl; exact BK375.out) hb); have n17_ := Aside0.mk (zv_ (by repeat (with_reducible first | exact HB.out | refine zr_ ?_ GE375.out)) hb); clear HO342 HO345 HO348 HO354 HO357 HO360 HO366 HO369 HO372 BK336 BK337 BK351 BK363 BK375 HB; have HO342 := n0_; have HO345 := n1_; have HO348 := n2_; have HO354 := n3_; have HO357 := n4_; have HO360 := n5_; have HO366 := n6_; have HO369 := n7_; have HO372 := n8_; have HO378 := n9_; have HO381 := n10_; have HO384 := n11_; have BK336 := n12_; have BK337 := n13_; have BK351 := n14_; have BK363 := n15_; have BK375 := n16_; have HB := n17_; clear n0_ n1_ n2_ n3_ n4_ n5_ n6_ n7_ n8_ n9_ n10_ n11_ n12_ n13_ n14_ n15_ n16_ n17_; (try clear hb); (try clear hb2); (try clear hk); (try clear hi); (try clear ho0); (try clear ho1); (try clear ho2)) | ((with_reducible refine gate_dst (N := 11) rfl ?_); refine box_event ?hg (N := 11) ?hd (cs := #[.slice none 0 0, .slice none 0 0, .slice none 0 0, .int .i64 0, .int .i64 0]) (t := 48) ?hr ?_; (case hd => rfl); (case hg => rfl); (case hr => (go_simp; done)); intro gb387 hg w51 hbox hb; have n0_ := Aside0.mk (Kd.R_below HO342.out hb); have n1_ := Aside0.mk (Kd.R_below HO345.out hb); have n2_ := Aside0.mk (Kd.R_below HO348.out hb); have n3_ := Aside0.mk (Kd.R_below HO354.out hb); have n4_ := Aside0.mk (Kd.R_below HO357.out hb); have n5_ := Aside0.mk (Kd.R_below HO360.out hb); have n6_ := Aside0.mk (Kd.R_below HO366.out hb); have n7_ := Aside0.mk (Kd.R_below HO369.out hb); have n8_ := Aside0.mk (Kd.R_below HO372.out hb); have n9_ := Aside0.mk (Kd.R_below HO378.out hb); have n10_ := Aside0.mk (Kd.R_below HO381.out hb); have n11_ := Aside0.mk (Kd.R_below HO384.out hb); have n12_ := Aside0.mk (zq_ (g := gb336) (o := .cells #[.slice A0_0 l0_0.length c0_0, .slice A0_1 l0_1.length c0_1, .slice A0_2 l0_2.length c0_2, .int .i64 a0_3] 25 (0, 0)) BK336.out hb); have n13_ := Aside0.mk (zq_ (g := gb337) (o := .cells #[.int .i64 a1_0, .int .i64 a1_1] 44 (0, 0)) BK337.out hb); have n14_ := Aside0.mk (zq_ (g := gb351) (o := .cells #[.slice Ao19 t340.length co19, .slice Ao23 t343.length co23, .slice Ao24 t346.length co24, .int .i64 t349] 25 (0, 0)) BK351.out hb); have n15_ := Aside0.mk (zq_ (g := gb363) (o := .cells #[.slice Ao29 t352.length co29, .slice Ao34 t355.length co34, .slice Ao35 t358.length co35, .int .i64 t361] 25 (0, 0)) BK363.out hb); have n16_ := Aside0.mk (zq_ (g := gb375) (o := .cells #[.slice Ao40 t364.length co40, .slice Ao46 t367.length co46, .slice Ao47 t370.length co47, .int .i64 t373, .int .i64 t374] 48 (0, 0)) BK375.out hb); have n17_ := Aside0.mk (zv_ (by repeat (((with_reducible (exact HB.out))))) hb); have n18_ := Aside0.mk (hbox); have n19_ := Aside0.mk ((by rw [hg]; exact (zw_ (by repeat (((with_reducible (exact HB.out)))))) : w.heap.size ≤ gb387)); have n20_ := Aside0.mk ((by rw [hg]; exact (zw_ (by repeat (((with_reducible (exact HB.out)))))) : w.heap.size ≤ gb387)); have n21_ := Aside0.mk ((by rw [hg]; exact Nat.ne_of_lt (blk_lt (g := gb336) (o := .cells #[.slice A0_0 l0_0.length c0_0, .slice A0_1 l0_1.length c0_1, .slice A0_2 l0_2.length c0_2, .int .i64 a0_3] 25 (0, 0)) BK336.out) : gb336 ≠ gb387)); have n22_ := Aside0.mk ((by rw [hg]; exact Nat.ne_of_gt (blk_lt (g := gb336) (o := .cells #[.slice A0_0 l0_0.length c0_0, .slice A0_1 l0_1.length c0_1, .slice A0_2 l0_2.length c0_2, .int .i64 a0_3] 25 (0, 0)) BK336.out) : gb387 ≠ gb336)); have n23_ := Aside0.mk ((by rw [hg]; exact Nat.ne_of_lt (blk_lt (g := gb337) (o := .cells #[.int .i64 a1_0, .int .i64 a1_1] 44 (0, 0)) BK337.out) : gb337 ≠ gb387)); have n24_ := Aside0.mk ((by rw [hg]; exact Nat.ne_of_gt (blk_lt (g := gb337) (o := .cells #[.int .i64 a1_0, .int .i64 a1_1] 44 (0, 0)) BK337.out) : gb387 ≠ gb337)); have n25_ := Aside0.mk ((by rw [hg]; exact Nat.ne_of_lt (blk_lt (g := gb351) (o := .cells #[.slice Ao19 t340.length co19, .slice Ao23 t343.length co23, .slice Ao24 t346.length co24, .int .i64 t349] 25 (0, 0)) BK351.out) : gb351 ≠ gb387)); have n26_ := Aside0.mk ((by rw [hg]; exact Nat.ne_of_gt (blk_lt (g := gb351) (o := .cells #[.slice Ao19 t340.length co19, .slice Ao23 t343.length co23, .slice Ao24 t346.length co24, .int .i64 t349] 25 (0, 0)) BK351.out) : gb387 ≠ gb351)); have n27_ := Aside0.mk ((by rw [hg]; exact Nat.ne_of_lt (blk_lt (g := gb363) (o := .cells #[.slice Ao29 t352.length co29, .slice Ao34 t355.length co34, .slice Ao35 t358.length co35, .int .i64 t361] 25 (0, 0)) BK363.out) : gb363 ≠ gb387)); have n28_ := Aside0.mk ((by rw [hg]; exact Nat.ne_of_gt (blk_lt (g := gb363) (o := .cells #[.slice Ao29 t352.length co29, .slice Ao34 t355.length co34, .slice Ao35 t358.length co35, .int .i64 t361] 25 (0, 0)) BK363.out) : gb387 ≠ gb363)); have n29_ := Aside0.mk ((by rw [hg]; exact Nat.ne_of_lt (blk_lt (g := gb375) (o := .cells #[.slice Ao40 t364.length co40, .slice Ao46 t367.length co46, .slice Ao47 t370.length co47, .int .i64 t373, .int .i64 t374] 48 (0, 0)) BK375.out) : gb375 ≠ gb387)); have n30_ := Aside0.mk ((by rw [hg]; exact Nat.ne_of_gt (blk_lt (g := gb375) (o := .cells #[.slice Ao40 t364.length co40, .slice Ao46 t367.length co46, .slice Ao47 t370.length co47, .int .i64 t373, .int .i64 t374] 48 (0, 0)) BK375.out) : gb387 ≠ gb375)); clear HO342 HO345 HO348 HO354 HO357 HO360 HO366 HO369 HO372 HO378 HO381 HO384 BK336 BK337 BK351 BK363 BK375 HB; have HO342 := n0_; have HO345 := n1_; have HO348 := n2_; have HO354 := n3_; have HO357 := n4_; have HO360 := n5_; have HO366 := n6_; have HO369 := n7_; have HO372 := n8_; have HO378 := n9_; have HO381 := n10_; have HO384 := n11_; have BK336 := n12_; have BK337 := n13_; have BK351 := n14_; have BK363 := n15_; have BK375 := n16_; have HB := n17_; have BK387 := n18_; have GW387 := n19_; have GE387 := n20_; have NB336_387 := n21_; have NB387_336 := n22_; have NB337_387 := n23_; have NB387_337 := n24_; have NB351_387 := n25_; have NB387_351 := n26_; have NB363_387 := n27_; have NB387_363 := n28_; have NB375_387 := n29_; have NB387_375 := n30_; clear n0_ n1_ n2_ n3_ n4_ n5_ n6_ n7_ n8_ n9_ n10_ n11_ n12_ n13_ n14_ n15_ n16_ n17_ n18_ n19_ n20_ n21_ n22_ n23_ n24_ n25_ n26_ n27_ n28_ n29_ n30_; clear hb hbox hg; obtain ⟨Ao52, co52, eo52⟩ := Kd.R_slice HO378.out; subst eo52; have hnb53 := NB387_336.out; have hnc53 := NB336_387.out; have hnb54 := NB387_337.out; have hnc54 := NB337_387.out; have hnb55 := NB387_351.out; have hnc55 := NB351_387.out; have hnb56 := NB387_363.out; have hnc56 := NB363_387.out; have hnb57 := NB387_375.out; have hnc57 := NB375_387.out; have hcz58_0 : w51.cell? ⟨gb387, 0, none⟩ = some (.slice none 0 0) := (blk_cell BK387.out 0).trans rfl; have hcz58_1 : w51.cell? ⟨gb387, 1, none⟩ = some (.slice none 0 0) := (blk_cell BK387.out 1).trans rfl; have hcz58_2 : w51.cell? ⟨gb387, 2, none⟩ = some (.slice none 0 0) := (blk_cell BK387.out 2).trans rfl; have hcz58_3 : w51.cell? ⟨gb387, 3, none⟩ = some (.int .i64 0) := (blk_cell BK387.out 3).trans rfl; have hcz58_4 : w51.cell? ⟨gb387, 4, none⟩ = some (.int .i64 0) := (blk_cell BK387.out 4).trans rfl; have hfz58_0 := blk_frozen BK387.out 0; have hfz58_1 := blk_frozen BK387.out 1; have hfz58_2 := blk_frozen BK387.out 2; have hfz58_3 := blk_frozen BK387.out 3; have hfz58_4 := blk_frozen BK387.out 4; obtain ⟨Ao59, co59, eo59⟩ := Kd.R_slice HO381.out; subst eo59; obtain ⟨Ao60, co60, eo60⟩ := Kd.R_slice HO384.out; subst eo60))
  (try simp only [Act.put, zA_, zB_, zC_])
  go_cut [73] (fun v73 wc => ∃ (kq : Nat) (x73_8 : Bool), v73 = .bool x73_8 ∧ Aside0 (quietuslaw10_DomainsChange.j0 kq t350 t362 x73_8 l0_0 l0_1 l0_2 a0_3 a1_0 a1_1 t340 t343 t346 t349 t352 t355 t358 t361 = some r) ∧ Aside0 (kq ≤ k) ∧ Aside0 (Kd.R (Kd.int .i64) 3 wc w.heap.size (fun _ => True) (.slice Ao19 t340.length co19) t340) ∧ Aside0 (Kd.R k117 117 wc w.heap.size (fun _ => True) (.slice Ao23 t343.length co23) t343) ∧ Aside0 (Kd.R (Kd.int .i64) 3 wc w.heap.size (fun _ => True) (.slice Ao24 t346.length co24) t346) ∧ Aside0 (Kd.R (Kd.int .i64) 3 wc w.heap.size (fun _ => True) (.slice Ao29 t352.length co29) t352) ∧ Aside0 (Kd.R k117 117 wc w.heap.size (fun _ => True) (.slice Ao34 t355.length co34) t355) ∧ Aside0 (Kd.R (Kd.int .i64) 3 wc w.heap.size (fun _ => True) (.slice Ao35 t358.length co35) t358) ∧ Aside0 (Kd.R (Kd.int .i64) 3 wc w.heap.size (fun _ => True) (.slice Ao40 t364.length co40) t364) ∧ Aside0 (Kd.R k117 117 wc w.heap.size (fun _ => True) (.slice Ao46 t367.length co46) t367) ∧ Aside0 (Kd.R (Kd.int .i64) 3 wc w.heap.size (fun _ => True) (.slice Ao47 t370.length co47) t370) ∧ Aside0 (Kd.R (Kd.int .i64) 3 wc w.heap.size (fun _ => True) (.slice Ao52 t376.length co52) t376) ∧ Aside0 (Kd.R k117 117 wc w.heap.size (fun _ => True) (.slice Ao59 t379.length co59) t379) ∧ Aside0 (Kd.R (Kd.int .i64) 3 wc w.heap.size (fun _ => True) (.slice Ao60 t382.length co60) t382) ∧ Aside0 (wc.heap[gb336]? = some (.cells #[(.slice A0_0 l0_0.length c0_0), (.slice A0_1 l0_1.length c0_1), (.slice A0_2 l0_2.length c0_2), .int .i64 a0_3] 25 (0, 0))) ∧ Aside0 (wc.heap[gb337]? = some (.cells #[.int .i64 a1_0, .int .i64 a1_1] 44 (0, 0))) ∧ Aside0 (wc.heap[gb351]? = some (.cells #[(.slice Ao19 t340.length co19), (.slice Ao23 t343.length co23), (.slice Ao24 t346.length co24), .int .i64 t349] 25 (0, 0))) ∧ Aside0 (wc.heap[gb363]? = some (.cells #[(.slice Ao29 t352.length co29), (.slice Ao34 t355.length co34), (.slice Ao35 t358.length co35), .int .i64 t361] 25 (0, 0))) ∧ Aside0 (wc.heap[gb375]? = some (.cells #[(.slice Ao40 t364.length co40), (.slice Ao46 t367.length co46), (.slice Ao47 t370.length co47), .int .i64 t373, .int .i64 t374] 48 (0, 0))) ∧ Aside0 (wc.heap[gb387]? = some (.cells #[(.slice Ao52 t376.length co52), (.slice Ao59 t379.length co59), (.slice Ao60 t382.length co60), .int .i64 t385, .int .i64 t386] 48 (0, 0))) ∧ Aside0 (Below w.heap.size w wc))
  case first =>
   have H := HC9.out
   clear HC9
   by_cases c61 : t350 = t374
   ·rw [if_pos c61] at H
    have c61b0 : (t350 == t374) = true := beq_iff_eq.mpr c61
    have c61b1 : (t350 != t374) = false := bne_eq_false_iff_eq.mpr c61
    clear c61
    (skip)
    by_cases c62 : t362 = t386
    ·rw [if_pos c62] at H
     have c62b0 : (t362 == t386) = true := beq_iff_eq.mpr c62
     have c62b1 : (t362 != t386) = false := bne_eq_false_iff_eq.mpr c62
     clear c62
     replace H := Option.bind_eq_some_iff.mp H
     obtain ⟨t388, A630, H⟩ := H
     replace H : (if t388 = true then ((quietusref10_Same.f k t352 t355 t358 t361 t376 t379 t382 t385).bind fun t389 => (quietuslaw10_DomainsChange.j0 k t350 t362 (!t389) l0_0 l0_1 l0_2 a0_3 a1_0 a1_1 t340 t343 t346 t349 t352 t355 t358 t361)) else (none)) = some r := H
     have A63 := Aside0.mk A630
     clear A630
     by_cases c64 : t388 = true
     ·subst c64
      have H1 : ((quietusref10_Same.f k t352 t355 t358 t361 t376 t379 t382 t385).bind fun t389 => (quietuslaw10_DomainsChange.j0 k t350 t362 (!t389) l0_0 l0_1 l0_2 a0_3 a1_0 a1_1 t340 t343 t346 t349 t352 t355 t358 t361)) = some r := by rw [if_pos rfl] at H; exact H
      clear H
      have H := H1
      clear H1
      replace H := Option.bind_eq_some_iff.mp H
      obtain ⟨t389, A650, H⟩ := H
      replace H : (quietuslaw10_DomainsChange.j0 k t350 t362 (!t389) l0_0 l0_1 l0_2 a0_3 a1_0 a1_1 t340 t343 t346 t349 t352 t355 t358 t361) = some r := H
      have A65 := Aside0.mk A650
      clear A650
      have H' := Aside0.mk H
      clear H
      have hnb66 := NB375_336.out
      have hnc66 := NB336_375.out
      have hnb67 := NB375_337.out
      have hnc67 := NB337_375.out
      have hnb68 := NB375_351.out
      have hnc68 := NB351_375.out
      have hnb69 := NB375_363.out
      have hnc69 := NB363_375.out
      have hnb70 := NB375_387.out
      have hnc70 := NB387_375.out
      have hcz71_0 : w51.cell? ⟨gb375, 0, none⟩ = some (.slice Ao40 t364.length co40) := (blk_cell BK375.out 0).trans rfl
      have hcz71_1 : w51.cell? ⟨gb375, 1, none⟩ = some (.slice Ao46 t367.length co46) := (blk_cell BK375.out 1).trans rfl
      have hcz71_2 : w51.cell? ⟨gb375, 2, none⟩ = some (.slice Ao47 t370.length co47) := (blk_cell BK375.out 2).trans rfl
      have hcz71_3 : w51.cell? ⟨gb375, 3, none⟩ = some (.int .i64 t373) := (blk_cell BK375.out 3).trans rfl
      have hcz71_4 : w51.cell? ⟨gb375, 4, none⟩ = some (.int .i64 t374) := (blk_cell BK375.out 4).trans rfl
      have hfz71_0 := blk_frozen BK375.out 0
      have hfz71_1 := blk_frozen BK375.out 1
      have hfz71_2 := blk_frozen BK375.out 2
      have hfz71_3 := blk_frozen BK375.out 3
      have hfz71_4 := blk_frozen BK375.out 4
      have hnb72 := NB387_336.out
      have hnc72 := NB336_387.out
      have hnb73 := NB387_337.out
      have hnc73 := NB337_387.out
      have hnb74 := NB387_351.out
      have hnc74 := NB351_387.out
      have hnb75 := NB387_363.out
      have hnc75 := NB363_387.out
      have hcz76_0 : w51.cell? ⟨gb387, 0, none⟩ = some (.slice none 0 0) := (blk_cell BK387.out 0).trans rfl
      have hcz76_1 : w51.cell? ⟨gb387, 1, none⟩ = some (.slice none 0 0) := (blk_cell BK387.out 1).trans rfl
      have hcz76_2 : w51.cell? ⟨gb387, 2, none⟩ = some (.slice none 0 0) := (blk_cell BK387.out 2).trans rfl
      have hcz76_3 : w51.cell? ⟨gb387, 3, none⟩ = some (.int .i64 0) := (blk_cell BK387.out 3).trans rfl
      have hcz76_4 : w51.cell? ⟨gb387, 4, none⟩ = some (.int .i64 0) := (blk_cell BK387.out 4).trans rfl
      have hfz76_0 := blk_frozen BK387.out 0
      have hfz76_1 := blk_frozen BK387.out 1
      have hfz76_2 := blk_frozen BK387.out 2
      have hfz76_3 := blk_frozen BK387.out 3
      have hfz76_4 := blk_frozen BK387.out 4
      have hnb77 := NB351_336.out
      have hnc77 := NB336_351.out
      have hnb78 := NB351_337.out
      have hnc78 := NB337_351.out
      have hnb79 := NB351_363.out
      have hnc79 := NB363_351.out
      have hcz80_0 : w51.cell? ⟨gb351, 0, none⟩ = some (.slice Ao19 t340.length co19) := (blk_cell BK351.out 0).trans rfl
      have hcz80_1 : w51.cell? ⟨gb351, 1, none⟩ = some (.slice Ao23 t343.length co23) := (blk_cell BK351.out 1).trans rfl
      have hcz80_2 : w51.cell? ⟨gb351, 2, none⟩ = some (.slice Ao24 t346.length co24) := (blk_cell BK351.out 2).trans rfl
      have hcz80_3 : w51.cell? ⟨gb351, 3, none⟩ = some (.int .i64 t349) := (blk_cell BK351.out 3).trans rfl
      have hfz80_0 := blk_frozen BK351.out 0
      have hfz80_1 := blk_frozen BK351.out 1
      have hfz80_2 := blk_frozen BK351.out 2
      have hfz80_3 := blk_frozen BK351.out 3
      go_wp2_with (first | (go_at_call 34; (with_reducible refine (quietusref10_Same.calls k _ _ t340 _ _ t343 _ _ t346 t349 _ _ t364 _ _ t367 _ _ t370 t373 true _ ?side1 ?side2 ?side3 ?side4 ?side5 ?side6 ?side7 ?side8 ?side9 ?side10 ?side11 ?side12 A63.out).mono ?_); (case side1 => refine (zl_ (e := 3) (base := w.heap.size) (ok := fun k_ => True) (n := t340.length) (c := co19) ?_).2.2; exact (by exact (zd_ (ze_ (p := ⟨gb387, 4, none⟩) (ze_ (p := ⟨gb387, 3, none⟩) (ze_ (p := ⟨gb387, 2, none⟩) (ze_ (p := ⟨gb387, 1, none⟩) (ze_ (p := ⟨gb387, 0, none⟩) (zf_ HO342.out BK387.out (by decide)) (fun _ hk => hk.2) (.slice Ao52 t376.length co52)) (fun _ hk => hk.2) (.slice Ao59 t379.length co59)) (fun _ hk => hk.2) (.slice Ao60 t382.length co60)) (fun _ hk => hk.2) (.int .i64 t385)) (fun _ hk => hk.2) (.int .i64 t386)) (fun _ h_ => (by (trivial)))))); (case side2 => exact (zl_ HO342.out).2.1); (case side3 => refine (zl_ (e := 117) (base := w.heap.size) (ok := fun k_ => True) (n := t343.length) (c := co23) ?_).2.2; exact (by exact (zd_ (ze_ (p := ⟨gb387, 4, none⟩) (ze_ (p := ⟨gb387, 3, none⟩) (ze_ (p := ⟨gb387, 2, none⟩) (ze_ (p := ⟨gb387, 1, none⟩) (ze_ (p := ⟨gb387, 0, none⟩) (zf_ HO345.out BK387.out (by decide)) (fun _ hk => hk.2) (.slice Ao52 t376.length co52)) (fun _ hk => hk.2) (.slice Ao59 t379.length co59)) (fun _ hk => hk.2) (.slice Ao60 t382.length co60)) (fun _ hk => hk.2) (.int .i64 t385)) (fun _ hk => hk.2) (.int .i64 t386)) (fun _ h_ => (h_.1))))); (case side4 => exact (zl_ HO345.out).2.1); (case side5 => refine (zl_ (e := 3) (base := w.heap.size) (ok := fun k_ => True) (n := t346.length) (c := co24) ?_).2.2; exact (by exact (zd_ (ze_ (p := ⟨gb387, 4, none⟩) (ze_ (p := ⟨gb387, 3, none⟩) (ze_ (p := ⟨gb387, 2, none⟩) (ze_ (p := ⟨gb387, 1, none⟩) (ze_ (p := ⟨gb387, 0, none⟩) (zf_ HO348.out BK387.out (by decide)) (fun _ hk => hk.2) (.slice Ao52 t376.length co52)) (fun _ hk => hk.2) (.slice Ao59 t379.length co59)) (fun _ hk => hk.2) (.slice Ao60 t382.length co60)) (fun _ hk => hk.2) (.int .i64 t385)) (fun _ hk => hk.2) (.int .i64 t386)) (fun _ h_ => (by (trivial)))))); (case side6 => exact (zl_ HO348.out).2.1); (case side7 => refine (zl_ (e := 3) (base := w.heap.size) (ok := fun k_ => True) (n := t364.length) (c := co40) ?_).2.2; exact (by exact (zd_ (ze_ (p := ⟨gb387, 4, none⟩) (ze_ (p := ⟨gb387, 3, none⟩) (ze_ (p := ⟨gb387, 2, none⟩) (ze_ (p := ⟨gb387, 1, none⟩) (ze_ (p := ⟨gb387, 0, none⟩) (zf_ HO366.out BK387.out (by decide)) (fun _ hk => hk.2) (.slice Ao52 t376.length co52)) (fun _ hk => hk.2) (.slice Ao59 t379.length co59)) (fun _ hk => hk.2) (.slice Ao60 t382.length co60)) (fun _ hk => hk.2) (.int .i64 t385)) (fun _ hk => hk.2) (.int .i64 t386)) (fun _ h_ => (by (trivial)))))); (case side8 => exact (zl_ HO366.out).2.1); (case side9 => refine (zl_ (e := 117) (base := w.heap.size) (ok := fun k_ => True) (n := t367.length) (c := co46) ?_).2.2; exact (by exact (zd_ (ze_ (p := ⟨gb387, 4, none⟩) (ze_ (p := ⟨gb387, 3, none⟩) (ze_ (p := ⟨gb387, 2, none⟩) (ze_ (p := ⟨gb387, 1, none⟩) (ze_ (p := ⟨gb387, 0, none⟩) (zf_ HO369.out BK387.out (by decide)) (fun _ hk => hk.2) (.slice Ao52 t376.length co52)) (fun _ hk => hk.2) (.slice Ao59 t379.length co59)) (fun _ hk => hk.2) (.slice Ao60 t382.length co60)) (fun _ hk => hk.2) (.int .i64 t385)) (fun _ hk => hk.2) (.int .i64 t386)) (fun _ h_ => (h_.1))))); (case side10 => exact (zl_ HO369.out).2.1); (case side11 => refine (zl_ (e := 3) (base := w.heap.size) (ok := fun k_ => True) (n := t370.length) (c := co47) ?_).2.2; exact (by exact (zd_ (ze_ (p := ⟨gb387, 4, none⟩) (ze_ (p := ⟨gb387, 3, none⟩) (ze_ (p := ⟨gb387, 2, none⟩) (ze_ (p := ⟨gb387, 1, none⟩) (ze_ (p := ⟨gb387, 0, none⟩) (zf_ HO372.out BK387.out (by decide)) (fun _ hk => hk.2) (.slice Ao52 t376.length co52)) (fun _ hk => hk.2) (.slice Ao59 t379.length co59)) (fun _ hk => hk.2) (.slice Ao60 t382.length co60)) (fun _ hk => hk.2) (.int .i64 t385)) (fun _ hk => hk.2) (.int .i64 t386)) (fun _ h_ => (by (trivial)))))); (case side12 => exact (zl_ HO372.out).2.1); rintro e w81 ⟨rfl, hb⟩; have n0_ := Aside0.mk (Kd.R_below (by exact (zd_ (ze_ (p := ⟨gb387, 4, none⟩) (ze_ (p := ⟨gb387, 3, none⟩) (ze_ (p := ⟨gb387, 2, none⟩) (ze_ (p := ⟨gb387, 1, none⟩) (ze_ (p := ⟨gb387, 0, none⟩) (zf_ HO342.out BK387.out (by decide)) (fun _ hk => hk.2) (.slice Ao52 t376.length co52)) (fun _ hk => hk.2) (.slice Ao59 t379.length co59)) (fun _ hk => hk.2) (.slice Ao60 t382.length co60)) (fun _ hk => hk.2) (.int .i64 t385)) (fun _ hk => hk.2) (.int .i64 t386)) (fun _ h_ => (h_.1)))) hb); have n1_ := Aside0.mk (Kd.R_below (by exact (zd_ (ze_ (p := ⟨gb387, 4, none⟩) (ze_ (p := ⟨gb387, 3, none⟩) (ze_ (p := ⟨gb387, 2, none⟩) (ze_ (p := ⟨gb387, 1, none⟩) (ze_ (p := ⟨gb387, 0, none⟩) (zf_ HO345.out BK387.out (by decide)) (fun _ hk => hk.2) (.slice Ao52 t376.length co52)) (fun _ hk => hk.2) (.slice Ao59 t379.length co59)) (fun _ hk => hk.2) (.slice Ao60 t382.length co60)) (fun _ hk => hk.2) (.int .i64 t385)) (fun _ hk => hk.2) (.int .i64 t386)) (fun _ h_ => (h_.1)))) hb); have n2_ := Aside0.mk (Kd.R_below (by exact (zd_ (ze_ (p := ⟨gb387, 4, none⟩) (ze_ (p := ⟨gb387, 3, none⟩) (ze_ (p := ⟨gb387, 2, none⟩) (ze_ (p := ⟨gb387, 1, none⟩) (ze_ (p := ⟨gb387, 0, none⟩) (zf_ HO348.out BK387.out (by decide)) (fun _ hk => hk.2) (.slice Ao52 t376.length co52)) (fun _ hk => hk.2) (.slice Ao59 t379.length co59)) (fun _ hk => hk.2) (.slice Ao60 t382.length co60)) (fun _ hk => hk.2) (.int .i64 t385)) (fun _ hk => hk.2) (.int .i64 t386)) (fun _ h_ => (h_.1)))) hb); have n3_ := Aside0.mk (Kd.R_below (by exact (zd_ (ze_ (p := ⟨gb387, 4, none⟩) (ze_ (p := ⟨gb387, 3, none⟩) (ze_ (p := ⟨gb387, 2, none⟩) (ze_ (p := ⟨gb387, 1, none⟩) (ze_ (p := ⟨gb387, 0, none⟩) (zf_ HO354.out BK387.out (by decide)) (fun _ hk => hk.2) (.slice Ao52 t376.length co52)) (fun _ hk => hk.2) (.slice Ao59 t379.length co59)) (fun _ hk => hk.2) (.slice Ao60 t382.length co60)) (fun _ hk => hk.2) (.int .i64 t385)) (fun _ hk => hk.2) (.int .i64 t386)) (fun _ h_ => (h_.1)))) hb); have n4_ := Aside0.mk (Kd.R_below (by exact (zd_ (ze_ (p := ⟨gb387, 4, none⟩) (ze_ (p := ⟨gb387, 3, none⟩) (ze_ (p := ⟨gb387, 2, none⟩) (ze_ (p := ⟨gb387, 1, none⟩) (ze_ (p := ⟨gb387, 0, none⟩) (zf_ HO357.out BK387.out (by decide)) (fun _ hk => hk.2) (.slice Ao52 t376.length co52)) (fun _ hk => hk.2) (.slice Ao59 t379.length co59)) (fun _ hk => hk.2) (.slice Ao60 t382.length co60)) (fun _ hk => hk.2) (.int .i64 t385)) (fun _ hk => hk.2) (.int .i64 t386)) (fun _ h_ => (h_.1)))) hb); have n5_ := Aside0.mk (Kd.R_below (by exact (zd_ (ze_ (p := ⟨gb387, 4, none⟩) (ze_ (p := ⟨gb387, 3, none⟩) (ze_ (p := ⟨gb387, 2, none⟩) (ze_ (p := ⟨gb387, 1, none⟩) (ze_ (p := ⟨gb387, 0, none⟩) (zf_ HO360.out BK387.out (by decide)) (fun _ hk => hk.2) (.slice Ao52 t376.length co52)) (fun _ hk => hk.2) (.slice Ao59 t379.length co59)) (fun _ hk => hk.2) (.slice Ao60 t382.length co60)) (fun _ hk => hk.2) (.int .i64 t385)) (fun _ hk => hk.2) (.int .i64 t386)) (fun _ h_ => (h_.1)))) hb); have n6_ := Aside0.mk (Kd.R_below (by exact (zd_ (ze_ (p := ⟨gb387, 4, none⟩) (ze_ (p := ⟨gb387, 3, none⟩) (ze_ (p := ⟨gb387, 2, none⟩) (ze_ (p := ⟨gb387, 1, none⟩) (ze_ (p := ⟨gb387, 0, none⟩) (zf_ HO366.out BK387.out (by decide)) (fun _ hk => hk.2) (.slice Ao52 t376.length co52)) (fun _ hk => hk.2) (.slice Ao59 t379.length co59)) (fun _ hk => hk.2) (.slice Ao60 t382.length co60)) (fun _ hk => hk.2) (.int .i64 t385)) (fun _ hk => hk.2) (.int .i64 t386)) (fun _ h_ => (h_.1)))) hb); have n7_ := Aside0.mk (Kd.R_below (by exact (zd_ (ze_ (p := ⟨gb387, 4, none⟩) (ze_ (p := ⟨gb387, 3, none⟩) (ze_ (p := ⟨gb387, 2, none⟩) (ze_ (p := ⟨gb387, 1, none⟩) (ze_ (p := ⟨gb387, 0, none⟩) (zf_ HO369.out BK387.out (by decide)) (fun _ hk => hk.2) (.slice Ao52 t376.length co52)) (fun _ hk => hk.2) (.slice Ao59 t379.length co59)) (fun _ hk => hk.2) (.slice Ao60 t382.length co60)) (fun _ hk => hk.2) (.int .i64 t385)) (fun _ hk => hk.2) (.int .i64 t386)) (fun _ h_ => (h_.1)))) hb); have n8_ := Aside0.mk (Kd.R_below (by exact (zd_ (ze_ (p := ⟨gb387, 4, none⟩) (ze_ (p := ⟨gb387, 3, none⟩) (ze_ (p := ⟨gb387, 2, none⟩) (ze_ (p := ⟨gb387, 1, none⟩) (ze_ (p := ⟨gb387, 0, none⟩) (zf_ HO372.out BK387.out (by decide)) (fun _ hk => hk.2) (.slice Ao52 t376.length co52)) (fun _ hk => hk.2) (.slice Ao59 t379.length co59)) (fun _ hk => hk.2) (.slice Ao60 t382.length co60)) (fun _ hk => hk.2) (.int .i64 t385)) (fun _ hk => hk.2) (.int .i64 t386)) (fun _ h_ => (h_.1)))) hb); have n9_ := Aside0.mk (Kd.R_below (by exact (zd_ (ze_ (p := ⟨gb387, 4, none⟩) (ze_ (p := ⟨gb387, 3, none⟩) (ze_ (p := ⟨gb387, 2, none⟩) (ze_ (p := ⟨gb387, 1, none⟩) (ze_ (p := ⟨gb387, 0, none⟩) (zf_ HO378.out BK387.out (by decide)) (fun _ hk => hk.2) (.slice Ao52 t376.length co52)) (fun _ hk => hk.2) (.slice Ao59 t379.length co59)) (fun _ hk => hk.2) (.slice Ao60 t382.length co60)) (fun _ hk => hk.2) (.int .i64 t385)) (fun _ hk => hk.2) (.int .i64 t386)) (fun _ h_ => (h_.1)))) hb); have n10_ := Aside0.mk (Kd.R_below (by exact (zd_ (ze_ (p := ⟨gb387, 4, none⟩) (ze_ (p := ⟨gb387, 3, none⟩) (ze_ (p := ⟨gb387, 2, none⟩) (ze_ (p := ⟨gb387, 1, none⟩) (ze_ (p := ⟨gb387, 0, none⟩) (zf_ HO381.out BK387.out (by decide)) (fun _ hk => hk.2) (.slice Ao52 t376.length co52)) (fun _ hk => hk.2) (.slice Ao59 t379.length co59)) (fun _ hk => hk.2) (.slice Ao60 t382.length co60)) (fun _ hk => hk.2) (.int .i64 t385)) (fun _ hk => hk.2) (.int .i64 t386)) (fun _ h_ => (h_.1)))) hb); have n11_ := Aside0.mk (Kd.R_below (by exact (zd_ (ze_ (p := ⟨gb387, 4, none⟩) (ze_ (p := ⟨gb387, 3, none⟩) (ze_ (p := ⟨gb387, 2, none⟩) (ze_ (p := ⟨gb387, 1, none⟩) (ze_ (p := ⟨gb387, 0, none⟩) (zf_ HO384.out BK387.out (by decide)) (fun _ hk => hk.2) (.slice Ao52 t376.length co52)) (fun _ hk => hk.2) (.slice Ao59 t379.length co59)) (fun _ hk => hk.2) (.slice Ao60 t382.length co60)) (fun _ hk => hk.2) (.int .i64 t385)) (fun _ hk => hk.2) (.int .i64 t386)) (fun _ h_ => (h_.1)))) hb); have n12_ := Aside0.mk (zq_ (g := gb336) (o := .cells #[.slice A0_0 l0_0.length c0_0, .slice A0_1 l0_1.length c0_1, .slice A0_2 l0_2.length c0_2, .int .i64 a0_3] 25 (0, 0)) (by refine zp_ ?_ NB336_387.out _; refine zp_ ?_ NB336_387.out _; refine zp_ ?_ NB336_387.out _; refine zp_ ?_ NB336_387.out _; refine zp_ ?_ NB336_387.out _; exact BK336.out) hb); have n13_ := Aside0.mk (zq_ (g := gb337) (o := .cells #[.int .i64 a1_0, .int .i64 a1_1] 44 (0, 0)) (by refine zp_ ?_ NB337_387.out _; refine zp_ ?_ NB337_387.out _; refine zp_ ?_ NB337_387.out _; refine zp_ ?_ NB337_387.out _; refine zp_ ?_ NB337_387.out _; exact BK337.out) hb); have n14_ := Aside0.mk (zq_ (g := gb351) (o := .cells #[.slice Ao19 t340.length co19, .slice Ao23 t343.length co23, .slice Ao24 t346.length co24, .int .i64 t349] 25 (0, 0)) (by refine zp_ ?_ NB351_387.out _; refine zp_ ?_ NB351_387.out _; refine zp_ ?_ NB351_387.out _; refine zp_ ?_ NB351_387.out _; refine zp_ ?_ NB351_387.out _; exact BK351.out) hb); have n15_ := Aside0.mk (zq_ (g := gb363) (o := .cells #[.slice Ao29 t352.length co29, .slice Ao34 t355.length co34, .slice Ao35 t358.length co35, .int .i64 t361] 25 (0, 0)) (by refine zp_ ?_ NB363_387.out _; refine zp_ ?_ NB363_387.out _; refine zp_ ?_ NB363_387.out _; refine zp_ ?_ NB363_387.out _; refine zp_ ?_ NB363_387.out _; exact BK363.out) hb); have n16_ := Aside0.mk (zq_ (g := gb375) (o := .cells #[.slice Ao40 t364.length co40, .slice Ao46 t367.length co46, .slice Ao47 t370.length co47, .int .i64 t373, .int .i64 t374] 48 (0, 0)) (by refine zp_ ?_ NB375_387.out _; refine zp_ ?_ NB375_387.out _; refine zp_ ?_ NB375_387.out _; refine zp_ ?_ NB375_387.out _; refine zp_ ?_ NB375_387.out _; exact BK375.out) hb); have n17_ := Aside0.mk (zq_ (g := gb387) (o := .cells #[.slice Ao52 t376.length co52, .slice Ao59 t379.length co59, .slice Ao60 t382.length co60, .int .i64 t385, .int .i64 t386] 48 (0, 0)) (by refine blk_put (cs := #[.slice Ao52 t376.length co52, .slice Ao59 t379.length co59, .slice Ao60 t382.length co60, .int .i64 t385, .int .i64 0]) ?_ 4 _ rfl; refine blk_put (cs := #[.slice Ao52 t376.length co52, .slice Ao59 t379.length co59, .slice Ao60 t382.length co60, .int .i64 0, .int .i64 0]) ?_ 3 _ rfl; refine blk_put (cs := #[.slice Ao52 t376.length co52, .slice Ao59 t379.length co59, .slice none 0 0, .int .i64 0, .int .i64 0]) ?_ 2 _ rfl; refine blk_put (cs := #[.slice Ao52 t376.length co52, .slice none 0 0, .slice none 0 0, .int .i64 0, .int .i64 0]) ?_ 1 _ rfl; refine blk_put (cs := #[.slice none 0 0, .slice none 0 0, .slice none 0 0, .int .i64 0, .int .i64 0]) ?_ 0 _ rfl; exact BK387.out) hb); have n18_ := Aside0.mk (zv_ (by repeat (with_reducible first | exact HB.out | refine zr_ ?_ GE387.out)) hb); clear HO342 HO345 HO348 HO354 HO357 HO360 HO366 HO369 HO372 HO378 HO381 HO384 BK336 BK337 BK351 BK363 BK375 BK387 HB; have HO342 := n0_; have HO345 := n1_; have HO348 := n2_; have HO354 := n3_; have HO357 := n4_; have HO360 := n5_; have HO366 := n6_; have HO369 := n7_; have HO372 := n8_; have HO378 := n9_; have HO381 := n10_; have HO384 := n11_; have BK336 := n12_; have BK337 := n13_; have BK351 := n14_; have BK363 := n15_; have BK375 := n16_; have BK387 := n17_; have HB := n18_; clear n0_ n1_ n2_ n3_ n4_ n5_ n6_ n7_ n8_ n9_ n10_ n11_ n12_ n13_ n14_ n15_ n16_ n17_ n18_; (try clear hb); (try clear hb2); (try clear hk); (try clear hi); have hnb82 := NB363_336.out; have hnc82 := NB336_363.out; have hnb83 := NB363_337.out; have hnc83 := NB337_363.out; have hcz84_0 : w81.cell? ⟨gb363, 0, none⟩ = some (.slice Ao29 t352.length co29) := (blk_cell BK363.out 0).trans rfl; have hcz84_1 : w81.cell? ⟨gb363, 1, none⟩ = some (.slice Ao34 t355.length co34) := (blk_cell BK363.out 1).trans rfl; have hcz84_2 : w81.cell? ⟨gb363, 2, none⟩ = some (.slice Ao35 t358.length co35) := (blk_cell BK363.out 2).trans rfl; have hcz84_3 : w81.cell? ⟨gb363, 3, none⟩ = some (.int .i64 t361) := (blk_cell BK363.out 3).trans rfl; have hfz84_0 := blk_frozen BK363.out 0; have hfz84_1 := blk_frozen BK363.out 1; have hfz84_2 := blk_frozen BK363.out 2; have hfz84_3 := blk_frozen BK363.out 3; have hcz85_0 : w81.cell? ⟨gb387, 0, none⟩ = some (.slice Ao52 t376.length co52) := (blk_cell BK387.out 0).trans rfl; have hcz85_1 : w81.cell? ⟨gb387, 1, none⟩ = some (.slice Ao59 t379.length co59) := (blk_cell BK387.out 1).trans rfl; have hcz85_2 : w81.cell? ⟨gb387, 2, none⟩ = some (.slice Ao60 t382.length co60) := (blk_cell BK387.out 2).trans rfl; have hcz85_3 : w81.cell? ⟨gb387, 3, none⟩ = some (.int .i64 t385) := (blk_cell BK387.out 3).trans rfl; have hcz85_4 : w81.cell? ⟨gb387, 4, none⟩ = some (.int .i64 t386) := (blk_cell BK387.out 4).trans rfl; have hfz85_0 := blk_frozen BK387.out 0; have hfz85_1 := blk_frozen BK387.out 1; have hfz85_2 := blk_frozen BK387.out 2; have hfz85_3 := blk_frozen BK387.out 3; have hfz85_4 := blk_frozen BK387.out 4) | (go_at_call 34; (with_reducible refine (quietusref10_Same.calls k _ _ t352 _ _ t355 _ _ t358 t361 _ _ t376 _ _ t379 _ _ t382 t385 t389 _ ?side1 ?side2 ?side3 ?side4 ?side5 ?side6 ?side7 ?side8 ?side9 ?side10 ?side11 ?side12 A65.out).mono ?_); (case side1 => repeat ((exact (zl_ HO354.out).2.2))); (case side2 => exact (zl_ HO354.out).2.1); (case side3 => repeat ((exact (zl_ HO357.out).2.2))); (case side4 => exact (zl_ HO357.out).2.1); (case side5 => repeat ((exact (zl_ HO360.out).2.2))); (case side6 => exact (zl_ HO360.out).2.1); (case side7 => repeat ((exact (zl_ HO378.out).2.2))); (case side8 => exact (zl_ HO378.out).2.1); (case side9 => repeat ((exact (zl_ HO381.out).2.2))); (case side10 => exact (zl_ HO381.out).2.1); (case side11 => repeat ((exact (zl_ HO384.out).2.2))); (case side12 => exact (zl_ HO384.out).2.1); rintro e w86 ⟨rfl, hb⟩; have n0_ := Aside0.mk (Kd.R_below HO342.out hb); have n1_ := Aside0.mk (Kd.R_below HO345.out hb); have n2_ := Aside0.mk (Kd.R_below HO348.out hb); have n3_ := Aside0.mk (Kd.R_below HO354.out hb); have n4_ := Aside0.mk (Kd.R_below HO357.out hb); have n5_ := Aside0.mk (Kd.R_below HO360.out hb); have n6_ := Aside0.mk (Kd.R_below HO366.out hb); have n7_ := Aside0.mk (Kd.R_below HO369.out hb); have n8_ := Aside0.mk (Kd.R_below HO372.out hb); have n9_ := Aside0.mk (Kd.R_below HO378.out hb); have n10_ := Aside0.mk (Kd.R_below HO381.out hb); have n11_ := Aside0.mk (Kd.R_below HO384.out hb); have n12_ := Aside0.mk (zq_ (g := gb336) (o := .cells #[.slice A0_0 l0_0.length c0_0, .slice A0_1 l0_1.length c0_1, .slice A0_2 l0_2.length c0_2, .int .i64 a0_3] 25 (0, 0)) BK336.out hb); have n13_ := Aside0.mk (zq_ (g := gb337) (o := .cells #[.int .i64 a1_0, .int .i64 a1_1] 44 (0, 0)) BK337.out hb); have n14_ := Aside0.mk (zq_ (g := gb351) (o := .cells #[.slice Ao19 t340.length co19, .slice Ao23 t343.length co23, .slice Ao24 t346.length co24, .int .i64 t349] 25 (0, 0)) BK351.out hb); have n15_ := Aside0.mk (zq_ (g := gb363) (o := .cells #[.slice Ao29 t352.length co29, .slice Ao34 t355.length co34, .slice Ao35 t358.length co35, .int .i64 t361] 25 (0, 0)) BK363.out hb); have n16_ := Aside0.mk (zq_ (g := gb375) (o := .cells #[.slice Ao40 t364.length co40, .slice Ao46 t367.length co46, .slice Ao47 t370.length co47, .int .i64 t373, .int .i64 t374] 48 (0, 0)) BK375.out hb); have n17_ := Aside0.mk (zq_ (g := gb387) (o := .cells #[.slice Ao52 t376.length co52, .slice Ao59 t379.length co59, .slice Ao60 t382.length co60, .int .i64 t385, .int .i64 t386] 48 (0, 0)) BK387.out hb); have n18_ := Aside0.mk (zv_ (by repeat (((with_reducible (exact HB.out))))) hb); clear HO342 HO345 HO348 HO354 HO357 HO360 HO366 HO369 HO372 HO378 HO381 HO384 BK336 BK337 BK351 BK363 BK375 BK387 HB; have HO342 := n0_; have HO345 := n1_; have HO348 := n2_; have HO354 := n3_; have HO357 := n4_; have HO360 := n5_; have HO366 := n6_; have HO369 := n7_; have HO372 := n8_; have HO378 := n9_; have HO381 := n10_; have HO384 := n11_; have BK336 := n12_; have BK337 := n13_; have BK351 := n14_; have BK363 := n15_; have BK375 := n16_; have BK387 := n17_; have HB := n18_; clear n0_ n1_ n2_ n3_ n4_ n5_ n6_ n7_ n8_ n9_ n10_ n11_ n12_ n13_ n14_ n15_ n16_ n17_ n18_; (try clear hb); (try clear hb2); (try clear hk); (try clear hi)))
      go_meet
      case rel => exact ⟨_, (!t389), (by (rfl)), H', ⟨by (omega)⟩, ⟨by (exact zd_ HO342.out (fun _ _ => trivial))⟩, ⟨by (exact HO345.out)⟩, ⟨by (exact zd_ HO348.out (fun _ _ => trivial))⟩, ⟨by (exact zd_ HO354.out (fun _ _ => trivial))⟩, ⟨by (exact HO357.out)⟩, ⟨by (exact zd_ HO360.out (fun _ _ => trivial))⟩, ⟨by (exact zd_ HO366.out (fun _ _ => trivial))⟩, ⟨by (exact HO369.out)⟩, ⟨by (exact zd_ HO372.out (fun _ _ => trivial))⟩, ⟨by (exact zd_ HO378.out (fun _ _ => trivial))⟩, ⟨by (exact HO381.out)⟩, ⟨by (exact zd_ HO384.out (fun _ _ => trivial))⟩, ⟨by exact BK336.out⟩, ⟨by exact BK337.out⟩, ⟨by exact BK351.out⟩, ⟨by exact BK363.out⟩, ⟨by exact BK375.out⟩, ⟨by exact BK387.out⟩, ⟨by repeat (((with_reducible (exact HB.out))))⟩⟩
     ·replace c64 := Bool.eq_false_iff.mpr c64
      subst c64
      have H1 : (none) = some r := by rw [if_neg (show ¬ (false = true) by decide)] at H; exact H
      clear H
      have H := H1
      clear H1
      exact absurd H (by simp)
    ·rw [if_neg c62] at H
     exact absurd H (by simp)
   ·rw [if_neg c61] at H
    exact absurd H (by simp)
  case rest =>
   clear HC9
   try clear c1
   try clear c2
   try clear p2
   try clear c3
   try clear c4
   try clear c5
   try clear c6
   try clear c7
   try clear c8
   try clear c12
   try clear c14
   try clear c20
   try clear c21
   try clear c30
   try clear c31
   try clear c32
   try clear c33
   try clear c41
   try clear c42
   try clear c43
   try clear c44
   try clear c53
   try clear c54
   try clear c55
   try clear c56
   try clear c57
   try clear c61
   try clear c61b0
   try clear c61b1
   try clear c62
   try clear c62b0
   try clear c62b1
   try clear c64
   try clear c66
   try clear c67
   try clear c68
   try clear c69
   try clear c70
   try clear c72
   try clear c73
   try clear c74
   try clear c75
   try clear c77
   try clear c78
   try clear c79
   try clear c82
   try clear c83
   try clear hcz13_0
   try clear hcz13_1
   try clear hcz13_2
   try clear hcz13_3
   try clear hcz15_0
   try clear hcz15_1
   try clear hcz15_2
   try clear hcz15_3
   try clear hcz16_0
   try clear hcz16_1
   try clear hcz22_0
   try clear hcz22_1
   try clear hcz22_2
   try clear hcz22_3
   try clear hcz25_0
   try clear hcz25_1
   try clear hcz25_2
   try clear hcz25_3
   try clear hcz26_0
   try clear hcz26_1
   try clear hcz33_0
   try clear hcz33_1
   try clear hcz33_2
   try clear hcz33_3
   try clear hcz36_0
   try clear hcz36_1
   try clear hcz36_2
   try clear hcz36_3
   try clear hcz37_0
   try clear hcz37_1
   try clear hcz45_0
   try clear hcz45_1
   try clear hcz45_2
   try clear hcz45_3
   try clear hcz45_4
   try clear hcz48_0
   try clear hcz48_1
   try clear hcz48_2
   try clear hcz48_3
   try clear hcz49_0
   try clear hcz49_1
   try clear hcz58_0
   try clear hcz58_1
   try clear hcz58_2
   try clear hcz58_3
   try clear hcz58_4
   try clear hcz71_0
   try clear hcz71_1
   try clear hcz71_2
   try clear hcz71_3
   try clear hcz71_4
   try clear hcz76_0
   try clear hcz76_1
   try clear hcz76_2
   try clear hcz76_3
   try clear hcz76_4
   try clear hcz80_0
   try clear hcz80_1
   try clear hcz80_2
   try clear hcz80_3
   try clear hcz84_0
   try clear hcz84_1
   try clear hcz84_2
   try clear hcz84_3
   try clear hcz85_0
   try clear hcz85_1
   try clear hcz85_2
   try clear hcz85_3
   try clear hcz85_4
   try clear hfz13_0
   try clear hfz13_1
   try clear hfz13_2
   try clear hfz13_3
   try clear hfz15_0
   try clear hfz15_1
   try clear hfz15_2
   try clear hfz15_3
   try clear hfz16_0
   try clear hfz16_1
   try clear hfz22_0
   try clear hfz22_1
   try clear hfz22_2
   try clear hfz22_3
   try clear hfz25_0
   try clear hfz25_1
   try clear hfz25_2
   try clear hfz25_3
   try clear hfz26_0
   try clear hfz26_1
   try clear hfz33_0
   try clear hfz33_1
   try clear hfz33_2
   try clear hfz33_3
   try clear hfz36_0
   try clear hfz36_1
   try clear hfz36_2
   try clear hfz36_3
   try clear hfz37_0
   try clear hfz37_1
   try clear hfz45_0
   try clear hfz45_1
   try clear hfz45_2
   try clear hfz45_3
   try clear hfz45_4
   try clear hfz48_0
   try clear hfz48_1
   try clear hfz48_2
   try clear hfz48_3
   try clear hfz49_0
   try clear hfz49_1
   try clear hfz58_0
   try clear hfz58_1
   try clear hfz58_2
   try clear hfz58_3
   try clear hfz58_4
   try clear hfz71_0
   try clear hfz71_1
   try clear hfz71_2
   try clear hfz71_3
   try clear hfz71_4
   try clear hfz76_0
   try clear hfz76_1
   try clear hfz76_2
   try clear hfz76_3
   try clear hfz76_4
   try clear hfz80_0
   try clear hfz80_1
   try clear hfz80_2
   try clear hfz80_3
   try clear hfz84_0
   try clear hfz84_1
   try clear hfz84_2
   try clear hfz84_3
   try clear hfz85_0
   try clear hfz85_1
   try clear hfz85_2
   try clear hfz85_3
   try clear hfz85_4
   obtain ⟨kq, x73_8, rfl, HA, HJ8, HO_352000, HO_352001, HO_352002, HO_364000, HO_364001, HO_364002, HO_376000, HO_376001, HO_376002, HO_388000, HO_388001, HO_388002, BK336, BK337, BK351, BK363, BK375, BK387, HB⟩ := hcut
   cases kq with
   | zero => exact absurd HA.out (by simp [quietuslaw10_DomainsChange.j0])
   | succ kj8 =>
    have H := HA.out
    clear HA
    simp only [quietuslaw10_DomainsChange.j0] at H
    by_cases c87 : x73_8 = true
    ·subst c87
     have H1 : (none) = some r := by rw [if_pos rfl] at H; exact H
     clear H
     have H := H1
     clear H1
     exact absurd H (by simp)
    ·replace c87 := Bool.eq_false_iff.mpr c87
     subst c87
     have H1 : (quietuslaw10_DomainsChange.l0 kj8 t350 t362 (l0_0.length : Int) 0 l0_0 l0_1 l0_2 a0_3 a1_0 a1_1 t340 t343 t346 t349 t352 t355 t358 t361) = some r := by rw [if_neg (show ¬ (false = true) by decide)] at H; exact H
     clear H
     have H := H1
     clear H1
     have H' := Aside0.mk H
     clear H
     have hnb88 := NB336_337.out
     have hnc88 := NB337_336.out
     have hnb89 := NB336_351.out
     have hnc89 := NB351_336.out
     have hnb90 := NB336_363.out
     have hnc90 := NB363_336.out
     have hnb91 := NB336_375.out
     have hnc91 := NB375_336.out
     have hnb92 := NB336_387.out
     have hnc92 := NB387_336.out
     have hcz93_0 : wc.cell? ⟨gb336, 0, none⟩ = some (.slice A0_0 l0_0.length c0_0) := (blk_cell BK336.out 0).trans rfl
     have hcz93_1 : wc.cell? ⟨gb336, 1, none⟩ = some (.slice A0_1 l0_1.length c0_1) := (blk_cell BK336.out 1).trans rfl
     have hcz93_2 : wc.cell? ⟨gb336, 2, none⟩ = some (.slice A0_2 l0_2.length c0_2) := (blk_cell BK336.out 2).trans rfl
     have hcz93_3 : wc.cell? ⟨gb336, 3, none⟩ = some (.int .i64 a0_3) := (blk_cell BK336.out 3).trans rfl
     have hfz93_0 := blk_frozen BK336.out 0
     have hfz93_1 := blk_frozen BK336.out 1
     have hfz93_2 := blk_frozen BK336.out 2
     have hfz93_3 := blk_frozen BK336.out 3
     go_wp2
     go_loopg [77] kj8 (fun kq v77 w' => ∃ (x77_2 : Int), v77 = .int .i64 x77_2 ∧ Aside0 (quietuslaw10_DomainsChange.l0 kq t350 t362 (l0_0.length : Int) x77_2 l0_0 l0_1 l0_2 a0_3 a1_0 a1_1 t340 t343 t346 t349 t352 t355 t358 t361 = some r) ∧ Aside0 (kq ≤ kj8) ∧ Aside0 (Kd.R (Kd.int .i64) 3 w' w.heap.size (fun _ => True) (.slice Ao19 t340.length co19) t340) ∧ Aside0 (Kd.R k117 117 w' w.heap.size (fun _ => True) (.slice Ao23 t343.length co23) t343) ∧ Aside0 (Kd.R (Kd.int .i64) 3 w' w.heap.size (fun _ => True) (.slice Ao24 t346.length co24) t346) ∧ Aside0 (Kd.R (Kd.int .i64) 3 w' w.heap.size (fun _ => True) (.slice Ao29 t352.length co29) t352) ∧ Aside0 (Kd.R k117 117 w' w.heap.size (fun _ => True) (.slice Ao34 t355.length co34) t355) ∧ Aside0 (Kd.R (Kd.int .i64) 3 w' w.heap.size (fun _ => True) (.slice Ao35 t358.length co35) t358) ∧ Aside0 (Kd.R (Kd.int .i64) 3 w' w.heap.size (fun _ => True) (.slice Ao40 t364.length co40) t364) ∧ Aside0 (Kd.R k117 117 w' w.heap.size (fun _ => True) (.slice Ao46 t367.length co46) t367) ∧ Aside0 (Kd.R (Kd.int .i64) 3 w' w.heap.size (fun _ => True) (.slice Ao47 t370.length co47) t370) ∧ Aside0 (Kd.R (Kd.int .i64) 3 w' w.heap.size (fun _ => True) (.slice Ao52 t376.length co52) t376) ∧ Aside0 (Kd.R k117 117 w' w.heap.size (fun _ => True) (.slice Ao59 t379.length co59) t379) ∧ Aside0 (Kd.R (Kd.int .i64) 3 w' w.heap.size (fun _ => True) (.slice Ao60 t382.length co60) t382) ∧ Aside0 (w'.heap[gb336]? = some (.cells #[(.slice A0_0 l0_0.length c0_0), (.slice A0_1 l0_1.length c0_1), (.slice A0_2 l0_2.length c0_2), .int .i64 a0_3] 25 (0, 0))) ∧ Aside0 (w'.heap[gb337]? = some (.cells #[.int .i64 a1_0, .int .i64 a1_1] 44 (0, 0))) ∧ Aside0 (w'.heap[gb351]? = some (.cells #[(.slice Ao19 t340.length co19), (.slice Ao23 t343.length co23), (.slice Ao24 t346.length co24), .int .i64 t349] 25 (0, 0))) ∧ Aside0 (w'.heap[gb363]? = some (.cells #[(.slice Ao29 t352.length co29), (.slice Ao34 t355.length co34), (.slice Ao35 t358.length co35), .int .i64 t361] 25 (0, 0))) ∧ Aside0 (w'.heap[gb375]? = some (.cells #[(.slice Ao40 t364.length co40), (.slice Ao46 t367.length co46), (.slice Ao47 t370.length co47), .int .i64 t373, .int .i64 t374] 48 (0, 0))) ∧ Aside0 (w'.heap[gb387]? = some (.cells #[(.slice Ao52 t376.length co52), (.slice Ao59 t379.length co59), (.slice Ao60 t382.length co60), .int .i64 t385, .int .i64 t386] 48 (0, 0))) ∧ Aside0 (Below w.heap.size w w'))
     case atStart => exact ⟨(0), (by (rfl)), H', ⟨Nat.le_refl _⟩, ⟨by exact HO_352000.out⟩, ⟨by exact HO_352001.out⟩, ⟨by exact HO_352002.out⟩, ⟨by exact HO_364000.out⟩, ⟨by exact HO_364001.out⟩, ⟨by exact HO_364002.out⟩, ⟨by exact HO_376000.out⟩, ⟨by exact HO_376001.out⟩, ⟨by exact HO_376002.out⟩, ⟨by exact HO_388000.out⟩, ⟨by exact HO_388001.out⟩, ⟨by exact HO_388002.out⟩, ⟨by exact BK336.out⟩, ⟨by exact BK337.out⟩, ⟨by exact BK351.out⟩, ⟨by exact BK363.out⟩, ⟨by exact BK375.out⟩, ⟨by exact BK387.out⟩, ⟨by repeat (((with_reducible (exact HB.out))))⟩⟩
     case round =>
      clear H'
      try clear c1
      try clear c2
      try clear p2
      try clear c3
      try clear c4
      try clear c5
      try clear c6
      try clear c7
      try clear c8
      try clear c9
      try clear c12
      try clear c14
      try clear c20
      try clear c21
      try clear c30
      try clear c31
      try clear c32
      try clear c33
      try clear c41
      try clear c42
      try clear c43
      try clear c44
      try clear c53
      try clear c54
      try clear c55
      try clear c56
      try clear c57
      try clear c61
      try clear c61b0
      try clear c61b1
      try clear c62
      try clear c62b0
      try clear c62b1
      try clear c64
      try clear c66
      try clear c67
      try clear c68
      try clear c69
      try clear c70
      try clear c72
      try clear c73
      try clear c74
      try clear c75
      try clear c77
      try clear c78
      try clear c79
      try clear c82
      try clear c83
      try clear c87
      try clear c88
      try clear c89
      try clear c90
      try clear c91
      try clear c92
      try clear hcz13_0
      try clear hcz13_1
      try clear hcz13_2
      try clear hcz13_3
      try clear hcz15_0
      try clear hcz15_1
      try clear hcz15_2
      try clear hcz15_3
      try clear hcz16_0
      try clear hcz16_1
      try clear hcz22_0
      try clear hcz22_1
      try clear hcz22_2
      try clear hcz22_3
      try clear hcz25_0
      try clear hcz25_1
      try clear hcz25_2
      try clear hcz25_3
      try clear hcz26_0
      try clear hcz26_1
      try clear hcz33_0
      try clear hcz33_1
      try clear hcz33_2
      try clear hcz33_3
      try clear hcz36_0
      try clear hcz36_1
      try clear hcz36_2
      try clear hcz36_3
      try clear hcz37_0
      try clear hcz37_1
      try clear hcz45_0
      try clear hcz45_1
      try clear hcz45_2
      try clear hcz45_3
      try clear hcz45_4
      try clear hcz48_0
      try clear hcz48_1
      try clear hcz48_2
      try clear hcz48_3
      try clear hcz49_0
      try clear hcz49_1
      try clear hcz58_0
      try clear hcz58_1
      try clear hcz58_2
      try clear hcz58_3
      try clear hcz58_4
      try clear hcz71_0
      try clear hcz71_1
      try clear hcz71_2
      try clear hcz71_3
      try clear hcz71_4
      try clear hcz76_0
      try clear hcz76_1
      try clear hcz76_2
      try clear hcz76_3
      try clear hcz76_4
      try clear hcz80_0
      try clear hcz80_1
      try clear hcz80_2
      try clear hcz80_3
      try clear hcz84_0
      try clear hcz84_1
      try clear hcz84_2
      try clear hcz84_3
      try clear hcz85_0
      try clear hcz85_1
      try clear hcz85_2
      try clear hcz85_3
      try clear hcz85_4
      try clear hcz93_0
      try clear hcz93_1
      try clear hcz93_2
      try clear hcz93_3
      try clear hfz13_0
      try clear hfz13_1
      try clear hfz13_2
      try clear hfz13_3
      try clear hfz15_0
      try clear hfz15_1
      try clear hfz15_2
      try clear hfz15_3
      try clear hfz16_0
      try clear hfz16_1
      try clear hfz22_0
      try clear hfz22_1
      try clear hfz22_2
      try clear hfz22_3
      try clear hfz25_0
      try clear hfz25_1
      try clear hfz25_2
      try clear hfz25_3
      try clear hfz26_0
      try clear hfz26_1
      try clear hfz33_0
      try clear hfz33_1
      try clear hfz33_2
      try clear hfz33_3
      try clear hfz36_0
      try clear hfz36_1
      try clear hfz36_2
      try clear hfz36_3
      try clear hfz37_0
      try clear hfz37_1
      try clear hfz45_0
      try clear hfz45_1
      try clear hfz45_2
      try clear hfz45_3
      try clear hfz45_4
      try clear hfz48_0
      try clear hfz48_1
      try clear hfz48_2
      try clear hfz48_3
      try clear hfz49_0
      try clear hfz49_1
      try clear hfz58_0
      try clear hfz58_1
      try clear hfz58_2
      try clear hfz58_3
      try clear hfz58_4
      try clear hfz71_0
      try clear hfz71_1
      try clear hfz71_2
      try clear hfz71_3
      try clear hfz71_4
      try clear hfz76_0
      try clear hfz76_1
      try clear hfz76_2
      try clear hfz76_3
      try clear hfz76_4
      try clear hfz80_0
      try clear hfz80_1
      try clear hfz80_2
      try clear hfz80_3
      try clear hfz84_0
      try clear hfz84_1
      try clear hfz84_2
      try clear hfz84_3
      try clear hfz85_0
      try clear hfz85_1
      try clear hfz85_2
      try clear hfz85_3
      try clear hfz85_4
      try clear hfz93_0
      try clear hfz93_1
      try clear hfz93_2
      try clear hfz93_3
      try clear p2
      obtain ⟨x77_2, rfl, HA, HK2, HO_352000, HO_352001, HO_352002, HO_364000, HO_364001, HO_364002, HO_376000, HO_376001, HO_376002, HO_388000, HO_388001, HO_388002, BK336, BK337, BK351, BK363, BK375, BK387, HB⟩ := hrel
      cases gk with
      | zero => exact absurd HA.out (by simp [quietuslaw10_DomainsChange.l0])
      | succ k2 =>
       have H := HA.out
       clear HA
       simp only [quietuslaw10_DomainsChange.l0] at H
       by_cases c94 : x77_2 < (l0_0.length : Int)
       ·rw [if_pos c94] at H
        have c94b0 : decide (x77_2 < (l0_0.length : Int)) = true := decide_eq_true c94
        clear c94
        replace H := Option.bind_eq_some_iff.mp H
        obtain ⟨t391, A950, H⟩ := H
        replace H : ((domain_Of.f k2 l0_0 l0_1 l0_2 a0_3 1 x77_2).bind fun t392 => (if t350 = 0 then ((domain_Of.f k2 t340 t343 t346 t349 2 x77_2).bind fun t393 => (if t393 = t391 then (if t391 = a1_0 then ((domain_Of.f k2 t340 t343 t346 t349 3 x77_2).bind fun t394 => (quietuslaw10_DomainsChange.j2 k2 t350 t362 x77_2 t391 t392 (l0_0.length : Int) x77_2 (t394 != a1_1) l0_0 l0_1 l0_2 a0_3 a1_0 a1_1 t340 t343 t346 t349 t352 t355 t358 t361)) else ((domain_Of.f k2 t340 t343 t346 t349 3 x77_2).bind fun t395 => ((domain_Of.f k2 l0_0 l0_1 l0_2 a0_3 3 x77_2).bind fun t396 => (if t395 = t396 then (quietuslaw10_DomainsChange.j2 k2 t350 t362 x77_2 t391 t392 (l0_0.length : Int) x77_2 false l0_0 l0_1 l0_2 a0_3 a1_0 a1_1 t340 t343 t346 t349 t352 t355 t358 t361) else (none))))) else (none))) else (quietuslaw10_DomainsChange.j2 k2 t350 t362 x77_2 t391 t392 (l0_0.length : Int) x77_2 false l0_0 l0_1 l0_2 a0_3 a1_0 a1_1 t340 t343 t346 t349 t352 t355 t358 t361))) = some r := H
        have A95 := Aside0.mk A950
        clear A950
        replace H := Option.bind_eq_some_iff.mp H
        obtain ⟨t392, A960, H⟩ := H
        replace H : (if t350 = 0 then ((domain_Of.f k2 t340 t343 t346 t349 2 x77_2).bind fun t393 => (if t393 = t391 then (if t391 = a1_0 then ((domain_Of.f k2 t340 t343 t346 t349 3 x77_2).bind fun t394 => (quietuslaw10_DomainsChange.j2 k2 t350 t362 x77_2 t391 t392 (l0_0.length : Int) x77_2 (t394 != a1_1) l0_0 l0_1 l0_2 a0_3 a1_0 a1_1 t340 t343 t346 t349 t352 t355 t358 t361)) else ((domain_Of.f k2 t340 t343 t346 t349 3 x77_2).bind fun t395 => ((domain_Of.f k2 l0_0 l0_1 l0_2 a0_3 3 x77_2).bind fun t396 => (if t395 = t396 then (quietuslaw10_DomainsChange.j2 k2 t350 t362 x77_2 t391 t392 (l0_0.length : Int) x77_2 false l0_0 l0_1 l0_2 a0_3 a1_0 a1_1 t340 t343 t346 t349 t352 t355 t358 t361) else (none))))) else (none))) else (quietuslaw10_DomainsChange.j2 k2 t350 t362 x77_2 t391 t392 (l0_0.length : Int) x77_2 false l0_0 l0_1 l0_2 a0_3 a1_0 a1_1 t340 t343 t346 t349 t352 t355 t358 t361)) = some r := H
        have A96 := Aside0.mk A960
        clear A960
        have HC97 := Aside0.mk H
        clear H
        try go_wp2
        have n0_ := Aside0.mk (zc_ HO_352000.out)
        have n1_ := Aside0.mk (zc_ HO_352001.out)
        have n2_ := Aside0.mk (zc_ HO_352002.out)
        have n3_ := Aside0.mk (zc_ HO_364000.out)
        have n4_ := Aside0.mk (zc_ HO_364001.out)
        have n5_ := Aside0.mk (zc_ HO_364002.out)
        have n6_ := Aside0.mk (zc_ HO_376000.out)
        have n7_ := Aside0.mk (zc_ HO_376001.out)
        have n8_ := Aside0.mk (zc_ HO_376002.out)
        have n9_ := Aside0.mk (zc_ HO_388000.out)
        have n10_ := Aside0.mk (zc_ HO_388001.out)
        have n11_ := Aside0.mk (zc_ HO_388002.out)
        have n12_ := Aside0.mk (zn_ BK336.out)
        have n13_ := Aside0.mk (zn_ BK337.out)
        have n14_ := Aside0.mk (zn_ BK351.out)
        have n15_ := Aside0.mk (zn_ BK363.out)
        have n16_ := Aside0.mk (zn_ BK375.out)
        have n17_ := Aside0.mk (zn_ BK387.out)
        have n18_ := Aside0.mk (zu_ HB.out)
        clear HO_352000
        clear HO_352001
        clear HO_352002
        clear HO_364000
        clear HO_364001
        clear HO_364002
        clear HO_376000
        clear HO_376001
        clear HO_376002
        clear HO_388000
        clear HO_388001
        clear HO_388002
        clear BK336
        clear BK337
        clear BK351
        clear BK363
        clear BK375
        clear BK387
        clear HB
        have HO_352000 := n0_
        have HO_352001 := n1_
        have HO_352002 := n2_
        have HO_364000 := n3_
        have HO_364001 := n4_
        have HO_364002 := n5_
        have HO_376000 := n6_
        have HO_376001 := n7_
        have HO_376002 := n8_
        have HO_388000 := n9_
        have HO_388001 := n10_
        have HO_388002 := n11_
        have BK336 := n12_
        have BK337 := n13_
        have BK351 := n14_
        have BK363 := n15_
        have BK375 := n16_
        have BK387 := n17_
        have HB := n18_
        clear n0_ n1_ n2_ n3_ n4_ n5_ n6_ n7_ n8_ n9_ n10_ n11_ n12_ n13_ n14_ n15_ n16_ n17_ n18_
        refine start_ (n := 8) (S := fun w' => w'.cell? ⟨gb336, 0, none⟩ = some (.slice A0_0 l0_0.length c0_0) ∧ w'.cell? ⟨gb336, 1, none⟩ = some (.slice A0_1 l0_1.length c0_1) ∧ w'.cell? ⟨gb336, 2, none⟩ = some (.slice A0_2 l0_2.length c0_2) ∧ w'.cell? ⟨gb336, 3, none⟩ = some (.int .i64 a0_3)) (ds := []) #[Z,Z,Z,Z,Z,Z,Z,Z] (by kernel_rfl) rfl rfl ⟨(blk_cell BK336.out 0).trans rfl, (blk_cell BK336.out 1).trans rfl, (blk_cell BK336.out 2).trans rfl, (blk_cell BK336.out 3).trans rfl⟩ (fun hHeld => ?_); refine with_tabW quietuslaw10_DomainsChange.tab13 quietuslaw10_DomainsChange.bits13 (fun HT_ HW_ => ?_)
        generalize wr.drew = w98 at HO_352000 HO_352001 HO_352002 HO_364000 HO_364001 HO_364002 HO_376000 HO_376001 HO_376002 HO_388000 HO_388001 HO_388002 BK336 BK337 BK351 BK363 BK375 BK387 HB hHeld ⊢
        refine pure_ (i := 1) (N := some 81) (v := ?_) (a' := ?_) #[Z,Y,Z,Z,Z,Z,Z,Z] rfl rfl (any_of HT_.out (by kernel_rfl)) (fun _ _ _ h => h) (Or.inl ⟨by rfl, ?_⟩) ?_ ?_
        rotate_left
        ·intro w'
         go_simp
         with_reducible rfl
        rotate_left
        ·simp only [Act.put, zA_, zB_, zC_, i64_w, i32_w]
         rfl
        refine pure_ (i := 4) (N := some 84) (v := ?_) (a' := ?_) #[Z,Y,Z,Z,Y,Z,Z,Z] rfl rfl (any_of HT_.out (by kernel_rfl)) (fun _ _ _ h => h) (Or.inl ⟨by rfl, ?_⟩) ?_ ?_
        rotate_left
        ·intro w'
         go_simp
         with_reducible rfl
        rotate_left
        ·simp only [Act.put, zA_, zB_, zC_, i64_w, i32_w]
         rfl
        refine take_ (i := 0) (N := some 80) (v := ?_) (a' := ?_) #[Y,Y,Z,Z,Y,Z,Z,Z] rfl rfl (take_ofW HT_.out HW_.out (by kernel_rfl)) (fun _ _ _ h => h) (Or.inl ⟨by rfl, ?_⟩) hHeld ?_ ?_
        rotate_left
        ·rintro w' ⟨s0, s1, s2, s3⟩
         go_simp
         with_reducible rfl
        rotate_left
        ·simp only [Act.put, zA_, zB_, zC_, i64_w, i32_w]
         rfl
        refine take_ (i := 3) (N := some 83) (v := ?_) (a' := ?_) #[Y,Y,Z,Y,Y,Z,Z,Z] rfl rfl (take_ofW HT_.out HW_.out (by kernel_rfl)) (fun _ _ _ h => h) (Or.inl ⟨by rfl, ?_⟩) hHeld ?_ ?_
        rotate_left
        ·rintro w' ⟨s0, s1, s2, s3⟩
         go_simp
         with_reducible rfl
        rotate_left
        ·simp only [Act.put, zA_, zB_, zC_, i64_w, i32_w]
         rfl
        refine one_ (i := 2) (N := some 82) #[Y,Y,Y,Y,Y,Z,Z,Z] rfl rfl (one_of HT_.out (by kernel_rfl)) (by decide) (fun K hK => ?_)
        refine goes_ Try.func18 (by kernel_rfl) rfl #[.agg #[.slice A0_0 l0_0.length c0_0, .slice A0_1 l0_1.length c0_1, .slice A0_2 l0_2.length c0_2, .int .i64 a0_3], .int .i64 2, .int .i64 x77_2] (by rfl) rfl rfl (by (try simp only [List.map_toArray, List.map_cons, List.map_nil]); (rfl)) ?_
        with_reducible refine (domain_Of.calls k2 _ _ l0_0 _ _ l0_1 _ _ l0_2 a0_3 2 x77_2 t391 _ ?side1 ?side2 ?side3 ?side4 ?side5 ?side6 A95.out).mono ?_
        (case side1 => repeat ((exact (Kd.C_below HR0_0.out HB.out))))
        (case side2 => exact HC0_0.out)
        (case side3 => repeat ((exact (Kd.C_below HR0_1.out HB.out))))
        (case side4 => exact HC0_1.out)
        (case side5 => repeat ((exact (Kd.C_below HR0_2.out HB.out))))
        (case side6 => exact HC0_2.out)
        rintro e w99 ⟨rfl, hb⟩
        refine ⟨_, rfl, ?_⟩
        have n0_ := Aside0.mk (Kd.R_below HO_352000.out hb)
        have n1_ := Aside0.mk (Kd.R_below HO_352001.out hb)
        have n2_ := Aside0.mk (Kd.R_below HO_352002.out hb)
        have n3_ := Aside0.mk (Kd.R_below HO_364000.out hb)
        have n4_ := Aside0.mk (Kd.R_below HO_364001.out hb)
        have n5_ := Aside0.mk (Kd.R_below HO_364002.out hb)
        have n6_ := Aside0.mk (Kd.R_below HO_376000.out hb)
        have n7_ := Aside0.mk (Kd.R_below HO_376001.out hb)
        have n8_ := Aside0.mk (Kd.R_below HO_376002.out hb)
        have n9_ := Aside0.mk (Kd.R_below HO_388000.out hb)
        have n10_ := Aside0.mk (Kd.R_below HO_388001.out hb)
        have n11_ := Aside0.mk (Kd.R_below HO_388002.out hb)
        have n12_ := Aside0.mk (zq_ (g := gb336) (o := .cells #[.slice A0_0 l0_0.length c0_0, .slice A0_1 l0_1.length c0_1, .slice A0_2 l0_2.length c0_2, .int .i64 a0_3] 25 (0, 0)) BK336.out hb)
        have n13_ := Aside0.mk (zq_ (g := gb337) (o := .cells #[.int .i64 a1_0, .int .i64 a1_1] 44 (0, 0)) BK337.out hb)
        have n14_ := Aside0.mk (zq_ (g := gb351) (o := .cells #[.slice Ao19 t340.length co19, .slice Ao23 t343.length co23, .slice Ao24 t346.length co24, .int .i64 t349] 25 (0, 0)) BK351.out hb)
        have n15_ := Aside0.mk (zq_ (g := gb363) (o := .cells #[.slice Ao29 t352.length co29, .slice Ao34 t355.length co34, .slice Ao35 t358.length co35, .int .i64 t361] 25 (0, 0)) BK363.out hb)
        have n16_ := Aside0.mk (zq_ (g := gb375) (o := .cells #[.slice Ao40 t364.length co40, .slice Ao46 t367.length co46, .slice Ao47 t370.length co47, .int .i64 t373, .int .i64 t374] 48 (0, 0)) BK375.out hb)
        have n17_ := Aside0.mk (zq_ (g := gb387) (o := .cells #[.slice Ao52 t376.length co52, .slice Ao59 t379.length co59, .slice Ao60 t382.length co60, .int .i64 t385, .int .i64 t386] 48 (0, 0)) BK387.out hb)
        have n18_ := Aside0.mk (zv_ (by repeat (((with_reducible (exact HB.out))))) hb)
        clear HO_352000
        clear HO_352001
        clear HO_352002
        clear HO_364000
        clear HO_364001
        clear HO_364002
        clear HO_376000
        clear HO_376001
        clear HO_376002
        clear HO_388000
        clear HO_388001
        clear HO_388002
        clear BK336
        clear BK337
        clear BK351
        clear BK363
        clear BK375
        clear BK387
        clear HB
        have HO_352000 := n0_
        have HO_352001 := n1_
        have HO_352002 := n2_
        have HO_364000 := n3_
        have HO_364001 := n4_
        have HO_364002 := n5_
        have HO_376000 := n6_
        have HO_376001 := n7_
        have HO_376002 := n8_
        have HO_388000 := n9_
        have HO_388001 := n10_
        have HO_388002 := n11_
        have BK336 := n12_
        have BK337 := n13_
        have BK351 := n14_
        have BK363 := n15_
        have BK375 := n16_
        have BK387 := n17_
        have HB := n18_
        clear n0_ n1_ n2_ n3_ n4_ n5_ n6_ n7_ n8_ n9_ n10_ n11_ n12_ n13_ n14_ n15_ n16_ n17_ n18_
        (try clear hb)
        (try clear hb2)
        (try clear hk)
        (try clear hi)
        refine hK.out _ _ ⟨(blk_cell BK336.out 0).trans rfl, (blk_cell BK336.out 1).trans rfl, (blk_cell BK336.out 2).trans rfl, (blk_cell BK336.out 3).trans rfl⟩ (fun hHeld => ?_)
        clear hK K
        refine norm_ (a' := ?_) ?_ ?_
        rotate_left
        ·show Act.put _ (some 82) _ = _
         simp only [Act.put, zA_, zB_, zC_, i64_w, i32_w]
         rfl
        refine one_ (i := 5) (N := some 85) #[Y,Y,Y,Y,Y,Y,Z,Z] rfl rfl (one_of HT_.out (by kernel_rfl)) (by decide) (fun K hK => ?_)
        refine goes_ Try.func18 (by kernel_rfl) rfl #[.agg #[.slice A0_0 l0_0.length c0_0, .slice A0_1 l0_1.length c0_1, .slice A0_2 l0_2.length c0_2, .int .i64 a0_3], .int .i64 1, .int .i64 x77_2] (by rfl) rfl rfl (by (try simp only [List.map_toArray, List.map_cons, List.map_nil]); (rfl)) ?_
        with_reducible refine (domain_Of.calls k2 _ _ l0_0 _ _ l0_1 _ _ l0_2 a0_3 1 x77_2 t392 _ ?side1 ?side2 ?side3 ?side4 ?side5 ?side6 A96.out).mono ?_
        (case side1 => repeat ((exact (Kd.C_below HR0_0.out HB.out))))
        (case side2 => exact HC0_0.out)
        (case side3 => repeat ((exact (Kd.C_below HR0_1.out HB.out))))
        (case side4 => exact HC0_1.out)
        (case side5 => repeat ((exact (Kd.C_below HR0_2.out HB.out))))
        (case side6 => exact HC0_2.out)
        rintro e w100 ⟨rfl, hb⟩
        refine ⟨_, rfl, ?_⟩
        have n0_ := Aside0.mk (Kd.R_below HO_352000.out hb)
        have n1_ := Aside0.mk (Kd.R_below HO_352001.out hb)
        have n2_ := Aside0.mk (Kd.R_below HO_352002.out hb)
        have n3_ := Aside0.mk (Kd.R_below HO_364000.out hb)
        have n4_ := Aside0.mk (Kd.R_below HO_364001.out hb)
        have n5_ := Aside0.mk (Kd.R_below HO_364002.out hb)
        have n6_ := Aside0.mk (Kd.R_below HO_376000.out hb)
        have n7_ := Aside0.mk (Kd.R_below HO_376001.out hb)
        have n8_ := Aside0.mk (Kd.R_below HO_376002.out hb)
        have n9_ := Aside0.mk (Kd.R_below HO_388000.out hb)
        have n10_ := Aside0.mk (Kd.R_below HO_388001.out hb)
        have n11_ := Aside0.mk (Kd.R_below HO_388002.out hb)
        have n12_ := Aside0.mk (zq_ (g := gb336) (o := .cells #[.slice A0_0 l0_0.length c0_0, .slice A0_1 l0_1.length c0_1, .slice A0_2 l0_2.length c0_2, .int .i64 a0_3] 25 (0, 0)) BK336.out hb)
        have n13_ := Aside0.mk (zq_ (g := gb337) (o := .cells #[.int .i64 a1_0, .int .i64 a1_1] 44 (0, 0)) BK337.out hb)
        have n14_ := Aside0.mk (zq_ (g := gb351) (o := .cells #[.slice Ao19 t340.length co19, .slice Ao23 t343.length co23, .slice Ao24 t346.length co24, .int .i64 t349] 25 (0, 0)) BK351.out hb)
        have n15_ := Aside0.mk (zq_ (g := gb363) (o := .cells #[.slice Ao29 t352.length co29, .slice Ao34 t355.length co34, .slice Ao35 t358.length co35, .int .i64 t361] 25 (0, 0)) BK363.out hb)
        have n16_ := Aside0.mk (zq_ (g := gb375) (o := .cells #[.slice Ao40 t364.length co40, .slice Ao46 t367.length co46, .slice Ao47 t370.length co47, .int .i64 t373, .int .i64 t374] 48 (0, 0)) BK375.out hb)
        have n17_ := Aside0.mk (zq_ (g := gb387) (o := .cells #[.slice Ao52 t376.length co52, .slice Ao59 t379.length co59, .slice Ao60 t382.length co60, .int .i64 t385, .int .i64 t386] 48 (0, 0)) BK387.out hb)
        have n18_ := Aside0.mk (zv_ (by repeat (((with_reducible (exact HB.out))))) hb)
        clear HO_352000
        clear HO_352001
        clear HO_352002
        clear HO_364000
        clear HO_364001
        clear HO_364002
        clear HO_376000
        clear HO_376001
        clear HO_376002
        clear HO_388000
        clear HO_388001
        clear HO_388002
        clear BK336
        clear BK337
        clear BK351
        clear BK363
        clear BK375
        clear BK387
        clear HB
        have HO_352000 := n0_
        have HO_352001 := n1_
        have HO_352002 := n2_
        have HO_364000 := n3_
        have HO_364001 := n4_
        have HO_364002 := n5_
        have HO_376000 := n6_
        have HO_376001 := n7_
        have HO_376002 := n8_
        have HO_388000 := n9_
        have HO_388001 := n10_
        have HO_388002 := n11_
        have BK336 := n12_
        have BK337 := n13_
        have BK351 := n14_
        have BK363 := n15_
        have BK375 := n16_
        have BK387 := n17_
        have HB := n18_
        clear n0_ n1_ n2_ n3_ n4_ n5_ n6_ n7_ n8_ n9_ n10_ n11_ n12_ n13_ n14_ n15_ n16_ n17_ n18_
        (try clear hb)
        (try clear hb2)
        (try clear hk)
        (try clear hi)
        refine hK.out _ _ ⟨(blk_cell BK336.out 0).trans rfl, (blk_cell BK336.out 1).trans rfl, (blk_cell BK336.out 2).trans rfl, (blk_cell BK336.out 3).trans rfl⟩ (fun hHeld => ?_)
        clear hK K
        refine norm_ (a' := ?_) ?_ ?_
        rotate_left
        ·show Act.put _ (some 85) _ = _
         simp only [Act.put, zA_, zB_, zC_, i64_w, i32_w]
         rfl
        refine pure_ (i := 6) (N := some 13) (v := ?_) (a' := ?_) #[Y,Y,Y,Y,Y,Y,Y,Z] rfl rfl (any_of HT_.out (by kernel_rfl)) (fun _ _ _ h => h) (Or.inl ⟨by rfl, ?_⟩) ?_ ?_
        rotate_left
        ·intro w'
         go_simp
         with_reducible rfl
        rotate_left
        ·simp only [Act.put, zA_, zB_, zC_, i64_w, i32_w]
         rfl
        refine pure_ (i := 7) (N := some 14) (v := ?_) (a' := ?_) #[Y,Y,Y,Y,Y,Y,Y,Y] rfl rfl (any_of HT_.out (by kernel_rfl)) (fun _ _ _ h => h) (Or.inl ⟨by rfl, ?_⟩) ?_ ?_
        rotate_left
        ·intro w'
         go_simp
         with_reducible rfl
        rotate_left
        ·simp only [Act.put, zA_, zB_, zC_, i64_w, i32_w]
         rfl
        refine done_ (done_of HT_.out (by kernel_rfl)) ?_
        go_upto_region 14 with (fail)
        go_cut [123] (fun v123 wc => ∃ (kq : Nat) (x123_96 : Bool), v123 = .bool x123_96 ∧ Aside0 (quietuslaw10_DomainsChange.j2 kq t350 t362 x77_2 t391 t392 (l0_0.length : Int) x77_2 x123_96 l0_0 l0_1 l0_2 a0_3 a1_0 a1_1 t340 t343 t346 t349 t352 t355 t358 t361 = some r) ∧ Aside0 (kq ≤ k2) ∧ Aside0 (Kd.R (Kd.int .i64) 3 wc w.heap.size (fun _ => True) (.slice Ao19 t340.length co19) t340) ∧ Aside0 (Kd.R k117 117 wc w.heap.size (fun _ => True) (.slice Ao23 t343.length co23) t343) ∧ Aside0 (Kd.R (Kd.int .i64) 3 wc w.heap.size (fun _ => True) (.slice Ao24 t346.length co24) t346) ∧ Aside0 (Kd.R (Kd.int .i64) 3 wc w.heap.size (fun _ => True) (.slice Ao29 t352.length co29) t352) ∧ Aside0 (Kd.R k117 117 wc w.heap.size (fun _ => True) (.slice Ao34 t355.length co34) t355) ∧ Aside0 (Kd.R (Kd.int .i64) 3 wc w.heap.size (fun _ => True) (.slice Ao35 t358.length co35) t358) ∧ Aside0 (Kd.R (Kd.int .i64) 3 wc w.heap.size (fun _ => True) (.slice Ao40 t364.length co40) t364) ∧ Aside0 (Kd.R k117 117 wc w.heap.size (fun _ => True) (.slice Ao46 t367.length co46) t367) ∧ Aside0 (Kd.R (Kd.int .i64) 3 wc w.heap.size (fun _ => True) (.slice Ao47 t370.length co47) t370) ∧ Aside0 (Kd.R (Kd.int .i64) 3 wc w.heap.size (fun _ => True) (.slice Ao52 t376.length co52) t376) ∧ Aside0 (Kd.R k117 117 wc w.heap.size (fun _ => True) (.slice Ao59 t379.length co59) t379) ∧ Aside0 (Kd.R (Kd.int .i64) 3 wc w.heap.size (fun _ => True) (.slice Ao60 t382.length co60) t382) ∧ Aside0 (wc.heap[gb336]? = some (.cells #[(.slice A0_0 l0_0.length c0_0), (.slice A0_1 l0_1.length c0_1), (.slice A0_2 l0_2.length c0_2), .int .i64 a0_3] 25 (0, 0))) ∧ Aside0 (wc.heap[gb337]? = some (.cells #[.int .i64 a1_0, .int .i64 a1_1] 44 (0, 0))) ∧ Aside0 (wc.heap[gb351]? = some (.cells #[(.slice Ao19 t340.length co19), (.slice Ao23 t343.length co23), (.slice Ao24 t346.length co24), .int .i64 t349] 25 (0, 0))) ∧ Aside0 (wc.heap[gb363]? = some (.cells #[(.slice Ao29 t352.length co29), (.slice Ao34 t355.length co34), (.slice Ao35 t358.length co35), .int .i64 t361] 25 (0, 0))) ∧ Aside0 (wc.heap[gb375]? = some (.cells #[(.slice Ao40 t364.length co40), (.slice Ao46 t367.length co46), (.slice Ao47 t370.length co47), .int .i64 t373, .int .i64 t374] 48 (0, 0))) ∧ Aside0 (wc.heap[gb387]? = some (.cells #[(.slice Ao52 t376.length co52), (.slice Ao59 t379.length co59), (.slice Ao60 t382.length co60), .int .i64 t385, .int .i64 t386] 48 (0, 0))) ∧ Aside0 (Below w.heap.size w wc))
        case first =>
         have H := HC97.out
         clear HC97
         by_cases c101 : t350 = 0
         ·rw [if_pos c101] at H
          have c101b0 : (t350 == 0) = true := beq_iff_eq.mpr c101
          have c101b1 : (t350 != 0) = false := bne_eq_false_iff_eq.mpr c101
          clear c101
          (skip)
          replace H := Option.bind_eq_some_iff.mp H
          obtain ⟨t393, A1020, H⟩ := H
          replace H : (if t393 = t391 then (if t391 = a1_0 then ((domain_Of.f k2 t340 t343 t346 t349 3 x77_2).bind fun t394 => (quietuslaw10_DomainsChange.j2 k2 t350 t362 x77_2 t391 t392 (l0_0.length : Int) x77_2 (t394 != a1_1) l0_0 l0_1 l0_2 a0_3 a1_0 a1_1 t340 t343 t346 t349 t352 t355 t358 t361)) else ((domain_Of.f k2 t340 t343 t346 t349 3 x77_2).bind fun t395 => ((domain_Of.f k2 l0_0 l0_1 l0_2 a0_3 3 x77_2).bind fun t396 => (if t395 = t396 then (quietuslaw10_DomainsChange.j2 k2 t350 t362 x77_2 t391 t392 (l0_0.length : Int) x77_2 false l0_0 l0_1 l0_2 a0_3 a1_0 a1_1 t340 t343 t346 t349 t352 t355 t358 t361) else (none))))) else (none)) = some r := H
          have A102 := Aside0.mk A1020
          clear A1020
          by_cases c103 : t393 = t391
          ·rw [if_pos c103] at H
           have c103b0 : (t393 == t391) = true := beq_iff_eq.mpr c103
           have c103b1 : (t393 != t391) = false := bne_eq_false_iff_eq.mpr c103
           clear c103
           by_cases c104 : t391 = a1_0
           ·rw [if_pos c104] at H
            have c104b0 : (t391 == a1_0) = true := beq_iff_eq.mpr c104
            have c104b1 : (t391 != a1_0) = false := bne_eq_false_iff_eq.mpr c104
            clear c104
            replace H := Option.bind_eq_some_iff.mp H
            obtain ⟨t394, A1050, H⟩ := H
            replace H : (quietuslaw10_DomainsChange.j2 k2 t350 t362 x77_2 t391 t392 (l0_0.length : Int) x77_2 (t394 != a1_1) l0_0 l0_1 l0_2 a0_3 a1_0 a1_1 t340 t343 t346 t349 t352 t355 t358 t361) = some r := H
            have A105 := Aside0.mk A1050
            clear A1050
            have H' := Aside0.mk H
            clear H
            try go_wp2
            have n0_ := Aside0.mk (zc_ HO_352000.out)
            have n1_ := Aside0.mk (zc_ HO_352001.out)
            have n2_ := Aside0.mk (zc_ HO_352002.out)
            have n3_ := Aside0.mk (zc_ HO_364000.out)
            have n4_ := Aside0.mk (zc_ HO_364001.out)
            have n5_ := Aside0.mk (zc_ HO_364002.out)
            have n6_ := Aside0.mk (zc_ HO_376000.out)
            have n7_ := Aside0.mk (zc_ HO_376001.out)
            have n8_ := Aside0.mk (zc_ HO_376002.out)
            have n9_ := Aside0.mk (zc_ HO_388000.out)
            have n10_ := Aside0.mk (zc_ HO_388001.out)
            have n11_ := Aside0.mk (zc_ HO_388002.out)
            have n12_ := Aside0.mk (zn_ BK336.out)
            have n13_ := Aside0.mk (zn_ BK337.out)
            have n14_ := Aside0.mk (zn_ BK351.out)
            have n15_ := Aside0.mk (zn_ BK363.out)
            have n16_ := Aside0.mk (zn_ BK375.out)
            have n17_ := Aside0.mk (zn_ BK387.out)
            have n18_ := Aside0.mk (zu_ HB.out)
            clear HO_352000
            clear HO_352001
            clear HO_352002
            clear HO_364000
            clear HO_364001
            clear HO_364002
            clear HO_376000
            clear HO_376001
            clear HO_376002
            clear HO_388000
            clear HO_388001
            clear HO_388002
            clear BK336
            clear BK337
            clear BK351
            clear BK363
            clear BK375
            clear BK387
            clear HB
            have HO_352000 := n0_
            have HO_352001 := n1_
            have HO_352002 := n2_
            have HO_364000 := n3_
            have HO_364001 := n4_
            have HO_364002 := n5_
            have HO_376000 := n6_
            have HO_376001 := n7_
            have HO_376002 := n8_
            have HO_388000 := n9_
            have HO_388001 := n10_
            have HO_388002 := n11_
            have BK336 := n12_
            have BK337 := n13_
            have BK351 := n14_
            have BK363 := n15_
            have BK375 := n16_
            have BK387 := n17_
            have HB := n18_
            clear n0_ n1_ n2_ n3_ n4_ n5_ n6_ n7_ n8_ n9_ n10_ n11_ n12_ n13_ n14_ n15_ n16_ n17_ n18_
            refine start_ (n := 38) (S := fun w' => w'.cell? ⟨gb351, 0, none⟩ = some (.slice Ao19 t340.length co19) ∧ w'.cell? ⟨gb351, 1, none⟩ = some (.slice Ao23 t343.length co23) ∧ w'.cell? ⟨gb351, 2, none⟩ = some (.slice Ao24 t346.length co24) ∧ w'.cell? ⟨gb351, 3, none⟩ = some (.int .i64 t349) ∧ w'.cell? ⟨gb337, 0, none⟩ = some (.int .i64 a1_0) ∧ w'.cell? ⟨gb337, 1, none⟩ = some (.int .i64 a1_1)) (ds := []) #[Z,Z,Z,Z,Z,Z,Z,Z,Z,Z,Z,Z,Z,Z,Z,Z,Z,Z,Z,Z,Z,Z,Z,Z,Z,Z,Z,Z,Z,Z,Z,Z,Z,Z,Z,Z,Z,Z] (by kernel_rfl) rfl rfl ⟨(blk_cell BK351.out 0).trans rfl, (blk_cell BK351.out 1).trans rfl, (blk_cell BK351.out 2).trans rfl, (blk_cell BK351.out 3).trans rfl, (blk_cell BK337.out 0).trans rfl, (blk_cell BK337.out 1).trans rfl⟩ (fun hHeld => ?_); refine with_tabW quietuslaw10_DomainsChange.tab14 quietuslaw10_DomainsChange.bits14 (fun HT_ HW_ => ?_)
            generalize w100.drew = w106 at HO_352000 HO_352001 HO_352002 HO_364000 HO_364001 HO_364002 HO_376000 HO_376001 HO_376002 HO_388000 HO_388001 HO_388002 BK336 BK337 BK351 BK363 BK375 BK387 HB hHeld ⊢
            refine pure_ (i := 0) (N := some 86) (v := ?_) (a' := ?_) #[Y,Z,Z,Z,Z,Z,Z,Z,Z,Z,Z,Z,Z,Z,Z,Z,Z,Z,Z,Z,Z,Z,Z,Z,Z,Z,Z,Z,Z,Z,Z,Z,Z,Z,Z,Z,Z,Z] rfl rfl (any_of HT_.out (by kernel_rfl)) (fun _ _ _ h => h) (Or.inl ⟨by rfl, ?_⟩) ?_ ?_
            rotate_left
            ·intro w'
             go_simp
             with_reducible rfl
            rotate_left
            ·simp only [Act.put, zA_, zB_, zC_, i64_w, i32_w]
             rfl
            refine pure_ (i := 1) (N := some 87) (v := ?_) (a' := ?_) #[Y,Y,Z,Z,Z,Z,Z,Z,Z,Z,Z,Z,Z,Z,Z,Z,Z,Z,Z,Z,Z,Z,Z,Z,Z,Z,Z,Z,Z,Z,Z,Z,Z,Z,Z,Z,Z,Z] rfl rfl (any_of HT_.out (by kernel_rfl)) (fun _ _ _ h => h) (Or.inl ⟨by rfl, ?_⟩) ?_ ?_
            rotate_left
            ·intro w'
             go_simp
             with_reducible rfl
            rotate_left
            ·simp only [Act.put, zA_, zB_, zC_, i64_w, i32_w]
             rfl
            refine pure_ (i := 2) (N := some 88) (v := ?_) (a' := ?_) #[Y,Y,Y,Z,Z,Z,Z,Z,Z,Z,Z,Z,Z,Z,Z,Z,Z,Z,Z,Z,Z,Z,Z,Z,Z,Z,Z,Z,Z,Z,Z,Z,Z,Z,Z,Z,Z,Z] rfl rfl (any_of HT_.out (by kernel_rfl)) (fun _ _ _ h => h) (Or.inl ⟨by rfl, ?_⟩) ?_ ?_
            rotate_left
            ·intro w'
             go_simp
             with_reducible rfl
            rotate_left
            ·simp only [Act.put, zA_, zB_, zC_, i64_w, i32_w]
             rfl
            refine pure_ (i := 4) (N := some 90) (v := ?_) (a' := ?_) #[Y,Y,Y,Z,Y,Z,Z,Z,Z,Z,Z,Z,Z,Z,Z,Z,Z,Z,Z,Z,Z,Z,Z,Z,Z,Z,Z,Z,Z,Z,Z,Z,Z,Z,Z,Z,Z,Z] rfl rfl (any_of HT_.out (by kernel_rfl)) (fun _ _ _ h => h) (Or.inl ⟨by rfl, ?_⟩) ?_ ?_
            rotate_left
            ·intro w'
             go_simp
             with_reducible rfl
            rotate_left
            ·simp only [Act.put, zA_, zB_, zC_, i64_w, i32_w]
             rfl
            refine pure_ (i := 6) (N := some 92) (v := ?_) (a' := ?_) #[Y,Y,Y,Z,Y,Z,Y,Z,Z,Z,Z,Z,Z,Z,Z,Z,Z,Z,Z,Z,Z,Z,Z,Z,Z,Z,Z,Z,Z,Z,Z,Z,Z,Z,Z,Z,Z,Z] rfl rfl (any_of HT_.out (by kernel_rfl)) (fun _ _ _ h => h) (Or.inl ⟨by rfl, ?_⟩) ?_ ?_
            rotate_left
            ·intro w'
             go_simp
             with_reducible rfl
            rotate_left
            ·simp only [Act.put, zA_, zB_, zC_, i64_w, i32_w]
             rfl
            refine take_ (i := 3) (N := some 89) (v := ?_) (a' := ?_) #[Y,Y,Y,Y,Y,Z,Y,Z,Z,Z,Z,Z,Z,Z,Z,Z,Z,Z,Z,Z,Z,Z,Z,Z,Z,Z,Z,Z,Z,Z,Z,Z,Z,Z,Z,Z,Z,Z] rfl rfl (take_ofW HT_.out HW_.out (by kernel_rfl)) (fun _ _ _ h => h) (Or.inl ⟨by rfl, ?_⟩) hHeld ?_ ?_
            rotate_left
            ·rintro w' ⟨s0, s1, s2, s3, s4, s5⟩
             go_simp
             with_reducible rfl
            rotate_left
            ·simp only [Act.put, zA_, zB_, zC_, i64_w, i32_w]
             rfl
            refine one_ (i := 5) (N := some 91) #[Y,Y,Y,Y,Y,Y,Y,Z,Z,Z,Z,Z,Z,Z,Z,Z,Z,Z,Z,Z,Z,Z,Z,Z,Z,Z,Z,Z,Z,Z,Z,Z,Z,Z,Z,Z,Z,Z] rfl rfl (one_of HT_.out (by kernel_rfl)) (by decide) (fun K hK => ?_)
            refine goes_ Try.func18 (by kernel_rfl) rfl #[.agg #[.slice Ao19 t340.length co19, .slice Ao23 t343.length co23, .slice Ao24 t346.length co24, .int .i64 t349], .int .i64 2, .int .i64 x77_2] (by rfl) rfl rfl (by (try simp only [List.map_toArray, List.map_cons, List.map_nil]); (rfl)) ?_
            with_reducible refine (domain_Of.calls k2 _ _ t340 _ _ t343 _ _ t346 t349 2 x77_2 t393 _ ?side1 ?side2 ?side3 ?side4 ?side5 ?side6 A102.out).mono ?_
            (case side1 => repeat ((exact (zl_ HO_352000.out).2.2)))
            (case side2 => exact (zl_ HO_352000.out).2.1)
            (case side3 => repeat ((exact (zl_ HO_352001.out).2.2)))
            (case side4 => exact (zl_ HO_352001.out).2.1)
            (case side5 => repeat ((exact (zl_ HO_352002.out).2.2)))
            (case side6 => exact (zl_ HO_352002.out).2.1)
            rintro e w107 ⟨rfl, hb⟩
            refine ⟨_, rfl, ?_⟩
            have n0_ := Aside0.mk (Kd.R_below HO_352000.out hb)
            have n1_ := Aside0.mk (Kd.R_below HO_352001.out hb)
            have n2_ := Aside0.mk (Kd.R_below HO_352002.out hb)
            have n3_ := Aside0.mk (Kd.R_below HO_364000.out hb)
            have n4_ := Aside0.mk (Kd.R_below HO_364001.out hb)
            have n5_ := Aside0.mk (Kd.R_below HO_364002.out hb)
            have n6_ := Aside0.mk (Kd.R_below HO_376000.out hb)
            have n7_ := Aside0.mk (Kd.R_below HO_376001.out hb)
            have n8_ := Aside0.mk (Kd.R_below HO_376002.out hb)
            have n9_ := Aside0.mk (Kd.R_below HO_388000.out hb)
            have n10_ := Aside0.mk (Kd.R_below HO_388001.out hb)
            have n11_ := Aside0.mk (Kd.R_below HO_388002.out hb)
            have n12_ := Aside0.mk (zq_ (g := gb336) (o := .cells #[.slice A0_0 l0_0.length c0_0, .slice A0_1 l0_1.length c0_1, .slice A0_2 l0_2.length c0_2, .int .i64 a0_3] 25 (0, 0)) BK336.out hb)
            have n13_ := Aside0.mk (zq_ (g := gb337) (o := .cells #[.int .i64 a1_0, .int .i64 a1_1] 44 (0, 0)) BK337.out hb)
            have n14_ := Aside0.mk (zq_ (g := gb351) (o := .cells #[.slice Ao19 t340.length co19, .slice Ao23 t343.length co23, .slice Ao24 t346.length co24, .int .i64 t349] 25 (0, 0)) BK351.out hb)
            have n15_ := Aside0.mk (zq_ (g := gb363) (o := .cells #[.slice Ao29 t352.length co29, .slice Ao34 t355.length co34, .slice Ao35 t358.length co35, .int .i64 t361] 25 (0, 0)) BK363.out hb)
            have n16_ := Aside0.mk (zq_ (g := gb375) (o := .cells #[.slice Ao40 t364.length co40, .slice Ao46 t367.length co46, .slice Ao47 t370.length co47, .int .i64 t373, .int .i64 t374] 48 (0, 0)) BK375.out hb)
            have n17_ := Aside0.mk (zq_ (g := gb387) (o := .cells #[.slice Ao52 t376.length co52, .slice Ao59 t379.length co59, .slice Ao60 t382.length co60, .int .i64 t385, .int .i64 t386] 48 (0, 0)) BK387.out hb)
            have n18_ := Aside0.mk (zv_ (by repeat (((with_reducible (exact HB.out))))) hb)
            clear HO_352000
            clear HO_352001
            clear HO_352002
            clear HO_364000
            clear HO_364001
            clear HO_364002
            clear HO_376000
            clear HO_376001
            clear HO_376002
            clear HO_388000
            clear HO_388001
            clear HO_388002
            clear BK336
            clear BK337
            clear BK351
            clear BK363
            clear BK375
            clear BK387
            clear HB
            have HO_352000 := n0_
            have HO_352001 := n1_
            have HO_352002 := n2_
            have HO_364000 := n3_
            have HO_364001 := n4_
            have HO_364002 := n5_
            have HO_376000 := n6_
            have HO_376001 := n7_
            have HO_376002 := n8_
            have HO_388000 := n9_
            have HO_388001 := n10_
            have HO_388002 := n11_
            have BK336 := n12_
            have BK337 := n13_
            have BK351 := n14_
            have BK363 := n15_
            have BK375 := n16_
            have BK387 := n17_
            have HB := n18_
            clear n0_ n1_ n2_ n3_ n4_ n5_ n6_ n7_ n8_ n9_ n10_ n11_ n12_ n13_ n14_ n15_ n16_ n17_ n18_
            (try clear hb)
            (try clear hb2)
            (try clear hk)
            (try clear hi)
            refine hK.out _ _ ⟨(blk_cell BK351.out 0).trans rfl, (blk_cell BK351.out 1).trans rfl, (blk_cell BK351.out 2).trans rfl, (blk_cell BK351.out 3).trans rfl, (blk_cell BK337.out 0).trans rfl, (blk_cell BK337.out 1).trans rfl⟩ (fun hHeld => ?_)
            clear hK K
            refine norm_ (a' := ?_) ?_ ?_
            rotate_left
            ·show Act.put _ (some 91) _ = _
             simp only [Act.put, zA_, zB_, zC_, i64_w, i32_w]
             rfl
            refine pure_ (i := 7) (N := some 93) (v := ?_) (a' := ?_) #[Y,Y,Y,Y,Y,Y,Y,Y,Z,Z,Z,Z,Z,Z,Z,Z,Z,Z,Z,Z,Z,Z,Z,Z,Z,Z,Z,Z,Z,Z,Z,Z,Z,Z,Z,Z,Z,Z] rfl rfl (any_of HT_.out (by kernel_rfl)) (fun _ _ _ h => h) (Or.inl ⟨by rfl, ?_⟩) ?_ ?_
            rotate_left
            ·intro w'
             go_simp
             with_reducible rfl
            rotate_left
            ·simp only [Act.put, zA_, zB_, zC_, i64_w, i32_w]
             rfl
            refine pure_ (i := 8) (N := some 94) (v := ?_) (a' := ?_) #[Y,Y,Y,Y,Y,Y,Y,Y,Y,Z,Z,Z,Z,Z,Z,Z,Z,Z,Z,Z,Z,Z,Z,Z,Z,Z,Z,Z,Z,Z,Z,Z,Z,Z,Z,Z,Z,Z] rfl rfl (any_of HT_.out (by kernel_rfl)) (fun _ _ _ h => h) (Or.inl ⟨by rfl, ?_⟩) ?_ ?_
            rotate_left
            ·intro w'
             go_simp
             with_reducible rfl
            rotate_left
            ·simp only [Act.put, zA_, zB_, zC_, i64_w, i32_w]
             rfl
            refine pure_ (i := 9) (N := some 95) (v := ?_) (a' := ?_) #[Y,Y,Y,Y,Y,Y,Y,Y,Y,Y,Z,Z,Z,Z,Z,Z,Z,Z,Z,Z,Z,Z,Z,Z,Z,Z,Z,Z,Z,Z,Z,Z,Z,Z,Z,Z,Z,Z] rfl rfl (any_of HT_.out (by kernel_rfl)) (fun _ _ _ h => h) (Or.inl ⟨by rfl, ?_⟩) ?_ ?_
            rotate_left
            ·intro w'
             go_simp
             with_reducible rfl
            rotate_left
            ·simp only [Act.put, zA_, zB_, zC_, i64_w, i32_w]
             rfl
            refine pure_ (i := 10) (N := some 96) (v := ?_) (a' := ?_) #[Y,Y,Y,Y,Y,Y,Y,Y,Y,Y,Y,Z,Z,Z,Z,Z,Z,Z,Z,Z,Z,Z,Z,Z,Z,Z,Z,Z,Z,Z,Z,Z,Z,Z,Z,Z,Z,Z] rfl rfl (any_of HT_.out (by kernel_rfl)) (fun _ _ _ h => h) (Or.inl ⟨by rfl, ?_⟩) ?_ ?_
            rotate_left
            ·intro w'
             go_simp
             with_reducible rfl
            rotate_left
            ·simp only [Act.put, zA_, zB_, zC_, i64_w, i32_w]
             rfl
            refine take_ (i := 11) (N := some 97) (v := ?_) (a' := ?_) #[Y,Y,Y,Y,Y,Y,Y,Y,Y,Y,Y,Y,Z,Z,Z,Z,Z,Z,Z,Z,Z,Z,Z,Z,Z,Z,Z,Z,Z,Z,Z,Z,Z,Z,Z,Z,Z,Z] rfl rfl (take_ofW HT_.out HW_.out (by kernel_rfl)) (fun _ _ _ h => h) (Or.inl ⟨by rfl, ?_⟩) hHeld ?_ ?_
            rotate_left
            ·rintro w' ⟨s0, s1, s2, s3, s4, s5⟩
             go_simp
             with_reducible rfl
            rotate_left
            ·simp only [Act.put, zA_, zB_, zC_, i64_w, i32_w]
             rfl
            refine pure_ (i := 12) (N := some 98) (v := ?_) (a' := ?_) #[Y,Y,Y,Y,Y,Y,Y,Y,Y,Y,Y,Y,Y,Z,Z,Z,Z,Z,Z,Z,Z,Z,Z,Z,Z,Z,Z,Z,Z,Z,Z,Z,Z,Z,Z,Z,Z,Z] rfl rfl (any_of HT_.out (by kernel_rfl)) (fun _ _ _ h => h) (Or.inl ⟨by rfl, ?_⟩) ?_ ?_
            rotate_left
            ·intro w'
             go_simp
             with_reducible rfl
            rotate_left
            ·simp only [Act.put, zA_, zB_, zC_, i64_w, i32_w]
             rfl
            refine pure_ (i := 13) (N := some 99) (v := ?_) (a' := ?_) #[Y,Y,Y,Y,Y,Y,Y,Y,Y,Y,Y,Y,Y,Y,Z,Z,Z,Z,Z,Z,Z,Z,Z,Z,Z,Z,Z,Z,Z,Z,Z,Z,Z,Z,Z,Z,Z,Z] rfl rfl (any_of HT_.out (by kernel_rfl)) (fun _ _ _ h => h) (Or.inl ⟨by rfl, ?_⟩) ?_ ?_
            rotate_left
            ·intro w'
             go_simp
             with_reducible rfl
            rotate_left
            ·simp only [Act.put, zA_, zB_, zC_, i64_w, i32_w]
             rfl
            refine pure_ (i := 14) (N := some 100) (v := undef) (a' := ?_) #[Y,Y,Y,Y,Y,Y,Y,Y,Y,Y,Y,Y,Y,Y,Y,Z,Z,Z,Z,Z,Z,Z,Z,Z,Z,Z,Z,Z,Z,Z,Z,Z,Z,Z,Z,Z,Z,Z] rfl rfl (any_of HT_.out (by kernel_rfl)) (fun _ _ _ h => h) (Or.inr ⟨by rfl, rfl⟩) ?_ ?_
            rotate_left
            ·simp only [Act.put, zA_, zB_, zC_, i64_w, i32_w]
             rfl
            refine pure_ (i := 15) (N := some 101) (v := undef) (a' := ?_) #[Y,Y,Y,Y,Y,Y,Y,Y,Y,Y,Y,Y,Y,Y,Y,Y,Z,Z,Z,Z,Z,Z,Z,Z,Z,Z,Z,Z,Z,Z,Z,Z,Z,Z,Z,Z,Z,Z] rfl rfl (any_of HT_.out (by kernel_rfl)) (fun _ _ _ h => h) (Or.inr ⟨by rfl, rfl⟩) ?_ ?_
            rotate_left
            ·simp only [Act.put, zA_, zB_, zC_, i64_w, i32_w]
             rfl
            refine pure_ (i := 16) (N := some 102) (v := undef) (a' := ?_) #[Y,Y,Y,Y,Y,Y,Y,Y,Y,Y,Y,Y,Y,Y,Y,Y,Y,Z,Z,Z,Z,Z,Z,Z,Z,Z,Z,Z,Z,Z,Z,Z,Z,Z,Z,Z,Z,Z] rfl rfl (any_of HT_.out (by kernel_rfl)) (fun _ _ _ h => h) (Or.inr ⟨by rfl, rfl⟩) ?_ ?_
            rotate_left
            ·simp only [Act.put, zA_, zB_, zC_, i64_w, i32_w]
             rfl
            refine pure_ (i := 17) (N := some 103) (v := undef) (a' := ?_) #[Y,Y,Y,Y,Y,Y,Y,Y,Y,Y,Y,Y,Y,Y,Y,Y,Y,Y,Z,Z,Z,Z,Z,Z,Z,Z,Z,Z,Z,Z,Z,Z,Z,Z,Z,Z,Z,Z] rfl rfl (any_of HT_.out (by kernel_rfl)) (fun _ _ _ h => h) (Or.inr ⟨by rfl, rfl⟩) ?_ ?_
            rotate_left
            ·simp only [Act.put, zA_, zB_, zC_, i64_w, i32_w]
             rfl
            refine pure_ (i := 18) (N := some 104) (v := undef) (a' := ?_) #[Y,Y,Y,Y,Y,Y,Y,Y,Y,Y,Y,Y,Y,Y,Y,Y,Y,Y,Y,Z,Z,Z,Z,Z,Z,Z,Z,Z,Z,Z,Z,Z,Z,Z,Z,Z,Z,Z] rfl rfl (any_of HT_.out (by kernel_rfl)) (fun _ _ _ h => h) (Or.inr ⟨by rfl, rfl⟩) ?_ ?_
            rotate_left
            ·simp only [Act.put, zA_, zB_, zC_, i64_w, i32_w]
             rfl
            refine pure_ (i := 19) (N := some 105) (v := undef) (a' := ?_) #[Y,Y,Y,Y,Y,Y,Y,Y,Y,Y,Y,Y,Y,Y,Y,Y,Y,Y,Y,Y,Z,Z,Z,Z,Z,Z,Z,Z,Z,Z,Z,Z,Z,Z,Z,Z,Z,Z] rfl rfl (any_of HT_.out (by kernel_rfl)) (fun _ _ _ h => h) (Or.inr ⟨by rfl, rfl⟩) ?_ ?_
            rotate_left
            ·simp only [Act.put, zA_, zB_, zC_, i64_w, i32_w]
             rfl
            refine pure_ (i := 20) (N := some 106) (v := undef) (a' := ?_) #[Y,Y,Y,Y,Y,Y,Y,Y,Y,Y,Y,Y,Y,Y,Y,Y,Y,Y,Y,Y,Y,Z,Z,Z,Z,Z,Z,Z,Z,Z,Z,Z,Z,Z,Z,Z,Z,Z] rfl rfl (any_of HT_.out (by kernel_rfl)) (fun _ _ _ h => h) (Or.inr ⟨by rfl, rfl⟩) ?_ ?_
            rotate_left
            ·simp only [Act.put, zA_, zB_, zC_, i64_w, i32_w]
             rfl
            refine pure_ (i := 21) (N := some 107) (v := ?_) (a' := ?_) #[Y,Y,Y,Y,Y,Y,Y,Y,Y,Y,Y,Y,Y,Y,Y,Y,Y,Y,Y,Y,Y,Y,Z,Z,Z,Z,Z,Z,Z,Z,Z,Z,Z,Z,Z,Z,Z,Z] rfl rfl (any_of HT_.out (by kernel_rfl)) (fun _ _ _ h => h) (Or.inl ⟨by rfl, ?_⟩) ?_ ?_
            rotate_left
            ·intro w'
             go_simp
             with_reducible rfl
            rotate_left
            ·simp only [Act.put, zA_, zB_, zC_, i64_w, i32_w]
             rfl
            refine pure_ (i := 22) (N := some 108) (v := ?_) (a' := ?_) #[Y,Y,Y,Y,Y,Y,Y,Y,Y,Y,Y,Y,Y,Y,Y,Y,Y,Y,Y,Y,Y,Y,Y,Z,Z,Z,Z,Z,Z,Z,Z,Z,Z,Z,Z,Z,Z,Z] rfl rfl (any_of HT_.out (by kernel_rfl)) (fun _ _ _ h => h) (Or.inl ⟨by rfl, ?_⟩) ?_ ?_
            rotate_left
            ·intro w'
             go_simp
             with_reducible rfl
            rotate_left
            ·simp only [Act.put, zA_, zB_, zC_, i64_w, i32_w]
             rfl
            refine pure_ (i := 23) (N := some 109) (v := ?_) (a' := ?_) #[Y,Y,Y,Y,Y,Y,Y,Y,Y,Y,Y,Y,Y,Y,Y,Y,Y,Y,Y,Y,Y,Y,Y,Y,Z,Z,Z,Z,Z,Z,Z,Z,Z,Z,Z,Z,Z,Z] rfl rfl (any_of HT_.out (by kernel_rfl)) (fun _ _ _ h => h) (Or.inl ⟨by rfl, ?_⟩) ?_ ?_
            rotate_left
            ·intro w'
             go_simp
             with_reducible rfl
            rotate_left
            ·simp only [Act.put, zA_, zB_, zC_, i64_w, i32_w]
             rfl
            refine pure_ (i := 24) (N := some 110) (v := ?_) (a' := ?_) #[Y,Y,Y,Y,Y,Y,Y,Y,Y,Y,Y,Y,Y,Y,Y,Y,Y,Y,Y,Y,Y,Y,Y,Y,Y,Z,Z,Z,Z,Z,Z,Z,Z,Z,Z,Z,Z,Z] rfl rfl (any_of HT_.out (by kernel_rfl)) (fun _ _ _ h => h) (Or.inl ⟨by rfl, ?_⟩) ?_ ?_
            rotate_left
            ·intro w'
             go_simp
             with_reducible rfl
            rotate_left
            ·simp only [Act.put, zA_, zB_, zC_, i64_w, i32_w]
             rfl
            refine pure_ (i := 25) (N := some 111) (v := ?_) (a' := ?_) #[Y,Y,Y,Y,Y,Y,Y,Y,Y,Y,Y,Y,Y,Y,Y,Y,Y,Y,Y,Y,Y,Y,Y,Y,Y,Y,Z,Z,Z,Z,Z,Z,Z,Z,Z,Z,Z,Z] rfl rfl (any_of HT_.out (by kernel_rfl)) (fun _ _ _ h => h) (Or.inl ⟨by rfl, ?_⟩) ?_ ?_
            rotate_left
            ·intro w'
             go_simp
             with_reducible rfl
            rotate_left
            ·simp only [Act.put, zA_, zB_, zC_, i64_w, i32_w]
             rfl
            refine take_ (i := 26) (N := some 112) (v := ?_) (a' := ?_) #[Y,Y,Y,Y,Y,Y,Y,Y,Y,Y,Y,Y,Y,Y,Y,Y,Y,Y,Y,Y,Y,Y,Y,Y,Y,Y,Y,Z,Z,Z,Z,Z,Z,Z,Z,Z,Z,Z] rfl rfl (take_ofW HT_.out HW_.out (by kernel_rfl)) (fun _ _ _ h => h) (Or.inl ⟨by rfl, ?_⟩) hHeld ?_ ?_
            rotate_left
            ·rintro w' ⟨s0, s1, s2, s3, s4, s5⟩
             go_simp
             with_reducible rfl
            rotate_left
            ·simp only [Act.put, zA_, zB_, zC_, i64_w, i32_w]
             rfl
            refine pure_ (i := 27) (N := some 113) (v := ?_) (a' := ?_) #[Y,Y,Y,Y,Y,Y,Y,Y,Y,Y,Y,Y,Y,Y,Y,Y,Y,Y,Y,Y,Y,Y,Y,Y,Y,Y,Y,Y,Z,Z,Z,Z,Z,Z,Z,Z,Z,Z] rfl rfl (any_of HT_.out (by kernel_rfl)) (fun _ _ _ h => h) (Or.inl ⟨by rfl, ?_⟩) ?_ ?_
            rotate_left
            ·intro w'
             go_simp
             with_reducible rfl
            rotate_left
            ·simp only [Act.put, zA_, zB_, zC_, i64_w, i32_w]
             rfl
            refine pure_ (i := 28) (N := some 114) (v := ?_) (a' := ?_) #[Y,Y,Y,Y,Y,Y,Y,Y,Y,Y,Y,Y,Y,Y,Y,Y,Y,Y,Y,Y,Y,Y,Y,Y,Y,Y,Y,Y,Y,Z,Z,Z,Z,Z,Z,Z,Z,Z] rfl rfl (any_of HT_.out (by kernel_rfl)) (fun _ _ _ h => h) (Or.inl ⟨by rfl, ?_⟩) ?_ ?_
            rotate_left
            ·intro w'
             go_simp
             with_reducible rfl
            rotate_left
            ·simp only [Act.put, zA_, zB_, zC_, i64_w, i32_w]
             rfl
            refine pure_ (i := 30) (N := some 116) (v := ?_) (a' := ?_) #[Y,Y,Y,Y,Y,Y,Y,Y,Y,Y,Y,Y,Y,Y,Y,Y,Y,Y,Y,Y,Y,Y,Y,Y,Y,Y,Y,Y,Y,Z,Y,Z,Z,Z,Z,Z,Z,Z] rfl rfl (any_of HT_.out (by kernel_rfl)) (fun _ _ _ h => h) (Or.inl ⟨by rfl, ?_⟩) ?_ ?_
            rotate_left
            ·intro w'
             go_simp
             with_reducible rfl
            rotate_left
            ·simp only [Act.put, zA_, zB_, zC_, i64_w, i32_w]
             rfl
            refine pure_ (i := 32) (N := some 118) (v := ?_) (a' := ?_) #[Y,Y,Y,Y,Y,Y,Y,Y,Y,Y,Y,Y,Y,Y,Y,Y,Y,Y,Y,Y,Y,Y,Y,Y,Y,Y,Y,Y,Y,Z,Y,Z,Y,Z,Z,Z,Z,Z] rfl rfl (any_of HT_.out (by kernel_rfl)) (fun _ _ _ h => h) (Or.inl ⟨by rfl, ?_⟩) ?_ ?_
            rotate_left
            ·intro w'
             go_simp
             with_reducible rfl
            rotate_left
            ·simp only [Act.put, zA_, zB_, zC_, i64_w, i32_w]
             rfl
            refine take_ (i := 29) (N := some 115) (v := ?_) (a' := ?_) #[Y,Y,Y,Y,Y,Y,Y,Y,Y,Y,Y,Y,Y,Y,Y,Y,Y,Y,Y,Y,Y,Y,Y,Y,Y,Y,Y,Y,Y,Y,Y,Z,Y,Z,Z,Z,Z,Z] rfl rfl (take_ofW HT_.out HW_.out (by kernel_rfl)) (fun _ _ _ h => h) (Or.inl ⟨by rfl, ?_⟩) hHeld ?_ ?_
            rotate_left
            ·rintro w' ⟨s0, s1, s2, s3, s4, s5⟩
             go_simp
             with_reducible rfl
            rotate_left
            ·simp only [Act.put, zA_, zB_, zC_, i64_w, i32_w]
             rfl
            refine take_ (i := 33) (N := some 119) (v := ?_) (a' := ?_) #[Y,Y,Y,Y,Y,Y,Y,Y,Y,Y,Y,Y,Y,Y,Y,Y,Y,Y,Y,Y,Y,Y,Y,Y,Y,Y,Y,Y,Y,Y,Y,Z,Y,Y,Z,Z,Z,Z] rfl rfl (take_ofW HT_.out HW_.out (by kernel_rfl)) (fun _ _ _ h => h) (Or.inl ⟨by rfl, ?_⟩) hHeld ?_ ?_
            rotate_left
            ·rintro w' ⟨s0, s1, s2, s3, s4, s5⟩
             go_simp
             with_reducible rfl
            rotate_left
            ·simp only [Act.put, zA_, zB_, zC_, i64_w, i32_w]
             rfl
            refine one_ (i := 31) (N := some 117) #[Y,Y,Y,Y,Y,Y,Y,Y,Y,Y,Y,Y,Y,Y,Y,Y,Y,Y,Y,Y,Y,Y,Y,Y,Y,Y,Y,Y,Y,Y,Y,Y,Y,Y,Z,Z,Z,Z] rfl rfl (one_of HT_.out (by kernel_rfl)) (by decide) (fun K hK => ?_)
            refine goes_ Try.func18 (by kernel_rfl) rfl #[.agg #[.slice Ao19 t340.length co19, .slice Ao23 t343.length co23, .slice Ao24 t346.length co24, .int .i64 t349], .int .i64 3, .int .i64 x77_2] (by rfl) rfl rfl (by (try simp only [List.map_toArray, List.map_cons, List.map_nil]); (rfl)) ?_
            with_reducible refine (domain_Of.calls k2 _ _ t340 _ _ t343 _ _ t346 t349 3 x77_2 t394 _ ?side1 ?side2 ?side3 ?side4 ?side5 ?side6 A105.out).mono ?_
            (case side1 => repeat ((exact (zl_ HO_352000.out).2.2)))
            (case side2 => exact (zl_ HO_352000.out).2.1)
            (case side3 => repeat ((exact (zl_ HO_352001.out).2.2)))
            (case side4 => exact (zl_ HO_352001.out).2.1)
            (case side5 => repeat ((exact (zl_ HO_352002.out).2.2)))
            (case side6 => exact (zl_ HO_352002.out).2.1)
            rintro e w108 ⟨rfl, hb⟩
            refine ⟨_, rfl, ?_⟩
            have n0_ := Aside0.mk (Kd.R_below HO_352000.out hb)
            have n1_ := Aside0.mk (Kd.R_below HO_352001.out hb)
            have n2_ := Aside0.mk (Kd.R_below HO_352002.out hb)
            have n3_ := Aside0.mk (Kd.R_below HO_364000.out hb)
            have n4_ := Aside0.mk (Kd.R_below HO_364001.out hb)
            have n5_ := Aside0.mk (Kd.R_below HO_364002.out hb)
            have n6_ := Aside0.mk (Kd.R_below HO_376000.out hb)
            have n7_ := Aside0.mk (Kd.R_below HO_376001.out hb)
            have n8_ := Aside0.mk (Kd.R_below HO_376002.out hb)
            have n9_ := Aside0.mk (Kd.R_below HO_388000.out hb)
            have n10_ := Aside0.mk (Kd.R_below HO_388001.out hb)
            have n11_ := Aside0.mk (Kd.R_below HO_388002.out hb)
            have n12_ := Aside0.mk (zq_ (g := gb336) (o := .cells #[.slice A0_0 l0_0.length c0_0, .slice A0_1 l0_1.length c0_1, .slice A0_2 l0_2.length c0_2, .int .i64 a0_3] 25 (0, 0)) BK336.out hb)
            have n13_ := Aside0.mk (zq_ (g := gb337) (o := .cells #[.int .i64 a1_0, .int .i64 a1_1] 44 (0, 0)) BK337.out hb)
            have n14_ := Aside0.mk (zq_ (g := gb351) (o := .cells #[.slice Ao19 t340.length co19, .slice Ao23 t343.length co23, .slice Ao24 t346.length co24, .int .i64 t349] 25 (0, 0)) BK351.out hb)
            have n15_ := Aside0.mk (zq_ (g := gb363) (o := .cells #[.slice Ao29 t352.length co29, .slice Ao34 t355.length co34, .slice Ao35 t358.length co35, .int .i64 t361] 25 (0, 0)) BK363.out hb)
            have n16_ := Aside0.mk (zq_ (g := gb375) (o := .cells #[.slice Ao40 t364.length co40, .slice Ao46 t367.length co46, .slice Ao47 t370.length co47, .int .i64 t373, .int .i64 t374] 48 (0, 0)) BK375.out hb)
            have n17_ := Aside0.mk (zq_ (g := gb387) (o := .cells #[.slice Ao52 t376.length co52, .slice Ao59 t379.length co59, .slice Ao60 t382.length co60, .int .i64 t385, .int .i64 t386] 48 (0, 0)) BK387.out hb)
            have n18_ := Aside0.mk (zv_ (by repeat (((with_reducible (exact HB.out))))) hb)
            clear HO_352000
            clear HO_352001
            clear HO_352002
            clear HO_364000
            clear HO_364001
            clear HO_364002
            clear HO_376000
            clear HO_376001
            clear HO_376002
            clear HO_388000
            clear HO_388001
            clear HO_388002
            clear BK336
            clear BK337
            clear BK351
            clear BK363
            clear BK375
            clear BK387
            clear HB
            have HO_352000 := n0_
            have HO_352001 := n1_
            have HO_352002 := n2_
            have HO_364000 := n3_
            have HO_364001 := n4_
            have HO_364002 := n5_
            have HO_376000 := n6_
            have HO_376001 := n7_
            have HO_376002 := n8_
            have HO_388000 := n9_
            have HO_388001 := n10_
            have HO_388002 := n11_
            have BK336 := n12_
            have BK337 := n13_
            have BK351 := n14_
            have BK363 := n15_
            have BK375 := n16_
            have BK387 := n17_
            have HB := n18_
            clear n0_ n1_ n2_ n3_ n4_ n5_ n6_ n7_ n8_ n9_ n10_ n11_ n12_ n13_ n14_ n15_ n16_ n17_ n18_
            (try clear hb)
            (try clear hb2)
            (try clear hk)
            (try clear hi)
            refine hK.out _ _ ⟨(blk_cell BK351.out 0).trans rfl, (blk_cell BK351.out 1).trans rfl, (blk_cell BK351.out 2).trans rfl, (blk_cell BK351.out 3).trans rfl, (blk_cell BK337.out 0).trans rfl, (blk_cell BK337.out 1).trans rfl⟩ (fun hHeld => ?_)
            clear hK K
            refine norm_ (a' := ?_) ?_ ?_
            rotate_left
            ·show Act.put _ (some 117) _ = _
             simp only [Act.put, zA_, zB_, zC_, i64_w, i32_w]
             rfl
            refine pure_ (i := 34) (N := some 120) (v := ?_) (a' := ?_) #[Y,Y,Y,Y,Y,Y,Y,Y,Y,Y,Y,Y,Y,Y,Y,Y,Y,Y,Y,Y,Y,Y,Y,Y,Y,Y,Y,Y,Y,Y,Y,Y,Y,Y,Y,Z,Z,Z] rfl rfl (any_of HT_.out (by kernel_rfl)) (fun _ _ _ h => h) (Or.inl ⟨by rfl, ?_⟩) ?_ ?_
            rotate_left
            ·intro w'
             go_simp
             with_reducible rfl
            rotate_left
            ·simp only [Act.put, zA_, zB_, zC_, i64_w, i32_w]
             rfl
            refine pure_ (i := 35) (N := some 121) (v := ?_) (a' := ?_) #[Y,Y,Y,Y,Y,Y,Y,Y,Y,Y,Y,Y,Y,Y,Y,Y,Y,Y,Y,Y,Y,Y,Y,Y,Y,Y,Y,Y,Y,Y,Y,Y,Y,Y,Y,Y,Z,Z] rfl rfl (any_of HT_.out (by kernel_rfl)) (fun _ _ _ h => h) (Or.inl ⟨by rfl, ?_⟩) ?_ ?_
            rotate_left
            ·intro w'
             go_simp
             with_reducible rfl
            rotate_left
            ·simp only [Act.put, zA_, zB_, zC_, i64_w, i32_w]
             rfl
            refine pure_ (i := 36) (N := some 122) (v := ?_) (a' := ?_) #[Y,Y,Y,Y,Y,Y,Y,Y,Y,Y,Y,Y,Y,Y,Y,Y,Y,Y,Y,Y,Y,Y,Y,Y,Y,Y,Y,Y,Y,Y,Y,Y,Y,Y,Y,Y,Y,Z] rfl rfl (any_of HT_.out (by kernel_rfl)) (fun _ _ _ h => h) (Or.inl ⟨by rfl, ?_⟩) ?_ ?_
            rotate_left
            ·intro w'
             go_simp
             with_reducible rfl
            rotate_left
            ·simp only [Act.put, zA_, zB_, zC_, i64_w, i32_w]
             rfl
            refine pure_ (i := 37) (N := some 123) (v := ?_) (a' := ?_) #[Y,Y,Y,Y,Y,Y,Y,Y,Y,Y,Y,Y,Y,Y,Y,Y,Y,Y,Y,Y,Y,Y,Y,Y,Y,Y,Y,Y,Y,Y,Y,Y,Y,Y,Y,Y,Y,Y] rfl rfl (any_of HT_.out (by kernel_rfl)) (fun _ _ _ h => h) (Or.inl ⟨by rfl, ?_⟩) ?_ ?_
            rotate_left
            ·intro w'
             go_simp
             with_reducible rfl
            rotate_left
            ·simp only [Act.put, zA_, zB_, zC_, i64_w, i32_w]
             rfl
            refine done_ (done_of HT_.out (by kernel_rfl)) ?_
            try go_wp2
            go_meet
            case rel => exact ⟨_, (t394 != a1_1), (by (rfl)), H', ⟨by have := HJ8.out; have := HK2.out; (omega)⟩, ⟨by exact HO_352000.out⟩, ⟨by exact HO_352001.out⟩, ⟨by exact HO_352002.out⟩, ⟨by exact HO_364000.out⟩, ⟨by exact HO_364001.out⟩, ⟨by exact HO_364002.out⟩, ⟨by exact HO_376000.out⟩, ⟨by exact HO_376001.out⟩, ⟨by exact HO_376002.out⟩, ⟨by exact HO_388000.out⟩, ⟨by exact HO_388001.out⟩, ⟨by exact HO_388002.out⟩, ⟨by exact BK336.out⟩, ⟨by exact BK337.out⟩, ⟨by exact BK351.out⟩, ⟨by exact BK363.out⟩, ⟨by exact BK375.out⟩, ⟨by exact BK387.out⟩, ⟨by repeat (((with_reducible (exact HB.out))))⟩⟩
           ·rw [if_neg c104] at H
            have c104b0 : (t391 == a1_0) = false := beq_eq_false_iff_ne.mpr c104
            have c104b1 : (t391 != a1_0) = true := bne_iff_ne.mpr c104
            replace H := Option.bind_eq_some_iff.mp H
            obtain ⟨t395, A1090, H⟩ := H
            replace H : ((domain_Of.f k2 l0_0 l0_1 l0_2 a0_3 3 x77_2).bind fun t396 => (if t395 = t396 then (quietuslaw10_DomainsChange.j2 k2 t350 t362 x77_2 t391 t392 (l0_0.length : Int) x77_2 false l0_0 l0_1 l0_2 a0_3 a1_0 a1_1 t340 t343 t346 t349 t352 t355 t358 t361) else (none))) = some r := H
            have A109 := Aside0.mk A1090
            clear A1090
            replace H := Option.bind_eq_some_iff.mp H
            obtain ⟨t396, A1100, H⟩ := H
            replace H : (if t395 = t396 then (quietuslaw10_DomainsChange.j2 k2 t350 t362 x77_2 t391 t392 (l0_0.length : Int) x77_2 false l0_0 l0_1 l0_2 a0_3 a1_0 a1_1 t340 t343 t346 t349 t352 t355 t358 t361) else (none)) = some r := H
            have A110 := Aside0.mk A1100
            clear A1100
            by_cases c111 : t395 = t396
            ·rw [if_pos c111] at H
             have c111b0 : (t395 == t396) = true := beq_iff_eq.mpr c111
             have c111b1 : (t395 != t396) = false := bne_eq_false_iff_eq.mpr c111
             clear c111
             have H' := Aside0.mk H
             clear H
             try go_wp2
             have n0_ := Aside0.mk (zc_ HO_352000.out)
             have n1_ := Aside0.mk (zc_ HO_352001.out)
             have n2_ := Aside0.mk (zc_ HO_352002.out)
             have n3_ := Aside0.mk (zc_ HO_364000.out)
             have n4_ := Aside0.mk (zc_ HO_364001.out)
             have n5_ := Aside0.mk (zc_ HO_364002.out)
             have n6_ := Aside0.mk (zc_ HO_376000.out)
             have n7_ := Aside0.mk (zc_ HO_376001.out)
             have n8_ := Aside0.mk (zc_ HO_376002.out)
             have n9_ := Aside0.mk (zc_ HO_388000.out)
             have n10_ := Aside0.mk (zc_ HO_388001.out)
             have n11_ := Aside0.mk (zc_ HO_388002.out)
             have n12_ := Aside0.mk (zn_ BK336.out)
             have n13_ := Aside0.mk (zn_ BK337.out)
             have n14_ := Aside0.mk (zn_ BK351.out)
             have n15_ := Aside0.mk (zn_ BK363.out)
             have n16_ := Aside0.mk (zn_ BK375.out)
             have n17_ := Aside0.mk (zn_ BK387.out)
             have n18_ := Aside0.mk (zu_ HB.out)
             clear HO_352000
             clear HO_352001
             clear HO_352002
             clear HO_364000
             clear HO_364001
             clear HO_364002
             clear HO_376000
             clear HO_376001
             clear HO_376002
             clear HO_388000
             clear HO_388001
             clear HO_388002
             clear BK336
             clear BK337
             clear BK351
             clear BK363
             clear BK375
             clear BK387
             clear HB
             have HO_352000 := n0_
             have HO_352001 := n1_
             have HO_352002 := n2_
             have HO_364000 := n3_
             have HO_364001 := n4_
             have HO_364002 := n5_
             have HO_376000 := n6_
             have HO_376001 := n7_
             have HO_376002 := n8_
             have HO_388000 := n9_
             have HO_388001 := n10_
             have HO_388002 := n11_
             have BK336 := n12_
             have BK337 := n13_
             have BK351 := n14_
             have BK363 := n15_
             have BK375 := n16_
             have BK387 := n17_
             have HB := n18_
             clear n0_ n1_ n2_ n3_ n4_ n5_ n6_ n7_ n8_ n9_ n10_ n11_ n12_ n13_ n14_ n15_ n16_ n17_ n18_
             refine start_ (n := 38) (S := fun w' => w'.cell? ⟨gb351, 0, none⟩ = some (.slice Ao19 t340.length co19) ∧ w'.cell? ⟨gb351, 1, none⟩ = some (.slice Ao23 t343.length co23) ∧ w'.cell? ⟨gb351, 2, none⟩ = some (.slice Ao24 t346.length co24) ∧ w'.cell? ⟨gb351, 3, none⟩ = some (.int .i64 t349) ∧ w'.cell? ⟨gb337, 0, none⟩ = some (.int .i64 a1_0) ∧ w'.cell? ⟨gb337, 1, none⟩ = some (.int .i64 a1_1) ∧ w'.cell? ⟨gb336, 0, none⟩ = some (.slice A0_0 l0_0.length c0_0) ∧ w'.cell? ⟨gb336, 1, none⟩ = some (.slice A0_1 l0_1.length c0_1) ∧ w'.cell? ⟨gb336, 2, none⟩ = some (.slice A0_2 l0_2.length c0_2) ∧ w'.cell? ⟨gb336, 3, none⟩ = some (.int .i64 a0_3)) (ds := []) #[Z,Z,Z,Z,Z,Z,Z,Z,Z,Z,Z,Z,Z,Z,Z,Z,Z,Z,Z,Z,Z,Z,Z,Z,Z,Z,Z,Z,Z,Z,Z,Z,Z,Z,Z,Z,Z,Z] (by kernel_rfl) rfl rfl ⟨(blk_cell BK351.out 0).trans rfl, (blk_cell BK351.out 1).trans rfl, (blk_cell BK351.out 2).trans rfl, (blk_cell BK351.out 3).trans rfl, (blk_cell BK337.out 0).trans rfl, (blk_cell BK337.out 1).trans rfl, (blk_cell BK336.out 0).trans rfl, (blk_cell BK336.out 1).trans rfl, (blk_cell BK336.out 2).trans rfl, (blk_cell BK336.out 3).trans rfl⟩ (fun hHeld => ?_); refine with_tabW quietuslaw10_DomainsChange.tab14 quietuslaw10_DomainsChange.bits14 (fun HT_ HW_ => ?_)
             generalize w100.drew = w112 at HO_352000 HO_352001 HO_352002 HO_364000 HO_364001 HO_364002 HO_376000 HO_376001 HO_376002 HO_388000 HO_388001 HO_388002 BK336 BK337 BK351 BK363 BK375 BK387 HB hHeld ⊢
             refine pure_ (i := 0) (N := some 86) (v := ?_) (a' := ?_) #[Y,Z,Z,Z,Z,Z,Z,Z,Z,Z,Z,Z,Z,Z,Z,Z,Z,Z,Z,Z,Z,Z,Z,Z,Z,Z,Z,Z,Z,Z,Z,Z,Z,Z,Z,Z,Z,Z] rfl rfl (any_of HT_.out (by kernel_rfl)) (fun _ _ _ h => h) (Or.inl ⟨by rfl, ?_⟩) ?_ ?_
             rotate_left
             ·intro w'
              go_simp
              with_reducible rfl
             rotate_left
             ·simp only [Act.put, zA_, zB_, zC_, i64_w, i32_w]
              rfl
             refine pure_ (i := 1) (N := some 87) (v := ?_) (a' := ?_) #[Y,Y,Z,Z,Z,Z,Z,Z,Z,Z,Z,Z,Z,Z,Z,Z,Z,Z,Z,Z,Z,Z,Z,Z,Z,Z,Z,Z,Z,Z,Z,Z,Z,Z,Z,Z,Z,Z] rfl rfl (any_of HT_.out (by kernel_rfl)) (fun _ _ _ h => h) (Or.inl ⟨by rfl, ?_⟩) ?_ ?_
             rotate_left
             ·intro w'
              go_simp
              with_reducible rfl
             rotate_left
             ·simp only [Act.put, zA_, zB_, zC_, i64_w, i32_w]
              rfl
             refine pure_ (i := 2) (N := some 88) (v := ?_) (a' := ?_) #[Y,Y,Y,Z,Z,Z,Z,Z,Z,Z,Z,Z,Z,Z,Z,Z,Z,Z,Z,Z,Z,Z,Z,Z,Z,Z,Z,Z,Z,Z,Z,Z,Z,Z,Z,Z,Z,Z] rfl rfl (any_of HT_.out (by kernel_rfl)) (fun _ _ _ h => h) (Or.inl ⟨by rfl, ?_⟩) ?_ ?_
             rotate_left
             ·intro w'
              go_simp
              with_reducible rfl
             rotate_left
             ·simp only [Act.put, zA_, zB_, zC_, i64_w, i32_w]
              rfl
             refine pure_ (i := 4) (N := some 90) (v := ?_) (a' := ?_) #[Y,Y,Y,Z,Y,Z,Z,Z,Z,Z,Z,Z,Z,Z,Z,Z,Z,Z,Z,Z,Z,Z,Z,Z,Z,Z,Z,Z,Z,Z,Z,Z,Z,Z,Z,Z,Z,Z] rfl rfl (any_of HT_.out (by kernel_rfl)) (fun _ _ _ h => h) (Or.inl ⟨by rfl, ?_⟩) ?_ ?_
             rotate_left
             ·intro w'
              go_simp
              with_reducible rfl
             rotate_left
             ·simp only [Act.put, zA_, zB_, zC_, i64_w, i32_w]
              rfl
             refine pure_ (i := 6) (N := some 92) (v := ?_) (a' := ?_) #[Y,Y,Y,Z,Y,Z,Y,Z,Z,Z,Z,Z,Z,Z,Z,Z,Z,Z,Z,Z,Z,Z,Z,Z,Z,Z,Z,Z,Z,Z,Z,Z,Z,Z,Z,Z,Z,Z] rfl rfl (any_of HT_.out (by kernel_rfl)) (fun _ _ _ h => h) (Or.inl ⟨by rfl, ?_⟩) ?_ ?_
             rotate_left
             ·intro w'
              go_simp
              with_reducible rfl
             rotate_left
             ·simp only [Act.put, zA_, zB_, zC_, i64_w, i32_w]
              rfl
             refine take_ (i := 3) (N := some 89) (v := ?_) (a' := ?_) #[Y,Y,Y,Y,Y,Z,Y,Z,Z,Z,Z,Z,Z,Z,Z,Z,Z,Z,Z,Z,Z,Z,Z,Z,Z,Z,Z,Z,Z,Z,Z,Z,Z,Z,Z,Z,Z,Z] rfl rfl (take_ofW HT_.out HW_.out (by kernel_rfl)) (fun _ _ _ h => h) (Or.inl ⟨by rfl, ?_⟩) hHeld ?_ ?_
             rotate_left
             ·rintro w' ⟨s0, s1, s2, s3, s4, s5, s6, s7, s8, s9⟩
              go_simp
              with_reducible rfl
             rotate_left
             ·simp only [Act.put, zA_, zB_, zC_, i64_w, i32_w]
              rfl
             refine one_ (i := 5) (N := some 91) #[Y,Y,Y,Y,Y,Y,Y,Z,Z,Z,Z,Z,Z,Z,Z,Z,Z,Z,Z,Z,Z,Z,Z,Z,Z,Z,Z,Z,Z,Z,Z,Z,Z,Z,Z,Z,Z,Z] rfl rfl (one_of HT_.out (by kernel_rfl)) (by decide) (fun K hK => ?_)
             refine goes_ Try.func18 (by kernel_rfl) rfl #[.agg #[.slice Ao19 t340.length co19, .slice Ao23 t343.length co23, .slice Ao24 t346.length co24, .int .i64 t349], .int .i64 2, .int .i64 x77_2] (by rfl) rfl rfl (by (try simp only [List.map_toArray, List.map_cons, List.map_nil]); (rfl)) ?_
             with_reducible refine (domain_Of.calls k2 _ _ t340 _ _ t343 _ _ t346 t349 2 x77_2 t393 _ ?side1 ?side2 ?side3 ?side4 ?side5 ?side6 A102.out).mono ?_
             (case side1 => repeat ((exact (zl_ HO_352000.out).2.2)))
             (case side2 => exact (zl_ HO_352000.out).2.1)
             (case side3 => repeat ((exact (zl_ HO_352001.out).2.2)))
             (case side4 => exact (zl_ HO_352001.out).2.1)
             (case side5 => repeat ((exact (zl_ HO_352002.out).2.2)))
             (case side6 => exact (zl_ HO_352002.out).2.1)
             rintro e w113 ⟨rfl, hb⟩
             refine ⟨_, rfl, ?_⟩
             have n0_ := Aside0.mk (Kd.R_below HO_352000.out hb)
             have n1_ := Aside0.mk (Kd.R_below HO_352001.out hb)
             have n2_ := Aside0.mk (Kd.R_below HO_352002.out hb)
             have n3_ := Aside0.mk (Kd.R_below HO_364000.out hb)
             have n4_ := Aside0.mk (Kd.R_below HO_364001.out hb)
             have n5_ := Aside0.mk (Kd.R_below HO_364002.out hb)
             have n6_ := Aside0.mk (Kd.R_below HO_376000.out hb)
             have n7_ := Aside0.mk (Kd.R_below HO_376001.out hb)
             have n8_ := Aside0.mk (Kd.R_below HO_376002.out hb)
             have n9_ := Aside0.mk (Kd.R_below HO_388000.out hb)
             have n10_ := Aside0.mk (Kd.R_below HO_388001.out hb)
             have n11_ := Aside0.mk (Kd.R_below HO_388002.out hb)
             have n12_ := Aside0.mk (zq_ (g := gb336) (o := .cells #[.slice A0_0 l0_0.length c0_0, .slice A0_1 l0_1.length c0_1, .slice A0_2 l0_2.length c0_2, .int .i64 a0_3] 25 (0, 0)) BK336.out hb)
             have n13_ := Aside0.mk (zq_ (g := gb337) (o := .cells #[.int .i64 a1_0, .int .i64 a1_1] 44 (0, 0)) BK337.out hb)
             have n14_ := Aside0.mk (zq_ (g := gb351) (o := .cells #[.slice Ao19 t340.length co19, .slice Ao23 t343.length co23, .slice Ao24 t346.length co24, .int .i64 t349] 25 (0, 0)) BK351.out hb)
             have n15_ := Aside0.mk (zq_ (g := gb363) (o := .cells #[.slice Ao29 t352.length co29, .slice Ao34 t355.length co34, .slice Ao35 t358.length co35, .int .i64 t361] 25 (0, 0)) BK363.out hb)
             have n16_ := Aside0.mk (zq_ (g := gb375) (o := .cells #[.slice Ao40 t364.length co40, .slice Ao46 t367.length co46, .slice Ao47 t370.length co47, .int .i64 t373, .int .i64 t374] 48 (0, 0)) BK375.out hb)
             have n17_ := Aside0.mk (zq_ (g := gb387) (o := .cells #[.slice Ao52 t376.length co52, .slice Ao59 t379.length co59, .slice Ao60 t382.length co60, .int .i64 t385, .int .i64 t386] 48 (0, 0)) BK387.out hb)
             have n18_ := Aside0.mk (zv_ (by repeat (((with_reducible (exact HB.out))))) hb)
             clear HO_352000
             clear HO_352001
             clear HO_352002
             clear HO_364000
             clear HO_364001
             clear HO_364002
             clear HO_376000
             clear HO_376001
             clear HO_376002
             clear HO_388000
             clear HO_388001
             clear HO_388002
             clear BK336
             clear BK337
             clear BK351
             clear BK363
             clear BK375
             clear BK387
             clear HB
             have HO_352000 := n0_
             have HO_352001 := n1_
             have HO_352002 := n2_
             have HO_364000 := n3_
             have HO_364001 := n4_
             have HO_364002 := n5_
             have HO_376000 := n6_
             have HO_376001 := n7_
             have HO_376002 := n8_
             have HO_388000 := n9_
             have HO_388001 := n10_
             have HO_388002 := n11_
             have BK336 := n12_
             have BK337 := n13_
             have BK351 := n14_
             have BK363 := n15_
             have BK375 := n16_
             have BK387 := n17_
             have HB := n18_
             clear n0_ n1_ n2_ n3_ n4_ n5_ n6_ n7_ n8_ n9_ n10_ n11_ n12_ n13_ n14_ n15_ n16_ n17_ n18_
             (try clear hb)
             (try clear hb2)
             (try clear hk)
             (try clear hi)
             refine hK.out _ _ ⟨(blk_cell BK351.out 0).trans rfl, (blk_cell BK351.out 1).trans rfl, (blk_cell BK351.out 2).trans rfl, (blk_cell BK351.out 3).trans rfl, (blk_cell BK337.out 0).trans rfl, (blk_cell BK337.out 1).trans rfl, (blk_cell BK336.out 0).trans rfl, (blk_cell BK336.out 1).trans rfl, (blk_cell BK336.out 2).trans rfl, (blk_cell BK336.out 3).trans rfl⟩ (fun hHeld => ?_)
             clear hK K
             refine norm_ (a' := ?_) ?_ ?_
             rotate_left
             ·show Act.put _ (some 91) _ = _
              simp only [Act.put, zA_, zB_, zC_, i64_w, i32_w]
              rfl
             refine pure_ (i := 7) (N := some 93) (v := ?_) (a' := ?_) #[Y,Y,Y,Y,Y,Y,Y,Y,Z,Z,Z,Z,Z,Z,Z,Z,Z,Z,Z,Z,Z,Z,Z,Z,Z,Z,Z,Z,Z,Z,Z,Z,Z,Z,Z,Z,Z,Z] rfl rfl (any_of HT_.out (by kernel_rfl)) (fun _ _ _ h => h) (Or.inl ⟨by rfl, ?_⟩) ?_ ?_
             rotate_left
             ·intro w'
              go_simp
              with_reducible rfl
             rotate_left
             ·simp only [Act.put, zA_, zB_, zC_, i64_w, i32_w]
              rfl
             refine pure_ (i := 8) (N := some 94) (v := ?_) (a' := ?_) #[Y,Y,Y,Y,Y,Y,Y,Y,Y,Z,Z,Z,Z,Z,Z,Z,Z,Z,Z,Z,Z,Z,Z,Z,Z,Z,Z,Z,Z,Z,Z,Z,Z,Z,Z,Z,Z,Z] rfl rfl (any_of HT_.out (by kernel_rfl)) (fun _ _ _ h => h) (Or.inl ⟨by rfl, ?_⟩) ?_ ?_
             rotate_left
             ·intro w'
              go_simp
              with_reducible rfl
             rotate_left
             ·simp only [Act.put, zA_, zB_, zC_, i64_w, i32_w]
              rfl
             refine pure_ (i := 9) (N := some 95) (v := ?_) (a' := ?_) #[Y,Y,Y,Y,Y,Y,Y,Y,Y,Y,Z,Z,Z,Z,Z,Z,Z,Z,Z,Z,Z,Z,Z,Z,Z,Z,Z,Z,Z,Z,Z,Z,Z,Z,Z,Z,Z,Z] rfl rfl (any_of HT_.out (by kernel_rfl)) (fun _ _ _ h => h) (Or.inl ⟨by rfl, ?_⟩) ?_ ?_
             rotate_left
             ·intro w'
              go_simp
              with_reducible rfl
             rotate_left
             ·simp only [Act.put, zA_, zB_, zC_, i64_w, i32_w]
              rfl
             refine pure_ (i := 10) (N := some 96) (v := ?_) (a' := ?_) #[Y,Y,Y,Y,Y,Y,Y,Y,Y,Y,Y,Z,Z,Z,Z,Z,Z,Z,Z,Z,Z,Z,Z,Z,Z,Z,Z,Z,Z,Z,Z,Z,Z,Z,Z,Z,Z,Z] rfl rfl (any_of HT_.out (by kernel_rfl)) (fun _ _ _ h => h) (Or.inl ⟨by rfl, ?_⟩) ?_ ?_
             rotate_left
             ·intro w'
              go_simp
              with_reducible rfl
             rotate_left
             ·simp only [Act.put, zA_, zB_, zC_, i64_w, i32_w]
              rfl
             refine take_ (i := 11) (N := some 97) (v := ?_) (a' := ?_) #[Y,Y,Y,Y,Y,Y,Y,Y,Y,Y,Y,Y,Z,Z,Z,Z,Z,Z,Z,Z,Z,Z,Z,Z,Z,Z,Z,Z,Z,Z,Z,Z,Z,Z,Z,Z,Z,Z] rfl rfl (take_ofW HT_.out HW_.out (by kernel_rfl)) (fun _ _ _ h => h) (Or.inl ⟨by rfl, ?_⟩) hHeld ?_ ?_
             rotate_left
             ·rintro w' ⟨s0, s1, s2, s3, s4, s5, s6, s7, s8, s9⟩
              go_simp
              with_reducible rfl
             rotate_left
             ·simp only [Act.put, zA_, zB_, zC_, i64_w, i32_w]
              rfl
             refine pure_ (i := 12) (N := some 98) (v := ?_) (a' := ?_) #[Y,Y,Y,Y,Y,Y,Y,Y,Y,Y,Y,Y,Y,Z,Z,Z,Z,Z,Z,Z,Z,Z,Z,Z,Z,Z,Z,Z,Z,Z,Z,Z,Z,Z,Z,Z,Z,Z] rfl rfl (any_of HT_.out (by kernel_rfl)) (fun _ _ _ h => h) (Or.inl ⟨by rfl, ?_⟩) ?_ ?_
             rotate_left
             ·intro w'
              go_simp
              with_reducible rfl
             rotate_left
             ·simp only [Act.put, zA_, zB_, zC_, i64_w, i32_w]
              rfl
             refine pure_ (i := 13) (N := some 99) (v := ?_) (a' := ?_) #[Y,Y,Y,Y,Y,Y,Y,Y,Y,Y,Y,Y,Y,Y,Z,Z,Z,Z,Z,Z,Z,Z,Z,Z,Z,Z,Z,Z,Z,Z,Z,Z,Z,Z,Z,Z,Z,Z] rfl rfl (any_of HT_.out (by kernel_rfl)) (fun _ _ _ h => h) (Or.inl ⟨by rfl, ?_⟩) ?_ ?_
             rotate_left
             ·intro w'
              go_simp
              with_reducible rfl
             rotate_left
             ·simp only [Act.put, zA_, zB_, zC_, i64_w, i32_w]
              rfl
             refine pure_ (i := 15) (N := some 101) (v := ?_) (a' := ?_) #[Y,Y,Y,Y,Y,Y,Y,Y,Y,Y,Y,Y,Y,Y,Z,Y,Z,Z,Z,Z,Z,Z,Z,Z,Z,Z,Z,Z,Z,Z,Z,Z,Z,Z,Z,Z,Z,Z] rfl rfl (any_of HT_.out (by kernel_rfl)) (fun _ _ _ h => h) (Or.inl ⟨by rfl, ?_⟩) ?_ ?_
             rotate_left
             ·intro w'
              go_simp
              with_reducible rfl
             rotate_left
             ·simp only [Act.put, zA_, zB_, zC_, i64_w, i32_w]
              rfl
             refine pure_ (i := 18) (N := some 104) (v := ?_) (a' := ?_) #[Y,Y,Y,Y,Y,Y,Y,Y,Y,Y,Y,Y,Y,Y,Z,Y,Z,Z,Y,Z,Z,Z,Z,Z,Z,Z,Z,Z,Z,Z,Z,Z,Z,Z,Z,Z,Z,Z] rfl rfl (any_of HT_.out (by kernel_rfl)) (fun _ _ _ h => h) (Or.inl ⟨by rfl, ?_⟩) ?_ ?_
             rotate_left
             ·intro w'
              go_simp
              with_reducible rfl
             rotate_left
             ·simp only [Act.put, zA_, zB_, zC_, i64_w, i32_w]
              rfl
             refine take_ (i := 14) (N := some 100) (v := ?_) (a' := ?_) #[Y,Y,Y,Y,Y,Y,Y,Y,Y,Y,Y,Y,Y,Y,Y,Y,Z,Z,Y,Z,Z,Z,Z,Z,Z,Z,Z,Z,Z,Z,Z,Z,Z,Z,Z,Z,Z,Z] rfl rfl (take_ofW HT_.out HW_.out (by kernel_rfl)) (fun _ _ _ h => h) (Or.inl ⟨by rfl, ?_⟩) hHeld ?_ ?_
             rotate_left
             ·rintro w' ⟨s0, s1, s2, s3, s4, s5, s6, s7, s8, s9⟩
              go_simp
              with_reducible rfl
             rotate_left
             ·simp only [Act.put, zA_, zB_, zC_, i64_w, i32_w]
              rfl
             refine take_ (i := 17) (N := some 103) (v := ?_) (a' := ?_) #[Y,Y,Y,Y,Y,Y,Y,Y,Y,Y,Y,Y,Y,Y,Y,Y,Z,Y,Y,Z,Z,Z,Z,Z,Z,Z,Z,Z,Z,Z,Z,Z,Z,Z,Z,Z,Z,Z] rfl rfl (take_ofW HT_.out HW_.out (by kernel_rfl)) (fun _ _ _ h => h) (Or.inl ⟨by rfl, ?_⟩) hHeld ?_ ?_
             rotate_left
             ·rintro w' ⟨s0, s1, s2, s3, s4, s5, s6, s7, s8, s9⟩
              go_simp
              with_reducible rfl
             rotate_left
             ·simp only [Act.put, zA_, zB_, zC_, i64_w, i32_w]
              rfl
             refine one_ (i := 16) (N := some 102) #[Y,Y,Y,Y,Y,Y,Y,Y,Y,Y,Y,Y,Y,Y,Y,Y,Y,Y,Y,Z,Z,Z,Z,Z,Z,Z,Z,Z,Z,Z,Z,Z,Z,Z,Z,Z,Z,Z] rfl rfl (one_of HT_.out (by kernel_rfl)) (by decide) (fun K hK => ?_)
             refine goes_ Try.func18 (by kernel_rfl) rfl #[.agg #[.slice Ao19 t340.length co19, .slice Ao23 t343.length co23, .slice Ao24 t346.length co24, .int .i64 t349], .int .i64 3, .int .i64 x77_2] (by rfl) rfl rfl (by (try simp only [List.map_toArray, List.map_cons, List.map_nil]); (rfl)) ?_
             with_reducible refine (domain_Of.calls k2 _ _ t340 _ _ t343 _ _ t346 t349 3 x77_2 t395 _ ?side1 ?side2 ?side3 ?side4 ?side5 ?side6 A109.out).mono ?_
             (case side1 => repeat ((exact (zl_ HO_352000.out).2.2)))
             (case side2 => exact (zl_ HO_352000.out).2.1)
             (case side3 => repeat ((exact (zl_ HO_352001.out).2.2)))
             (case side4 => exact (zl_ HO_352001.out).2.1)
             (case side5 => repeat ((exact (zl_ HO_352002.out).2.2)))
             (case side6 => exact (zl_ HO_352002.out).2.1)
             rintro e w114 ⟨rfl, hb⟩
             refine ⟨_, rfl, ?_⟩
             have n0_ := Aside0.mk (Kd.R_below HO_352000.out hb)
             have n1_ := Aside0.mk (Kd.R_below HO_352001.out hb)
             have n2_ := Aside0.mk (Kd.R_below HO_352002.out hb)
             have n3_ := Aside0.mk (Kd.R_below HO_364000.out hb)
             have n4_ := Aside0.mk (Kd.R_below HO_364001.out hb)
             have n5_ := Aside0.mk (Kd.R_below HO_364002.out hb)
             have n6_ := Aside0.mk (Kd.R_below HO_376000.out hb)
             have n7_ := Aside0.mk (Kd.R_below HO_376001.out hb)
             have n8_ := Aside0.mk (Kd.R_below HO_376002.out hb)
             have n9_ := Aside0.mk (Kd.R_below HO_388000.out hb)
             have n10_ := Aside0.mk (Kd.R_below HO_388001.out hb)
             have n11_ := Aside0.mk (Kd.R_below HO_388002.out hb)
             have n12_ := Aside0.mk (zq_ (g := gb336) (o := .cells #[.slice A0_0 l0_0.length c0_0, .slice A0_1 l0_1.length c0_1, .slice A0_2 l0_2.length c0_2, .int .i64 a0_3] 25 (0, 0)) BK336.out hb)
             have n13_ := Aside0.mk (zq_ (g := gb337) (o := .cells #[.int .i64 a1_0, .int .i64 a1_1] 44 (0, 0)) BK337.out hb)
             have n14_ := Aside0.mk (zq_ (g := gb351) (o := .cells #[.slice Ao19 t340.length co19, .slice Ao23 t343.length co23, .slice Ao24 t346.length co24, .int .i64 t349] 25 (0, 0)) BK351.out hb)
             have n15_ := Aside0.mk (zq_ (g := gb363) (o := .cells #[.slice Ao29 t352.length co29, .slice Ao34 t355.length co34, .slice Ao35 t358.length co35, .int .i64 t361] 25 (0, 0)) BK363.out hb)
             have n16_ := Aside0.mk (zq_ (g := gb375) (o := .cells #[.slice Ao40 t364.length co40, .slice Ao46 t367.length co46, .slice Ao47 t370.length co47, .int .i64 t373, .int .i64 t374] 48 (0, 0)) BK375.out hb)
             have n17_ := Aside0.mk (zq_ (g := gb387) (o := .cells #[.slice Ao52 t376.length co52, .slice Ao59 t379.length co59, .slice Ao60 t382.length co60, .int .i64 t385, .int .i64 t386] 48 (0, 0)) BK387.out hb)
             have n18_ := Aside0.mk (zv_ (by repeat (((with_reducible (exact HB.out))))) hb)
             clear HO_352000
             clear HO_352001
             clear HO_352002
             clear HO_364000
             clear HO_364001
             clear HO_364002
             clear HO_376000
             clear HO_376001
             clear HO_376002
             clear HO_388000
             clear HO_388001
             clear HO_388002
             clear BK336
             clear BK337
             clear BK351
             clear BK363
             clear BK375
             clear BK387
             clear HB
             have HO_352000 := n0_
             have HO_352001 := n1_
             have HO_352002 := n2_
             have HO_364000 := n3_
             have HO_364001 := n4_
             have HO_364002 := n5_
             have HO_376000 := n6_
             have HO_376001 := n7_
             have HO_376002 := n8_
             have HO_388000 := n9_
             have HO_388001 := n10_
             have HO_388002 := n11_
             have BK336 := n12_
             have BK337 := n13_
             have BK351 := n14_
             have BK363 := n15_
             have BK375 := n16_
             have BK387 := n17_
             have HB := n18_
             clear n0_ n1_ n2_ n3_ n4_ n5_ n6_ n7_ n8_ n9_ n10_ n11_ n12_ n13_ n14_ n15_ n16_ n17_ n18_
             (try clear hb)
             (try clear hb2)
             (try clear hk)
             (try clear hi)
             refine hK.out _ _ ⟨(blk_cell BK351.out 0).trans rfl, (blk_cell BK351.out 1).trans rfl, (blk_cell BK351.out 2).trans rfl, (blk_cell BK351.out 3).trans rfl, (blk_cell BK337.out 0).trans rfl, (blk_cell BK337.out 1).trans rfl, (blk_cell BK336.out 0).trans rfl, (blk_cell BK336.out 1).trans rfl, (blk_cell BK336.out 2).trans rfl, (blk_cell BK336.out 3).trans rfl⟩ (fun hHeld => ?_)
             clear hK K
             refine norm_ (a' := ?_) ?_ ?_
             rotate_left
             ·show Act.put _ (some 102) _ = _
              simp only [Act.put, zA_, zB_, zC_, i64_w, i32_w]
              rfl
             refine one_ (i := 19) (N := some 105) #[Y,Y,Y,Y,Y,Y,Y,Y,Y,Y,Y,Y,Y,Y,Y,Y,Y,Y,Y,Y,Z,Z,Z,Z,Z,Z,Z,Z,Z,Z,Z,Z,Z,Z,Z,Z,Z,Z] rfl rfl (one_of HT_.out (by kernel_rfl)) (by decide) (fun K hK => ?_)
             refine goes_ Try.func18 (by kernel_rfl) rfl #[.agg #[.slice A0_0 l0_0.length c0_0, .slice A0_1 l0_1.length c0_1, .slice A0_2 l0_2.length c0_2, .int .i64 a0_3], .int .i64 3, .int .i64 x77_2] (by rfl) rfl rfl (by (try simp only [List.map_toArray, List.map_cons, List.map_nil]); (rfl)) ?_
             with_reducible refine (domain_Of.calls k2 _ _ l0_0 _ _ l0_1 _ _ l0_2 a0_3 3 x77_2 t396 _ ?side1 ?side2 ?side3 ?side4 ?side5 ?side6 A110.out).mono ?_
             (case side1 => repeat ((exact (Kd.C_below HR0_0.out HB.out))))
             (case side2 => exact HC0_0.out)
             (case side3 => repeat ((exact (Kd.C_below HR0_1.out HB.out))))
             (case side4 => exact HC0_1.out)
             (case side5 => repeat ((exact (Kd.C_below HR0_2.out HB.out))))
             (case side6 => exact HC0_2.out)
             rintro e w115 ⟨rfl, hb⟩
             refine ⟨_, rfl, ?_⟩
             have n0_ := Aside0.mk (Kd.R_below HO_352000.out hb)
             have n1_ := Aside0.mk (Kd.R_below HO_352001.out hb)
             have n2_ := Aside0.mk (Kd.R_below HO_352002.out hb)
             have n3_ := Aside0.mk (Kd.R_below HO_364000.out hb)
             have n4_ := Aside0.mk (Kd.R_below HO_364001.out hb)
             have n5_ := Aside0.mk (Kd.R_below HO_364002.out hb)
             have n6_ := Aside0.mk (Kd.R_below HO_376000.out hb)
             have n7_ := Aside0.mk (Kd.R_below HO_376001.out hb)
             have n8_ := Aside0.mk (Kd.R_below HO_376002.out hb)
             have n9_ := Aside0.mk (Kd.R_below HO_388000.out hb)
             have n10_ := Aside0.mk (Kd.R_below HO_388001.out hb)
             have n11_ := Aside0.mk (Kd.R_below HO_388002.out hb)
             have n12_ := Aside0.mk (zq_ (g := gb336) (o := .cells #[.slice A0_0 l0_0.length c0_0, .slice A0_1 l0_1.length c0_1, .slice A0_2 l0_2.length c0_2, .int .i64 a0_3] 25 (0, 0)) BK336.out hb)
             have n13_ := Aside0.mk (zq_ (g := gb337) (o := .cells #[.int .i64 a1_0, .int .i64 a1_1] 44 (0, 0)) BK337.out hb)
             have n14_ := Aside0.mk (zq_ (g := gb351) (o := .cells #[.slice Ao19 t340.length co19, .slice Ao23 t343.length co23, .slice Ao24 t346.length co24, .int .i64 t349] 25 (0, 0)) BK351.out hb)
             have n15_ := Aside0.mk (zq_ (g := gb363) (o := .cells #[.slice Ao29 t352.length co29, .slice Ao34 t355.length co34, .slice Ao35 t358.length co35, .int .i64 t361] 25 (0, 0)) BK363.out hb)
             have n16_ := Aside0.mk (zq_ (g := gb375) (o := .cells #[.slice Ao40 t364.length co40, .slice Ao46 t367.length co46, .slice Ao47 t370.length co47, .int .i64 t373, .int .i64 t374] 48 (0, 0)) BK375.out hb)
             have n17_ := Aside0.mk (zq_ (g := gb387) (o := .cells #[.slice Ao52 t376.length co52, .slice Ao59 t379.length co59, .slice Ao60 t382.length co60, .int .i64 t385, .int .i64 t386] 48 (0, 0)) BK387.out hb)
             have n18_ := Aside0.mk (zv_ (by repeat (((with_reducible (exact HB.out))))) hb)
             clear HO_352000
             clear HO_352001
             clear HO_352002
             clear HO_364000
             clear HO_364001
             clear HO_364002
             clear HO_376000
             clear HO_376001
             clear HO_376002
             clear HO_388000
             clear HO_388001
             clear HO_388002
             clear BK336
             clear BK337
             clear BK351
             clear BK363
             clear BK375
             clear BK387
             clear HB
             have HO_352000 := n0_
             have HO_352001 := n1_
             have HO_352002 := n2_
             have HO_364000 := n3_
             have HO_364001 := n4_
             have HO_364002 := n5_
             have HO_376000 := n6_
             have HO_376001 := n7_
             have HO_376002 := n8_
             have HO_388000 := n9_
             have HO_388001 := n10_
             have HO_388002 := n11_
             have BK336 := n12_
             have BK337 := n13_
             have BK351 := n14_
             have BK363 := n15_
             have BK375 := n16_
             have BK387 := n17_
             have HB := n18_
             clear n0_ n1_ n2_ n3_ n4_ n5_ n6_ n7_ n8_ n9_ n10_ n11_ n12_ n13_ n14_ n15_ n16_ n17_ n18_
             (try clear hb)
             (try clear hb2)
             (try clear hk)
             (try clear hi)
             refine hK.out _ _ ⟨(blk_cell BK351.out 0).trans rfl, (blk_cell BK351.out 1).trans rfl, (blk_cell BK351.out 2).trans rfl, (blk_cell BK351.out 3).trans rfl, (blk_cell BK337.out 0).trans rfl, (blk_cell BK337.out 1).trans rfl, (blk_cell BK336.out 0).trans rfl, (blk_cell BK336.out 1).trans rfl, (blk_cell BK336.out 2).trans rfl, (blk_cell BK336.out 3).trans rfl⟩ (fun hHeld => ?_)
             clear hK K
             refine norm_ (a' := ?_) ?_ ?_
             rotate_left
             ·show Act.put _ (some 105) _ = _
              simp only [Act.put, zA_, zB_, zC_, i64_w, i32_w]
              rfl
             refine pure_ (i := 20) (N := some 106) (v := ?_) (a' := ?_) #[Y,Y,Y,Y,Y,Y,Y,Y,Y,Y,Y,Y,Y,Y,Y,Y,Y,Y,Y,Y,Y,Z,Z,Z,Z,Z,Z,Z,Z,Z,Z,Z,Z,Z,Z,Z,Z,Z] rfl rfl (any_of HT_.out (by kernel_rfl)) (fun _ _ _ h => h) (Or.inl ⟨by rfl, ?_⟩) ?_ ?_
             rotate_left
             ·intro w'
              go_simp
              with_reducible rfl
             rotate_left
             ·simp only [Act.put, zA_, zB_, zC_, i64_w, i32_w]
              rfl
             refine pure_ (i := 21) (N := some 107) (v := ?_) (a' := ?_) #[Y,Y,Y,Y,Y,Y,Y,Y,Y,Y,Y,Y,Y,Y,Y,Y,Y,Y,Y,Y,Y,Y,Z,Z,Z,Z,Z,Z,Z,Z,Z,Z,Z,Z,Z,Z,Z,Z] rfl rfl (any_of HT_.out (by kernel_rfl)) (fun _ _ _ h => h) (Or.inl ⟨by rfl, ?_⟩) ?_ ?_
             rotate_left
             ·intro w'
              go_simp
              with_reducible rfl
             rotate_left
             ·simp only [Act.put, zA_, zB_, zC_, i64_w, i32_w]
              rfl
             refine pure_ (i := 22) (N := some 108) (v := ?_) (a' := ?_) #[Y,Y,Y,Y,Y,Y,Y,Y,Y,Y,Y,Y,Y,Y,Y,Y,Y,Y,Y,Y,Y,Y,Y,Z,Z,Z,Z,Z,Z,Z,Z,Z,Z,Z,Z,Z,Z,Z] rfl rfl (any_of HT_.out (by kernel_rfl)) (fun _ _ _ h => h) (Or.inl ⟨by rfl, ?_⟩) ?_ ?_
             rotate_left
             ·intro w'
              go_simp
              with_reducible rfl
             rotate_left
             ·simp only [Act.put, zA_, zB_, zC_, i64_w, i32_w]
              rfl
             refine pure_ (i := 23) (N := some 109) (v := ?_) (a' := ?_) #[Y,Y,Y,Y,Y,Y,Y,Y,Y,Y,Y,Y,Y,Y,Y,Y,Y,Y,Y,Y,Y,Y,Y,Y,Z,Z,Z,Z,Z,Z,Z,Z,Z,Z,Z,Z,Z,Z] rfl rfl (any_of HT_.out (by kernel_rfl)) (fun _ _ _ h => h) (Or.inl ⟨by rfl, ?_⟩) ?_ ?_
             rotate_left
             ·intro w'
              go_simp
              with_reducible rfl
             rotate_left
             ·simp only [Act.put, zA_, zB_, zC_, i64_w, i32_w]
              rfl
             refine pure_ (i := 24) (N := some 110) (v := ?_) (a' := ?_) #[Y,Y,Y,Y,Y,Y,Y,Y,Y,Y,Y,Y,Y,Y,Y,Y,Y,Y,Y,Y,Y,Y,Y,Y,Y,Z,Z,Z,Z,Z,Z,Z,Z,Z,Z,Z,Z,Z] rfl rfl (any_of HT_.out (by kernel_rfl)) (fun _ _ _ h => h) (Or.inl ⟨by rfl, ?_⟩) ?_ ?_
             rotate_left
             ·intro w'
              go_simp
              with_reducible rfl
             rotate_left
             ·simp only [Act.put, zA_, zB_, zC_, i64_w, i32_w]
              rfl
             refine pure_ (i := 25) (N := some 111) (v := ?_) (a' := ?_) #[Y,Y,Y,Y,Y,Y,Y,Y,Y,Y,Y,Y,Y,Y,Y,Y,Y,Y,Y,Y,Y,Y,Y,Y,Y,Y,Z,Z,Z,Z,Z,Z,Z,Z,Z,Z,Z,Z] rfl rfl (any_of HT_.out (by kernel_rfl)) (fun _ _ _ h => h) (Or.inl ⟨by rfl, ?_⟩) ?_ ?_
             rotate_left
             ·intro w'
              go_simp
              with_reducible rfl
             rotate_left
             ·simp only [Act.put, zA_, zB_, zC_, i64_w, i32_w]
              rfl
             refine take_ (i := 26) (N := some 112) (v := ?_) (a' := ?_) #[Y,Y,Y,Y,Y,Y,Y,Y,Y,Y,Y,Y,Y,Y,Y,Y,Y,Y,Y,Y,Y,Y,Y,Y,Y,Y,Y,Z,Z,Z,Z,Z,Z,Z,Z,Z,Z,Z] rfl rfl (take_ofW HT_.out HW_.out (by kernel_rfl)) (fun _ _ _ h => h) (Or.inl ⟨by rfl, ?_⟩) hHeld ?_ ?_
             rotate_left
             ·rintro w' ⟨s0, s1, s2, s3, s4, s5, s6, s7, s8, s9⟩
              go_simp
              with_reducible rfl
             rotate_left
             ·simp only [Act.put, zA_, zB_, zC_, i64_w, i32_w]
              rfl
             refine pure_ (i := 27) (N := some 113) (v := ?_) (a' := ?_) #[Y,Y,Y,Y,Y,Y,Y,Y,Y,Y,Y,Y,Y,Y,Y,Y,Y,Y,Y,Y,Y,Y,Y,Y,Y,Y,Y,Y,Z,Z,Z,Z,Z,Z,Z,Z,Z,Z] rfl rfl (any_of HT_.out (by kernel_rfl)) (fun _ _ _ h => h) (Or.inl ⟨by rfl, ?_⟩) ?_ ?_
             rotate_left
             ·intro w'
              go_simp
              with_reducible rfl
             rotate_left
             ·simp only [Act.put, zA_, zB_, zC_, i64_w, i32_w]
              rfl
             refine pure_ (i := 28) (N := some 114) (v := ?_) (a' := ?_) #[Y,Y,Y,Y,Y,Y,Y,Y,Y,Y,Y,Y,Y,Y,Y,Y,Y,Y,Y,Y,Y,Y,Y,Y,Y,Y,Y,Y,Y,Z,Z,Z,Z,Z,Z,Z,Z,Z] rfl rfl (any_of HT_.out (by kernel_rfl)) (fun _ _ _ h => h) (Or.inl ⟨by rfl, ?_⟩) ?_ ?_
             rotate_left
             ·intro w'
              go_simp
              with_reducible rfl
             rotate_left
             ·simp only [Act.put, zA_, zB_, zC_, i64_w, i32_w]
              rfl
             refine pure_ (i := 29) (N := some 115) (v := undef) (a' := ?_) #[Y,Y,Y,Y,Y,Y,Y,Y,Y,Y,Y,Y,Y,Y,Y,Y,Y,Y,Y,Y,Y,Y,Y,Y,Y,Y,Y,Y,Y,Y,Z,Z,Z,Z,Z,Z,Z,Z] rfl rfl (any_of HT_.out (by kernel_rfl)) (fun _ _ _ h => h) (Or.inr ⟨by rfl, rfl⟩) ?_ ?_
             rotate_left
             ·simp only [Act.put, zA_, zB_, zC_, i64_w, i32_w]
              rfl
             refine pure_ (i := 30) (N := some 116) (v := undef) (a' := ?_) #[Y,Y,Y,Y,Y,Y,Y,Y,Y,Y,Y,Y,Y,Y,Y,Y,Y,Y,Y,Y,Y,Y,Y,Y,Y,Y,Y,Y,Y,Y,Y,Z,Z,Z,Z,Z,Z,Z] rfl rfl (any_of HT_.out (by kernel_rfl)) (fun _ _ _ h => h) (Or.inr ⟨by rfl, rfl⟩) ?_ ?_
             rotate_left
             ·simp only [Act.put, zA_, zB_, zC_, i64_w, i32_w]
              rfl
             refine pure_ (i := 31) (N := some 117) (v := undef) (a' := ?_) #[Y,Y,Y,Y,Y,Y,Y,Y,Y,Y,Y,Y,Y,Y,Y,Y,Y,Y,Y,Y,Y,Y,Y,Y,Y,Y,Y,Y,Y,Y,Y,Y,Z,Z,Z,Z,Z,Z] rfl rfl (any_of HT_.out (by kernel_rfl)) (fun _ _ _ h => h) (Or.inr ⟨by rfl, rfl⟩) ?_ ?_
             rotate_left
             ·simp only [Act.put, zA_, zB_, zC_, i64_w, i32_w]
              rfl
             refine pure_ (i := 32) (N := some 118) (v := undef) (a' := ?_) #[Y,Y,Y,Y,Y,Y,Y,Y,Y,Y,Y,Y,Y,Y,Y,Y,Y,Y,Y,Y,Y,Y,Y,Y,Y,Y,Y,Y,Y,Y,Y,Y,Y,Z,Z,Z,Z,Z] rfl rfl (any_of HT_.out (by kernel_rfl)) (fun _ _ _ h => h) (Or.inr ⟨by rfl, rfl⟩) ?_ ?_
             rotate_left
             ·simp only [Act.put, zA_, zB_, zC_, i64_w, i32_w]
              rfl
             refine pure_ (i := 33) (N := some 119) (v := undef) (a' := ?_) #[Y,Y,Y,Y,Y,Y,Y,Y,Y,Y,Y,Y,Y,Y,Y,Y,Y,Y,Y,Y,Y,Y,Y,Y,Y,Y,Y,Y,Y,Y,Y,Y,Y,Y,Z,Z,Z,Z] rfl rfl (any_of HT_.out (by kernel_rfl)) (fun _ _ _ h => h) (Or.inr ⟨by rfl, rfl⟩) ?_ ?_
             rotate_left
             ·simp only [Act.put, zA_, zB_, zC_, i64_w, i32_w]
              rfl
             refine pure_ (i := 34) (N := some 120) (v := undef) (a' := ?_) #[Y,Y,Y,Y,Y,Y,Y,Y,Y,Y,Y,Y,Y,Y,Y,Y,Y,Y,Y,Y,Y,Y,Y,Y,Y,Y,Y,Y,Y,Y,Y,Y,Y,Y,Y,Z,Z,Z] rfl rfl (any_of HT_.out (by kernel_rfl)) (fun _ _ _ h => h) (Or.inr ⟨by rfl, rfl⟩) ?_ ?_
             rotate_left
             ·simp only [Act.put, zA_, zB_, zC_, i64_w, i32_w]
              rfl
             refine pure_ (i := 35) (N := some 121) (v := ?_) (a' := ?_) #[Y,Y,Y,Y,Y,Y,Y,Y,Y,Y,Y,Y,Y,Y,Y,Y,Y,Y,Y,Y,Y,Y,Y,Y,Y,Y,Y,Y,Y,Y,Y,Y,Y,Y,Y,Y,Z,Z] rfl rfl (any_of HT_.out (by kernel_rfl)) (fun _ _ _ h => h) (Or.inl ⟨by rfl, ?_⟩) ?_ ?_
             rotate_left
             ·intro w'
              go_simp
              with_reducible rfl
             rotate_left
             ·simp only [Act.put, zA_, zB_, zC_, i64_w, i32_w]
              rfl
             refine pure_ (i := 36) (N := some 122) (v := ?_) (a' := ?_) #[Y,Y,Y,Y,Y,Y,Y,Y,Y,Y,Y,Y,Y,Y,Y,Y,Y,Y,Y,Y,Y,Y,Y,Y,Y,Y,Y,Y,Y,Y,Y,Y,Y,Y,Y,Y,Y,Z] rfl rfl (any_of HT_.out (by kernel_rfl)) (fun _ _ _ h => h) (Or.inl ⟨by rfl, ?_⟩) ?_ ?_
             rotate_left
             ·intro w'
              go_simp
              with_reducible rfl
             rotate_left
             ·simp only [Act.put, zA_, zB_, zC_, i64_w, i32_w]
              rfl
             refine pure_ (i := 37) (N := some 123) (v := ?_) (a' := ?_) #[Y,Y,Y,Y,Y,Y,Y,Y,Y,Y,Y,Y,Y,Y,Y,Y,Y,Y,Y,Y,Y,Y,Y,Y,Y,Y,Y,Y,Y,Y,Y,Y,Y,Y,Y,Y,Y,Y] rfl rfl (any_of HT_.out (by kernel_rfl)) (fun _ _ _ h => h) (Or.inl ⟨by rfl, ?_⟩) ?_ ?_
             rotate_left
             ·intro w'
              go_simp
              with_reducible rfl
             rotate_left
             ·simp only [Act.put, zA_, zB_, zC_, i64_w, i32_w]
              rfl
             refine done_ (done_of HT_.out (by kernel_rfl)) ?_
             try go_wp2
             go_meet
             case rel => exact ⟨_, (false), (by (rfl)), H', ⟨by have := HJ8.out; have := HK2.out; (omega)⟩, ⟨by exact HO_352000.out⟩, ⟨by exact HO_352001.out⟩, ⟨by exact HO_352002.out⟩, ⟨by exact HO_364000.out⟩, ⟨by exact HO_364001.out⟩, ⟨by exact HO_364002.out⟩, ⟨by exact HO_376000.out⟩, ⟨by exact HO_376001.out⟩, ⟨by exact HO_376002.out⟩, ⟨by exact HO_388000.out⟩, ⟨by exact HO_388001.out⟩, ⟨by exact HO_388002.out⟩, ⟨by exact BK336.out⟩, ⟨by exact BK337.out⟩, ⟨by exact BK351.out⟩, ⟨by exact BK363.out⟩, ⟨by exact BK375.out⟩, ⟨by exact BK387.out⟩, ⟨by repeat (((with_reducible (exact HB.out))))⟩⟩
            ·rw [if_neg c111] at H
             exact absurd H (by simp)
          ·rw [if_neg c103] at H
           exact absurd H (by simp)
         ·rw [if_neg c101] at H
          have c101b0 : (t350 == 0) = false := beq_eq_false_iff_ne.mpr c101
          have c101b1 : (t350 != 0) = true := bne_iff_ne.mpr c101
          (skip)
          have H' := Aside0.mk H
          clear H
          try go_wp2
          have n0_ := Aside0.mk (zc_ HO_352000.out)
          have n1_ := Aside0.mk (zc_ HO_352001.out)
          have n2_ := Aside0.mk (zc_ HO_352002.out)
          have n3_ := Aside0.mk (zc_ HO_364000.out)
          have n4_ := Aside0.mk (zc_ HO_364001.out)
          have n5_ := Aside0.mk (zc_ HO_364002.out)
          have n6_ := Aside0.mk (zc_ HO_376000.out)
          have n7_ := Aside0.mk (zc_ HO_376001.out)
          have n8_ := Aside0.mk (zc_ HO_376002.out)
          have n9_ := Aside0.mk (zc_ HO_388000.out)
          have n10_ := Aside0.mk (zc_ HO_388001.out)
          have n11_ := Aside0.mk (zc_ HO_388002.out)
          have n12_ := Aside0.mk (zn_ BK336.out)
          have n13_ := Aside0.mk (zn_ BK337.out)
          have n14_ := Aside0.mk (zn_ BK351.out)
          have n15_ := Aside0.mk (zn_ BK363.out)
          have n16_ := Aside0.mk (zn_ BK375.out)
          have n17_ := Aside0.mk (zn_ BK387.out)
          have n18_ := Aside0.mk (zu_ HB.out)
          clear HO_352000
          clear HO_352001
          clear HO_352002
          clear HO_364000
          clear HO_364001
          clear HO_364002
          clear HO_376000
          clear HO_376001
          clear HO_376002
          clear HO_388000
          clear HO_388001
          clear HO_388002
          clear BK336
          clear BK337
          clear BK351
          clear BK363
          clear BK375
          clear BK387
          clear HB
          have HO_352000 := n0_
          have HO_352001 := n1_
          have HO_352002 := n2_
          have HO_364000 := n3_
          have HO_364001 := n4_
          have HO_364002 := n5_
          have HO_376000 := n6_
          have HO_376001 := n7_
          have HO_376002 := n8_
          have HO_388000 := n9_
          have HO_388001 := n10_
          have HO_388002 := n11_
          have BK336 := n12_
          have BK337 := n13_
          have BK351 := n14_
          have BK363 := n15_
          have BK375 := n16_
          have BK387 := n17_
          have HB := n18_
          clear n0_ n1_ n2_ n3_ n4_ n5_ n6_ n7_ n8_ n9_ n10_ n11_ n12_ n13_ n14_ n15_ n16_ n17_ n18_
          refine start_ (n := 38) (S := fun w' => True) (ds := []) #[Z,Z,Z,Z,Z,Z,Z,Z,Z,Z,Z,Z,Z,Z,Z,Z,Z,Z,Z,Z,Z,Z,Z,Z,Z,Z,Z,Z,Z,Z,Z,Z,Z,Z,Z,Z,Z,Z] (by kernel_rfl) rfl rfl trivial (fun hHeld => ?_); refine with_tabW quietuslaw10_DomainsChange.tab14 quietuslaw10_DomainsChange.bits14 (fun HT_ HW_ => ?_)
          generalize w100.drew = w116 at HO_352000 HO_352001 HO_352002 HO_364000 HO_364001 HO_364002 HO_376000 HO_376001 HO_376002 HO_388000 HO_388001 HO_388002 BK336 BK337 BK351 BK363 BK375 BK387 HB hHeld ⊢
          refine pure_ (i := 0) (N := some 86) (v := ?_) (a' := ?_) #[Y,Z,Z,Z,Z,Z,Z,Z,Z,Z,Z,Z,Z,Z,Z,Z,Z,Z,Z,Z,Z,Z,Z,Z,Z,Z,Z,Z,Z,Z,Z,Z,Z,Z,Z,Z,Z,Z] rfl rfl (any_of HT_.out (by kernel_rfl)) (fun _ _ _ h => h) (Or.inl ⟨by rfl, ?_⟩) ?_ ?_
          rotate_left
          ·intro w'
           go_simp
           with_reducible rfl
          rotate_left
          ·simp only [Act.put, zA_, zB_, zC_, i64_w, i32_w]
           rfl
          refine pure_ (i := 1) (N := some 87) (v := ?_) (a' := ?_) #[Y,Y,Z,Z,Z,Z,Z,Z,Z,Z,Z,Z,Z,Z,Z,Z,Z,Z,Z,Z,Z,Z,Z,Z,Z,Z,Z,Z,Z,Z,Z,Z,Z,Z,Z,Z,Z,Z] rfl rfl (any_of HT_.out (by kernel_rfl)) (fun _ _ _ h => h) (Or.inl ⟨by rfl, ?_⟩) ?_ ?_
          rotate_left
          ·intro w'
           go_simp
           with_reducible rfl
          rotate_left
          ·simp only [Act.put, zA_, zB_, zC_, i64_w, i32_w]
           rfl
          refine pure_ (i := 2) (N := some 88) (v := ?_) (a' := ?_) #[Y,Y,Y,Z,Z,Z,Z,Z,Z,Z,Z,Z,Z,Z,Z,Z,Z,Z,Z,Z,Z,Z,Z,Z,Z,Z,Z,Z,Z,Z,Z,Z,Z,Z,Z,Z,Z,Z] rfl rfl (any_of HT_.out (by kernel_rfl)) (fun _ _ _ h => h) (Or.inl ⟨by rfl, ?_⟩) ?_ ?_
          rotate_left
          ·intro w'
           go_simp
           with_reducible rfl
          rotate_left
          ·simp only [Act.put, zA_, zB_, zC_, i64_w, i32_w]
           rfl
          refine pure_ (i := 3) (N := some 89) (v := undef) (a' := ?_) #[Y,Y,Y,Y,Z,Z,Z,Z,Z,Z,Z,Z,Z,Z,Z,Z,Z,Z,Z,Z,Z,Z,Z,Z,Z,Z,Z,Z,Z,Z,Z,Z,Z,Z,Z,Z,Z,Z] rfl rfl (any_of HT_.out (by kernel_rfl)) (fun _ _ _ h => h) (Or.inr ⟨by rfl, rfl⟩) ?_ ?_
          rotate_left
          ·simp only [Act.put, zA_, zB_, zC_, i64_w, i32_w]
           rfl
          refine pure_ (i := 4) (N := some 90) (v := undef) (a' := ?_) #[Y,Y,Y,Y,Y,Z,Z,Z,Z,Z,Z,Z,Z,Z,Z,Z,Z,Z,Z,Z,Z,Z,Z,Z,Z,Z,Z,Z,Z,Z,Z,Z,Z,Z,Z,Z,Z,Z] rfl rfl (any_of HT_.out (by kernel_rfl)) (fun _ _ _ h => h) (Or.inr ⟨by rfl, rfl⟩) ?_ ?_
          rotate_left
          ·simp only [Act.put, zA_, zB_, zC_, i64_w, i32_w]
           rfl
          refine pure_ (i := 5) (N := some 91) (v := undef) (a' := ?_) #[Y,Y,Y,Y,Y,Y,Z,Z,Z,Z,Z,Z,Z,Z,Z,Z,Z,Z,Z,Z,Z,Z,Z,Z,Z,Z,Z,Z,Z,Z,Z,Z,Z,Z,Z,Z,Z,Z] rfl rfl (any_of HT_.out (by kernel_rfl)) (fun _ _ _ h => h) (Or.inr ⟨by rfl, rfl⟩) ?_ ?_
          rotate_left
          ·simp only [Act.put, zA_, zB_, zC_, i64_w, i32_w]
           rfl
          refine pure_ (i := 6) (N := some 92) (v := undef) (a' := ?_) #[Y,Y,Y,Y,Y,Y,Y,Z,Z,Z,Z,Z,Z,Z,Z,Z,Z,Z,Z,Z,Z,Z,Z,Z,Z,Z,Z,Z,Z,Z,Z,Z,Z,Z,Z,Z,Z,Z] rfl rfl (any_of HT_.out (by kernel_rfl)) (fun _ _ _ h => h) (Or.inr ⟨by rfl, rfl⟩) ?_ ?_
          rotate_left
          ·simp only [Act.put, zA_, zB_, zC_, i64_w, i32_w]
           rfl
          refine pure_ (i := 7) (N := some 93) (v := undef) (a' := ?_) #[Y,Y,Y,Y,Y,Y,Y,Y,Z,Z,Z,Z,Z,Z,Z,Z,Z,Z,Z,Z,Z,Z,Z,Z,Z,Z,Z,Z,Z,Z,Z,Z,Z,Z,Z,Z,Z,Z] rfl rfl (any_of HT_.out (by kernel_rfl)) (fun _ _ _ h => h) (Or.inr ⟨by rfl, rfl⟩) ?_ ?_
          rotate_left
          ·simp only [Act.put, zA_, zB_, zC_, i64_w, i32_w]
           rfl
          refine pure_ (i := 8) (N := some 94) (v := undef) (a' := ?_) #[Y,Y,Y,Y,Y,Y,Y,Y,Y,Z,Z,Z,Z,Z,Z,Z,Z,Z,Z,Z,Z,Z,Z,Z,Z,Z,Z,Z,Z,Z,Z,Z,Z,Z,Z,Z,Z,Z] rfl rfl (any_of HT_.out (by kernel_rfl)) (fun _ _ _ h => h) (Or.inr ⟨by rfl, rfl⟩) ?_ ?_
          rotate_left
          ·simp only [Act.put, zA_, zB_, zC_, i64_w, i32_w]
           rfl
          refine pure_ (i := 9) (N := some 95) (v := undef) (a' := ?_) #[Y,Y,Y,Y,Y,Y,Y,Y,Y,Y,Z,Z,Z,Z,Z,Z,Z,Z,Z,Z,Z,Z,Z,Z,Z,Z,Z,Z,Z,Z,Z,Z,Z,Z,Z,Z,Z,Z] rfl rfl (any_of HT_.out (by kernel_rfl)) (fun _ _ _ h => h) (Or.inr ⟨by rfl, rfl⟩) ?_ ?_
          rotate_left
          ·simp only [Act.put, zA_, zB_, zC_, i64_w, i32_w]
           rfl
          refine pure_ (i := 10) (N := some 96) (v := undef) (a' := ?_) #[Y,Y,Y,Y,Y,Y,Y,Y,Y,Y,Y,Z,Z,Z,Z,Z,Z,Z,Z,Z,Z,Z,Z,Z,Z,Z,Z,Z,Z,Z,Z,Z,Z,Z,Z,Z,Z,Z] rfl rfl (any_of HT_.out (by kernel_rfl)) (fun _ _ _ h => h) (Or.inr ⟨by rfl, rfl⟩) ?_ ?_
          rotate_left
          ·simp only [Act.put, zA_, zB_, zC_, i64_w, i32_w]
           rfl
          refine pure_ (i := 11) (N := some 97) (v := undef) (a' := ?_) #[Y,Y,Y,Y,Y,Y,Y,Y,Y,Y,Y,Y,Z,Z,Z,Z,Z,Z,Z,Z,Z,Z,Z,Z,Z,Z,Z,Z,Z,Z,Z,Z,Z,Z,Z,Z,Z,Z] rfl rfl (any_of HT_.out (by kernel_rfl)) (fun _ _ _ h => h) (Or.inr ⟨by rfl, rfl⟩) ?_ ?_
          rotate_left
          ·simp only [Act.put, zA_, zB_, zC_, i64_w, i32_w]
           rfl
          refine pure_ (i := 12) (N := some 98) (v := undef) (a' := ?_) #[Y,Y,Y,Y,Y,Y,Y,Y,Y,Y,Y,Y,Y,Z,Z,Z,Z,Z,Z,Z,Z,Z,Z,Z,Z,Z,Z,Z,Z,Z,Z,Z,Z,Z,Z,Z,Z,Z] rfl rfl (any_of HT_.out (by kernel_rfl)) (fun _ _ _ h => h) (Or.inr ⟨by rfl, rfl⟩) ?_ ?_
          rotate_left
          ·simp only [Act.put, zA_, zB_, zC_, i64_w, i32_w]
           rfl
          refine pure_ (i := 13) (N := some 99) (v := undef) (a' := ?_) #[Y,Y,Y,Y,Y,Y,Y,Y,Y,Y,Y,Y,Y,Y,Z,Z,Z,Z,Z,Z,Z,Z,Z,Z,Z,Z,Z,Z,Z,Z,Z,Z,Z,Z,Z,Z,Z,Z] rfl rfl (any_of HT_.out (by kernel_rfl)) (fun _ _ _ h => h) (Or.inr ⟨by rfl, rfl⟩) ?_ ?_
          rotate_left
          ·simp only [Act.put, zA_, zB_, zC_, i64_w, i32_w]
           rfl
          refine pure_ (i := 14) (N := some 100) (v := undef) (a' := ?_) #[Y,Y,Y,Y,Y,Y,Y,Y,Y,Y,Y,Y,Y,Y,Y,Z,Z,Z,Z,Z,Z,Z,Z,Z,Z,Z,Z,Z,Z,Z,Z,Z,Z,Z,Z,Z,Z,Z] rfl rfl (any_of HT_.out (by kernel_rfl)) (fun _ _ _ h => h) (Or.inr ⟨by rfl, rfl⟩) ?_ ?_
          rotate_left
          ·simp only [Act.put, zA_, zB_, zC_, i64_w, i32_w]
           rfl
          refine pure_ (i := 15) (N := some 101) (v := undef) (a' := ?_) #[Y,Y,Y,Y,Y,Y,Y,Y,Y,Y,Y,Y,Y,Y,Y,Y,Z,Z,Z,Z,Z,Z,Z,Z,Z,Z,Z,Z,Z,Z,Z,Z,Z,Z,Z,Z,Z,Z] rfl rfl (any_of HT_.out (by kernel_rfl)) (fun _ _ _ h => h) (Or.inr ⟨by rfl, rfl⟩) ?_ ?_
          rotate_left
          ·simp only [Act.put, zA_, zB_, zC_, i64_w, i32_w]
           rfl
          refine pure_ (i := 16) (N := some 102) (v := undef) (a' := ?_) #[Y,Y,Y,Y,Y,Y,Y,Y,Y,Y,Y,Y,Y,Y,Y,Y,Y,Z,Z,Z,Z,Z,Z,Z,Z,Z,Z,Z,Z,Z,Z,Z,Z,Z,Z,Z,Z,Z] rfl rfl (any_of HT_.out (by kernel_rfl)) (fun _ _ _ h => h) (Or.inr ⟨by rfl, rfl⟩) ?_ ?_
          rotate_left
          ·simp only [Act.put, zA_, zB_, zC_, i64_w, i32_w]
           rfl
          refine pure_ (i := 17) (N := some 103) (v := undef) (a' := ?_) #[Y,Y,Y,Y,Y,Y,Y,Y,Y,Y,Y,Y,Y,Y,Y,Y,Y,Y,Z,Z,Z,Z,Z,Z,Z,Z,Z,Z,Z,Z,Z,Z,Z,Z,Z,Z,Z,Z] rfl rfl (any_of HT_.out (by kernel_rfl)) (fun _ _ _ h => h) (Or.inr ⟨by rfl, rfl⟩) ?_ ?_
          rotate_left
          ·simp only [Act.put, zA_, zB_, zC_, i64_w, i32_w]
           rfl
          refine pure_ (i := 18) (N := some 104) (v := undef) (a' := ?_) #[Y,Y,Y,Y,Y,Y,Y,Y,Y,Y,Y,Y,Y,Y,Y,Y,Y,Y,Y,Z,Z,Z,Z,Z,Z,Z,Z,Z,Z,Z,Z,Z,Z,Z,Z,Z,Z,Z] rfl rfl (any_of HT_.out (by kernel_rfl)) (fun _ _ _ h => h) (Or.inr ⟨by rfl, rfl⟩) ?_ ?_
          rotate_left
          ·simp only [Act.put, zA_, zB_, zC_, i64_w, i32_w]
           rfl
          refine pure_ (i := 19) (N := some 105) (v := undef) (a' := ?_) #[Y,Y,Y,Y,Y,Y,Y,Y,Y,Y,Y,Y,Y,Y,Y,Y,Y,Y,Y,Y,Z,Z,Z,Z,Z,Z,Z,Z,Z,Z,Z,Z,Z,Z,Z,Z,Z,Z] rfl rfl (any_of HT_.out (by kernel_rfl)) (fun _ _ _ h => h) (Or.inr ⟨by rfl, rfl⟩) ?_ ?_
          rotate_left
          ·simp only [Act.put, zA_, zB_, zC_, i64_w, i32_w]
           rfl
          refine pure_ (i := 20) (N := some 106) (v := undef) (a' := ?_) #[Y,Y,Y,Y,Y,Y,Y,Y,Y,Y,Y,Y,Y,Y,Y,Y,Y,Y,Y,Y,Y,Z,Z,Z,Z,Z,Z,Z,Z,Z,Z,Z,Z,Z,Z,Z,Z,Z] rfl rfl (any_of HT_.out (by kernel_rfl)) (fun _ _ _ h => h) (Or.inr ⟨by rfl, rfl⟩) ?_ ?_
          rotate_left
          ·simp only [Act.put, zA_, zB_, zC_, i64_w, i32_w]
           rfl
          refine pure_ (i := 21) (N := some 107) (v := undef) (a' := ?_) #[Y,Y,Y,Y,Y,Y,Y,Y,Y,Y,Y,Y,Y,Y,Y,Y,Y,Y,Y,Y,Y,Y,Z,Z,Z,Z,Z,Z,Z,Z,Z,Z,Z,Z,Z,Z,Z,Z] rfl rfl (any_of HT_.out (by kernel_rfl)) (fun _ _ _ h => h) (Or.inr ⟨by rfl, rfl⟩) ?_ ?_
          rotate_left
          ·simp only [Act.put, zA_, zB_, zC_, i64_w, i32_w]
           rfl
          refine pure_ (i := 22) (N := some 108) (v := undef) (a' := ?_) #[Y,Y,Y,Y,Y,Y,Y,Y,Y,Y,Y,Y,Y,Y,Y,Y,Y,Y,Y,Y,Y,Y,Y,Z,Z,Z,Z,Z,Z,Z,Z,Z,Z,Z,Z,Z,Z,Z] rfl rfl (any_of HT_.out (by kernel_rfl)) (fun _ _ _ h => h) (Or.inr ⟨by rfl, rfl⟩) ?_ ?_
          rotate_left
          ·simp only [Act.put, zA_, zB_, zC_, i64_w, i32_w]
           rfl
          refine pure_ (i := 23) (N := some 109) (v := undef) (a' := ?_) #[Y,Y,Y,Y,Y,Y,Y,Y,Y,Y,Y,Y,Y,Y,Y,Y,Y,Y,Y,Y,Y,Y,Y,Y,Z,Z,Z,Z,Z,Z,Z,Z,Z,Z,Z,Z,Z,Z] rfl rfl (any_of HT_.out (by kernel_rfl)) (fun _ _ _ h => h) (Or.inr ⟨by rfl, rfl⟩) ?_ ?_
          rotate_left
          ·simp only [Act.put, zA_, zB_, zC_, i64_w, i32_w]
           rfl
          refine pure_ (i := 24) (N := some 110) (v := undef) (a' := ?_) #[Y,Y,Y,Y,Y,Y,Y,Y,Y,Y,Y,Y,Y,Y,Y,Y,Y,Y,Y,Y,Y,Y,Y,Y,Y,Z,Z,Z,Z,Z,Z,Z,Z,Z,Z,Z,Z,Z] rfl rfl (any_of HT_.out (by kernel_rfl)) (fun _ _ _ h => h) (Or.inr ⟨by rfl, rfl⟩) ?_ ?_
          rotate_left
          ·simp only [Act.put, zA_, zB_, zC_, i64_w, i32_w]
           rfl
          refine pure_ (i := 25) (N := some 111) (v := undef) (a' := ?_) #[Y,Y,Y,Y,Y,Y,Y,Y,Y,Y,Y,Y,Y,Y,Y,Y,Y,Y,Y,Y,Y,Y,Y,Y,Y,Y,Z,Z,Z,Z,Z,Z,Z,Z,Z,Z,Z,Z] rfl rfl (any_of HT_.out (by kernel_rfl)) (fun _ _ _ h => h) (Or.inr ⟨by rfl, rfl⟩) ?_ ?_
          rotate_left
          ·simp only [Act.put, zA_, zB_, zC_, i64_w, i32_w]
           rfl
          refine pure_ (i := 26) (N := some 112) (v := undef) (a' := ?_) #[Y,Y,Y,Y,Y,Y,Y,Y,Y,Y,Y,Y,Y,Y,Y,Y,Y,Y,Y,Y,Y,Y,Y,Y,Y,Y,Y,Z,Z,Z,Z,Z,Z,Z,Z,Z,Z,Z] rfl rfl (any_of HT_.out (by kernel_rfl)) (fun _ _ _ h => h) (Or.inr ⟨by rfl, rfl⟩) ?_ ?_
          rotate_left
          ·simp only [Act.put, zA_, zB_, zC_, i64_w, i32_w]
           rfl
          refine pure_ (i := 27) (N := some 113) (v := undef) (a' := ?_) #[Y,Y,Y,Y,Y,Y,Y,Y,Y,Y,Y,Y,Y,Y,Y,Y,Y,Y,Y,Y,Y,Y,Y,Y,Y,Y,Y,Y,Z,Z,Z,Z,Z,Z,Z,Z,Z,Z] rfl rfl (any_of HT_.out (by kernel_rfl)) (fun _ _ _ h => h) (Or.inr ⟨by rfl, rfl⟩) ?_ ?_
          rotate_left
          ·simp only [Act.put, zA_, zB_, zC_, i64_w, i32_w]
           rfl
          refine pure_ (i := 28) (N := some 114) (v := undef) (a' := ?_) #[Y,Y,Y,Y,Y,Y,Y,Y,Y,Y,Y,Y,Y,Y,Y,Y,Y,Y,Y,Y,Y,Y,Y,Y,Y,Y,Y,Y,Y,Z,Z,Z,Z,Z,Z,Z,Z,Z] rfl rfl (any_of HT_.out (by kernel_rfl)) (fun _ _ _ h => h) (Or.inr ⟨by rfl, rfl⟩) ?_ ?_
          rotate_left
          ·simp only [Act.put, zA_, zB_, zC_, i64_w, i32_w]
           rfl
          refine pure_ (i := 29) (N := some 115) (v := undef) (a' := ?_) #[Y,Y,Y,Y,Y,Y,Y,Y,Y,Y,Y,Y,Y,Y,Y,Y,Y,Y,Y,Y,Y,Y,Y,Y,Y,Y,Y,Y,Y,Y,Z,Z,Z,Z,Z,Z,Z,Z] rfl rfl (any_of HT_.out (by kernel_rfl)) (fun _ _ _ h => h) (Or.inr ⟨by rfl, rfl⟩) ?_ ?_
          rotate_left
          ·simp only [Act.put, zA_, zB_, zC_, i64_w, i32_w]
           rfl
          refine pure_ (i := 30) (N := some 116) (v := undef) (a' := ?_) #[Y,Y,Y,Y,Y,Y,Y,Y,Y,Y,Y,Y,Y,Y,Y,Y,Y,Y,Y,Y,Y,Y,Y,Y,Y,Y,Y,Y,Y,Y,Y,Z,Z,Z,Z,Z,Z,Z] rfl rfl (any_of HT_.out (by kernel_rfl)) (fun _ _ _ h => h) (Or.inr ⟨by rfl, rfl⟩) ?_ ?_
          rotate_left
          ·simp only [Act.put, zA_, zB_, zC_, i64_w, i32_w]
           rfl
          refine pure_ (i := 31) (N := some 117) (v := undef) (a' := ?_) #[Y,Y,Y,Y,Y,Y,Y,Y,Y,Y,Y,Y,Y,Y,Y,Y,Y,Y,Y,Y,Y,Y,Y,Y,Y,Y,Y,Y,Y,Y,Y,Y,Z,Z,Z,Z,Z,Z] rfl rfl (any_of HT_.out (by kernel_rfl)) (fun _ _ _ h => h) (Or.inr ⟨by rfl, rfl⟩) ?_ ?_
          rotate_left
          ·simp only [Act.put, zA_, zB_, zC_, i64_w, i32_w]
           rfl
          refine pure_ (i := 32) (N := some 118) (v := undef) (a' := ?_) #[Y,Y,Y,Y,Y,Y,Y,Y,Y,Y,Y,Y,Y,Y,Y,Y,Y,Y,Y,Y,Y,Y,Y,Y,Y,Y,Y,Y,Y,Y,Y,Y,Y,Z,Z,Z,Z,Z] rfl rfl (any_of HT_.out (by kernel_rfl)) (fun _ _ _ h => h) (Or.inr ⟨by rfl, rfl⟩) ?_ ?_
          rotate_left
          ·simp only [Act.put, zA_, zB_, zC_, i64_w, i32_w]
           rfl
          refine pure_ (i := 33) (N := some 119) (v := undef) (a' := ?_) #[Y,Y,Y,Y,Y,Y,Y,Y,Y,Y,Y,Y,Y,Y,Y,Y,Y,Y,Y,Y,Y,Y,Y,Y,Y,Y,Y,Y,Y,Y,Y,Y,Y,Y,Z,Z,Z,Z] rfl rfl (any_of HT_.out (by kernel_rfl)) (fun _ _ _ h => h) (Or.inr ⟨by rfl, rfl⟩) ?_ ?_
          rotate_left
          ·simp only [Act.put, zA_, zB_, zC_, i64_w, i32_w]
           rfl
          refine pure_ (i := 34) (N := some 120) (v := undef) (a' := ?_) #[Y,Y,Y,Y,Y,Y,Y,Y,Y,Y,Y,Y,Y,Y,Y,Y,Y,Y,Y,Y,Y,Y,Y,Y,Y,Y,Y,Y,Y,Y,Y,Y,Y,Y,Y,Z,Z,Z] rfl rfl (any_of HT_.out (by kernel_rfl)) (fun _ _ _ h => h) (Or.inr ⟨by rfl, rfl⟩) ?_ ?_
          rotate_left
          ·simp only [Act.put, zA_, zB_, zC_, i64_w, i32_w]
           rfl
          refine pure_ (i := 35) (N := some 121) (v := undef) (a' := ?_) #[Y,Y,Y,Y,Y,Y,Y,Y,Y,Y,Y,Y,Y,Y,Y,Y,Y,Y,Y,Y,Y,Y,Y,Y,Y,Y,Y,Y,Y,Y,Y,Y,Y,Y,Y,Y,Z,Z] rfl rfl (any_of HT_.out (by kernel_rfl)) (fun _ _ _ h => h) (Or.inr ⟨by rfl, rfl⟩) ?_ ?_
          rotate_left
          ·simp only [Act.put, zA_, zB_, zC_, i64_w, i32_w]
           rfl
          refine pure_ (i := 36) (N := some 122) (v := undef) (a' := ?_) #[Y,Y,Y,Y,Y,Y,Y,Y,Y,Y,Y,Y,Y,Y,Y,Y,Y,Y,Y,Y,Y,Y,Y,Y,Y,Y,Y,Y,Y,Y,Y,Y,Y,Y,Y,Y,Y,Z] rfl rfl (any_of HT_.out (by kernel_rfl)) (fun _ _ _ h => h) (Or.inr ⟨by rfl, rfl⟩) ?_ ?_
          rotate_left
          ·simp only [Act.put, zA_, zB_, zC_, i64_w, i32_w]
           rfl
          refine pure_ (i := 37) (N := some 123) (v := ?_) (a' := ?_) #[Y,Y,Y,Y,Y,Y,Y,Y,Y,Y,Y,Y,Y,Y,Y,Y,Y,Y,Y,Y,Y,Y,Y,Y,Y,Y,Y,Y,Y,Y,Y,Y,Y,Y,Y,Y,Y,Y] rfl rfl (any_of HT_.out (by kernel_rfl)) (fun _ _ _ h => h) (Or.inl ⟨by rfl, ?_⟩) ?_ ?_
          rotate_left
          ·intro w'
           go_simp
           with_reducible rfl
          rotate_left
          ·simp only [Act.put, zA_, zB_, zC_, i64_w, i32_w]
           rfl
          refine done_ (done_of HT_.out (by kernel_rfl)) ?_
          try go_wp2
          go_meet
          case rel => exact ⟨_, (false), (by (rfl)), H', ⟨by have := HJ8.out; have := HK2.out; (omega)⟩, ⟨by exact HO_352000.out⟩, ⟨by exact HO_352001.out⟩, ⟨by exact HO_352002.out⟩, ⟨by exact HO_364000.out⟩, ⟨by exact HO_364001.out⟩, ⟨by exact HO_364002.out⟩, ⟨by exact HO_376000.out⟩, ⟨by exact HO_376001.out⟩, ⟨by exact HO_376002.out⟩, ⟨by exact HO_388000.out⟩, ⟨by exact HO_388001.out⟩, ⟨by exact HO_388002.out⟩, ⟨by exact BK336.out⟩, ⟨by exact BK337.out⟩, ⟨by exact BK351.out⟩, ⟨by exact BK363.out⟩, ⟨by exact BK375.out⟩, ⟨by exact BK387.out⟩, ⟨by repeat (((with_reducible (exact HB.out))))⟩⟩
        case rest =>
         clear HC97
         try clear c1
         try clear p2
         try clear c10
         try clear c11
         try clear c18
         try clear c101
         try clear c101b0
         try clear c101b1
         try clear c103
         try clear c111
         obtain ⟨kq, x123_96, rfl, HA, HJ96, HO_352000, HO_352001, HO_352002, HO_364000, HO_364001, HO_364002, HO_376000, HO_376001, HO_376002, HO_388000, HO_388001, HO_388002, BK336, BK337, BK351, BK363, BK375, BK387, HB⟩ := hcut
         cases kq with
         | zero => exact absurd HA.out (by simp [quietuslaw10_DomainsChange.j2])
         | succ kj96 =>
          have H := HA.out
          clear HA
          simp only [quietuslaw10_DomainsChange.j2] at H
          by_cases c117 : x123_96 = true
          ·subst c117
           have H1 : (none) = some r := by rw [if_pos rfl] at H; exact H
           clear H
           have H := H1
           clear H1
           exact absurd H (by simp)
          ·replace c117 := Bool.eq_false_iff.mpr c117
           subst c117
           have H1 : (if t362 = 0 then ((domain_Of.f kj96 t352 t355 t358 t361 1 x77_2).bind fun t397 => (if t397 = t392 then (if t392 = a1_0 then ((domain_Of.f kj96 t352 t355 t358 t361 2 x77_2).bind fun t398 => (if t398 = a1_1 then (quietuslaw10_DomainsChange.l0 kj96 t350 t362 (l0_0.length : Int) (wrap64 (x77_2 + 1)) l0_0 l0_1 l0_2 a0_3 a1_0 a1_1 t340 t343 t346 t349 t352 t355 t358 t361) else (none))) else ((domain_Of.f kj96 t352 t355 t358 t361 2 x77_2).bind fun t399 => (if t399 = t391 then (quietuslaw10_DomainsChange.l0 kj96 t350 t362 (l0_0.length : Int) (wrap64 (x77_2 + 1)) l0_0 l0_1 l0_2 a0_3 a1_0 a1_1 t340 t343 t346 t349 t352 t355 t358 t361) else (none)))) else (none))) else (quietuslaw10_DomainsChange.l0 kj96 t350 t362 (l0_0.length : Int) (wrap64 (x77_2 + 1)) l0_0 l0_1 l0_2 a0_3 a1_0 a1_1 t340 t343 t346 t349 t352 t355 t358 t361)) = some r := by rw [if_neg (show ¬ (false = true) by decide)] at H; exact H
           clear H
           have H := H1
           clear H1
           by_cases c118 : t362 = 0
           ·rw [if_pos c118] at H
            have c118b0 : (t362 == 0) = true := beq_iff_eq.mpr c118
            have c118b1 : (t362 != 0) = false := bne_eq_false_iff_eq.mpr c118
            clear c118
            replace H := Option.bind_eq_some_iff.mp H
            obtain ⟨t397, A1190, H⟩ := H
            replace H : (if t397 = t392 then (if t392 = a1_0 then ((domain_Of.f kj96 t352 t355 t358 t361 2 x77_2).bind fun t398 => (if t398 = a1_1 then (quietuslaw10_DomainsChange.l0 kj96 t350 t362 (l0_0.length : Int) (wrap64 (x77_2 + 1)) l0_0 l0_1 l0_2 a0_3 a1_0 a1_1 t340 t343 t346 t349 t352 t355 t358 t361) else (none))) else ((domain_Of.f kj96 t352 t355 t358 t361 2 x77_2).bind fun t399 => (if t399 = t391 then (quietuslaw10_DomainsChange.l0 kj96 t350 t362 (l0_0.length : Int) (wrap64 (x77_2 + 1)) l0_0 l0_1 l0_2 a0_3 a1_0 a1_1 t340 t343 t346 t349 t352 t355 t358 t361) else (none)))) else (none)) = some r := H
            have A119 := Aside0.mk A1190
            clear A1190
            by_cases c120 : t397 = t392
            ·rw [if_pos c120] at H
             have c120b0 : (t397 == t392) = true := beq_iff_eq.mpr c120
             have c120b1 : (t397 != t392) = false := bne_eq_false_iff_eq.mpr c120
             clear c120
             by_cases c121 : t392 = a1_0
             ·rw [if_pos c121] at H
              have c121b0 : (t392 == a1_0) = true := beq_iff_eq.mpr c121
              have c121b1 : (t392 != a1_0) = false := bne_eq_false_iff_eq.mpr c121
              clear c121
              replace H := Option.bind_eq_some_iff.mp H
              obtain ⟨t398, A1220, H⟩ := H
              replace H : (if t398 = a1_1 then (quietuslaw10_DomainsChange.l0 kj96 t350 t362 (l0_0.length : Int) (wrap64 (x77_2 + 1)) l0_0 l0_1 l0_2 a0_3 a1_0 a1_1 t340 t343 t346 t349 t352 t355 t358 t361) else (none)) = some r := H
              have A122 := Aside0.mk A1220
              clear A1220
              by_cases c123 : t398 = a1_1
              ·rw [if_pos c123] at H
               have c123b0 : (t398 == a1_1) = true := beq_iff_eq.mpr c123
               have c123b1 : (t398 != a1_1) = false := bne_eq_false_iff_eq.mpr c123
               clear c123
               have H' := Aside0.mk H
               clear H
               try go_wp2
               have n0_ := Aside0.mk (zc_ HO_352000.out)
               have n1_ := Aside0.mk (zc_ HO_352001.out)
               have n2_ := Aside0.mk (zc_ HO_352002.out)
               have n3_ := Aside0.mk (zc_ HO_364000.out)
               have n4_ := Aside0.mk (zc_ HO_364001.out)
               have n5_ := Aside0.mk (zc_ HO_364002.out)
               have n6_ := Aside0.mk (zc_ HO_376000.out)
               have n7_ := Aside0.mk (zc_ HO_376001.out)
               have n8_ := Aside0.mk (zc_ HO_376002.out)
               have n9_ := Aside0.mk (zc_ HO_388000.out)
               have n10_ := Aside0.mk (zc_ HO_388001.out)
               have n11_ := Aside0.mk (zc_ HO_388002.out)
               have n12_ := Aside0.mk (zn_ BK336.out)
               have n13_ := Aside0.mk (zn_ BK337.out)
               have n14_ := Aside0.mk (zn_ BK351.out)
               have n15_ := Aside0.mk (zn_ BK363.out)
               have n16_ := Aside0.mk (zn_ BK375.out)
               have n17_ := Aside0.mk (zn_ BK387.out)
               have n18_ := Aside0.mk (zu_ HB.out)
               clear HO_352000
               clear HO_352001
               clear HO_352002
               clear HO_364000
               clear HO_364001
               clear HO_364002
               clear HO_376000
               clear HO_376001
               clear HO_376002
               clear HO_388000
               clear HO_388001
               clear HO_388002
               clear BK336
               clear BK337
               clear BK351
               clear BK363
               clear BK375
               clear BK387
               clear HB
               have HO_352000 := n0_
               have HO_352001 := n1_
               have HO_352002 := n2_
               have HO_364000 := n3_
               have HO_364001 := n4_
               have HO_364002 := n5_
               have HO_376000 := n6_
               have HO_376001 := n7_
               have HO_376002 := n8_
               have HO_388000 := n9_
               have HO_388001 := n10_
               have HO_388002 := n11_
               have BK336 := n12_
               have BK337 := n13_
               have BK351 := n14_
               have BK363 := n15_
               have BK375 := n16_
               have BK387 := n17_
               have HB := n18_
               clear n0_ n1_ n2_ n3_ n4_ n5_ n6_ n7_ n8_ n9_ n10_ n11_ n12_ n13_ n14_ n15_ n16_ n17_ n18_
               refine start_ (n := 36) (S := fun w' => w'.cell? ⟨gb363, 0, none⟩ = some (.slice Ao29 t352.length co29) ∧ w'.cell? ⟨gb363, 1, none⟩ = some (.slice Ao34 t355.length co34) ∧ w'.cell? ⟨gb363, 2, none⟩ = some (.slice Ao35 t358.length co35) ∧ w'.cell? ⟨gb363, 3, none⟩ = some (.int .i64 t361) ∧ w'.cell? ⟨gb337, 0, none⟩ = some (.int .i64 a1_0) ∧ w'.cell? ⟨gb337, 1, none⟩ = some (.int .i64 a1_1)) (ds := []) #[Z,Z,Z,Z,Z,Z,Z,Z,Z,Z,Z,Z,Z,Z,Z,Z,Z,Z,Z,Z,Z,Z,Z,Z,Z,Z,Z,Z,Z,Z,Z,Z,Z,Z,Z,Z] (by kernel_rfl) rfl rfl ⟨(blk_cell BK363.out 0).trans rfl, (blk_cell BK363.out 1).trans rfl, (blk_cell BK363.out 2).trans rfl, (blk_cell BK363.out 3).trans rfl, (blk_cell BK337.out 0).trans rfl, (blk_cell BK337.out 1).trans rfl⟩ (fun hHeld => ?_); refine with_tabW quietuslaw10_DomainsChange.tab16 quietuslaw10_DomainsChange.bits16 (fun HT_ HW_ => ?_)
               generalize wc.drew = w124 at HO_352000 HO_352001 HO_352002 HO_364000 HO_364001 HO_364002 HO_376000 HO_376001 HO_376002 HO_388000 HO_388001 HO_388002 BK336 BK337 BK351 BK363 BK375 BK387 HB hHeld ⊢
               refine pure_ (i := 0) (N := some 124) (v := ?_) (a' := ?_) #[Y,Z,Z,Z,Z,Z,Z,Z,Z,Z,Z,Z,Z,Z,Z,Z,Z,Z,Z,Z,Z,Z,Z,Z,Z,Z,Z,Z,Z,Z,Z,Z,Z,Z,Z,Z] rfl rfl (any_of HT_.out (by kernel_rfl)) (fun _ _ _ h => h) (Or.inl ⟨by rfl, ?_⟩) ?_ ?_
               rotate_left
               ·intro w'
                go_simp
                with_reducible rfl
               rotate_left
               ·simp only [Act.put, zA_, zB_, zC_, i64_w, i32_w]
                rfl
               refine pure_ (i := 1) (N := some 125) (v := ?_) (a' := ?_) #[Y,Y,Z,Z,Z,Z,Z,Z,Z,Z,Z,Z,Z,Z,Z,Z,Z,Z,Z,Z,Z,Z,Z,Z,Z,Z,Z,Z,Z,Z,Z,Z,Z,Z,Z,Z] rfl rfl (any_of HT_.out (by kernel_rfl)) (fun _ _ _ h => h) (Or.inl ⟨by rfl, ?_⟩) ?_ ?_
               rotate_left
               ·intro w'
                go_simp
                with_reducible rfl
               rotate_left
               ·simp only [Act.put, zA_, zB_, zC_, i64_w, i32_w]
                rfl
               refine pure_ (i := 2) (N := some 126) (v := ?_) (a' := ?_) #[Y,Y,Y,Z,Z,Z,Z,Z,Z,Z,Z,Z,Z,Z,Z,Z,Z,Z,Z,Z,Z,Z,Z,Z,Z,Z,Z,Z,Z,Z,Z,Z,Z,Z,Z,Z] rfl rfl (any_of HT_.out (by kernel_rfl)) (fun _ _ _ h => h) (Or.inl ⟨by rfl, ?_⟩) ?_ ?_
               rotate_left
               ·intro w'
                go_simp
                with_reducible rfl
               rotate_left
               ·simp only [Act.put, zA_, zB_, zC_, i64_w, i32_w]
                rfl
               refine pure_ (i := 4) (N := some 128) (v := ?_) (a' := ?_) #[Y,Y,Y,Z,Y,Z,Z,Z,Z,Z,Z,Z,Z,Z,Z,Z,Z,Z,Z,Z,Z,Z,Z,Z,Z,Z,Z,Z,Z,Z,Z,Z,Z,Z,Z,Z] rfl rfl (any_of HT_.out (by kernel_rfl)) (fun _ _ _ h => h) (Or.inl ⟨by rfl, ?_⟩) ?_ ?_
               rotate_left
               ·intro w'
                go_simp
                with_reducible rfl
               rotate_left
               ·simp only [Act.put, zA_, zB_, zC_, i64_w, i32_w]
                rfl
               refine pure_ (i := 6) (N := some 130) (v := ?_) (a' := ?_) #[Y,Y,Y,Z,Y,Z,Y,Z,Z,Z,Z,Z,Z,Z,Z,Z,Z,Z,Z,Z,Z,Z,Z,Z,Z,Z,Z,Z,Z,Z,Z,Z,Z,Z,Z,Z] rfl rfl (any_of HT_.out (by kernel_rfl)) (fun _ _ _ h => h) (Or.inl ⟨by rfl, ?_⟩) ?_ ?_
               rotate_left
               ·intro w'
                go_simp
                with_reducible rfl
               rotate_left
               ·simp only [Act.put, zA_, zB_, zC_, i64_w, i32_w]
                rfl
               refine take_ (i := 3) (N := some 127) (v := ?_) (a' := ?_) #[Y,Y,Y,Y,Y,Z,Y,Z,Z,Z,Z,Z,Z,Z,Z,Z,Z,Z,Z,Z,Z,Z,Z,Z,Z,Z,Z,Z,Z,Z,Z,Z,Z,Z,Z,Z] rfl rfl (take_ofW HT_.out HW_.out (by kernel_rfl)) (fun _ _ _ h => h) (Or.inl ⟨by rfl, ?_⟩) hHeld ?_ ?_
               rotate_left
               ·rintro w' ⟨s0, s1, s2, s3, s4, s5⟩
                go_simp
                with_reducible rfl
               rotate_left
               ·simp only [Act.put, zA_, zB_, zC_, i64_w, i32_w]
                rfl
               refine one_ (i := 5) (N := some 129) #[Y,Y,Y,Y,Y,Y,Y,Z,Z,Z,Z,Z,Z,Z,Z,Z,Z,Z,Z,Z,Z,Z,Z,Z,Z,Z,Z,Z,Z,Z,Z,Z,Z,Z,Z,Z] rfl rfl (one_of HT_.out (by kernel_rfl)) (by decide) (fun K hK => ?_)
               refine goes_ Try.func18 (by kernel_rfl) rfl #[.agg #[.slice Ao29 t352.length co29, .slice Ao34 t355.length co34, .slice Ao35 t358.length co35, .int .i64 t361], .int .i64 1, .int .i64 x77_2] (by rfl) rfl rfl (by (try simp only [List.map_toArray, List.map_cons, List.map_nil]); (rfl)) ?_
               with_reducible refine (domain_Of.calls kj96 _ _ t352 _ _ t355 _ _ t358 t361 1 x77_2 t397 _ ?side1 ?side2 ?side3 ?side4 ?side5 ?side6 A119.out).mono ?_
               (case side1 => repeat ((exact (zl_ HO_364000.out).2.2)))
               (case side2 => exact (zl_ HO_364000.out).2.1)
               (case side3 => repeat ((exact (zl_ HO_364001.out).2.2)))
               (case side4 => exact (zl_ HO_364001.out).2.1)
               (case side5 => repeat ((exact (zl_ HO_364002.out).2.2)))
               (case side6 => exact (zl_ HO_364002.out).2.1)
               rintro e w125 ⟨rfl, hb⟩
               refine ⟨_, rfl, ?_⟩
               have n0_ := Aside0.mk (Kd.R_below HO_352000.out hb)
               have n1_ := Aside0.mk (Kd.R_below HO_352001.out hb)
               have n2_ := Aside0.mk (Kd.R_below HO_352002.out hb)
               have n3_ := Aside0.mk (Kd.R_below HO_364000.out hb)
               have n4_ := Aside0.mk (Kd.R_below HO_364001.out hb)
               have n5_ := Aside0.mk (Kd.R_below HO_364002.out hb)
               have n6_ := Aside0.mk (Kd.R_below HO_376000.out hb)
               have n7_ := Aside0.mk (Kd.R_below HO_376001.out hb)
               have n8_ := Aside0.mk (Kd.R_below HO_376002.out hb)
               have n9_ := Aside0.mk (Kd.R_below HO_388000.out hb)
               have n10_ := Aside0.mk (Kd.R_below HO_388001.out hb)
               have n11_ := Aside0.mk (Kd.R_below HO_388002.out hb)
               have n12_ := Aside0.mk (zq_ (g := gb336) (o := .cells #[.slice A0_0 l0_0.length c0_0, .slice A0_1 l0_1.length c0_1, .slice A0_2 l0_2.length c0_2, .int .i64 a0_3] 25 (0, 0)) BK336.out hb)
               have n13_ := Aside0.mk (zq_ (g := gb337) (o := .cells #[.int .i64 a1_0, .int .i64 a1_1] 44 (0, 0)) BK337.out hb)
               have n14_ := Aside0.mk (zq_ (g := gb351) (o := .cells #[.slice Ao19 t340.length co19, .slice Ao23 t343.length co23, .slice Ao24 t346.length co24, .int .i64 t349] 25 (0, 0)) BK351.out hb)
               have n15_ := Aside0.mk (zq_ (g := gb363) (o := .cells #[.slice Ao29 t352.length co29, .slice Ao34 t355.length co34, .slice Ao35 t358.length co35, .int .i64 t361] 25 (0, 0)) BK363.out hb)
               have n16_ := Aside0.mk (zq_ (g := gb375) (o := .cells #[.slice Ao40 t364.length co40, .slice Ao46 t367.length co46, .slice Ao47 t370.length co47, .int .i64 t373, .int .i64 t374] 48 (0, 0)) BK375.out hb)
               have n17_ := Aside0.mk (zq_ (g := gb387) (o := .cells #[.slice Ao52 t376.length co52, .slice Ao59 t379.length co59, .slice Ao60 t382.length co60, .int .i64 t385, .int .i64 t386] 48 (0, 0)) BK387.out hb)
               have n18_ := Aside0.mk (zv_ (by repeat (((with_reducible (exact HB.out))))) hb)
               clear HO_352000
               clear HO_352001
               clear HO_352002
               clear HO_364000
               clear HO_364001
               clear HO_364002
               clear HO_376000
               clear HO_376001
               clear HO_376002
               clear HO_388000
               clear HO_388001
               clear HO_388002
               clear BK336
               clear BK337
               clear BK351
               clear BK363
               clear BK375
               clear BK387
               clear HB
               have HO_352000 := n0_
               have HO_352001 := n1_
               have HO_352002 := n2_
               have HO_364000 := n3_
               have HO_364001 := n4_
               have HO_364002 := n5_
               have HO_376000 := n6_
               have HO_376001 := n7_
               have HO_376002 := n8_
               have HO_388000 := n9_
               have HO_388001 := n10_
               have HO_388002 := n11_
               have BK336 := n12_
               have BK337 := n13_
               have BK351 := n14_
               have BK363 := n15_
               have BK375 := n16_
               have BK387 := n17_
               have HB := n18_
               clear n0_ n1_ n2_ n3_ n4_ n5_ n6_ n7_ n8_ n9_ n10_ n11_ n12_ n13_ n14_ n15_ n16_ n17_ n18_
               (try clear hb)
               (try clear hb2)
               (try clear hk)
               (try clear hi)
               refine hK.out _ _ ⟨(blk_cell BK363.out 0).trans rfl, (blk_cell BK363.out 1).trans rfl, (blk_cell BK363.out 2).trans rfl, (blk_cell BK363.out 3).trans rfl, (blk_cell BK337.out 0).trans rfl, (blk_cell BK337.out 1).trans rfl⟩ (fun hHeld => ?_)
               clear hK K
               refine norm_ (a' := ?_) ?_ ?_
               rotate_left
               ·show Act.put _ (some 129) _ = _
                simp only [Act.put, zA_, zB_, zC_, i64_w, i32_w]
                rfl
               refine pure_ (i := 7) (N := some 131) (v := ?_) (a' := ?_) #[Y,Y,Y,Y,Y,Y,Y,Y,Z,Z,Z,Z,Z,Z,Z,Z,Z,Z,Z,Z,Z,Z,Z,Z,Z,Z,Z,Z,Z,Z,Z,Z,Z,Z,Z,Z] rfl rfl (any_of HT_.out (by kernel_rfl)) (fun _ _ _ h => h) (Or.inl ⟨by rfl, ?_⟩) ?_ ?_
               rotate_left
               ·intro w'
                go_simp
                with_reducible rfl
               rotate_left
               ·simp only [Act.put, zA_, zB_, zC_, i64_w, i32_w]
                rfl
               refine pure_ (i := 8) (N := some 132) (v := ?_) (a' := ?_) #[Y,Y,Y,Y,Y,Y,Y,Y,Y,Z,Z,Z,Z,Z,Z,Z,Z,Z,Z,Z,Z,Z,Z,Z,Z,Z,Z,Z,Z,Z,Z,Z,Z,Z,Z,Z] rfl rfl (any_of HT_.out (by kernel_rfl)) (fun _ _ _ h => h) (Or.inl ⟨by rfl, ?_⟩) ?_ ?_
               rotate_left
               ·intro w'
                go_simp
                with_reducible rfl
               rotate_left
               ·simp only [Act.put, zA_, zB_, zC_, i64_w, i32_w]
                rfl
               refine pure_ (i := 9) (N := some 133) (v := ?_) (a' := ?_) #[Y,Y,Y,Y,Y,Y,Y,Y,Y,Y,Z,Z,Z,Z,Z,Z,Z,Z,Z,Z,Z,Z,Z,Z,Z,Z,Z,Z,Z,Z,Z,Z,Z,Z,Z,Z] rfl rfl (any_of HT_.out (by kernel_rfl)) (fun _ _ _ h => h) (Or.inl ⟨by rfl, ?_⟩) ?_ ?_
               rotate_left
               ·intro w'
                go_simp
                with_reducible rfl
               rotate_left
               ·simp only [Act.put, zA_, zB_, zC_, i64_w, i32_w]
                rfl
               refine pure_ (i := 10) (N := some 134) (v := ?_) (a' := ?_) #[Y,Y,Y,Y,Y,Y,Y,Y,Y,Y,Y,Z,Z,Z,Z,Z,Z,Z,Z,Z,Z,Z,Z,Z,Z,Z,Z,Z,Z,Z,Z,Z,Z,Z,Z,Z] rfl rfl (any_of HT_.out (by kernel_rfl)) (fun _ _ _ h => h) (Or.inl ⟨by rfl, ?_⟩) ?_ ?_
               rotate_left
               ·intro w'
                go_simp
                with_reducible rfl
               rotate_left
               ·simp only [Act.put, zA_, zB_, zC_, i64_w, i32_w]
                rfl
               refine take_ (i := 11) (N := some 135) (v := ?_) (a' := ?_) #[Y,Y,Y,Y,Y,Y,Y,Y,Y,Y,Y,Y,Z,Z,Z,Z,Z,Z,Z,Z,Z,Z,Z,Z,Z,Z,Z,Z,Z,Z,Z,Z,Z,Z,Z,Z] rfl rfl (take_ofW HT_.out HW_.out (by kernel_rfl)) (fun _ _ _ h => h) (Or.inl ⟨by rfl, ?_⟩) hHeld ?_ ?_
               rotate_left
               ·rintro w' ⟨s0, s1, s2, s3, s4, s5⟩
                go_simp
                with_reducible rfl
               rotate_left
               ·simp only [Act.put, zA_, zB_, zC_, i64_w, i32_w]
                rfl
               refine pure_ (i := 12) (N := some 136) (v := ?_) (a' := ?_) #[Y,Y,Y,Y,Y,Y,Y,Y,Y,Y,Y,Y,Y,Z,Z,Z,Z,Z,Z,Z,Z,Z,Z,Z,Z,Z,Z,Z,Z,Z,Z,Z,Z,Z,Z,Z] rfl rfl (any_of HT_.out (by kernel_rfl)) (fun _ _ _ h => h) (Or.inl ⟨by rfl, ?_⟩) ?_ ?_
               rotate_left
               ·intro w'
                go_simp
                with_reducible rfl
               rotate_left
               ·simp only [Act.put, zA_, zB_, zC_, i64_w, i32_w]
                rfl
               refine pure_ (i := 13) (N := some 137) (v := ?_) (a' := ?_) #[Y,Y,Y,Y,Y,Y,Y,Y,Y,Y,Y,Y,Y,Y,Z,Z,Z,Z,Z,Z,Z,Z,Z,Z,Z,Z,Z,Z,Z,Z,Z,Z,Z,Z,Z,Z] rfl rfl (any_of HT_.out (by kernel_rfl)) (fun _ _ _ h => h) (Or.inl ⟨by rfl, ?_⟩) ?_ ?_
               rotate_left
               ·intro w'
                go_simp
                with_reducible rfl
               rotate_left
               ·simp only [Act.put, zA_, zB_, zC_, i64_w, i32_w]
                rfl
               refine pure_ (i := 14) (N := some 138) (v := undef) (a' := ?_) #[Y,Y,Y,Y,Y,Y,Y,Y,Y,Y,Y,Y,Y,Y,Y,Z,Z,Z,Z,Z,Z,Z,Z,Z,Z,Z,Z,Z,Z,Z,Z,Z,Z,Z,Z,Z] rfl rfl (any_of HT_.out (by kernel_rfl)) (fun _ _ _ h => h) (Or.inr ⟨by rfl, rfl⟩) ?_ ?_
               rotate_left
               ·simp only [Act.put, zA_, zB_, zC_, i64_w, i32_w]
                rfl
               refine pure_ (i := 15) (N := some 139) (v := undef) (a' := ?_) #[Y,Y,Y,Y,Y,Y,Y,Y,Y,Y,Y,Y,Y,Y,Y,Y,Z,Z,Z,Z,Z,Z,Z,Z,Z,Z,Z,Z,Z,Z,Z,Z,Z,Z,Z,Z] rfl rfl (any_of HT_.out (by kernel_rfl)) (fun _ _ _ h => h) (Or.inr ⟨by rfl, rfl⟩) ?_ ?_
               rotate_left
               ·simp only [Act.put, zA_, zB_, zC_, i64_w, i32_w]
                rfl
               refine pure_ (i := 16) (N := some 140) (v := undef) (a' := ?_) #[Y,Y,Y,Y,Y,Y,Y,Y,Y,Y,Y,Y,Y,Y,Y,Y,Y,Z,Z,Z,Z,Z,Z,Z,Z,Z,Z,Z,Z,Z,Z,Z,Z,Z,Z,Z] rfl rfl (any_of HT_.out (by kernel_rfl)) (fun _ _ _ h => h) (Or.inr ⟨by rfl, rfl⟩) ?_ ?_
               rotate_left
               ·simp only [Act.put, zA_, zB_, zC_, i64_w, i32_w]
                rfl
               refine pure_ (i := 17) (N := some 141) (v := undef) (a' := ?_) #[Y,Y,Y,Y,Y,Y,Y,Y,Y,Y,Y,Y,Y,Y,Y,Y,Y,Y,Z,Z,Z,Z,Z,Z,Z,Z,Z,Z,Z,Z,Z,Z,Z,Z,Z,Z] rfl rfl (any_of HT_.out (by kernel_rfl)) (fun _ _ _ h => h) (Or.inr ⟨by rfl, rfl⟩) ?_ ?_
               rotate_left
               ·simp only [Act.put, zA_, zB_, zC_, i64_w, i32_w]
                rfl
               refine pure_ (i := 18) (N := some 142) (v := undef) (a' := ?_) #[Y,Y,Y,Y,Y,Y,Y,Y,Y,Y,Y,Y,Y,Y,Y,Y,Y,Y,Y,Z,Z,Z,Z,Z,Z,Z,Z,Z,Z,Z,Z,Z,Z,Z,Z,Z] rfl rfl (any_of HT_.out (by kernel_rfl)) (fun _ _ _ h => h) (Or.inr ⟨by rfl, rfl⟩) ?_ ?_
               rotate_left
               ·simp only [Act.put, zA_, zB_, zC_, i64_w, i32_w]
                rfl
               refine pure_ (i := 19) (N := some 143) (v := ?_) (a' := ?_) #[Y,Y,Y,Y,Y,Y,Y,Y,Y,Y,Y,Y,Y,Y,Y,Y,Y,Y,Y,Y,Z,Z,Z,Z,Z,Z,Z,Z,Z,Z,Z,Z,Z,Z,Z,Z] rfl rfl (any_of HT_.out (by kernel_rfl)) (fun _ _ _ h => h) (Or.inl ⟨by rfl, ?_⟩) ?_ ?_
               rotate_left
               ·intro w'
                go_simp
                with_reducible rfl
               rotate_left
               ·simp only [Act.put, zA_, zB_, zC_, i64_w, i32_w]
                rfl
               refine pure_ (i := 20) (N := some 144) (v := ?_) (a' := ?_) #[Y,Y,Y,Y,Y,Y,Y,Y,Y,Y,Y,Y,Y,Y,Y,Y,Y,Y,Y,Y,Y,Z,Z,Z,Z,Z,Z,Z,Z,Z,Z,Z,Z,Z,Z,Z] rfl rfl (any_of HT_.out (by kernel_rfl)) (fun _ _ _ h => h) (Or.inl ⟨by rfl, ?_⟩) ?_ ?_
               rotate_left
               ·intro w'
                go_simp
                with_reducible rfl
               rotate_left
               ·simp only [Act.put, zA_, zB_, zC_, i64_w, i32_w]
                rfl
               refine pure_ (i := 21) (N := some 145) (v := ?_) (a' := ?_) #[Y,Y,Y,Y,Y,Y,Y,Y,Y,Y,Y,Y,Y,Y,Y,Y,Y,Y,Y,Y,Y,Y,Z,Z,Z,Z,Z,Z,Z,Z,Z,Z,Z,Z,Z,Z] rfl rfl (any_of HT_.out (by kernel_rfl)) (fun _ _ _ h => h) (Or.inl ⟨by rfl, ?_⟩) ?_ ?_
               rotate_left
               ·intro w'
                go_simp
                with_reducible rfl
               rotate_left
               ·simp only [Act.put, zA_, zB_, zC_, i64_w, i32_w]
                rfl
               refine pure_ (i := 22) (N := some 146) (v := ?_) (a' := ?_) #[Y,Y,Y,Y,Y,Y,Y,Y,Y,Y,Y,Y,Y,Y,Y,Y,Y,Y,Y,Y,Y,Y,Y,Z,Z,Z,Z,Z,Z,Z,Z,Z,Z,Z,Z,Z] rfl rfl (any_of HT_.out (by kernel_rfl)) (fun _ _ _ h => h) (Or.inl ⟨by rfl, ?_⟩) ?_ ?_
               rotate_left
               ·intro w'
                go_simp
                with_reducible rfl
               rotate_left
               ·simp only [Act.put, zA_, zB_, zC_, i64_w, i32_w]
                rfl
               refine pure_ (i := 23) (N := some 147) (v := ?_) (a' := ?_) #[Y,Y,Y,Y,Y,Y,Y,Y,Y,Y,Y,Y,Y,Y,Y,Y,Y,Y,Y,Y,Y,Y,Y,Y,Z,Z,Z,Z,Z,Z,Z,Z,Z,Z,Z,Z] rfl rfl (any_of HT_.out (by kernel_rfl)) (fun _ _ _ h => h) (Or.inl ⟨by rfl, ?_⟩) ?_ ?_
               rotate_left
               ·intro w'
                go_simp
                with_reducible rfl
               rotate_left
               ·simp only [Act.put, zA_, zB_, zC_, i64_w, i32_w]
                rfl
               refine take_ (i := 24) (N := some 148) (v := ?_) (a' := ?_) #[Y,Y,Y,Y,Y,Y,Y,Y,Y,Y,Y,Y,Y,Y,Y,Y,Y,Y,Y,Y,Y,Y,Y,Y,Y,Z,Z,Z,Z,Z,Z,Z,Z,Z,Z,Z] rfl rfl (take_ofW HT_.out HW_.out (by kernel_rfl)) (fun _ _ _ h => h) (Or.inl ⟨by rfl, ?_⟩) hHeld ?_ ?_
               rotate_left
               ·rintro w' ⟨s0, s1, s2, s3, s4, s5⟩
                go_simp
                with_reducible rfl
               rotate_left
               ·simp only [Act.put, zA_, zB_, zC_, i64_w, i32_w]
                rfl
               refine pure_ (i := 25) (N := some 149) (v := ?_) (a' := ?_) #[Y,Y,Y,Y,Y,Y,Y,Y,Y,Y,Y,Y,Y,Y,Y,Y,Y,Y,Y,Y,Y,Y,Y,Y,Y,Y,Z,Z,Z,Z,Z,Z,Z,Z,Z,Z] rfl rfl (any_of HT_.out (by kernel_rfl)) (fun _ _ _ h => h) (Or.inl ⟨by rfl, ?_⟩) ?_ ?_
               rotate_left
               ·intro w'
                go_simp
                with_reducible rfl
               rotate_left
               ·simp only [Act.put, zA_, zB_, zC_, i64_w, i32_w]
                rfl
               refine pure_ (i := 26) (N := some 150) (v := ?_) (a' := ?_) #[Y,Y,Y,Y,Y,Y,Y,Y,Y,Y,Y,Y,Y,Y,Y,Y,Y,Y,Y,Y,Y,Y,Y,Y,Y,Y,Y,Z,Z,Z,Z,Z,Z,Z,Z,Z] rfl rfl (any_of HT_.out (by kernel_rfl)) (fun _ _ _ h => h) (Or.inl ⟨by rfl, ?_⟩) ?_ ?_
               rotate_left
               ·intro w'
                go_simp
                with_reducible rfl
               rotate_left
               ·simp only [Act.put, zA_, zB_, zC_, i64_w, i32_w]
                rfl
               refine pure_ (i := 28) (N := some 152) (v := ?_) (a' := ?_) #[Y,Y,Y,Y,Y,Y,Y,Y,Y,Y,Y,Y,Y,Y,Y,Y,Y,Y,Y,Y,Y,Y,Y,Y,Y,Y,Y,Z,Y,Z,Z,Z,Z,Z,Z,Z] rfl rfl (any_of HT_.out (by kernel_rfl)) (fun _ _ _ h => h) (Or.inl ⟨by rfl, ?_⟩) ?_ ?_
               rotate_left
               ·intro w'
                go_simp
                with_reducible rfl
               rotate_left
               ·simp only [Act.put, zA_, zB_, zC_, i64_w, i32_w]
                rfl
               refine pure_ (i := 30) (N := some 154) (v := ?_) (a' := ?_) #[Y,Y,Y,Y,Y,Y,Y,Y,Y,Y,Y,Y,Y,Y,Y,Y,Y,Y,Y,Y,Y,Y,Y,Y,Y,Y,Y,Z,Y,Z,Y,Z,Z,Z,Z,Z] rfl rfl (any_of HT_.out (by kernel_rfl)) (fun _ _ _ h => h) (Or.inl ⟨by rfl, ?_⟩) ?_ ?_
               rotate_left
               ·intro w'
                go_simp
                with_reducible rfl
               rotate_left
               ·simp only [Act.put, zA_, zB_, zC_, i64_w, i32_w]
                rfl
               refine take_ (i := 27) (N := some 151) (v := ?_) (a' := ?_) #[Y,Y,Y,Y,Y,Y,Y,Y,Y,Y,Y,Y,Y,Y,Y,Y,Y,Y,Y,Y,Y,Y,Y,Y,Y,Y,Y,Y,Y,Z,Y,Z,Z,Z,Z,Z] rfl rfl (take_ofW HT_.out HW_.out (by kernel_rfl)) (fun _ _ _ h => h) (Or.inl ⟨by rfl, ?_⟩) hHeld ?_ ?_
               rotate_left
               ·rintro w' ⟨s0, s1, s2, s3, s4, s5⟩
                go_simp
                with_reducible rfl
               rotate_left
               ·simp only [Act.put, zA_, zB_, zC_, i64_w, i32_w]
                rfl
               refine take_ (i := 31) (N := some 155) (v := ?_) (a' := ?_) #[Y,Y,Y,Y,Y,Y,Y,Y,Y,Y,Y,Y,Y,Y,Y,Y,Y,Y,Y,Y,Y,Y,Y,Y,Y,Y,Y,Y,Y,Z,Y,Y,Z,Z,Z,Z] rfl rfl (take_ofW HT_.out HW_.out (by kernel_rfl)) (fun _ _ _ h => h) (Or.inl ⟨by rfl, ?_⟩) hHeld ?_ ?_
               rotate_left
               ·rintro w' ⟨s0, s1, s2, s3, s4, s5⟩
                go_simp
                with_reducible rfl
               rotate_left
               ·simp only [Act.put, zA_, zB_, zC_, i64_w, i32_w]
                rfl
               refine one_ (i := 29) (N := some 153) #[Y,Y,Y,Y,Y,Y,Y,Y,Y,Y,Y,Y,Y,Y,Y,Y,Y,Y,Y,Y,Y,Y,Y,Y,Y,Y,Y,Y,Y,Y,Y,Y,Z,Z,Z,Z] rfl rfl (one_of HT_.out (by kernel_rfl)) (by decide) (fun K hK => ?_)
               refine goes_ Try.func18 (by kernel_rfl) rfl #[.agg #[.slice Ao29 t352.length co29, .slice Ao34 t355.length co34, .slice Ao35 t358.length co35, .int .i64 t361], .int .i64 2, .int .i64 x77_2] (by rfl) rfl rfl (by (try simp only [List.map_toArray, List.map_cons, List.map_nil]); (rfl)) ?_
               with_reducible refine (domain_Of.calls kj96 _ _ t352 _ _ t355 _ _ t358 t361 2 x77_2 t398 _ ?side1 ?side2 ?side3 ?side4 ?side5 ?side6 A122.out).mono ?_
               (case side1 => repeat ((exact (zl_ HO_364000.out).2.2)))
               (case side2 => exact (zl_ HO_364000.out).2.1)
               (case side3 => repeat ((exact (zl_ HO_364001.out).2.2)))
               (case side4 => exact (zl_ HO_364001.out).2.1)
               (case side5 => repeat ((exact (zl_ HO_364002.out).2.2)))
               (case side6 => exact (zl_ HO_364002.out).2.1)
               rintro e w126 ⟨rfl, hb⟩
               refine ⟨_, rfl, ?_⟩
               have n0_ := Aside0.mk (Kd.R_below HO_352000.out hb)
               have n1_ := Aside0.mk (Kd.R_below HO_352001.out hb)
               have n2_ := Aside0.mk (Kd.R_below HO_352002.out hb)
               have n3_ := Aside0.mk (Kd.R_below HO_364000.out hb)
               have n4_ := Aside0.mk (Kd.R_below HO_364001.out hb)
               have n5_ := Aside0.mk (Kd.R_below HO_364002.out hb)
               have n6_ := Aside0.mk (Kd.R_below HO_376000.out hb)
               have n7_ := Aside0.mk (Kd.R_below HO_376001.out hb)
               have n8_ := Aside0.mk (Kd.R_below HO_376002.out hb)
               have n9_ := Aside0.mk (Kd.R_below HO_388000.out hb)
               have n10_ := Aside0.mk (Kd.R_below HO_388001.out hb)
               have n11_ := Aside0.mk (Kd.R_below HO_388002.out hb)
               have n12_ := Aside0.mk (zq_ (g := gb336) (o := .cells #[.slice A0_0 l0_0.length c0_0, .slice A0_1 l0_1.length c0_1, .slice A0_2 l0_2.length c0_2, .int .i64 a0_3] 25 (0, 0)) BK336.out hb)
               have n13_ := Aside0.mk (zq_ (g := gb337) (o := .cells #[.int .i64 a1_0, .int .i64 a1_1] 44 (0, 0)) BK337.out hb)
               have n14_ := Aside0.mk (zq_ (g := gb351) (o := .cells #[.slice Ao19 t340.length co19, .slice Ao23 t343.length co23, .slice Ao24 t346.length co24, .int .i64 t349] 25 (0, 0)) BK351.out hb)
               have n15_ := Aside0.mk (zq_ (g := gb363) (o := .cells #[.slice Ao29 t352.length co29, .slice Ao34 t355.length co34, .slice Ao35 t358.length co35, .int .i64 t361] 25 (0, 0)) BK363.out hb)
               have n16_ := Aside0.mk (zq_ (g := gb375) (o := .cells #[.slice Ao40 t364.length co40, .slice Ao46 t367.length co46, .slice Ao47 t370.length co47, .int .i64 t373, .int .i64 t374] 48 (0, 0)) BK375.out hb)
               have n17_ := Aside0.mk (zq_ (g := gb387) (o := .cells #[.slice Ao52 t376.length co52, .slice Ao59 t379.length co59, .slice Ao60 t382.length co60, .int .i64 t385, .int .i64 t386] 48 (0, 0)) BK387.out hb)
               have n18_ := Aside0.mk (zv_ (by repeat (((with_reducible (exact HB.out))))) hb)
               clear HO_352000
               clear HO_352001
               clear HO_352002
               clear HO_364000
               clear HO_364001
               clear HO_364002
               clear HO_376000
               clear HO_376001
               clear HO_376002
               clear HO_388000
               clear HO_388001
               clear HO_388002
               clear BK336
               clear BK337
               clear BK351
               clear BK363
               clear BK375
               clear BK387
               clear HB
               have HO_352000 := n0_
               have HO_352001 := n1_
               have HO_352002 := n2_
               have HO_364000 := n3_
               have HO_364001 := n4_
               have HO_364002 := n5_
               have HO_376000 := n6_
               have HO_376001 := n7_
               have HO_376002 := n8_
               have HO_388000 := n9_
               have HO_388001 := n10_
               have HO_388002 := n11_
               have BK336 := n12_
               have BK337 := n13_
               have BK351 := n14_
               have BK363 := n15_
               have BK375 := n16_
               have BK387 := n17_
               have HB := n18_
               clear n0_ n1_ n2_ n3_ n4_ n5_ n6_ n7_ n8_ n9_ n10_ n11_ n12_ n13_ n14_ n15_ n16_ n17_ n18_
               (try clear hb)
               (try clear hb2)
               (try clear hk)
               (try clear hi)
               refine hK.out _ _ ⟨(blk_cell BK363.out 0).trans rfl, (blk_cell BK363.out 1).trans rfl, (blk_cell BK363.out 2).trans rfl, (blk_cell BK363.out 3).trans rfl, (blk_cell BK337.out 0).trans rfl, (blk_cell BK337.out 1).trans rfl⟩ (fun hHeld => ?_)
               clear hK K
               refine norm_ (a' := ?_) ?_ ?_
               rotate_left
               ·show Act.put _ (some 153) _ = _
                simp only [Act.put, zA_, zB_, zC_, i64_w, i32_w]
                rfl
               refine pure_ (i := 32) (N := some 156) (v := ?_) (a' := ?_) #[Y,Y,Y,Y,Y,Y,Y,Y,Y,Y,Y,Y,Y,Y,Y,Y,Y,Y,Y,Y,Y,Y,Y,Y,Y,Y,Y,Y,Y,Y,Y,Y,Y,Z,Z,Z] rfl rfl (any_of HT_.out (by kernel_rfl)) (fun _ _ _ h => h) (Or.inl ⟨by rfl, ?_⟩) ?_ ?_
               rotate_left
               ·intro w'
                go_simp
                with_reducible rfl
               rotate_left
               ·simp only [Act.put, zA_, zB_, zC_, i64_w, i32_w]
                rfl
               refine pure_ (i := 33) (N := some 157) (v := ?_) (a' := ?_) #[Y,Y,Y,Y,Y,Y,Y,Y,Y,Y,Y,Y,Y,Y,Y,Y,Y,Y,Y,Y,Y,Y,Y,Y,Y,Y,Y,Y,Y,Y,Y,Y,Y,Y,Z,Z] rfl rfl (any_of HT_.out (by kernel_rfl)) (fun _ _ _ h => h) (Or.inl ⟨by rfl, ?_⟩) ?_ ?_
               rotate_left
               ·intro w'
                go_simp
                with_reducible rfl
               rotate_left
               ·simp only [Act.put, zA_, zB_, zC_, i64_w, i32_w]
                rfl
               refine pure_ (i := 34) (N := some 158) (v := ?_) (a' := ?_) #[Y,Y,Y,Y,Y,Y,Y,Y,Y,Y,Y,Y,Y,Y,Y,Y,Y,Y,Y,Y,Y,Y,Y,Y,Y,Y,Y,Y,Y,Y,Y,Y,Y,Y,Y,Z] rfl rfl (any_of HT_.out (by kernel_rfl)) (fun _ _ _ h => h) (Or.inl ⟨by rfl, ?_⟩) ?_ ?_
               rotate_left
               ·intro w'
                go_simp
                with_reducible rfl
               rotate_left
               ·simp only [Act.put, zA_, zB_, zC_, i64_w, i32_w]
                rfl
               refine pure_ (i := 35) (N := some 159) (v := ?_) (a' := ?_) #[Y,Y,Y,Y,Y,Y,Y,Y,Y,Y,Y,Y,Y,Y,Y,Y,Y,Y,Y,Y,Y,Y,Y,Y,Y,Y,Y,Y,Y,Y,Y,Y,Y,Y,Y,Y] rfl rfl (any_of HT_.out (by kernel_rfl)) (fun _ _ _ h => h) (Or.inl ⟨by rfl, ?_⟩) ?_ ?_
               rotate_left
               ·intro w'
                go_simp
                with_reducible rfl
               rotate_left
               ·simp only [Act.put, zA_, zB_, zC_, i64_w, i32_w]
                rfl
               refine done_ (done_of HT_.out (by kernel_rfl)) ?_
               try go_wp2
               go_roundg kj96
               case measure => have := HJ8.out; have := HK2.out; have := HJ96.out; omega
               case rel => exact ⟨(wrap64 (x77_2 + 1)), (by (rfl)), H', ⟨by have := HJ8.out; have := HK2.out; have := HJ96.out; omega⟩, ⟨by exact HO_352000.out⟩, ⟨by exact HO_352001.out⟩, ⟨by exact HO_352002.out⟩, ⟨by exact HO_364000.out⟩, ⟨by exact HO_364001.out⟩, ⟨by exact HO_364002.out⟩, ⟨by exact HO_376000.out⟩, ⟨by exact HO_376001.out⟩, ⟨by exact HO_376002.out⟩, ⟨by exact HO_388000.out⟩, ⟨by exact HO_388001.out⟩, ⟨by exact HO_388002.out⟩, ⟨by exact BK336.out⟩, ⟨by exact BK337.out⟩, ⟨by exact BK351.out⟩, ⟨by exact BK363.out⟩, ⟨by exact BK375.out⟩, ⟨by exact BK387.out⟩, ⟨by repeat (((with_reducible (exact HB.out))))⟩⟩
              ·rw [if_neg c123] at H
               exact absurd H (by simp)
             ·rw [if_neg c121] at H
              have c121b0 : (t392 == a1_0) = false := beq_eq_false_iff_ne.mpr c121
              have c121b1 : (t392 != a1_0) = true := bne_iff_ne.mpr c121
              replace H := Option.bind_eq_some_iff.mp H
              obtain ⟨t399, A1270, H⟩ := H
              replace H : (if t399 = t391 then (quietuslaw10_DomainsChange.l0 kj96 t350 t362 (l0_0.length : Int) (wrap64 (x77_2 + 1)) l0_0 l0_1 l0_2 a0_3 a1_0 a1_1 t340 t343 t346 t349 t352 t355 t358 t361) else (none)) = some r := H
              have A127 := Aside0.mk A1270
              clear A1270
              by_cases c128 : t399 = t391
              ·rw [if_pos c128] at H
               have c128b0 : (t399 == t391) = true := beq_iff_eq.mpr c128
               have c128b1 : (t399 != t391) = false := bne_eq_false_iff_eq.mpr c128
               clear c128
               have H' := Aside0.mk H
               clear H
               try go_wp2
               have n0_ := Aside0.mk (zc_ HO_352000.out)
               have n1_ := Aside0.mk (zc_ HO_352001.out)
               have n2_ := Aside0.mk (zc_ HO_352002.out)
               have n3_ := Aside0.mk (zc_ HO_364000.out)
               have n4_ := Aside0.mk (zc_ HO_364001.out)
               have n5_ := Aside0.mk (zc_ HO_364002.out)
               have n6_ := Aside0.mk (zc_ HO_376000.out)
               have n7_ := Aside0.mk (zc_ HO_376001.out)
               have n8_ := Aside0.mk (zc_ HO_376002.out)
               have n9_ := Aside0.mk (zc_ HO_388000.out)
               have n10_ := Aside0.mk (zc_ HO_388001.out)
               have n11_ := Aside0.mk (zc_ HO_388002.out)
               have n12_ := Aside0.mk (zn_ BK336.out)
               have n13_ := Aside0.mk (zn_ BK337.out)
               have n14_ := Aside0.mk (zn_ BK351.out)
               have n15_ := Aside0.mk (zn_ BK363.out)
               have n16_ := Aside0.mk (zn_ BK375.out)
               have n17_ := Aside0.mk (zn_ BK387.out)
               have n18_ := Aside0.mk (zu_ HB.out)
               clear HO_352000
               clear HO_352001
               clear HO_352002
               clear HO_364000
               clear HO_364001
               clear HO_364002
               clear HO_376000
               clear HO_376001
               clear HO_376002
               clear HO_388000
               clear HO_388001
               clear HO_388002
               clear BK336
               clear BK337
               clear BK351
               clear BK363
               clear BK375
               clear BK387
               clear HB
               have HO_352000 := n0_
               have HO_352001 := n1_
               have HO_352002 := n2_
               have HO_364000 := n3_
               have HO_364001 := n4_
               have HO_364002 := n5_
               have HO_376000 := n6_
               have HO_376001 := n7_
               have HO_376002 := n8_
               have HO_388000 := n9_
               have HO_388001 := n10_
               have HO_388002 := n11_
               have BK336 := n12_
               have BK337 := n13_
               have BK351 := n14_
               have BK363 := n15_
               have BK375 := n16_
               have BK387 := n17_
               have HB := n18_
               clear n0_ n1_ n2_ n3_ n4_ n5_ n6_ n7_ n8_ n9_ n10_ n11_ n12_ n13_ n14_ n15_ n16_ n17_ n18_
               refine start_ (n := 36) (S := fun w' => w'.cell? ⟨gb363, 0, none⟩ = some (.slice Ao29 t352.length co29) ∧ w'.cell? ⟨gb363, 1, none⟩ = some (.slice Ao34 t355.length co34) ∧ w'.cell? ⟨gb363, 2, none⟩ = some (.slice Ao35 t358.length co35) ∧ w'.cell? ⟨gb363, 3, none⟩ = some (.int .i64 t361) ∧ w'.cell? ⟨gb337, 0, none⟩ = some (.int .i64 a1_0) ∧ w'.cell? ⟨gb337, 1, none⟩ = some (.int .i64 a1_1)) (ds := []) #[Z,Z,Z,Z,Z,Z,Z,Z,Z,Z,Z,Z,Z,Z,Z,Z,Z,Z,Z,Z,Z,Z,Z,Z,Z,Z,Z,Z,Z,Z,Z,Z,Z,Z,Z,Z] (by kernel_rfl) rfl rfl ⟨(blk_cell BK363.out 0).trans rfl, (blk_cell BK363.out 1).trans rfl, (blk_cell BK363.out 2).trans rfl, (blk_cell BK363.out 3).trans rfl, (blk_cell BK337.out 0).trans rfl, (blk_cell BK337.out 1).trans rfl⟩ (fun hHeld => ?_); refine with_tabW quietuslaw10_DomainsChange.tab16 quietuslaw10_DomainsChange.bits16 (fun HT_ HW_ => ?_)
               generalize wc.drew = w129 at HO_352000 HO_352001 HO_352002 HO_364000 HO_364001 HO_364002 HO_376000 HO_376001 HO_376002 HO_388000 HO_388001 HO_388002 BK336 BK337 BK351 BK363 BK375 BK387 HB hHeld ⊢
               refine pure_ (i := 0) (N := some 124) (v := ?_) (a' := ?_) #[Y,Z,Z,Z,Z,Z,Z,Z,Z,Z,Z,Z,Z,Z,Z,Z,Z,Z,Z,Z,Z,Z,Z,Z,Z,Z,Z,Z,Z,Z,Z,Z,Z,Z,Z,Z] rfl rfl (any_of HT_.out (by kernel_rfl)) (fun _ _ _ h => h) (Or.inl ⟨by rfl, ?_⟩) ?_ ?_
               rotate_left
               ·intro w'
                go_simp
                with_reducible rfl
               rotate_left
               ·simp only [Act.put, zA_, zB_, zC_, i64_w, i32_w]
                rfl
               refine pure_ (i := 1) (N := some 125) (v := ?_) (a' := ?_) #[Y,Y,Z,Z,Z,Z,Z,Z,Z,Z,Z,Z,Z,Z,Z,Z,Z,Z,Z,Z,Z,Z,Z,Z,Z,Z,Z,Z,Z,Z,Z,Z,Z,Z,Z,Z] rfl rfl (any_of HT_.out (by kernel_rfl)) (fun _ _ _ h => h) (Or.inl ⟨by rfl, ?_⟩) ?_ ?_
               rotate_left
               ·intro w'
                go_simp
                with_reducible rfl
               rotate_left
               ·simp only [Act.put, zA_, zB_, zC_, i64_w, i32_w]
                rfl
               refine pure_ (i := 2) (N := some 126) (v := ?_) (a' := ?_) #[Y,Y,Y,Z,Z,Z,Z,Z,Z,Z,Z,Z,Z,Z,Z,Z,Z,Z,Z,Z,Z,Z,Z,Z,Z,Z,Z,Z,Z,Z,Z,Z,Z,Z,Z,Z] rfl rfl (any_of HT_.out (by kernel_rfl)) (fun _ _ _ h => h) (Or.inl ⟨by rfl, ?_⟩) ?_ ?_
               rotate_left
               ·intro w'
                go_simp
                with_reducible rfl
               rotate_left
               ·simp only [Act.put, zA_, zB_, zC_, i64_w, i32_w]
                rfl
               refine pure_ (i := 4) (N := some 128) (v := ?_) (a' := ?_) #[Y,Y,Y,Z,Y,Z,Z,Z,Z,Z,Z,Z,Z,Z,Z,Z,Z,Z,Z,Z,Z,Z,Z,Z,Z,Z,Z,Z,Z,Z,Z,Z,Z,Z,Z,Z] rfl rfl (any_of HT_.out (by kernel_rfl)) (fun _ _ _ h => h) (Or.inl ⟨by rfl, ?_⟩) ?_ ?_
               rotate_left
               ·intro w'
                go_simp
                with_reducible rfl
               rotate_left
               ·simp only [Act.put, zA_, zB_, zC_, i64_w, i32_w]
                rfl
               refine pure_ (i := 6) (N := some 130) (v := ?_) (a' := ?_) #[Y,Y,Y,Z,Y,Z,Y,Z,Z,Z,Z,Z,Z,Z,Z,Z,Z,Z,Z,Z,Z,Z,Z,Z,Z,Z,Z,Z,Z,Z,Z,Z,Z,Z,Z,Z] rfl rfl (any_of HT_.out (by kernel_rfl)) (fun _ _ _ h => h) (Or.inl ⟨by rfl, ?_⟩) ?_ ?_
               rotate_left
               ·intro w'
                go_simp
                with_reducible rfl
               rotate_left
               ·simp only [Act.put, zA_, zB_, zC_, i64_w, i32_w]
                rfl
               refine take_ (i := 3) (N := some 127) (v := ?_) (a' := ?_) #[Y,Y,Y,Y,Y,Z,Y,Z,Z,Z,Z,Z,Z,Z,Z,Z,Z,Z,Z,Z,Z,Z,Z,Z,Z,Z,Z,Z,Z,Z,Z,Z,Z,Z,Z,Z] rfl rfl (take_ofW HT_.out HW_.out (by kernel_rfl)) (fun _ _ _ h => h) (Or.inl ⟨by rfl, ?_⟩) hHeld ?_ ?_
               rotate_left
               ·rintro w' ⟨s0, s1, s2, s3, s4, s5⟩
                go_simp
                with_reducible rfl
               rotate_left
               ·simp only [Act.put, zA_, zB_, zC_, i64_w, i32_w]
                rfl
               refine one_ (i := 5) (N := some 129) #[Y,Y,Y,Y,Y,Y,Y,Z,Z,Z,Z,Z,Z,Z,Z,Z,Z,Z,Z,Z,Z,Z,Z,Z,Z,Z,Z,Z,Z,Z,Z,Z,Z,Z,Z,Z] rfl rfl (one_of HT_.out (by kernel_rfl)) (by decide) (fun K hK => ?_)
               refine goes_ Try.func18 (by kernel_rfl) rfl #[.agg #[.slice Ao29 t352.length co29, .slice Ao34 t355.length co34, .slice Ao35 t358.length co35, .int .i64 t361], .int .i64 1, .int .i64 x77_2] (by rfl) rfl rfl (by (try simp only [List.map_toArray, List.map_cons, List.map_nil]); (rfl)) ?_
               with_reducible refine (domain_Of.calls kj96 _ _ t352 _ _ t355 _ _ t358 t361 1 x77_2 t397 _ ?side1 ?side2 ?side3 ?side4 ?side5 ?side6 A119.out).mono ?_
               (case side1 => repeat ((exact (zl_ HO_364000.out).2.2)))
               (case side2 => exact (zl_ HO_364000.out).2.1)
               (case side3 => repeat ((exact (zl_ HO_364001.out).2.2)))
               (case side4 => exact (zl_ HO_364001.out).2.1)
               (case side5 => repeat ((exact (zl_ HO_364002.out).2.2)))
               (case side6 => exact (zl_ HO_364002.out).2.1)
               rintro e w130 ⟨rfl, hb⟩
               refine ⟨_, rfl, ?_⟩
               have n0_ := Aside0.mk (Kd.R_below HO_352000.out hb)
               have n1_ := Aside0.mk (Kd.R_below HO_352001.out hb)
               have n2_ := Aside0.mk (Kd.R_below HO_352002.out hb)
               have n3_ := Aside0.mk (Kd.R_below HO_364000.out hb)
               have n4_ := Aside0.mk (Kd.R_below HO_364001.out hb)
               have n5_ := Aside0.mk (Kd.R_below HO_364002.out hb)
               have n6_ := Aside0.mk (Kd.R_below HO_376000.out hb)
               have n7_ := Aside0.mk (Kd.R_below HO_376001.out hb)
               have n8_ := Aside0.mk (Kd.R_below HO_376002.out hb)
               have n9_ := Aside0.mk (Kd.R_below HO_388000.out hb)
               have n10_ := Aside0.mk (Kd.R_below HO_388001.out hb)
               have n11_ := Aside0.mk (Kd.R_below HO_388002.out hb)
               have n12_ := Aside0.mk (zq_ (g := gb336) (o := .cells #[.slice A0_0 l0_0.length c0_0, .slice A0_1 l0_1.length c0_1, .slice A0_2 l0_2.length c0_2, .int .i64 a0_3] 25 (0, 0)) BK336.out hb)
               have n13_ := Aside0.mk (zq_ (g := gb337) (o := .cells #[.int .i64 a1_0, .int .i64 a1_1] 44 (0, 0)) BK337.out hb)
               have n14_ := Aside0.mk (zq_ (g := gb351) (o := .cells #[.slice Ao19 t340.length co19, .slice Ao23 t343.length co23, .slice Ao24 t346.length co24, .int .i64 t349] 25 (0, 0)) BK351.out hb)
               have n15_ := Aside0.mk (zq_ (g := gb363) (o := .cells #[.slice Ao29 t352.length co29, .slice Ao34 t355.length co34, .slice Ao35 t358.length co35, .int .i64 t361] 25 (0, 0)) BK363.out hb)
               have n16_ := Aside0.mk (zq_ (g := gb375) (o := .cells #[.slice Ao40 t364.length co40, .slice Ao46 t367.length co46, .slice Ao47 t370.length co47, .int .i64 t373, .int .i64 t374] 48 (0, 0)) BK375.out hb)
               have n17_ := Aside0.mk (zq_ (g := gb387) (o := .cells #[.slice Ao52 t376.length co52, .slice Ao59 t379.length co59, .slice Ao60 t382.length co60, .int .i64 t385, .int .i64 t386] 48 (0, 0)) BK387.out hb)
               have n18_ := Aside0.mk (zv_ (by repeat (((with_reducible (exact HB.out))))) hb)
               clear HO_352000
               clear HO_352001
               clear HO_352002
               clear HO_364000
               clear HO_364001
               clear HO_364002
               clear HO_376000
               clear HO_376001
               clear HO_376002
               clear HO_388000
               clear HO_388001
               clear HO_388002
               clear BK336
               clear BK337
               clear BK351
               clear BK363
               clear BK375
               clear BK387
               clear HB
               have HO_352000 := n0_
               have HO_352001 := n1_
               have HO_352002 := n2_
               have HO_364000 := n3_
               have HO_364001 := n4_
               have HO_364002 := n5_
               have HO_376000 := n6_
               have HO_376001 := n7_
               have HO_376002 := n8_
               have HO_388000 := n9_
               have HO_388001 := n10_
               have HO_388002 := n11_
               have BK336 := n12_
               have BK337 := n13_
               have BK351 := n14_
               have BK363 := n15_
               have BK375 := n16_
               have BK387 := n17_
               have HB := n18_
               clear n0_ n1_ n2_ n3_ n4_ n5_ n6_ n7_ n8_ n9_ n10_ n11_ n12_ n13_ n14_ n15_ n16_ n17_ n18_
               (try clear hb)
               (try clear hb2)
               (try clear hk)
               (try clear hi)
               refine hK.out _ _ ⟨(blk_cell BK363.out 0).trans rfl, (blk_cell BK363.out 1).trans rfl, (blk_cell BK363.out 2).trans rfl, (blk_cell BK363.out 3).trans rfl, (blk_cell BK337.out 0).trans rfl, (blk_cell BK337.out 1).trans rfl⟩ (fun hHeld => ?_)
               clear hK K
               refine norm_ (a' := ?_) ?_ ?_
               rotate_left
               ·show Act.put _ (some 129) _ = _
                simp only [Act.put, zA_, zB_, zC_, i64_w, i32_w]
                rfl
               refine pure_ (i := 7) (N := some 131) (v := ?_) (a' := ?_) #[Y,Y,Y,Y,Y,Y,Y,Y,Z,Z,Z,Z,Z,Z,Z,Z,Z,Z,Z,Z,Z,Z,Z,Z,Z,Z,Z,Z,Z,Z,Z,Z,Z,Z,Z,Z] rfl rfl (any_of HT_.out (by kernel_rfl)) (fun _ _ _ h => h) (Or.inl ⟨by rfl, ?_⟩) ?_ ?_
               rotate_left
               ·intro w'
                go_simp
                with_reducible rfl
               rotate_left
               ·simp only [Act.put, zA_, zB_, zC_, i64_w, i32_w]
                rfl
               refine pure_ (i := 8) (N := some 132) (v := ?_) (a' := ?_) #[Y,Y,Y,Y,Y,Y,Y,Y,Y,Z,Z,Z,Z,Z,Z,Z,Z,Z,Z,Z,Z,Z,Z,Z,Z,Z,Z,Z,Z,Z,Z,Z,Z,Z,Z,Z] rfl rfl (any_of HT_.out (by kernel_rfl)) (fun _ _ _ h => h) (Or.inl ⟨by rfl, ?_⟩) ?_ ?_
               rotate_left
               ·intro w'
                go_simp
                with_reducible rfl
               rotate_left
               ·simp only [Act.put, zA_, zB_, zC_, i64_w, i32_w]
                rfl
               refine pure_ (i := 9) (N := some 133) (v := ?_) (a' := ?_) #[Y,Y,Y,Y,Y,Y,Y,Y,Y,Y,Z,Z,Z,Z,Z,Z,Z,Z,Z,Z,Z,Z,Z,Z,Z,Z,Z,Z,Z,Z,Z,Z,Z,Z,Z,Z] rfl rfl (any_of HT_.out (by kernel_rfl)) (fun _ _ _ h => h) (Or.inl ⟨by rfl, ?_⟩) ?_ ?_
               rotate_left
               ·intro w'
                go_simp
                with_reducible rfl
               rotate_left
               ·simp only [Act.put, zA_, zB_, zC_, i64_w, i32_w]
                rfl
               refine pure_ (i := 10) (N := some 134) (v := ?_) (a' := ?_) #[Y,Y,Y,Y,Y,Y,Y,Y,Y,Y,Y,Z,Z,Z,Z,Z,Z,Z,Z,Z,Z,Z,Z,Z,Z,Z,Z,Z,Z,Z,Z,Z,Z,Z,Z,Z] rfl rfl (any_of HT_.out (by kernel_rfl)) (fun _ _ _ h => h) (Or.inl ⟨by rfl, ?_⟩) ?_ ?_
               rotate_left
               ·intro w'
                go_simp
                with_reducible rfl
               rotate_left
               ·simp only [Act.put, zA_, zB_, zC_, i64_w, i32_w]
                rfl
               refine take_ (i := 11) (N := some 135) (v := ?_) (a' := ?_) #[Y,Y,Y,Y,Y,Y,Y,Y,Y,Y,Y,Y,Z,Z,Z,Z,Z,Z,Z,Z,Z,Z,Z,Z,Z,Z,Z,Z,Z,Z,Z,Z,Z,Z,Z,Z] rfl rfl (take_ofW HT_.out HW_.out (by kernel_rfl)) (fun _ _ _ h => h) (Or.inl ⟨by rfl, ?_⟩) hHeld ?_ ?_
               rotate_left
               ·rintro w' ⟨s0, s1, s2, s3, s4, s5⟩
                go_simp
                with_reducible rfl
               rotate_left
               ·simp only [Act.put, zA_, zB_, zC_, i64_w, i32_w]
                rfl
               refine pure_ (i := 12) (N := some 136) (v := ?_) (a' := ?_) #[Y,Y,Y,Y,Y,Y,Y,Y,Y,Y,Y,Y,Y,Z,Z,Z,Z,Z,Z,Z,Z,Z,Z,Z,Z,Z,Z,Z,Z,Z,Z,Z,Z,Z,Z,Z] rfl rfl (any_of HT_.out (by kernel_rfl)) (fun _ _ _ h => h) (Or.inl ⟨by rfl, ?_⟩) ?_ ?_
               rotate_left
               ·intro w'
                go_simp
                with_reducible rfl
               rotate_left
               ·simp only [Act.put, zA_, zB_, zC_, i64_w, i32_w]
                rfl
               refine pure_ (i := 13) (N := some 137) (v := ?_) (a' := ?_) #[Y,Y,Y,Y,Y,Y,Y,Y,Y,Y,Y,Y,Y,Y,Z,Z,Z,Z,Z,Z,Z,Z,Z,Z,Z,Z,Z,Z,Z,Z,Z,Z,Z,Z,Z,Z] rfl rfl (any_of HT_.out (by kernel_rfl)) (fun _ _ _ h => h) (Or.inl ⟨by rfl, ?_⟩) ?_ ?_
               rotate_left
               ·intro w'
                go_simp
                with_reducible rfl
               rotate_left
               ·simp only [Act.put, zA_, zB_, zC_, i64_w, i32_w]
                rfl
               refine pure_ (i := 15) (N := some 139) (v := ?_) (a' := ?_) #[Y,Y,Y,Y,Y,Y,Y,Y,Y,Y,Y,Y,Y,Y,Z,Y,Z,Z,Z,Z,Z,Z,Z,Z,Z,Z,Z,Z,Z,Z,Z,Z,Z,Z,Z,Z] rfl rfl (any_of HT_.out (by kernel_rfl)) (fun _ _ _ h => h) (Or.inl ⟨by rfl, ?_⟩) ?_ ?_
               rotate_left
               ·intro w'
                go_simp
                with_reducible rfl
               rotate_left
               ·simp only [Act.put, zA_, zB_, zC_, i64_w, i32_w]
                rfl
               refine pure_ (i := 17) (N := some 141) (v := ?_) (a' := ?_) #[Y,Y,Y,Y,Y,Y,Y,Y,Y,Y,Y,Y,Y,Y,Z,Y,Z,Y,Z,Z,Z,Z,Z,Z,Z,Z,Z,Z,Z,Z,Z,Z,Z,Z,Z,Z] rfl rfl (any_of HT_.out (by kernel_rfl)) (fun _ _ _ h => h) (Or.inl ⟨by rfl, ?_⟩) ?_ ?_
               rotate_left
               ·intro w'
                go_simp
                with_reducible rfl
               rotate_left
               ·simp only [Act.put, zA_, zB_, zC_, i64_w, i32_w]
                rfl
               refine take_ (i := 14) (N := some 138) (v := ?_) (a' := ?_) #[Y,Y,Y,Y,Y,Y,Y,Y,Y,Y,Y,Y,Y,Y,Y,Y,Z,Y,Z,Z,Z,Z,Z,Z,Z,Z,Z,Z,Z,Z,Z,Z,Z,Z,Z,Z] rfl rfl (take_ofW HT_.out HW_.out (by kernel_rfl)) (fun _ _ _ h => h) (Or.inl ⟨by rfl, ?_⟩) hHeld ?_ ?_
               rotate_left
               ·rintro w' ⟨s0, s1, s2, s3, s4, s5⟩
                go_simp
                with_reducible rfl
               rotate_left
               ·simp only [Act.put, zA_, zB_, zC_, i64_w, i32_w]
                rfl
               refine one_ (i := 16) (N := some 140) #[Y,Y,Y,Y,Y,Y,Y,Y,Y,Y,Y,Y,Y,Y,Y,Y,Y,Y,Z,Z,Z,Z,Z,Z,Z,Z,Z,Z,Z,Z,Z,Z,Z,Z,Z,Z] rfl rfl (one_of HT_.out (by kernel_rfl)) (by decide) (fun K hK => ?_)
               refine goes_ Try.func18 (by kernel_rfl) rfl #[.agg #[.slice Ao29 t352.length co29, .slice Ao34 t355.length co34, .slice Ao35 t358.length co35, .int .i64 t361], .int .i64 2, .int .i64 x77_2] (by rfl) rfl rfl (by (try simp only [List.map_toArray, List.map_cons, List.map_nil]); (rfl)) ?_
               with_reducible refine (domain_Of.calls kj96 _ _ t352 _ _ t355 _ _ t358 t361 2 x77_2 t399 _ ?side1 ?side2 ?side3 ?side4 ?side5 ?side6 A127.out).mono ?_
               (case side1 => repeat ((exact (zl_ HO_364000.out).2.2)))
               (case side2 => exact (zl_ HO_364000.out).2.1)
               (case side3 => repeat ((exact (zl_ HO_364001.out).2.2)))
               (case side4 => exact (zl_ HO_364001.out).2.1)
               (case side5 => repeat ((exact (zl_ HO_364002.out).2.2)))
               (case side6 => exact (zl_ HO_364002.out).2.1)
               rintro e w131 ⟨rfl, hb⟩
               refine ⟨_, rfl, ?_⟩
               have n0_ := Aside0.mk (Kd.R_below HO_352000.out hb)
               have n1_ := Aside0.mk (Kd.R_below HO_352001.out hb)
               have n2_ := Aside0.mk (Kd.R_below HO_352002.out hb)
               have n3_ := Aside0.mk (Kd.R_below HO_364000.out hb)
               have n4_ := Aside0.mk (Kd.R_below HO_364001.out hb)
               have n5_ := Aside0.mk (Kd.R_below HO_364002.out hb)
               have n6_ := Aside0.mk (Kd.R_below HO_376000.out hb)
               have n7_ := Aside0.mk (Kd.R_below HO_376001.out hb)
               have n8_ := Aside0.mk (Kd.R_below HO_376002.out hb)
               have n9_ := Aside0.mk (Kd.R_below HO_388000.out hb)
               have n10_ := Aside0.mk (Kd.R_below HO_388001.out hb)
               have n11_ := Aside0.mk (Kd.R_below HO_388002.out hb)
               have n12_ := Aside0.mk (zq_ (g := gb336) (o := .cells #[.slice A0_0 l0_0.length c0_0, .slice A0_1 l0_1.length c0_1, .slice A0_2 l0_2.length c0_2, .int .i64 a0_3] 25 (0, 0)) BK336.out hb)
               have n13_ := Aside0.mk (zq_ (g := gb337) (o := .cells #[.int .i64 a1_0, .int .i64 a1_1] 44 (0, 0)) BK337.out hb)
               have n14_ := Aside0.mk (zq_ (g := gb351) (o := .cells #[.slice Ao19 t340.length co19, .slice Ao23 t343.length co23, .slice Ao24 t346.length co24, .int .i64 t349] 25 (0, 0)) BK351.out hb)
               have n15_ := Aside0.mk (zq_ (g := gb363) (o := .cells #[.slice Ao29 t352.length co29, .slice Ao34 t355.length co34, .slice Ao35 t358.length co35, .int .i64 t361] 25 (0, 0)) BK363.out hb)
               have n16_ := Aside0.mk (zq_ (g := gb375) (o := .cells #[.slice Ao40 t364.length co40, .slice Ao46 t367.length co46, .slice Ao47 t370.length co47, .int .i64 t373, .int .i64 t374] 48 (0, 0)) BK375.out hb)
               have n17_ := Aside0.mk (zq_ (g := gb387) (o := .cells #[.slice Ao52 t376.length co52, .slice Ao59 t379.length co59, .slice Ao60 t382.length co60, .int .i64 t385, .int .i64 t386] 48 (0, 0)) BK387.out hb)
               have n18_ := Aside0.mk (zv_ (by repeat (((with_reducible (exact HB.out))))) hb)
               clear HO_352000
               clear HO_352001
               clear HO_352002
               clear HO_364000
               clear HO_364001
               clear HO_364002
               clear HO_376000
               clear HO_376001
               clear HO_376002
               clear HO_388000
               clear HO_388001
               clear HO_388002
               clear BK336
               clear BK337
               clear BK351
               clear BK363
               clear BK375
               clear BK387
               clear HB
               have HO_352000 := n0_
               have HO_352001 := n1_
               have HO_352002 := n2_
               have HO_364000 := n3_
               have HO_364001 := n4_
               have HO_364002 := n5_
               have HO_376000 := n6_
               have HO_376001 := n7_
               have HO_376002 := n8_
               have HO_388000 := n9_
               have HO_388001 := n10_
               have HO_388002 := n11_
               have BK336 := n12_
               have BK337 := n13_
               have BK351 := n14_
               have BK363 := n15_
               have BK375 := n16_
               have BK387 := n17_
               have HB := n18_
               clear n0_ n1_ n2_ n3_ n4_ n5_ n6_ n7_ n8_ n9_ n10_ n11_ n12_ n13_ n14_ n15_ n16_ n17_ n18_
               (try clear hb)
               (try clear hb2)
               (try clear hk)
               (try clear hi)
               refine hK.out _ _ ⟨(blk_cell BK363.out 0).trans rfl, (blk_cell BK363.out 1).trans rfl, (blk_cell BK363.out 2).trans rfl, (blk_cell BK363.out 3).trans rfl, (blk_cell BK337.out 0).trans rfl, (blk_cell BK337.out 1).trans rfl⟩ (fun hHeld => ?_)
               clear hK K
               refine norm_ (a' := ?_) ?_ ?_
               rotate_left
               ·show Act.put _ (some 140) _ = _
                simp only [Act.put, zA_, zB_, zC_, i64_w, i32_w]
                rfl
               refine pure_ (i := 18) (N := some 142) (v := ?_) (a' := ?_) #[Y,Y,Y,Y,Y,Y,Y,Y,Y,Y,Y,Y,Y,Y,Y,Y,Y,Y,Y,Z,Z,Z,Z,Z,Z,Z,Z,Z,Z,Z,Z,Z,Z,Z,Z,Z] rfl rfl (any_of HT_.out (by kernel_rfl)) (fun _ _ _ h => h) (Or.inl ⟨by rfl, ?_⟩) ?_ ?_
               rotate_left
               ·intro w'
                go_simp
                with_reducible rfl
               rotate_left
               ·simp only [Act.put, zA_, zB_, zC_, i64_w, i32_w]
                rfl
               refine pure_ (i := 19) (N := some 143) (v := ?_) (a' := ?_) #[Y,Y,Y,Y,Y,Y,Y,Y,Y,Y,Y,Y,Y,Y,Y,Y,Y,Y,Y,Y,Z,Z,Z,Z,Z,Z,Z,Z,Z,Z,Z,Z,Z,Z,Z,Z] rfl rfl (any_of HT_.out (by kernel_rfl)) (fun _ _ _ h => h) (Or.inl ⟨by rfl, ?_⟩) ?_ ?_
               rotate_left
               ·intro w'
                go_simp
                with_reducible rfl
               rotate_left
               ·simp only [Act.put, zA_, zB_, zC_, i64_w, i32_w]
                rfl
               refine pure_ (i := 20) (N := some 144) (v := ?_) (a' := ?_) #[Y,Y,Y,Y,Y,Y,Y,Y,Y,Y,Y,Y,Y,Y,Y,Y,Y,Y,Y,Y,Y,Z,Z,Z,Z,Z,Z,Z,Z,Z,Z,Z,Z,Z,Z,Z] rfl rfl (any_of HT_.out (by kernel_rfl)) (fun _ _ _ h => h) (Or.inl ⟨by rfl, ?_⟩) ?_ ?_
               rotate_left
               ·intro w'
                go_simp
                with_reducible rfl
               rotate_left
               ·simp only [Act.put, zA_, zB_, zC_, i64_w, i32_w]
                rfl
               refine pure_ (i := 21) (N := some 145) (v := ?_) (a' := ?_) #[Y,Y,Y,Y,Y,Y,Y,Y,Y,Y,Y,Y,Y,Y,Y,Y,Y,Y,Y,Y,Y,Y,Z,Z,Z,Z,Z,Z,Z,Z,Z,Z,Z,Z,Z,Z] rfl rfl (any_of HT_.out (by kernel_rfl)) (fun _ _ _ h => h) (Or.inl ⟨by rfl, ?_⟩) ?_ ?_
               rotate_left
               ·intro w'
                go_simp
                with_reducible rfl
               rotate_left
               ·simp only [Act.put, zA_, zB_, zC_, i64_w, i32_w]
                rfl
               refine pure_ (i := 22) (N := some 146) (v := ?_) (a' := ?_) #[Y,Y,Y,Y,Y,Y,Y,Y,Y,Y,Y,Y,Y,Y,Y,Y,Y,Y,Y,Y,Y,Y,Y,Z,Z,Z,Z,Z,Z,Z,Z,Z,Z,Z,Z,Z] rfl rfl (any_of HT_.out (by kernel_rfl)) (fun _ _ _ h => h) (Or.inl ⟨by rfl, ?_⟩) ?_ ?_
               rotate_left
               ·intro w'
                go_simp
                with_reducible rfl
               rotate_left
               ·simp only [Act.put, zA_, zB_, zC_, i64_w, i32_w]
                rfl
               refine pure_ (i := 23) (N := some 147) (v := ?_) (a' := ?_) #[Y,Y,Y,Y,Y,Y,Y,Y,Y,Y,Y,Y,Y,Y,Y,Y,Y,Y,Y,Y,Y,Y,Y,Y,Z,Z,Z,Z,Z,Z,Z,Z,Z,Z,Z,Z] rfl rfl (any_of HT_.out (by kernel_rfl)) (fun _ _ _ h => h) (Or.inl ⟨by rfl, ?_⟩) ?_ ?_
               rotate_left
               ·intro w'
                go_simp
                with_reducible rfl
               rotate_left
               ·simp only [Act.put, zA_, zB_, zC_, i64_w, i32_w]
                rfl
               refine take_ (i := 24) (N := some 148) (v := ?_) (a' := ?_) #[Y,Y,Y,Y,Y,Y,Y,Y,Y,Y,Y,Y,Y,Y,Y,Y,Y,Y,Y,Y,Y,Y,Y,Y,Y,Z,Z,Z,Z,Z,Z,Z,Z,Z,Z,Z] rfl rfl (take_ofW HT_.out HW_.out (by kernel_rfl)) (fun _ _ _ h => h) (Or.inl ⟨by rfl, ?_⟩) hHeld ?_ ?_
               rotate_left
               ·rintro w' ⟨s0, s1, s2, s3, s4, s5⟩
                go_simp
                with_reducible rfl
               rotate_left
               ·simp only [Act.put, zA_, zB_, zC_, i64_w, i32_w]
                rfl
               refine pure_ (i := 25) (N := some 149) (v := ?_) (a' := ?_) #[Y,Y,Y,Y,Y,Y,Y,Y,Y,Y,Y,Y,Y,Y,Y,Y,Y,Y,Y,Y,Y,Y,Y,Y,Y,Y,Z,Z,Z,Z,Z,Z,Z,Z,Z,Z] rfl rfl (any_of HT_.out (by kernel_rfl)) (fun _ _ _ h => h) (Or.inl ⟨by rfl, ?_⟩) ?_ ?_
               rotate_left
               ·intro w'
                go_simp
                with_reducible rfl
               rotate_left
               ·simp only [Act.put, zA_, zB_, zC_, i64_w, i32_w]
                rfl
               refine pure_ (i := 26) (N := some 150) (v := ?_) (a' := ?_) #[Y,Y,Y,Y,Y,Y,Y,Y,Y,Y,Y,Y,Y,Y,Y,Y,Y,Y,Y,Y,Y,Y,Y,Y,Y,Y,Y,Z,Z,Z,Z,Z,Z,Z,Z,Z] rfl rfl (any_of HT_.out (by kernel_rfl)) (fun _ _ _ h => h) (Or.inl ⟨by rfl, ?_⟩) ?_ ?_
               rotate_left
               ·intro w'
                go_simp
                with_reducible rfl
               rotate_left
               ·simp only [Act.put, zA_, zB_, zC_, i64_w, i32_w]
                rfl
               refine pure_ (i := 27) (N := some 151) (v := undef) (a' := ?_) #[Y,Y,Y,Y,Y,Y,Y,Y,Y,Y,Y,Y,Y,Y,Y,Y,Y,Y,Y,Y,Y,Y,Y,Y,Y,Y,Y,Y,Z,Z,Z,Z,Z,Z,Z,Z] rfl rfl (any_of HT_.out (by kernel_rfl)) (fun _ _ _ h => h) (Or.inr ⟨by rfl, rfl⟩) ?_ ?_
               rotate_left
               ·simp only [Act.put, zA_, zB_, zC_, i64_w, i32_w]
                rfl
               refine pure_ (i := 28) (N := some 152) (v := undef) (a' := ?_) #[Y,Y,Y,Y,Y,Y,Y,Y,Y,Y,Y,Y,Y,Y,Y,Y,Y,Y,Y,Y,Y,Y,Y,Y,Y,Y,Y,Y,Y,Z,Z,Z,Z,Z,Z,Z] rfl rfl (any_of HT_.out (by kernel_rfl)) (fun _ _ _ h => h) (Or.inr ⟨by rfl, rfl⟩) ?_ ?_
               rotate_left
               ·simp only [Act.put, zA_, zB_, zC_, i64_w, i32_w]
                rfl
               refine pure_ (i := 29) (N := some 153) (v := undef) (a' := ?_) #[Y,Y,Y,Y,Y,Y,Y,Y,Y,Y,Y,Y,Y,Y,Y,Y,Y,Y,Y,Y,Y,Y,Y,Y,Y,Y,Y,Y,Y,Y,Z,Z,Z,Z,Z,Z] rfl rfl (any_of HT_.out (by kernel_rfl)) (fun _ _ _ h => h) (Or.inr ⟨by rfl, rfl⟩) ?_ ?_
               rotate_left
               ·simp only [Act.put, zA_, zB_, zC_, i64_w, i32_w]
                rfl
               refine pure_ (i := 30) (N := some 154) (v := undef) (a' := ?_) #[Y,Y,Y,Y,Y,Y,Y,Y,Y,Y,Y,Y,Y,Y,Y,Y,Y,Y,Y,Y,Y,Y,Y,Y,Y,Y,Y,Y,Y,Y,Y,Z,Z,Z,Z,Z] rfl rfl (any_of HT_.out (by kernel_rfl)) (fun _ _ _ h => h) (Or.inr ⟨by rfl, rfl⟩) ?_ ?_
               rotate_left
               ·simp only [Act.put, zA_, zB_, zC_, i64_w, i32_w]
                rfl
               refine pure_ (i := 31) (N := some 155) (v := undef) (a' := ?_) #[Y,Y,Y,Y,Y,Y,Y,Y,Y,Y,Y,Y,Y,Y,Y,Y,Y,Y,Y,Y,Y,Y,Y,Y,Y,Y,Y,Y,Y,Y,Y,Y,Z,Z,Z,Z] rfl rfl (any_of HT_.out (by kernel_rfl)) (fun _ _ _ h => h) (Or.inr ⟨by rfl, rfl⟩) ?_ ?_
               rotate_left
               ·simp only [Act.put, zA_, zB_, zC_, i64_w, i32_w]
                rfl
               refine pure_ (i := 32) (N := some 156) (v := undef) (a' := ?_) #[Y,Y,Y,Y,Y,Y,Y,Y,Y,Y,Y,Y,Y,Y,Y,Y,Y,Y,Y,Y,Y,Y,Y,Y,Y,Y,Y,Y,Y,Y,Y,Y,Y,Z,Z,Z] rfl rfl (any_of HT_.out (by kernel_rfl)) (fun _ _ _ h => h) (Or.inr ⟨by rfl, rfl⟩) ?_ ?_
               rotate_left
               ·simp only [Act.put, zA_, zB_, zC_, i64_w, i32_w]
                rfl
               refine pure_ (i := 33) (N := some 157) (v := ?_) (a' := ?_) #[Y,Y,Y,Y,Y,Y,Y,Y,Y,Y,Y,Y,Y,Y,Y,Y,Y,Y,Y,Y,Y,Y,Y,Y,Y,Y,Y,Y,Y,Y,Y,Y,Y,Y,Z,Z] rfl rfl (any_of HT_.out (by kernel_rfl)) (fun _ _ _ h => h) (Or.inl ⟨by rfl, ?_⟩) ?_ ?_
               rotate_left
               ·intro w'
                go_simp
                with_reducible rfl
               rotate_left
               ·simp only [Act.put, zA_, zB_, zC_, i64_w, i32_w]
                rfl
               refine pure_ (i := 34) (N := some 158) (v := ?_) (a' := ?_) #[Y,Y,Y,Y,Y,Y,Y,Y,Y,Y,Y,Y,Y,Y,Y,Y,Y,Y,Y,Y,Y,Y,Y,Y,Y,Y,Y,Y,Y,Y,Y,Y,Y,Y,Y,Z] rfl rfl (any_of HT_.out (by kernel_rfl)) (fun _ _ _ h => h) (Or.inl ⟨by rfl, ?_⟩) ?_ ?_
               rotate_left
               ·intro w'
                go_simp
                with_reducible rfl
               rotate_left
               ·simp only [Act.put, zA_, zB_, zC_, i64_w, i32_w]
                rfl
               refine pure_ (i := 35) (N := some 159) (v := ?_) (a' := ?_) #[Y,Y,Y,Y,Y,Y,Y,Y,Y,Y,Y,Y,Y,Y,Y,Y,Y,Y,Y,Y,Y,Y,Y,Y,Y,Y,Y,Y,Y,Y,Y,Y,Y,Y,Y,Y] rfl rfl (any_of HT_.out (by kernel_rfl)) (fun _ _ _ h => h) (Or.inl ⟨by rfl, ?_⟩) ?_ ?_
               rotate_left
               ·intro w'
                go_simp
                with_reducible rfl
               rotate_left
               ·simp only [Act.put, zA_, zB_, zC_, i64_w, i32_w]
                rfl
               refine done_ (done_of HT_.out (by kernel_rfl)) ?_
               try go_wp2
               go_roundg kj96
               case measure => have := HJ8.out; have := HK2.out; have := HJ96.out; omega
               case rel => exact ⟨(wrap64 (x77_2 + 1)), (by (rfl)), H', ⟨by have := HJ8.out; have := HK2.out; have := HJ96.out; omega⟩, ⟨by exact HO_352000.out⟩, ⟨by exact HO_352001.out⟩, ⟨by exact HO_352002.out⟩, ⟨by exact HO_364000.out⟩, ⟨by exact HO_364001.out⟩, ⟨by exact HO_364002.out⟩, ⟨by exact HO_376000.out⟩, ⟨by exact HO_376001.out⟩, ⟨by exact HO_376002.out⟩, ⟨by exact HO_388000.out⟩, ⟨by exact HO_388001.out⟩, ⟨by exact HO_388002.out⟩, ⟨by exact BK336.out⟩, ⟨by exact BK337.out⟩, ⟨by exact BK351.out⟩, ⟨by exact BK363.out⟩, ⟨by exact BK375.out⟩, ⟨by exact BK387.out⟩, ⟨by repeat (((with_reducible (exact HB.out))))⟩⟩
              ·rw [if_neg c128] at H
               exact absurd H (by simp)
            ·rw [if_neg c120] at H
             exact absurd H (by simp)
           ·rw [if_neg c118] at H
            have c118b0 : (t362 == 0) = false := beq_eq_false_iff_ne.mpr c118
            have c118b1 : (t362 != 0) = true := bne_iff_ne.mpr c118
            have H' := Aside0.mk H
            clear H
            try go_wp2
            have n0_ := Aside0.mk (zc_ HO_352000.out)
            have n1_ := Aside0.mk (zc_ HO_352001.out)
            have n2_ := Aside0.mk (zc_ HO_352002.out)
            have n3_ := Aside0.mk (zc_ HO_364000.out)
            have n4_ := Aside0.mk (zc_ HO_364001.out)
            have n5_ := Aside0.mk (zc_ HO_364002.out)
            have n6_ := Aside0.mk (zc_ HO_376000.out)
            have n7_ := Aside0.mk (zc_ HO_376001.out)
            have n8_ := Aside0.mk (zc_ HO_376002.out)
            have n9_ := Aside0.mk (zc_ HO_388000.out)
            have n10_ := Aside0.mk (zc_ HO_388001.out)
            have n11_ := Aside0.mk (zc_ HO_388002.out)
            have n12_ := Aside0.mk (zn_ BK336.out)
            have n13_ := Aside0.mk (zn_ BK337.out)
            have n14_ := Aside0.mk (zn_ BK351.out)
            have n15_ := Aside0.mk (zn_ BK363.out)
            have n16_ := Aside0.mk (zn_ BK375.out)
            have n17_ := Aside0.mk (zn_ BK387.out)
            have n18_ := Aside0.mk (zu_ HB.out)
            clear HO_352000
            clear HO_352001
            clear HO_352002
            clear HO_364000
            clear HO_364001
            clear HO_364002
            clear HO_376000
            clear HO_376001
            clear HO_376002
            clear HO_388000
            clear HO_388001
            clear HO_388002
            clear BK336
            clear BK337
            clear BK351
            clear BK363
            clear BK375
            clear BK387
            clear HB
            have HO_352000 := n0_
            have HO_352001 := n1_
            have HO_352002 := n2_
            have HO_364000 := n3_
            have HO_364001 := n4_
            have HO_364002 := n5_
            have HO_376000 := n6_
            have HO_376001 := n7_
            have HO_376002 := n8_
            have HO_388000 := n9_
            have HO_388001 := n10_
            have HO_388002 := n11_
            have BK336 := n12_
            have BK337 := n13_
            have BK351 := n14_
            have BK363 := n15_
            have BK375 := n16_
            have BK387 := n17_
            have HB := n18_
            clear n0_ n1_ n2_ n3_ n4_ n5_ n6_ n7_ n8_ n9_ n10_ n11_ n12_ n13_ n14_ n15_ n16_ n17_ n18_
            refine start_ (n := 36) (S := fun w' => True) (ds := []) #[Z,Z,Z,Z,Z,Z,Z,Z,Z,Z,Z,Z,Z,Z,Z,Z,Z,Z,Z,Z,Z,Z,Z,Z,Z,Z,Z,Z,Z,Z,Z,Z,Z,Z,Z,Z] (by kernel_rfl) rfl rfl trivial (fun hHeld => ?_); refine with_tabW quietuslaw10_DomainsChange.tab16 quietuslaw10_DomainsChange.bits16 (fun HT_ HW_ => ?_)
            generalize wc.drew = w132 at HO_352000 HO_352001 HO_352002 HO_364000 HO_364001 HO_364002 HO_376000 HO_376001 HO_376002 HO_388000 HO_388001 HO_388002 BK336 BK337 BK351 BK363 BK375 BK387 HB hHeld ⊢
            refine pure_ (i := 0) (N := some 124) (v := ?_) (a' := ?_) #[Y,Z,Z,Z,Z,Z,Z,Z,Z,Z,Z,Z,Z,Z,Z,Z,Z,Z,Z,Z,Z,Z,Z,Z,Z,Z,Z,Z,Z,Z,Z,Z,Z,Z,Z,Z] rfl rfl (any_of HT_.out (by kernel_rfl)) (fun _ _ _ h => h) (Or.inl ⟨by rfl, ?_⟩) ?_ ?_
            rotate_left
            ·intro w'
             go_simp
             with_reducible rfl
            rotate_left
            ·simp only [Act.put, zA_, zB_, zC_, i64_w, i32_w]
             rfl
            refine pure_ (i := 1) (N := some 125) (v := ?_) (a' := ?_) #[Y,Y,Z,Z,Z,Z,Z,Z,Z,Z,Z,Z,Z,Z,Z,Z,Z,Z,Z,Z,Z,Z,Z,Z,Z,Z,Z,Z,Z,Z,Z,Z,Z,Z,Z,Z] rfl rfl (any_of HT_.out (by kernel_rfl)) (fun _ _ _ h => h) (Or.inl ⟨by rfl, ?_⟩) ?_ ?_
            rotate_left
            ·intro w'
             go_simp
             with_reducible rfl
            rotate_left
            ·simp only [Act.put, zA_, zB_, zC_, i64_w, i32_w]
             rfl
            refine pure_ (i := 2) (N := some 126) (v := ?_) (a' := ?_) #[Y,Y,Y,Z,Z,Z,Z,Z,Z,Z,Z,Z,Z,Z,Z,Z,Z,Z,Z,Z,Z,Z,Z,Z,Z,Z,Z,Z,Z,Z,Z,Z,Z,Z,Z,Z] rfl rfl (any_of HT_.out (by kernel_rfl)) (fun _ _ _ h => h) (Or.inl ⟨by rfl, ?_⟩) ?_ ?_
            rotate_left
            ·intro w'
             go_simp
             with_reducible rfl
            rotate_left
            ·simp only [Act.put, zA_, zB_, zC_, i64_w, i32_w]
             rfl
            refine pure_ (i := 3) (N := some 127) (v := undef) (a' := ?_) #[Y,Y,Y,Y,Z,Z,Z,Z,Z,Z,Z,Z,Z,Z,Z,Z,Z,Z,Z,Z,Z,Z,Z,Z,Z,Z,Z,Z,Z,Z,Z,Z,Z,Z,Z,Z] rfl rfl (any_of HT_.out (by kernel_rfl)) (fun _ _ _ h => h) (Or.inr ⟨by rfl, rfl⟩) ?_ ?_
            rotate_left
            ·simp only [Act.put, zA_, zB_, zC_, i64_w, i32_w]
             rfl
            refine pure_ (i := 4) (N := some 128) (v := undef) (a' := ?_) #[Y,Y,Y,Y,Y,Z,Z,Z,Z,Z,Z,Z,Z,Z,Z,Z,Z,Z,Z,Z,Z,Z,Z,Z,Z,Z,Z,Z,Z,Z,Z,Z,Z,Z,Z,Z] rfl rfl (any_of HT_.out (by kernel_rfl)) (fun _ _ _ h => h) (Or.inr ⟨by rfl, rfl⟩) ?_ ?_
            rotate_left
            ·simp only [Act.put, zA_, zB_, zC_, i64_w, i32_w]
             rfl
            refine pure_ (i := 5) (N := some 129) (v := undef) (a' := ?_) #[Y,Y,Y,Y,Y,Y,Z,Z,Z,Z,Z,Z,Z,Z,Z,Z,Z,Z,Z,Z,Z,Z,Z,Z,Z,Z,Z,Z,Z,Z,Z,Z,Z,Z,Z,Z] rfl rfl (any_of HT_.out (by kernel_rfl)) (fun _ _ _ h => h) (Or.inr ⟨by rfl, rfl⟩) ?_ ?_
            rotate_left
            ·simp only [Act.put, zA_, zB_, zC_, i64_w, i32_w]
             rfl
            refine pure_ (i := 6) (N := some 130) (v := undef) (a' := ?_) #[Y,Y,Y,Y,Y,Y,Y,Z,Z,Z,Z,Z,Z,Z,Z,Z,Z,Z,Z,Z,Z,Z,Z,Z,Z,Z,Z,Z,Z,Z,Z,Z,Z,Z,Z,Z] rfl rfl (any_of HT_.out (by kernel_rfl)) (fun _ _ _ h => h) (Or.inr ⟨by rfl, rfl⟩) ?_ ?_
            rotate_left
            ·simp only [Act.put, zA_, zB_, zC_, i64_w, i32_w]
             rfl
            refine pure_ (i := 7) (N := some 131) (v := undef) (a' := ?_) #[Y,Y,Y,Y,Y,Y,Y,Y,Z,Z,Z,Z,Z,Z,Z,Z,Z,Z,Z,Z,Z,Z,Z,Z,Z,Z,Z,Z,Z,Z,Z,Z,Z,Z,Z,Z] rfl rfl (any_of HT_.out (by kernel_rfl)) (fun _ _ _ h => h) (Or.inr ⟨by rfl, rfl⟩) ?_ ?_
            rotate_left
            ·simp only [Act.put, zA_, zB_, zC_, i64_w, i32_w]
             rfl
            refine pure_ (i := 8) (N := some 132) (v := undef) (a' := ?_) #[Y,Y,Y,Y,Y,Y,Y,Y,Y,Z,Z,Z,Z,Z,Z,Z,Z,Z,Z,Z,Z,Z,Z,Z,Z,Z,Z,Z,Z,Z,Z,Z,Z,Z,Z,Z] rfl rfl (any_of HT_.out (by kernel_rfl)) (fun _ _ _ h => h) (Or.inr ⟨by rfl, rfl⟩) ?_ ?_
            rotate_left
            ·simp only [Act.put, zA_, zB_, zC_, i64_w, i32_w]
             rfl
            refine pure_ (i := 9) (N := some 133) (v := undef) (a' := ?_) #[Y,Y,Y,Y,Y,Y,Y,Y,Y,Y,Z,Z,Z,Z,Z,Z,Z,Z,Z,Z,Z,Z,Z,Z,Z,Z,Z,Z,Z,Z,Z,Z,Z,Z,Z,Z] rfl rfl (any_of HT_.out (by kernel_rfl)) (fun _ _ _ h => h) (Or.inr ⟨by rfl, rfl⟩) ?_ ?_
            rotate_left
            ·simp only [Act.put, zA_, zB_, zC_, i64_w, i32_w]
             rfl
            refine pure_ (i := 10) (N := some 134) (v := undef) (a' := ?_) #[Y,Y,Y,Y,Y,Y,Y,Y,Y,Y,Y,Z,Z,Z,Z,Z,Z,Z,Z,Z,Z,Z,Z,Z,Z,Z,Z,Z,Z,Z,Z,Z,Z,Z,Z,Z] rfl rfl (any_of HT_.out (by kernel_rfl)) (fun _ _ _ h => h) (Or.inr ⟨by rfl, rfl⟩) ?_ ?_
            rotate_left
            ·simp only [Act.put, zA_, zB_, zC_, i64_w, i32_w]
             rfl
            refine pure_ (i := 11) (N := some 135) (v := undef) (a' := ?_) #[Y,Y,Y,Y,Y,Y,Y,Y,Y,Y,Y,Y,Z,Z,Z,Z,Z,Z,Z,Z,Z,Z,Z,Z,Z,Z,Z,Z,Z,Z,Z,Z,Z,Z,Z,Z] rfl rfl (any_of HT_.out (by kernel_rfl)) (fun _ _ _ h => h) (Or.inr ⟨by rfl, rfl⟩) ?_ ?_
            rotate_left
            ·simp only [Act.put, zA_, zB_, zC_, i64_w, i32_w]
             rfl
            refine pure_ (i := 12) (N := some 136) (v := undef) (a' := ?_) #[Y,Y,Y,Y,Y,Y,Y,Y,Y,Y,Y,Y,Y,Z,Z,Z,Z,Z,Z,Z,Z,Z,Z,Z,Z,Z,Z,Z,Z,Z,Z,Z,Z,Z,Z,Z] rfl rfl (any_of HT_.out (by kernel_rfl)) (fun _ _ _ h => h) (Or.inr ⟨by rfl, rfl⟩) ?_ ?_
            rotate_left
            ·simp only [Act.put, zA_, zB_, zC_, i64_w, i32_w]
             rfl
            refine pure_ (i := 13) (N := some 137) (v := undef) (a' := ?_) #[Y,Y,Y,Y,Y,Y,Y,Y,Y,Y,Y,Y,Y,Y,Z,Z,Z,Z,Z,Z,Z,Z,Z,Z,Z,Z,Z,Z,Z,Z,Z,Z,Z,Z,Z,Z] rfl rfl (any_of HT_.out (by kernel_rfl)) (fun _ _ _ h => h) (Or.inr ⟨by rfl, rfl⟩) ?_ ?_
            rotate_left
            ·simp only [Act.put, zA_, zB_, zC_, i64_w, i32_w]
             rfl
            refine pure_ (i := 14) (N := some 138) (v := undef) (a' := ?_) #[Y,Y,Y,Y,Y,Y,Y,Y,Y,Y,Y,Y,Y,Y,Y,Z,Z,Z,Z,Z,Z,Z,Z,Z,Z,Z,Z,Z,Z,Z,Z,Z,Z,Z,Z,Z] rfl rfl (any_of HT_.out (by kernel_rfl)) (fun _ _ _ h => h) (Or.inr ⟨by rfl, rfl⟩) ?_ ?_
            rotate_left
            ·simp only [Act.put, zA_, zB_, zC_, i64_w, i32_w]
             rfl
            refine pure_ (i := 15) (N := some 139) (v := undef) (a' := ?_) #[Y,Y,Y,Y,Y,Y,Y,Y,Y,Y,Y,Y,Y,Y,Y,Y,Z,Z,Z,Z,Z,Z,Z,Z,Z,Z,Z,Z,Z,Z,Z,Z,Z,Z,Z,Z] rfl rfl (any_of HT_.out (by kernel_rfl)) (fun _ _ _ h => h) (Or.inr ⟨by rfl, rfl⟩) ?_ ?_
            rotate_left
            ·simp only [Act.put, zA_, zB_, zC_, i64_w, i32_w]
             rfl
            refine pure_ (i := 16) (N := some 140) (v := undef) (a' := ?_) #[Y,Y,Y,Y,Y,Y,Y,Y,Y,Y,Y,Y,Y,Y,Y,Y,Y,Z,Z,Z,Z,Z,Z,Z,Z,Z,Z,Z,Z,Z,Z,Z,Z,Z,Z,Z] rfl rfl (any_of HT_.out (by kernel_rfl)) (fun _ _ _ h => h) (Or.inr ⟨by rfl, rfl⟩) ?_ ?_
            rotate_left
            ·simp only [Act.put, zA_, zB_, zC_, i64_w, i32_w]
             rfl
            refine pure_ (i := 17) (N := some 141) (v := undef) (a' := ?_) #[Y,Y,Y,Y,Y,Y,Y,Y,Y,Y,Y,Y,Y,Y,Y,Y,Y,Y,Z,Z,Z,Z,Z,Z,Z,Z,Z,Z,Z,Z,Z,Z,Z,Z,Z,Z] rfl rfl (any_of HT_.out (by kernel_rfl)) (fun _ _ _ h => h) (Or.inr ⟨by rfl, rfl⟩) ?_ ?_
            rotate_left
            ·simp only [Act.put, zA_, zB_, zC_, i64_w, i32_w]
             rfl
            refine pure_ (i := 18) (N := some 142) (v := undef) (a' := ?_) #[Y,Y,Y,Y,Y,Y,Y,Y,Y,Y,Y,Y,Y,Y,Y,Y,Y,Y,Y,Z,Z,Z,Z,Z,Z,Z,Z,Z,Z,Z,Z,Z,Z,Z,Z,Z] rfl rfl (any_of HT_.out (by kernel_rfl)) (fun _ _ _ h => h) (Or.inr ⟨by rfl, rfl⟩) ?_ ?_
            rotate_left
            ·simp only [Act.put, zA_, zB_, zC_, i64_w, i32_w]
             rfl
            refine pure_ (i := 19) (N := some 143) (v := undef) (a' := ?_) #[Y,Y,Y,Y,Y,Y,Y,Y,Y,Y,Y,Y,Y,Y,Y,Y,Y,Y,Y,Y,Z,Z,Z,Z,Z,Z,Z,Z,Z,Z,Z,Z,Z,Z,Z,Z] rfl rfl (any_of HT_.out (by kernel_rfl)) (fun _ _ _ h => h) (Or.inr ⟨by rfl, rfl⟩) ?_ ?_
            rotate_left
            ·simp only [Act.put, zA_, zB_, zC_, i64_w, i32_w]
             rfl
            refine pure_ (i := 20) (N := some 144) (v := undef) (a' := ?_) #[Y,Y,Y,Y,Y,Y,Y,Y,Y,Y,Y,Y,Y,Y,Y,Y,Y,Y,Y,Y,Y,Z,Z,Z,Z,Z,Z,Z,Z,Z,Z,Z,Z,Z,Z,Z] rfl rfl (any_of HT_.out (by kernel_rfl)) (fun _ _ _ h => h) (Or.inr ⟨by rfl, rfl⟩) ?_ ?_
            rotate_left
            ·simp only [Act.put, zA_, zB_, zC_, i64_w, i32_w]
             rfl
            refine pure_ (i := 21) (N := some 145) (v := undef) (a' := ?_) #[Y,Y,Y,Y,Y,Y,Y,Y,Y,Y,Y,Y,Y,Y,Y,Y,Y,Y,Y,Y,Y,Y,Z,Z,Z,Z,Z,Z,Z,Z,Z,Z,Z,Z,Z,Z] rfl rfl (any_of HT_.out (by kernel_rfl)) (fun _ _ _ h => h) (Or.inr ⟨by rfl, rfl⟩) ?_ ?_
            rotate_left
            ·simp only [Act.put, zA_, zB_, zC_, i64_w, i32_w]
             rfl
            refine pure_ (i := 22) (N := some 146) (v := undef) (a' := ?_) #[Y,Y,Y,Y,Y,Y,Y,Y,Y,Y,Y,Y,Y,Y,Y,Y,Y,Y,Y,Y,Y,Y,Y,Z,Z,Z,Z,Z,Z,Z,Z,Z,Z,Z,Z,Z] rfl rfl (any_of HT_.out (by kernel_rfl)) (fun _ _ _ h => h) (Or.inr ⟨by rfl, rfl⟩) ?_ ?_
            rotate_left
            ·simp only [Act.put, zA_, zB_, zC_, i64_w, i32_w]
             rfl
            refine pure_ (i := 23) (N := some 147) (v := undef) (a' := ?_) #[Y,Y,Y,Y,Y,Y,Y,Y,Y,Y,Y,Y,Y,Y,Y,Y,Y,Y,Y,Y,Y,Y,Y,Y,Z,Z,Z,Z,Z,Z,Z,Z,Z,Z,Z,Z] rfl rfl (any_of HT_.out (by kernel_rfl)) (fun _ _ _ h => h) (Or.inr ⟨by rfl, rfl⟩) ?_ ?_
            rotate_left
            ·simp only [Act.put, zA_, zB_, zC_, i64_w, i32_w]
             rfl
            refine pure_ (i := 24) (N := some 148) (v := undef) (a' := ?_) #[Y,Y,Y,Y,Y,Y,Y,Y,Y,Y,Y,Y,Y,Y,Y,Y,Y,Y,Y,Y,Y,Y,Y,Y,Y,Z,Z,Z,Z,Z,Z,Z,Z,Z,Z,Z] rfl rfl (any_of HT_.out (by kernel_rfl)) (fun _ _ _ h => h) (Or.inr ⟨by rfl, rfl⟩) ?_ ?_
            rotate_left
            ·simp only [Act.put, zA_, zB_, zC_, i64_w, i32_w]
             rfl
            refine pure_ (i := 25) (N := some 149) (v := undef) (a' := ?_) #[Y,Y,Y,Y,Y,Y,Y,Y,Y,Y,Y,Y,Y,Y,Y,Y,Y,Y,Y,Y,Y,Y,Y,Y,Y,Y,Z,Z,Z,Z,Z,Z,Z,Z,Z,Z] rfl rfl (any_of HT_.out (by kernel_rfl)) (fun _ _ _ h => h) (Or.inr ⟨by rfl, rfl⟩) ?_ ?_
            rotate_left
            ·simp only [Act.put, zA_, zB_, zC_, i64_w, i32_w]
             rfl
            refine pure_ (i := 26) (N := some 150) (v := undef) (a' := ?_) #[Y,Y,Y,Y,Y,Y,Y,Y,Y,Y,Y,Y,Y,Y,Y,Y,Y,Y,Y,Y,Y,Y,Y,Y,Y,Y,Y,Z,Z,Z,Z,Z,Z,Z,Z,Z] rfl rfl (any_of HT_.out (by kernel_rfl)) (fun _ _ _ h => h) (Or.inr ⟨by rfl, rfl⟩) ?_ ?_
            rotate_left
            ·simp only [Act.put, zA_, zB_, zC_, i64_w, i32_w]
             rfl
            refine pure_ (i := 27) (N := some 151) (v := undef) (a' := ?_) #[Y,Y,Y,Y,Y,Y,Y,Y,Y,Y,Y,Y,Y,Y,Y,Y,Y,Y,Y,Y,Y,Y,Y,Y,Y,Y,Y,Y,Z,Z,Z,Z,Z,Z,Z,Z] rfl rfl (any_of HT_.out (by kernel_rfl)) (fun _ _ _ h => h) (Or.inr ⟨by rfl, rfl⟩) ?_ ?_
            rotate_left
            ·simp only [Act.put, zA_, zB_, zC_, i64_w, i32_w]
             rfl
            refine pure_ (i := 28) (N := some 152) (v := undef) (a' := ?_) #[Y,Y,Y,Y,Y,Y,Y,Y,Y,Y,Y,Y,Y,Y,Y,Y,Y,Y,Y,Y,Y,Y,Y,Y,Y,Y,Y,Y,Y,Z,Z,Z,Z,Z,Z,Z] rfl rfl (any_of HT_.out (by kernel_rfl)) (fun _ _ _ h => h) (Or.inr ⟨by rfl, rfl⟩) ?_ ?_
            rotate_left
            ·simp only [Act.put, zA_, zB_, zC_, i64_w, i32_w]
             rfl
            refine pure_ (i := 29) (N := some 153) (v := undef) (a' := ?_) #[Y,Y,Y,Y,Y,Y,Y,Y,Y,Y,Y,Y,Y,Y,Y,Y,Y,Y,Y,Y,Y,Y,Y,Y,Y,Y,Y,Y,Y,Y,Z,Z,Z,Z,Z,Z] rfl rfl (any_of HT_.out (by kernel_rfl)) (fun _ _ _ h => h) (Or.inr ⟨by rfl, rfl⟩) ?_ ?_
            rotate_left
            ·simp only [Act.put, zA_, zB_, zC_, i64_w, i32_w]
             rfl
            refine pure_ (i := 30) (N := some 154) (v := undef) (a' := ?_) #[Y,Y,Y,Y,Y,Y,Y,Y,Y,Y,Y,Y,Y,Y,Y,Y,Y,Y,Y,Y,Y,Y,Y,Y,Y,Y,Y,Y,Y,Y,Y,Z,Z,Z,Z,Z] rfl rfl (any_of HT_.out (by kernel_rfl)) (fun _ _ _ h => h) (Or.inr ⟨by rfl, rfl⟩) ?_ ?_
            rotate_left
            ·simp only [Act.put, zA_, zB_, zC_, i64_w, i32_w]
             rfl
            refine pure_ (i := 31) (N := some 155) (v := undef) (a' := ?_) #[Y,Y,Y,Y,Y,Y,Y,Y,Y,Y,Y,Y,Y,Y,Y,Y,Y,Y,Y,Y,Y,Y,Y,Y,Y,Y,Y,Y,Y,Y,Y,Y,Z,Z,Z,Z] rfl rfl (any_of HT_.out (by kernel_rfl)) (fun _ _ _ h => h) (Or.inr ⟨by rfl, rfl⟩) ?_ ?_
            rotate_left
            ·simp only [Act.put, zA_, zB_, zC_, i64_w, i32_w]
             rfl
            refine pure_ (i := 32) (N := some 156) (v := undef) (a' := ?_) #[Y,Y,Y,Y,Y,Y,Y,Y,Y,Y,Y,Y,Y,Y,Y,Y,Y,Y,Y,Y,Y,Y,Y,Y,Y,Y,Y,Y,Y,Y,Y,Y,Y,Z,Z,Z] rfl rfl (any_of HT_.out (by kernel_rfl)) (fun _ _ _ h => h) (Or.inr ⟨by rfl, rfl⟩) ?_ ?_
            rotate_left
            ·simp only [Act.put, zA_, zB_, zC_, i64_w, i32_w]
             rfl
            refine pure_ (i := 33) (N := some 157) (v := undef) (a' := ?_) #[Y,Y,Y,Y,Y,Y,Y,Y,Y,Y,Y,Y,Y,Y,Y,Y,Y,Y,Y,Y,Y,Y,Y,Y,Y,Y,Y,Y,Y,Y,Y,Y,Y,Y,Z,Z] rfl rfl (any_of HT_.out (by kernel_rfl)) (fun _ _ _ h => h) (Or.inr ⟨by rfl, rfl⟩) ?_ ?_
            rotate_left
            ·simp only [Act.put, zA_, zB_, zC_, i64_w, i32_w]
             rfl
            refine pure_ (i := 34) (N := some 158) (v := undef) (a' := ?_) #[Y,Y,Y,Y,Y,Y,Y,Y,Y,Y,Y,Y,Y,Y,Y,Y,Y,Y,Y,Y,Y,Y,Y,Y,Y,Y,Y,Y,Y,Y,Y,Y,Y,Y,Y,Z] rfl rfl (any_of HT_.out (by kernel_rfl)) (fun _ _ _ h => h) (Or.inr ⟨by rfl, rfl⟩) ?_ ?_
            rotate_left
            ·simp only [Act.put, zA_, zB_, zC_, i64_w, i32_w]
             rfl
            refine pure_ (i := 35) (N := some 159) (v := ?_) (a' := ?_) #[Y,Y,Y,Y,Y,Y,Y,Y,Y,Y,Y,Y,Y,Y,Y,Y,Y,Y,Y,Y,Y,Y,Y,Y,Y,Y,Y,Y,Y,Y,Y,Y,Y,Y,Y,Y] rfl rfl (any_of HT_.out (by kernel_rfl)) (fun _ _ _ h => h) (Or.inl ⟨by rfl, ?_⟩) ?_ ?_
            rotate_left
            ·intro w'
             go_simp
             with_reducible rfl
            rotate_left
            ·simp only [Act.put, zA_, zB_, zC_, i64_w, i32_w]
             rfl
            refine done_ (done_of HT_.out (by kernel_rfl)) ?_
            try go_wp2
            go_roundg kj96
            case measure => have := HJ8.out; have := HK2.out; have := HJ96.out; omega
            case rel => exact ⟨(wrap64 (x77_2 + 1)), (by (rfl)), H', ⟨by have := HJ8.out; have := HK2.out; have := HJ96.out; omega⟩, ⟨by exact HO_352000.out⟩, ⟨by exact HO_352001.out⟩, ⟨by exact HO_352002.out⟩, ⟨by exact HO_364000.out⟩, ⟨by exact HO_364001.out⟩, ⟨by exact HO_364002.out⟩, ⟨by exact HO_376000.out⟩, ⟨by exact HO_376001.out⟩, ⟨by exact HO_376002.out⟩, ⟨by exact HO_388000.out⟩, ⟨by exact HO_388001.out⟩, ⟨by exact HO_388002.out⟩, ⟨by exact BK336.out⟩, ⟨by exact BK337.out⟩, ⟨by exact BK351.out⟩, ⟨by exact BK363.out⟩, ⟨by exact BK375.out⟩, ⟨by exact BK387.out⟩, ⟨by repeat (((with_reducible (exact HB.out))))⟩⟩
       ·rw [if_neg c94] at H
        have c94b0 : decide (x77_2 < (l0_0.length : Int)) = false := decide_eq_false c94
        clear c94
        replace H := Option.bind_eq_some_iff.mp H
        obtain ⟨t390, A1330, H⟩ := H
        replace H : (some t390) = some r := H
        have A133 := Aside0.mk A1330
        clear A1330
        obtain rfl := Option.some.inj H
        go_wp2_with ((((with_reducible refine gate_callee (f := 15) rfl ?_); refine goesL_ (some 161) rfl rfl Try.func15 (by kernel_rfl) rfl #[] rfl (by (try simp only [List.map_toArray, List.map_cons, List.map_nil]); (done)) ?_; (with_reducible refine (quietuslaw10_sanity.calls  t390 _ A133.out).mono ?_); rintro e w134 ⟨rfl, hb⟩; refine ⟨_, rfl, ?_⟩; have n0_ := Aside0.mk (Kd.R_below HO_352000.out hb); have n1_ := Aside0.mk (Kd.R_below HO_352001.out hb); have n2_ := Aside0.mk (Kd.R_below HO_352002.out hb); have n3_ := Aside0.mk (Kd.R_below HO_364000.out hb); have n4_ := Aside0.mk (Kd.R_below HO_364001.out hb); have n5_ := Aside0.mk (Kd.R_below HO_364002.out hb); have n6_ := Aside0.mk (Kd.R_below HO_376000.out hb); have n7_ := Aside0.mk (Kd.R_below HO_376001.out hb); have n8_ := Aside0.mk (Kd.R_below HO_376002.out hb); have n9_ := Aside0.mk (Kd.R_below HO_388000.out hb); have n10_ := Aside0.mk (Kd.R_below HO_388001.out hb); have n11_ := Aside0.mk (Kd.R_below HO_388002.out hb); have n12_ := Aside0.mk (zq_ (g := gb336) (o := .cells #[.slice A0_0 l0_0.length c0_0, .slice A0_1 l0_1.length c0_1, .slice A0_2 l0_2.length c0_2, .int .i64 a0_3] 25 (0, 0)) BK336.out hb); have n13_ := Aside0.mk (zq_ (g := gb337) (o := .cells #[.int .i64 a1_0, .int .i64 a1_1] 44 (0, 0)) BK337.out hb); have n14_ := Aside0.mk (zq_ (g := gb351) (o := .cells #[.slice Ao19 t340.length co19, .slice Ao23 t343.length co23, .slice Ao24 t346.length co24, .int .i64 t349] 25 (0, 0)) BK351.out hb); have n15_ := Aside0.mk (zq_ (g := gb363) (o := .cells #[.slice Ao29 t352.length co29, .slice Ao34 t355.length co34, .slice Ao35 t358.length co35, .int .i64 t361] 25 (0, 0)) BK363.out hb); have n16_ := Aside0.mk (zq_ (g := gb375) (o := .cells #[.slice Ao40 t364.length co40, .slice Ao46 t367.length co46, .slice Ao47 t370.length co47, .int .i64 t373, .int .i64 t374] 48 (0, 0)) BK375.out hb); have n17_ := Aside0.mk (zq_ (g := gb387) (o := .cells #[.slice Ao52 t376.length co52, .slice Ao59 t379.length co59, .slice Ao60 t382.length co60, .int .i64 t385, .int .i64 t386] 48 (0, 0)) BK387.out hb); have n18_ := Aside0.mk (zv_ (by repeat (((with_reducible (exact HB.out))))) hb); clear HO_352000 HO_352001 HO_352002 HO_364000 HO_364001 HO_364002 HO_376000 HO_376001 HO_376002 HO_388000 HO_388001 HO_388002 BK336 BK337 BK351 BK363 BK375 BK387 HB; have HO_352000 := n0_; have HO_352001 := n1_; have HO_352002 := n2_; have HO_364000 := n3_; have HO_364001 := n4_; have HO_364002 := n5_; have HO_376000 := n6_; have HO_376001 := n7_; have HO_376002 := n8_; have HO_388000 := n9_; have HO_388001 := n10_; have HO_388002 := n11_; have BK336 := n12_; have BK337 := n13_; have BK351 := n14_; have BK363 := n15_; have BK375 := n16_; have BK387 := n17_; have HB := n18_; clear n0_ n1_ n2_ n3_ n4_ n5_ n6_ n7_ n8_ n9_ n10_ n11_ n12_ n13_ n14_ n15_ n16_ n17_ n18_; (try clear hb); (try clear hb2); (try clear hk); (try clear hi))))
        go_ret
        exact ⟨by (rfl), by repeat (((with_reducible (exact HB.out))))⟩
 ·replace c4 := Bool.eq_false_iff.mpr c4
  subst c4
  have H1 : ((quietuslaw10_sanity.f).bind fun t339 => (some t339)) = some r := by rw [if_neg (show ¬ (false = true) by decide)] at H; exact H
  clear H
  have H := H1
  clear H1
  replace H := Option.bind_eq_some_iff.mp H
  obtain ⟨t339, A1350, H⟩ := H
  replace H : (some t339) = some r := H
  have A135 := Aside0.mk A1350
  clear A1350
  obtain rfl := Option.some.inj H
  go_enter Try.func6, Try.ntmps6
  go_wp2_with (first | ((with_reducible refine gate_dst (N := 2) rfl ?_); refine box_event ?hg (N := 2) ?hd (cs := #[.slice A0_0 l0_0.length c0_0, .slice A0_1 l0_1.length c0_1, .slice A0_2 l0_2.length c0_2, .int .i64 a0_3]) (t := 25) ?hr ?_; (case hd => rfl); (case hg => rfl); (case hr => (go_simp; done)); intro gb336 hg w136 hbox hb; have n0_ := Aside0.mk (zv_ (by repeat (((with_reducible (exact HB.out))))) hb); have n1_ := Aside0.mk (hbox); have n2_ := Aside0.mk ((by rw [hg]; exact (zw_ (by repeat (((with_reducible (exact HB.out)))))) : w.heap.size ≤ gb336)); have n3_ := Aside0.mk ((by rw [hg]; exact (zw_ (by repeat (((with_reducible (exact HB.out)))))) : w.heap.size ≤ gb336)); clear HB; have HB := n0_; have BK336 := n1_; have GW336 := n2_; have GE336 := n3_; clear n0_ n1_ n2_ n3_; clear hb hbox hg) | ((with_reducible refine gate_dst (N := 3) rfl ?_); refine box_event ?hg (N := 3) ?hd (cs := #[.int .i64 a1_0, .int .i64 a1_1]) (t := 44) ?hr ?_; (case hd => rfl); (case hg => rfl); (case hr => (go_simp; done)); intro gb337 hg w137 hbox hb; have n0_ := Aside0.mk (zq_ (g := gb336) (o := .cells #[.slice A0_0 l0_0.length c0_0, .slice A0_1 l0_1.length c0_1, .slice A0_2 l0_2.length c0_2, .int .i64 a0_3] 25 (0, 0)) BK336.out hb); have n1_ := Aside0.mk (zv_ (by repeat (((with_reducible (exact HB.out))))) hb); have n2_ := Aside0.mk (hbox); have n3_ := Aside0.mk ((by rw [hg]; exact (zw_ (by repeat (((with_reducible (exact HB.out)))))) : w.heap.size ≤ gb337)); have n4_ := Aside0.mk ((by rw [hg]; exact (zw_ (by repeat (((with_reducible (exact HB.out)))))) : w.heap.size ≤ gb337)); have n5_ := Aside0.mk ((by rw [hg]; exact Nat.ne_of_lt (blk_lt (g := gb336) (o := .cells #[.slice A0_0 l0_0.length c0_0, .slice A0_1 l0_1.length c0_1, .slice A0_2 l0_2.length c0_2, .int .i64 a0_3] 25 (0, 0)) BK336.out) : gb336 ≠ gb337)); have n6_ := Aside0.mk ((by rw [hg]; exact Nat.ne_of_gt (blk_lt (g := gb336) (o := .cells #[.slice A0_0 l0_0.length c0_0, .slice A0_1 l0_1.length c0_1, .slice A0_2 l0_2.length c0_2, .int .i64 a0_3] 25 (0, 0)) BK336.out) : gb337 ≠ gb336)); clear BK336 HB; have BK336 := n0_; have HB := n1_; have BK337 := n2_; have GW337 := n3_; have GE337 := n4_; have NB336_337 := n5_; have NB337_336 := n6_; clear n0_ n1_ n2_ n3_ n4_ n5_ n6_; clear hb hbox hg; have hnb138 := NB336_337.out; have hnc138 := NB337_336.out; have hcz139_0 : w137.cell? ⟨gb336, 0, none⟩ = some (.slice A0_0 l0_0.length c0_0) := (blk_cell BK336.out 0).trans rfl; have hcz139_1 : w137.cell? ⟨gb336, 1, none⟩ = some (.slice A0_1 l0_1.length c0_1) := (blk_cell BK336.out 1).trans rfl; have hcz139_2 : w137.cell? ⟨gb336, 2, none⟩ = some (.slice A0_2 l0_2.length c0_2) := (blk_cell BK336.out 2).trans rfl; have hcz139_3 : w137.cell? ⟨gb336, 3, none⟩ = some (.int .i64 a0_3) := (blk_cell BK336.out 3).trans rfl; have hfz139_0 := blk_frozen BK336.out 0; have hfz139_1 := blk_frozen BK336.out 1; have hfz139_2 := blk_frozen BK336.out 2; have hfz139_3 := blk_frozen BK336.out 3) | ((with_reducible refine gate_callee (f := 14) rfl ?_); refine goesL_ (some 16) rfl rfl Try.func14 (by kernel_rfl) rfl #[.agg #[.slice A0_0 l0_0.length c0_0, .slice A0_1 l0_1.length c0_1, .slice A0_2 l0_2.length c0_2, .int .i64 a0_3], .int .i64 80] rfl (by (try simp only [List.map_toArray, List.map_cons, List.map_nil]); (rfl)) ?_; (with_reducible refine (quietusref10_Few.calls _ _ l0_0 _ _ l0_1 _ _ l0_2 a0_3 80 false _ ?side1 ?side2 ?side3 ?side4 ?side5 ?side6 A3.out).mono ?_); (case side1 => repeat ((exact (Kd.C_below HR0_0.out HB.out)))); (case side2 => exact HC0_0.out); (case side3 => repeat ((exact (Kd.C_below HR0_1.out HB.out)))); (case side4 => exact HC0_1.out); (case side5 => repeat ((exact (Kd.C_below HR0_2.out HB.out)))); (case side6 => exact HC0_2.out); rintro e w140 ⟨rfl, hb⟩; refine ⟨_, rfl, ?_⟩; have n0_ := Aside0.mk (zq_ (g := gb336) (o := .cells #[.slice A0_0 l0_0.length c0_0, .slice A0_1 l0_1.length c0_1, .slice A0_2 l0_2.length c0_2, .int .i64 a0_3] 25 (0, 0)) BK336.out hb); have n1_ := Aside0.mk (zq_ (g := gb337) (o := .cells #[.int .i64 a1_0, .int .i64 a1_1] 44 (0, 0)) BK337.out hb); have n2_ := Aside0.mk (zv_ (by repeat (((with_reducible (exact HB.out))))) hb); clear BK336 BK337 HB; have BK336 := n0_; have BK337 := n1_; have HB := n2_; clear n0_ n1_ n2_; (try clear hb); (try clear hb2); (try clear hk); (try clear hi)) | ((with_reducible refine gate_callee (f := 15) rfl ?_); refine goesL_ (some 19) rfl rfl Try.func15 (by kernel_rfl) rfl #[] rfl (by (try simp only [List.map_toArray, List.map_cons, List.map_nil]); (done)) ?_; (with_reducible refine (quietuslaw10_sanity.calls  t339 _ A135.out).mono ?_); rintro e w141 ⟨rfl, hb⟩; refine ⟨_, rfl, ?_⟩; have n0_ := Aside0.mk (zq_ (g := gb336) (o := .cells #[.slice A0_0 l0_0.length c0_0, .slice A0_1 l0_1.length c0_1, .slice A0_2 l0_2.length c0_2, .int .i64 a0_3] 25 (0, 0)) BK336.out hb); have n1_ := Aside0.mk (zq_ (g := gb337) (o := .cells #[.int .i64 a1_0, .int .i64 a1_1] 44 (0, 0)) BK337.out hb); have n2_ := Aside0.mk (zv_ (by repeat (((with_reducible (exact HB.out))))) hb); clear BK336 BK337 HB; have BK336 := n0_; have BK337 := n1_; have HB := n2_; clear n0_ n1_ n2_; (try clear hb); (try clear hb2); (try clear hk); (try clear hi)))
  go_ret
  exact ⟨by (rfl), by repeat (((with_reducible (exact HB.out))))⟩
end Go.Proofs.Yteknbadjfojmbaa.QA
