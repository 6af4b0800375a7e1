-- What this claim does not use was left out by prune.py, a program of this session.
import Derived.Test.YteknbadjfojmbaaQA0
import Derived.Test.YteknbadjfojmbaaQA4
import Derived.Test.YteknbadjfojmbaaQA5
import Derived.Test.YteknbadjfojmbaaQA6
import Derived.Test.YteknbadjfojmbaaQA7
import Derived.Test.YteknbadjfojmbaaQA8
import Derived.Test.YteknbadjfojmbaaQA9
namespace Go.Proofs.Yteknbadjfojmbaa.QA
open Go.RowKit Go.Proofs.YteknbadjfojmbaaW.PrintWords Go.Proofs.YteknbadjfojmbaaW.PrintLast Go.Proofs.YteknbadjfojmbaaW.PrintMore
attribute [local go_sem] max2_int min2_int max_two min_two max_three min_three max_four min_four
set_option linter.unusedVariables false
set_option linter.unusedSimpArgs false
def quietuslaw10_sanity.f : Option Bool := some true
set_option maxRecDepth 100000 in
set_option maxHeartbeats 8000000 in
theorem quietuslaw10_sanity.calls (r : Bool) (w : World) (h : quietuslaw10_sanity.f = some r) : Calls Try.prog 15 #[] w fun e w' => e = .returned (.bool r) ∧ Below w.heap.size w w' := by
  obtain rfl := Option.some.inj h
  clear h
  go_enter Try.func15, Try.ntmps15
  go_wp2_with fail
  refine (quietuslaw10_example.calls ([0, 0, 1, 2] : List Int) ([⟨0, false⟩, ⟨0, false⟩, ⟨1, true⟩] : List S117) ([0, 1] : List Int) 2 _ rfl).mono ?_
  rintro e w1 ⟨v0, v1, v2, rfl, ho0, ho1, ho2, hb⟩
  have HB0 := Aside0.mk hb
  clear hb
  obtain ⟨A1, c1, rfl, hl1, hc1⟩ := Kd.R_reads ho0
  have C1 := Aside0.mk hc1
  clear hc1 ho0
  obtain ⟨A2, c2, rfl, hl2, hc2⟩ := Kd.R_reads ho1
  have C2 := Aside0.mk hc2
  clear hc2 ho1
  obtain ⟨A3, c3, rfl, hl3, hc3⟩ := Kd.R_reads ho2
  have C3 := Aside0.mk hc3
  clear hc3 ho2
  have HW1 := Aside0.mk (Below.refl w1.heap.size w1)
  go_wp2_with fail
  refine (domain_Sell.calls _ _ ([0, 0, 1, 2] : List Int) _ _ ([⟨0, false⟩, ⟨0, false⟩, ⟨1, true⟩] : List S117) _ _ ([0, 1] : List Int) 2 1 0 ([0, 0, 1, 2] : List Int) ([⟨0, false⟩, ⟨0, false⟩, ⟨1, true⟩] : List S117) ([0, 0] : List Int) 2 0 _ (Kd.C_below C1.out (below_alloc (below_alloc HW1.out _) _)) hl1 (Kd.C_below C2.out (below_alloc (below_alloc HW1.out _) _)) hl2 (Kd.C_below C3.out (below_alloc (below_alloc HW1.out _) _)) hl3 (by kernel_rfl)).mono ?_
  rintro e w2 ⟨u0, u1, u2, rfl, ho0, ho1, ho2, hb⟩
  have BKd : Aside0 (w2.heap[w1.heap.size]? = some (.cells #[.slice A1 4 c1, .slice A2 3 c2, .slice A3 2 c3, .int .i64 2] 25 (0, 0))) := ⟨blk_below (blk_alloc (blk_new w1 _) _) hb⟩
  have BKl : Aside0 (w2.heap[w1.heap.size + 1]? = some (.cells (([0, 2, 3, -1] : List Int).map (Value.int .i64)).toArray 3 (0, 0))) := ⟨blk_below (by have h := blk_new (w1.alloc (.cells #[.slice A1 4 c1, .slice A2 3 c2, .slice A3 2 c3, .int .i64 2] 25)) (.cells #[.int .i64 0, .int .i64 2, .int .i64 3, .int .i64 (-1)] 3); simp only [World.size_alloc] at h; exact h) hb⟩
  have HB0' := Aside0.mk (below_step (below_alloc (below_alloc HB0.out _) _) hb)
  have HW1' := Aside0.mk (below_step (below_alloc (below_alloc HW1.out _) _) hb)
  clear HB0 HW1
  have HB0 := HB0'
  clear HB0'
  have HW1 := HW1'
  clear HW1'
  clear hb
  obtain ⟨A4, c4, rfl, hl4, hc4⟩ := Kd.R_reads ho0
  have C4 := Aside0.mk hc4
  clear hc4 ho0
  obtain ⟨A5, c5, rfl, hl5, hc5⟩ := Kd.R_reads ho1
  have C5 := Aside0.mk hc5
  clear hc5 ho1
  obtain ⟨A6, c6, rfl, hl6, hc6⟩ := Kd.R_reads ho2
  have C6 := Aside0.mk hc6
  clear hc6 ho2
  have HW2 := Aside0.mk (Below.refl w2.heap.size w2)
  have hgt0 : w1.heap.size < w2.heap.size := blk_lt BKd.out
  have hz0_0 : w2.cell? ⟨w1.heap.size, 0, none⟩ = some (.slice A1 4 c1) := (blk_cell BKd.out 0).trans rfl
  have hz0_1 : w2.cell? ⟨w1.heap.size, 1, none⟩ = some (.slice A2 3 c2) := (blk_cell BKd.out 1).trans rfl
  have hz0_2 : w2.cell? ⟨w1.heap.size, 2, none⟩ = some (.slice A3 2 c3) := (blk_cell BKd.out 2).trans rfl
  have hz0_3 : w2.cell? ⟨w1.heap.size, 3, none⟩ = some (.int .i64 2) := (blk_cell BKd.out 3).trans rfl
  have hgt1 : w1.heap.size + 1 < w2.heap.size := blk_lt BKl.out
  go_wp2_with fail
  refine (domain_Ship.calls 9 _ _ ([0, 0, 1, 2] : List Int) _ _ ([⟨0, false⟩, ⟨0, false⟩, ⟨1, true⟩] : List S117) _ _ ([0, 1] : List Int) 2 2 0 ([0, 0, 1, 2] : List Int) ([⟨0, false⟩, ⟨0, false⟩, ⟨0, true⟩] : List S117) ([0, 1] : List Int) 2 0 _ (Kd.C_below C1.out (below_alloc HW1.out _)) hl1 (Kd.C_below C2.out (below_alloc HW1.out _)) hl2 (Kd.C_below C3.out (below_alloc HW1.out _)) hl3 (by kernel_rfl)).mono ?_
  rintro e w3 ⟨u0, u1, u2, rfl, ho0, ho1, ho2, hb⟩
  have BKs : Aside0 (w3.heap[w2.heap.size]? = some (.cells #[.slice A4 4 c4, .slice A5 3 c5, .slice A6 2 c6, .int .i64 2] 25 (0, 0))) := ⟨blk_below (blk_new w2 _) hb⟩
  have HB0' := Aside0.mk (below_step (below_alloc HB0.out _) hb)
  have HW1' := Aside0.mk (below_step (below_alloc HW1.out _) hb)
  have HW2' := Aside0.mk (below_step (below_alloc HW2.out _) hb)
  have BKd' := Aside0.mk (blk_below (blk_alloc BKd.out _) hb)
  have BKl' := Aside0.mk (blk_below (blk_alloc BKl.out _) hb)
  clear HB0 HW1 HW2 BKd BKl hgt0 hgt1 hz0_0 hz0_1 hz0_2 hz0_3
  have HB0 := HB0'
  clear HB0'
  have HW1 := HW1'
  clear HW1'
  have HW2 := HW2'
  clear HW2'
  have BKd := BKd'
  clear BKd'
  have BKl := BKl'
  clear BKl'
  clear hb
  obtain ⟨A7, c7, rfl, hl7, hc7⟩ := Kd.R_reads ho0
  have C7 := Aside0.mk hc7
  clear hc7 ho0
  obtain ⟨A8, c8, rfl, hl8, hc8⟩ := Kd.R_reads ho1
  have C8 := Aside0.mk hc8
  clear hc8 ho1
  obtain ⟨A9, c9, rfl, hl9, hc9⟩ := Kd.R_reads ho2
  have C9 := Aside0.mk hc9
  clear hc9 ho2
  have HW3 := Aside0.mk (Below.refl w3.heap.size w3)
  have hgt0 : w1.heap.size < w3.heap.size := blk_lt BKd.out
  have hz0_0 : w3.cell? ⟨w1.heap.size, 0, none⟩ = some (.slice A1 4 c1) := (blk_cell BKd.out 0).trans rfl
  have hz0_1 : w3.cell? ⟨w1.heap.size, 1, none⟩ = some (.slice A2 3 c2) := (blk_cell BKd.out 1).trans rfl
  have hz0_2 : w3.cell? ⟨w1.heap.size, 2, none⟩ = some (.slice A3 2 c3) := (blk_cell BKd.out 2).trans rfl
  have hz0_3 : w3.cell? ⟨w1.heap.size, 3, none⟩ = some (.int .i64 2) := (blk_cell BKd.out 3).trans rfl
  have hgt1 : w1.heap.size + 1 < w3.heap.size := blk_lt BKl.out
  have hgt2 : w2.heap.size < w3.heap.size := blk_lt BKs.out
  have hz2_0 : w3.cell? ⟨w2.heap.size, 0, none⟩ = some (.slice A4 4 c4) := (blk_cell BKs.out 0).trans rfl
  have hz2_1 : w3.cell? ⟨w2.heap.size, 1, none⟩ = some (.slice A5 3 c5) := (blk_cell BKs.out 1).trans rfl
  have hz2_2 : w3.cell? ⟨w2.heap.size, 2, none⟩ = some (.slice A6 2 c6) := (blk_cell BKs.out 2).trans rfl
  have hz2_3 : w3.cell? ⟨w2.heap.size, 3, none⟩ = some (.int .i64 2) := (blk_cell BKs.out 3).trans rfl
  go_wp2_with fail
  refine (domain_Ship.calls 9 _ _ ([0, 0, 1, 2] : List Int) _ _ ([⟨0, false⟩, ⟨0, false⟩, ⟨1, true⟩] : List S117) _ _ ([0, 1] : List Int) 2 0 1 ([] : List Int) ([] : List S117) ([] : List Int) 0 4 _ (Kd.C_below C1.out (below_alloc HW1.out _)) hl1 (Kd.C_below C2.out (below_alloc HW1.out _)) hl2 (Kd.C_below C3.out (below_alloc HW1.out _)) hl3 (by kernel_rfl)).mono ?_
  rintro e w4 ⟨u0, u1, u2, rfl, ho0, ho1, ho2, hb⟩
  have BKv : Aside0 (w4.heap[w3.heap.size]? = some (.cells #[.slice A7 4 c7, .slice A8 3 c8, .slice A9 2 c9, .int .i64 2] 25 (0, 0))) := ⟨blk_below (blk_new w3 _) hb⟩
  have HB0' := Aside0.mk (below_step (below_alloc HB0.out _) hb)
  have HW1' := Aside0.mk (below_step (below_alloc HW1.out _) hb)
  have HW2' := Aside0.mk (below_step (below_alloc HW2.out _) hb)
  have HW3' := Aside0.mk (below_step (below_alloc HW3.out _) hb)
  have BKd' := Aside0.mk (blk_below (blk_alloc BKd.out _) hb)
  have BKl' := Aside0.mk (blk_below (blk_alloc BKl.out _) hb)
  have BKs' := Aside0.mk (blk_below (blk_alloc BKs.out _) hb)
  clear HB0 HW1 HW2 HW3 BKd BKl BKs hgt0 hgt1 hgt2 hz0_0 hz0_1 hz0_2 hz0_3 hz2_0 hz2_1 hz2_2 hz2_3
  have HB0 := HB0'
  clear HB0'
  have HW1 := HW1'
  clear HW1'
  have HW2 := HW2'
  clear HW2'
  have HW3 := HW3'
  clear HW3'
  have BKd := BKd'
  clear BKd'
  have BKl := BKl'
  clear BKl'
  have BKs := BKs'
  clear BKs'
  clear hb
  obtain ⟨A10, c10, rfl, hl10, hc10⟩ := Kd.R_reads ho0
  have C10 := Aside0.mk hc10
  clear hc10 ho0
  obtain ⟨A11, c11, rfl, hl11, hc11⟩ := Kd.R_reads ho1
  have C11 := Aside0.mk hc11
  clear hc11 ho1
  obtain ⟨A12, c12, rfl, hl12, hc12⟩ := Kd.R_reads ho2
  have C12 := Aside0.mk hc12
  clear hc12 ho2
  have hgt0 : w1.heap.size < w4.heap.size := blk_lt BKd.out
  have hz0_0 : w4.cell? ⟨w1.heap.size, 0, none⟩ = some (.slice A1 4 c1) := (blk_cell BKd.out 0).trans rfl
  have hz0_1 : w4.cell? ⟨w1.heap.size, 1, none⟩ = some (.slice A2 3 c2) := (blk_cell BKd.out 1).trans rfl
  have hz0_2 : w4.cell? ⟨w1.heap.size, 2, none⟩ = some (.slice A3 2 c3) := (blk_cell BKd.out 2).trans rfl
  have hz0_3 : w4.cell? ⟨w1.heap.size, 3, none⟩ = some (.int .i64 2) := (blk_cell BKd.out 3).trans rfl
  have hgt1 : w1.heap.size + 1 < w4.heap.size := blk_lt BKl.out
  have hgt2 : w2.heap.size < w4.heap.size := blk_lt BKs.out
  have hz2_0 : w4.cell? ⟨w2.heap.size, 0, none⟩ = some (.slice A4 4 c4) := (blk_cell BKs.out 0).trans rfl
  have hz2_1 : w4.cell? ⟨w2.heap.size, 1, none⟩ = some (.slice A5 3 c5) := (blk_cell BKs.out 1).trans rfl
  have hz2_2 : w4.cell? ⟨w2.heap.size, 2, none⟩ = some (.slice A6 2 c6) := (blk_cell BKs.out 2).trans rfl
  have hz2_3 : w4.cell? ⟨w2.heap.size, 3, none⟩ = some (.int .i64 2) := (blk_cell BKs.out 3).trans rfl
  have hgt3 : w3.heap.size < w4.heap.size := blk_lt BKv.out
  have hz3_0 : w4.cell? ⟨w3.heap.size, 0, none⟩ = some (.slice A7 4 c7) := (blk_cell BKv.out 0).trans rfl
  have hz3_1 : w4.cell? ⟨w3.heap.size, 1, none⟩ = some (.slice A8 3 c8) := (blk_cell BKv.out 1).trans rfl
  have hz3_2 : w4.cell? ⟨w3.heap.size, 2, none⟩ = some (.slice A9 2 c9) := (blk_cell BKv.out 2).trans rfl
  have hz3_3 : w4.cell? ⟨w3.heap.size, 3, none⟩ = some (.int .i64 2) := (blk_cell BKv.out 3).trans rfl
  go_wp2_with fail
  refine (domain_Check.calls _ _ ([0, 0, 1, 2] : List Int) _ _ ([⟨0, false⟩, ⟨0, false⟩, ⟨1, true⟩] : List S117) _ _ ([0, 1] : List Int) 2  0 _ (Kd.C_below C1.out (below_alloc HW1.out _)) hl1 (Kd.C_below C2.out (below_alloc HW1.out _)) hl2 (Kd.C_below C3.out (below_alloc HW1.out _)) hl3 (by kernel_rfl)).mono ?_
  rintro e w5 ⟨rfl, hb⟩
  have HB0' := Aside0.mk (below_step (below_alloc HB0.out _) hb)
  have HW1' := Aside0.mk (below_step (below_alloc HW1.out _) hb)
  have HW2' := Aside0.mk (below_step (below_alloc HW2.out _) hb)
  have HW3' := Aside0.mk (below_step (below_alloc HW3.out _) hb)
  have BKd' := Aside0.mk (blk_below (blk_alloc BKd.out _) hb)
  have BKl' := Aside0.mk (blk_below (blk_alloc BKl.out _) hb)
  have BKs' := Aside0.mk (blk_below (blk_alloc BKs.out _) hb)
  have BKv' := Aside0.mk (blk_below (blk_alloc BKv.out _) hb)
  clear HB0 HW1 HW2 HW3 BKd BKl BKs BKv hgt0 hgt1 hgt2 hgt3 hz0_0 hz0_1 hz0_2 hz0_3 hz2_0 hz2_1 hz2_2 hz2_3 hz3_0 hz3_1 hz3_2 hz3_3
  have HB0 := HB0'
  clear HB0'
  have HW1 := HW1'
  clear HW1'
  have HW2 := HW2'
  clear HW2'
  have HW3 := HW3'
  clear HW3'
  have BKd := BKd'
  clear BKd'
  have BKl := BKl'
  clear BKl'
  have BKs := BKs'
  clear BKs'
  have BKv := BKv'
  clear BKv'
  clear hb
  have hgt0 : w1.heap.size < w5.heap.size := blk_lt BKd.out
  have hz0_0 : w5.cell? ⟨w1.heap.size, 0, none⟩ = some (.slice A1 4 c1) := (blk_cell BKd.out 0).trans rfl
  have hz0_1 : w5.cell? ⟨w1.heap.size, 1, none⟩ = some (.slice A2 3 c2) := (blk_cell BKd.out 1).trans rfl
  have hz0_2 : w5.cell? ⟨w1.heap.size, 2, none⟩ = some (.slice A3 2 c3) := (blk_cell BKd.out 2).trans rfl
  have hz0_3 : w5.cell? ⟨w1.heap.size, 3, none⟩ = some (.int .i64 2) := (blk_cell BKd.out 3).trans rfl
  have hgt1 : w1.heap.size + 1 < w5.heap.size := blk_lt BKl.out
  have hgt2 : w2.heap.size < w5.heap.size := blk_lt BKs.out
  have hz2_0 : w5.cell? ⟨w2.heap.size, 0, none⟩ = some (.slice A4 4 c4) := (blk_cell BKs.out 0).trans rfl
  have hz2_1 : w5.cell? ⟨w2.heap.size, 1, none⟩ = some (.slice A5 3 c5) := (blk_cell BKs.out 1).trans rfl
  have hz2_2 : w5.cell? ⟨w2.heap.size, 2, none⟩ = some (.slice A6 2 c6) := (blk_cell BKs.out 2).trans rfl
  have hz2_3 : w5.cell? ⟨w2.heap.size, 3, none⟩ = some (.int .i64 2) := (blk_cell BKs.out 3).trans rfl
  have hgt3 : w3.heap.size < w5.heap.size := blk_lt BKv.out
  have hz3_0 : w5.cell? ⟨w3.heap.size, 0, none⟩ = some (.slice A7 4 c7) := (blk_cell BKv.out 0).trans rfl
  have hz3_1 : w5.cell? ⟨w3.heap.size, 1, none⟩ = some (.slice A8 3 c8) := (blk_cell BKv.out 1).trans rfl
  have hz3_2 : w5.cell? ⟨w3.heap.size, 2, none⟩ = some (.slice A9 2 c9) := (blk_cell BKv.out 2).trans rfl
  have hz3_3 : w5.cell? ⟨w3.heap.size, 3, none⟩ = some (.int .i64 2) := (blk_cell BKv.out 3).trans rfl
  go_wp2_with fail
  refine (domain_Size.calls _ _ ([0, 0, 1, 2] : List Int) _ _ ([⟨0, false⟩, ⟨0, false⟩, ⟨1, true⟩] : List S117) _ _ ([0, 1] : List Int) 2 2 2 _ (Kd.C_below C1.out HW1.out) hl1 (Kd.C_below C2.out HW1.out) hl2 (Kd.C_below C3.out HW1.out) hl3 (by kernel_rfl)).mono ?_
  rintro e w6 ⟨rfl, hb⟩
  have HB0' := Aside0.mk (below_step HB0.out hb)
  have HW1' := Aside0.mk (below_step HW1.out hb)
  have HW2' := Aside0.mk (below_step HW2.out hb)
  have HW3' := Aside0.mk (below_step HW3.out hb)
  have BKd' := Aside0.mk (blk_below BKd.out hb)
  have BKl' := Aside0.mk (blk_below BKl.out hb)
  have BKs' := Aside0.mk (blk_below BKs.out hb)
  have BKv' := Aside0.mk (blk_below BKv.out hb)
  clear HB0 HW1 HW2 HW3 BKd BKl BKs BKv hgt0 hgt1 hgt2 hgt3 hz0_0 hz0_1 hz0_2 hz0_3 hz2_0 hz2_1 hz2_2 hz2_3 hz3_0 hz3_1 hz3_2 hz3_3
  have HB0 := HB0'
  clear HB0'
  have HW1 := HW1'
  clear HW1'
  have HW2 := HW2'
  clear HW2'
  have HW3 := HW3'
  clear HW3'
  have BKd := BKd'
  clear BKd'
  have BKl := BKl'
  clear BKl'
  have BKs := BKs'
  clear BKs'
  have BKv := BKv'
  clear BKv'
  clear hb
  have hgt0 : w1.heap.size < w6.heap.size := blk_lt BKd.out
  have hz0_0 : w6.cell? ⟨w1.heap.size, 0, none⟩ = some (.slice A1 4 c1) := (blk_cell BKd.out 0).trans rfl
  have hz0_1 : w6.cell? ⟨w1.heap.size, 1, none⟩ = some (.slice A2 3 c2) := (blk_cell BKd.out 1).trans rfl
  have hz0_2 : w6.cell? ⟨w1.heap.size, 2, none⟩ = some (.slice A3 2 c3) := (blk_cell BKd.out 2).trans rfl
  have hz0_3 : w6.cell? ⟨w1.heap.size, 3, none⟩ = some (.int .i64 2) := (blk_cell BKd.out 3).trans rfl
  have hgt1 : w1.heap.size + 1 < w6.heap.size := blk_lt BKl.out
  have hgt2 : w2.heap.size < w6.heap.size := blk_lt BKs.out
  have hz2_0 : w6.cell? ⟨w2.heap.size, 0, none⟩ = some (.slice A4 4 c4) := (blk_cell BKs.out 0).trans rfl
  have hz2_1 : w6.cell? ⟨w2.heap.size, 1, none⟩ = some (.slice A5 3 c5) := (blk_cell BKs.out 1).trans rfl
  have hz2_2 : w6.cell? ⟨w2.heap.size, 2, none⟩ = some (.slice A6 2 c6) := (blk_cell BKs.out 2).trans rfl
  have hz2_3 : w6.cell? ⟨w2.heap.size, 3, none⟩ = some (.int .i64 2) := (blk_cell BKs.out 3).trans rfl
  have hgt3 : w3.heap.size < w6.heap.size := blk_lt BKv.out
  have hz3_0 : w6.cell? ⟨w3.heap.size, 0, none⟩ = some (.slice A7 4 c7) := (blk_cell BKv.out 0).trans rfl
  have hz3_1 : w6.cell? ⟨w3.heap.size, 1, none⟩ = some (.slice A8 3 c8) := (blk_cell BKv.out 1).trans rfl
  have hz3_2 : w6.cell? ⟨w3.heap.size, 2, none⟩ = some (.slice A9 2 c9) := (blk_cell BKv.out 2).trans rfl
  have hz3_3 : w6.cell? ⟨w3.heap.size, 3, none⟩ = some (.int .i64 2) := (blk_cell BKv.out 3).trans rfl
  go_wp2_with fail
  refine (domain_Of.calls 9 _ _ ([0, 0, 1, 2] : List Int) _ _ ([⟨0, false⟩, ⟨0, false⟩, ⟨1, true⟩] : List S117) _ _ ([0, 1] : List Int) 2 3 3 1 _ (Kd.C_below C1.out HW1.out) hl1 (Kd.C_below C2.out HW1.out) hl2 (Kd.C_below C3.out HW1.out) hl3 (by kernel_rfl)).mono ?_
  rintro e w7 ⟨rfl, hb⟩
  have HB0' := Aside0.mk (below_step HB0.out hb)
  have HW1' := Aside0.mk (below_step HW1.out hb)
  have HW2' := Aside0.mk (below_step HW2.out hb)
  have HW3' := Aside0.mk (below_step HW3.out hb)
  have BKd' := Aside0.mk (blk_below BKd.out hb)
  have BKl' := Aside0.mk (blk_below BKl.out hb)
  have BKs' := Aside0.mk (blk_below BKs.out hb)
  have BKv' := Aside0.mk (blk_below BKv.out hb)
  clear HB0 HW1 HW2 HW3 BKd BKl BKs BKv hgt0 hgt1 hgt2 hgt3 hz0_0 hz0_1 hz0_2 hz0_3 hz2_0 hz2_1 hz2_2 hz2_3 hz3_0 hz3_1 hz3_2 hz3_3
  have HB0 := HB0'
  clear HB0'
  have HW1 := HW1'
  clear HW1'
  have HW2 := HW2'
  clear HW2'
  have HW3 := HW3'
  clear HW3'
  have BKd := BKd'
  clear BKd'
  have BKl := BKl'
  clear BKl'
  have BKs := BKs'
  clear BKs'
  have BKv := BKv'
  clear BKv'
  clear hb
  have hgt0 : w1.heap.size < w7.heap.size := blk_lt BKd.out
  have hz0_0 : w7.cell? ⟨w1.heap.size, 0, none⟩ = some (.slice A1 4 c1) := (blk_cell BKd.out 0).trans rfl
  have hz0_1 : w7.cell? ⟨w1.heap.size, 1, none⟩ = some (.slice A2 3 c2) := (blk_cell BKd.out 1).trans rfl
  have hz0_2 : w7.cell? ⟨w1.heap.size, 2, none⟩ = some (.slice A3 2 c3) := (blk_cell BKd.out 2).trans rfl
  have hz0_3 : w7.cell? ⟨w1.heap.size, 3, none⟩ = some (.int .i64 2) := (blk_cell BKd.out 3).trans rfl
  have hgt1 : w1.heap.size + 1 < w7.heap.size := blk_lt BKl.out
  have hgt2 : w2.heap.size < w7.heap.size := blk_lt BKs.out
  have hz2_0 : w7.cell? ⟨w2.heap.size, 0, none⟩ = some (.slice A4 4 c4) := (blk_cell BKs.out 0).trans rfl
  have hz2_1 : w7.cell? ⟨w2.heap.size, 1, none⟩ = some (.slice A5 3 c5) := (blk_cell BKs.out 1).trans rfl
  have hz2_2 : w7.cell? ⟨w2.heap.size, 2, none⟩ = some (.slice A6 2 c6) := (blk_cell BKs.out 2).trans rfl
  have hz2_3 : w7.cell? ⟨w2.heap.size, 3, none⟩ = some (.int .i64 2) := (blk_cell BKs.out 3).trans rfl
  have hgt3 : w3.heap.size < w7.heap.size := blk_lt BKv.out
  have hz3_0 : w7.cell? ⟨w3.heap.size, 0, none⟩ = some (.slice A7 4 c7) := (blk_cell BKv.out 0).trans rfl
  have hz3_1 : w7.cell? ⟨w3.heap.size, 1, none⟩ = some (.slice A8 3 c8) := (blk_cell BKv.out 1).trans rfl
  have hz3_2 : w7.cell? ⟨w3.heap.size, 2, none⟩ = some (.slice A9 2 c9) := (blk_cell BKv.out 2).trans rfl
  have hz3_3 : w7.cell? ⟨w3.heap.size, 3, none⟩ = some (.int .i64 2) := (blk_cell BKv.out 3).trans rfl
  go_wp2_with fail
  refine (domain_Members.calls _ _ ([0, 0, 1, 2] : List Int) _ _ ([⟨0, false⟩, ⟨0, false⟩, ⟨1, true⟩] : List S117) _ _ ([0, 1] : List Int) 2 2 0 ([0, 1, 2] : List Int) _ (Kd.C_below C1.out HW1.out) hl1 (Kd.C_below C2.out HW1.out) hl2 (Kd.C_below C3.out HW1.out) hl3 (by kernel_rfl)).mono ?_
  rintro e w8 ⟨u0, rfl, ho0, hb⟩
  have HB0' := Aside0.mk (below_step HB0.out hb)
  have HW1' := Aside0.mk (below_step HW1.out hb)
  have HW2' := Aside0.mk (below_step HW2.out hb)
  have HW3' := Aside0.mk (below_step HW3.out hb)
  have BKd' := Aside0.mk (blk_below BKd.out hb)
  have BKl' := Aside0.mk (blk_below BKl.out hb)
  have BKs' := Aside0.mk (blk_below BKs.out hb)
  have BKv' := Aside0.mk (blk_below BKv.out hb)
  clear HB0 HW1 HW2 HW3 BKd BKl BKs BKv hgt0 hgt1 hgt2 hgt3 hz0_0 hz0_1 hz0_2 hz0_3 hz2_0 hz2_1 hz2_2 hz2_3 hz3_0 hz3_1 hz3_2 hz3_3
  have HB0 := HB0'
  clear HB0'
  have HW1 := HW1'
  clear HW1'
  have HW2 := HW2'
  clear HW2'
  have HW3 := HW3'
  clear HW3'
  have BKd := BKd'
  clear BKd'
  have BKl := BKl'
  clear BKl'
  have BKs := BKs'
  clear BKs'
  have BKv := BKv'
  clear BKv'
  clear hb
  obtain ⟨A13, c13, rfl, hl13, hc13⟩ := Kd.R_reads ho0
  have C13 := Aside0.mk hc13
  clear hc13 ho0
  have hgt0 : w1.heap.size < w8.heap.size := blk_lt BKd.out
  have hz0_0 : w8.cell? ⟨w1.heap.size, 0, none⟩ = some (.slice A1 4 c1) := (blk_cell BKd.out 0).trans rfl
  have hz0_1 : w8.cell? ⟨w1.heap.size, 1, none⟩ = some (.slice A2 3 c2) := (blk_cell BKd.out 1).trans rfl
  have hz0_2 : w8.cell? ⟨w1.heap.size, 2, none⟩ = some (.slice A3 2 c3) := (blk_cell BKd.out 2).trans rfl
  have hz0_3 : w8.cell? ⟨w1.heap.size, 3, none⟩ = some (.int .i64 2) := (blk_cell BKd.out 3).trans rfl
  have hgt1 : w1.heap.size + 1 < w8.heap.size := blk_lt BKl.out
  have hgt2 : w2.heap.size < w8.heap.size := blk_lt BKs.out
  have hz2_0 : w8.cell? ⟨w2.heap.size, 0, none⟩ = some (.slice A4 4 c4) := (blk_cell BKs.out 0).trans rfl
  have hz2_1 : w8.cell? ⟨w2.heap.size, 1, none⟩ = some (.slice A5 3 c5) := (blk_cell BKs.out 1).trans rfl
  have hz2_2 : w8.cell? ⟨w2.heap.size, 2, none⟩ = some (.slice A6 2 c6) := (blk_cell BKs.out 2).trans rfl
  have hz2_3 : w8.cell? ⟨w2.heap.size, 3, none⟩ = some (.int .i64 2) := (blk_cell BKs.out 3).trans rfl
  have hgt3 : w3.heap.size < w8.heap.size := blk_lt BKv.out
  have hz3_0 : w8.cell? ⟨w3.heap.size, 0, none⟩ = some (.slice A7 4 c7) := (blk_cell BKv.out 0).trans rfl
  have hz3_1 : w8.cell? ⟨w3.heap.size, 1, none⟩ = some (.slice A8 3 c8) := (blk_cell BKv.out 1).trans rfl
  have hz3_2 : w8.cell? ⟨w3.heap.size, 2, none⟩ = some (.slice A9 2 c9) := (blk_cell BKv.out 2).trans rfl
  have hz3_3 : w8.cell? ⟨w3.heap.size, 3, none⟩ = some (.int .i64 2) := (blk_cell BKv.out 3).trans rfl
  go_wp2_with fail
  have hnew : Aside0 (Kd.C (Kd.int .i64) (w8.alloc (.cells #[.int .i64 0, .int .i64 1, .int .i64 2] 3)) (some ⟨w8.heap.size, 0, none⟩) 3 ([0, 1, 2] : List Int)) := ⟨C_ints_ _ (blk_new w8 _) (by simp)⟩
  refine (quietusref10_SameList.calls 9 _ _ ([0, 1, 2] : List Int) _ 3 ([0, 1, 2] : List Int) true _ (Kd.C_below C13.out (below_alloc (Below.refl _ _) _)) hl13 hnew.out (by simp) (by kernel_rfl)).mono ?_
  rintro e w9 ⟨rfl, hd⟩
  have hb := Drawn0.below hd
  clear hd hnew
  have HB0' := Aside0.mk (below_step (below_alloc HB0.out _) hb)
  have HW1' := Aside0.mk (below_step (below_alloc HW1.out _) hb)
  have HW2' := Aside0.mk (below_step (below_alloc HW2.out _) hb)
  have HW3' := Aside0.mk (below_step (below_alloc HW3.out _) hb)
  have BKd' := Aside0.mk (blk_below (blk_alloc BKd.out _) hb)
  have BKl' := Aside0.mk (blk_below (blk_alloc BKl.out _) hb)
  have BKs' := Aside0.mk (blk_below (blk_alloc BKs.out _) hb)
  have BKv' := Aside0.mk (blk_below (blk_alloc BKv.out _) hb)
  clear HB0 HW1 HW2 HW3 BKd BKl BKs BKv hgt0 hgt1 hgt2 hgt3 hz0_0 hz0_1 hz0_2 hz0_3 hz2_0 hz2_1 hz2_2 hz2_3 hz3_0 hz3_1 hz3_2 hz3_3
  have HB0 := HB0'
  clear HB0'
  have HW1 := HW1'
  clear HW1'
  have HW2 := HW2'
  clear HW2'
  have HW3 := HW3'
  clear HW3'
  have BKd := BKd'
  clear BKd'
  have BKl := BKl'
  clear BKl'
  have BKs := BKs'
  clear BKs'
  have BKv := BKv'
  clear BKv'
  clear hb
  have hgt0 : w1.heap.size < w9.heap.size := blk_lt BKd.out
  have hz0_0 : w9.cell? ⟨w1.heap.size, 0, none⟩ = some (.slice A1 4 c1) := (blk_cell BKd.out 0).trans rfl
  have hz0_1 : w9.cell? ⟨w1.heap.size, 1, none⟩ = some (.slice A2 3 c2) := (blk_cell BKd.out 1).trans rfl
  have hz0_2 : w9.cell? ⟨w1.heap.size, 2, none⟩ = some (.slice A3 2 c3) := (blk_cell BKd.out 2).trans rfl
  have hz0_3 : w9.cell? ⟨w1.heap.size, 3, none⟩ = some (.int .i64 2) := (blk_cell BKd.out 3).trans rfl
  have hgt1 : w1.heap.size + 1 < w9.heap.size := blk_lt BKl.out
  have hgt2 : w2.heap.size < w9.heap.size := blk_lt BKs.out
  have hz2_0 : w9.cell? ⟨w2.heap.size, 0, none⟩ = some (.slice A4 4 c4) := (blk_cell BKs.out 0).trans rfl
  have hz2_1 : w9.cell? ⟨w2.heap.size, 1, none⟩ = some (.slice A5 3 c5) := (blk_cell BKs.out 1).trans rfl
  have hz2_2 : w9.cell? ⟨w2.heap.size, 2, none⟩ = some (.slice A6 2 c6) := (blk_cell BKs.out 2).trans rfl
  have hz2_3 : w9.cell? ⟨w2.heap.size, 3, none⟩ = some (.int .i64 2) := (blk_cell BKs.out 3).trans rfl
  have hgt3 : w3.heap.size < w9.heap.size := blk_lt BKv.out
  have hz3_0 : w9.cell? ⟨w3.heap.size, 0, none⟩ = some (.slice A7 4 c7) := (blk_cell BKv.out 0).trans rfl
  have hz3_1 : w9.cell? ⟨w3.heap.size, 1, none⟩ = some (.slice A8 3 c8) := (blk_cell BKv.out 1).trans rfl
  have hz3_2 : w9.cell? ⟨w3.heap.size, 2, none⟩ = some (.slice A9 2 c9) := (blk_cell BKv.out 2).trans rfl
  have hz3_3 : w9.cell? ⟨w3.heap.size, 3, none⟩ = some (.int .i64 2) := (blk_cell BKv.out 3).trans rfl
  go_wp2_with fail
  refine (domain_Relate.calls 9 _ _ ([0, 0, 1, 2] : List Int) _ _ ([⟨0, false⟩, ⟨0, false⟩, ⟨1, true⟩] : List S117) _ _ ([0, 1] : List Int) 2 0 1 1 _ (Kd.C_below C1.out HW1.out) hl1 (Kd.C_below C2.out HW1.out) hl2 (Kd.C_below C3.out HW1.out) hl3 (by kernel_rfl)).mono ?_
  rintro e w10 ⟨rfl, hb⟩
  have HB0' := Aside0.mk (below_step HB0.out hb)
  have HW1' := Aside0.mk (below_step HW1.out hb)
  have HW2' := Aside0.mk (below_step HW2.out hb)
  have HW3' := Aside0.mk (below_step HW3.out hb)
  have BKd' := Aside0.mk (blk_below BKd.out hb)
  have BKl' := Aside0.mk (blk_below BKl.out hb)
  have BKs' := Aside0.mk (blk_below BKs.out hb)
  have BKv' := Aside0.mk (blk_below BKv.out hb)
  clear HB0 HW1 HW2 HW3 BKd BKl BKs BKv hgt0 hgt1 hgt2 hgt3 hz0_0 hz0_1 hz0_2 hz0_3 hz2_0 hz2_1 hz2_2 hz2_3 hz3_0 hz3_1 hz3_2 hz3_3
  have HB0 := HB0'
  clear HB0'
  have HW1 := HW1'
  clear HW1'
  have HW2 := HW2'
  clear HW2'
  have HW3 := HW3'
  clear HW3'
  have BKd := BKd'
  clear BKd'
  have BKl := BKl'
  clear BKl'
  have BKs := BKs'
  clear BKs'
  have BKv := BKv'
  clear BKv'
  clear hb
  have hgt0 : w1.heap.size < w10.heap.size := blk_lt BKd.out
  have hz0_0 : w10.cell? ⟨w1.heap.size, 0, none⟩ = some (.slice A1 4 c1) := (blk_cell BKd.out 0).trans rfl
  have hz0_1 : w10.cell? ⟨w1.heap.size, 1, none⟩ = some (.slice A2 3 c2) := (blk_cell BKd.out 1).trans rfl
  have hz0_2 : w10.cell? ⟨w1.heap.size, 2, none⟩ = some (.slice A3 2 c3) := (blk_cell BKd.out 2).trans rfl
  have hz0_3 : w10.cell? ⟨w1.heap.size, 3, none⟩ = some (.int .i64 2) := (blk_cell BKd.out 3).trans rfl
  have hgt1 : w1.heap.size + 1 < w10.heap.size := blk_lt BKl.out
  have hgt2 : w2.heap.size < w10.heap.size := blk_lt BKs.out
  have hz2_0 : w10.cell? ⟨w2.heap.size, 0, none⟩ = some (.slice A4 4 c4) := (blk_cell BKs.out 0).trans rfl
  have hz2_1 : w10.cell? ⟨w2.heap.size, 1, none⟩ = some (.slice A5 3 c5) := (blk_cell BKs.out 1).trans rfl
  have hz2_2 : w10.cell? ⟨w2.heap.size, 2, none⟩ = some (.slice A6 2 c6) := (blk_cell BKs.out 2).trans rfl
  have hz2_3 : w10.cell? ⟨w2.heap.size, 3, none⟩ = some (.int .i64 2) := (blk_cell BKs.out 3).trans rfl
  have hgt3 : w3.heap.size < w10.heap.size := blk_lt BKv.out
  have hz3_0 : w10.cell? ⟨w3.heap.size, 0, none⟩ = some (.slice A7 4 c7) := (blk_cell BKv.out 0).trans rfl
  have hz3_1 : w10.cell? ⟨w3.heap.size, 1, none⟩ = some (.slice A8 3 c8) := (blk_cell BKv.out 1).trans rfl
  have hz3_2 : w10.cell? ⟨w3.heap.size, 2, none⟩ = some (.slice A9 2 c9) := (blk_cell BKv.out 2).trans rfl
  have hz3_3 : w10.cell? ⟨w3.heap.size, 3, none⟩ = some (.int .i64 2) := (blk_cell BKv.out 3).trans rfl
  go_wp2_with fail
  refine (domain_Relate.calls 9 _ _ ([0, 0, 1, 2] : List Int) _ _ ([⟨0, false⟩, ⟨0, false⟩, ⟨1, true⟩] : List S117) _ _ ([0, 1] : List Int) 2 0 2 2 _ (Kd.C_below C1.out HW1.out) hl1 (Kd.C_below C2.out HW1.out) hl2 (Kd.C_below C3.out HW1.out) hl3 (by kernel_rfl)).mono ?_
  rintro e w11 ⟨rfl, hb⟩
  have HB0' := Aside0.mk (below_step HB0.out hb)
  have HW1' := Aside0.mk (below_step HW1.out hb)
  have HW2' := Aside0.mk (below_step HW2.out hb)
  have HW3' := Aside0.mk (below_step HW3.out hb)
  have BKd' := Aside0.mk (blk_below BKd.out hb)
  have BKl' := Aside0.mk (blk_below BKl.out hb)
  have BKs' := Aside0.mk (blk_below BKs.out hb)
  have BKv' := Aside0.mk (blk_below BKv.out hb)
  clear HB0 HW1 HW2 HW3 BKd BKl BKs BKv hgt0 hgt1 hgt2 hgt3 hz0_0 hz0_1 hz0_2 hz0_3 hz2_0 hz2_1 hz2_2 hz2_3 hz3_0 hz3_1 hz3_2 hz3_3
  have HB0 := HB0'
  clear HB0'
  have HW1 := HW1'
  clear HW1'
  have HW2 := HW2'
  clear HW2'
  have HW3 := HW3'
  clear HW3'
  have BKd := BKd'
  clear BKd'
  have BKl := BKl'
  clear BKl'
  have BKs := BKs'
  clear BKs'
  have BKv := BKv'
  clear BKv'
  clear hb
  have hgt0 : w1.heap.size < w11.heap.size := blk_lt BKd.out
  have hz0_0 : w11.cell? ⟨w1.heap.size, 0, none⟩ = some (.slice A1 4 c1) := (blk_cell BKd.out 0).trans rfl
  have hz0_1 : w11.cell? ⟨w1.heap.size, 1, none⟩ = some (.slice A2 3 c2) := (blk_cell BKd.out 1).trans rfl
  have hz0_2 : w11.cell? ⟨w1.heap.size, 2, none⟩ = some (.slice A3 2 c3) := (blk_cell BKd.out 2).trans rfl
  have hz0_3 : w11.cell? ⟨w1.heap.size, 3, none⟩ = some (.int .i64 2) := (blk_cell BKd.out 3).trans rfl
  have hgt1 : w1.heap.size + 1 < w11.heap.size := blk_lt BKl.out
  have hgt2 : w2.heap.size < w11.heap.size := blk_lt BKs.out
  have hz2_0 : w11.cell? ⟨w2.heap.size, 0, none⟩ = some (.slice A4 4 c4) := (blk_cell BKs.out 0).trans rfl
  have hz2_1 : w11.cell? ⟨w2.heap.size, 1, none⟩ = some (.slice A5 3 c5) := (blk_cell BKs.out 1).trans rfl
  have hz2_2 : w11.cell? ⟨w2.heap.size, 2, none⟩ = some (.slice A6 2 c6) := (blk_cell BKs.out 2).trans rfl
  have hz2_3 : w11.cell? ⟨w2.heap.size, 3, none⟩ = some (.int .i64 2) := (blk_cell BKs.out 3).trans rfl
  have hgt3 : w3.heap.size < w11.heap.size := blk_lt BKv.out
  have hz3_0 : w11.cell? ⟨w3.heap.size, 0, none⟩ = some (.slice A7 4 c7) := (blk_cell BKv.out 0).trans rfl
  have hz3_1 : w11.cell? ⟨w3.heap.size, 1, none⟩ = some (.slice A8 3 c8) := (blk_cell BKv.out 1).trans rfl
  have hz3_2 : w11.cell? ⟨w3.heap.size, 2, none⟩ = some (.slice A9 2 c9) := (blk_cell BKv.out 2).trans rfl
  have hz3_3 : w11.cell? ⟨w3.heap.size, 3, none⟩ = some (.int .i64 2) := (blk_cell BKv.out 3).trans rfl
  go_wp2_with fail
  refine (domain_Relate.calls 9 _ _ ([0, 0, 1, 2] : List Int) _ _ ([⟨0, false⟩, ⟨0, false⟩, ⟨1, true⟩] : List S117) _ _ ([0, 1] : List Int) 2 0 3 4 _ (Kd.C_below C1.out HW1.out) hl1 (Kd.C_below C2.out HW1.out) hl2 (Kd.C_below C3.out HW1.out) hl3 (by kernel_rfl)).mono ?_
  rintro e w12 ⟨rfl, hb⟩
  have HB0' := Aside0.mk (below_step HB0.out hb)
  have HW1' := Aside0.mk (below_step HW1.out hb)
  have HW2' := Aside0.mk (below_step HW2.out hb)
  have HW3' := Aside0.mk (below_step HW3.out hb)
  have BKd' := Aside0.mk (blk_below BKd.out hb)
  have BKl' := Aside0.mk (blk_below BKl.out hb)
  have BKs' := Aside0.mk (blk_below BKs.out hb)
  have BKv' := Aside0.mk (blk_below BKv.out hb)
  clear HB0 HW1 HW2 HW3 BKd BKl BKs BKv hgt0 hgt1 hgt2 hgt3 hz0_0 hz0_1 hz0_2 hz0_3 hz2_0 hz2_1 hz2_2 hz2_3 hz3_0 hz3_1 hz3_2 hz3_3
  have HB0 := HB0'
  clear HB0'
  have HW1 := HW1'
  clear HW1'
  have HW2 := HW2'
  clear HW2'
  have HW3 := HW3'
  clear HW3'
  have BKd := BKd'
  clear BKd'
  have BKl := BKl'
  clear BKl'
  have BKs := BKs'
  clear BKs'
  have BKv := BKv'
  clear BKv'
  clear hb
  have hgt0 : w1.heap.size < w12.heap.size := blk_lt BKd.out
  have hz0_0 : w12.cell? ⟨w1.heap.size, 0, none⟩ = some (.slice A1 4 c1) := (blk_cell BKd.out 0).trans rfl
  have hz0_1 : w12.cell? ⟨w1.heap.size, 1, none⟩ = some (.slice A2 3 c2) := (blk_cell BKd.out 1).trans rfl
  have hz0_2 : w12.cell? ⟨w1.heap.size, 2, none⟩ = some (.slice A3 2 c3) := (blk_cell BKd.out 2).trans rfl
  have hz0_3 : w12.cell? ⟨w1.heap.size, 3, none⟩ = some (.int .i64 2) := (blk_cell BKd.out 3).trans rfl
  have hgt1 : w1.heap.size + 1 < w12.heap.size := blk_lt BKl.out
  have hgt2 : w2.heap.size < w12.heap.size := blk_lt BKs.out
  have hz2_0 : w12.cell? ⟨w2.heap.size, 0, none⟩ = some (.slice A4 4 c4) := (blk_cell BKs.out 0).trans rfl
  have hz2_1 : w12.cell? ⟨w2.heap.size, 1, none⟩ = some (.slice A5 3 c5) := (blk_cell BKs.out 1).trans rfl
  have hz2_2 : w12.cell? ⟨w2.heap.size, 2, none⟩ = some (.slice A6 2 c6) := (blk_cell BKs.out 2).trans rfl
  have hz2_3 : w12.cell? ⟨w2.heap.size, 3, none⟩ = some (.int .i64 2) := (blk_cell BKs.out 3).trans rfl
  have hgt3 : w3.heap.size < w12.heap.size := blk_lt BKv.out
  have hz3_0 : w12.cell? ⟨w3.heap.size, 0, none⟩ = some (.slice A7 4 c7) := (blk_cell BKv.out 0).trans rfl
  have hz3_1 : w12.cell? ⟨w3.heap.size, 1, none⟩ = some (.slice A8 3 c8) := (blk_cell BKv.out 1).trans rfl
  have hz3_2 : w12.cell? ⟨w3.heap.size, 2, none⟩ = some (.slice A9 2 c9) := (blk_cell BKv.out 2).trans rfl
  have hz3_3 : w12.cell? ⟨w3.heap.size, 3, none⟩ = some (.int .i64 2) := (blk_cell BKv.out 3).trans rfl
  go_wp2_with fail
  refine (domain_Relate.calls 9 _ _ ([0, 0, 1, 2] : List Int) _ _ ([⟨0, false⟩, ⟨0, false⟩, ⟨1, true⟩] : List S117) _ _ ([0, 1] : List Int) 2 3 3 0 _ (Kd.C_below C1.out HW1.out) hl1 (Kd.C_below C2.out HW1.out) hl2 (Kd.C_below C3.out HW1.out) hl3 (by kernel_rfl)).mono ?_
  rintro e w13 ⟨rfl, hb⟩
  have HB0' := Aside0.mk (below_step HB0.out hb)
  have HW1' := Aside0.mk (below_step HW1.out hb)
  have HW2' := Aside0.mk (below_step HW2.out hb)
  have HW3' := Aside0.mk (below_step HW3.out hb)
  have BKd' := Aside0.mk (blk_below BKd.out hb)
  have BKl' := Aside0.mk (blk_below BKl.out hb)
  have BKs' := Aside0.mk (blk_below BKs.out hb)
  have BKv' := Aside0.mk (blk_below BKv.out hb)
  clear HB0 HW1 HW2 HW3 BKd BKl BKs BKv hgt0 hgt1 hgt2 hgt3 hz0_0 hz0_1 hz0_2 hz0_3 hz2_0 hz2_1 hz2_2 hz2_3 hz3_0 hz3_1 hz3_2 hz3_3
  have HB0 := HB0'
  clear HB0'
  have HW1 := HW1'
  clear HW1'
  have HW2 := HW2'
  clear HW2'
  have HW3 := HW3'
  clear HW3'
  have BKd := BKd'
  clear BKd'
  have BKl := BKl'
  clear BKl'
  have BKs := BKs'
  clear BKs'
  have BKv := BKv'
  clear BKv'
  clear hb
  have hgt0 : w1.heap.size < w13.heap.size := blk_lt BKd.out
  have hz0_0 : w13.cell? ⟨w1.heap.size, 0, none⟩ = some (.slice A1 4 c1) := (blk_cell BKd.out 0).trans rfl
  have hz0_1 : w13.cell? ⟨w1.heap.size, 1, none⟩ = some (.slice A2 3 c2) := (blk_cell BKd.out 1).trans rfl
  have hz0_2 : w13.cell? ⟨w1.heap.size, 2, none⟩ = some (.slice A3 2 c3) := (blk_cell BKd.out 2).trans rfl
  have hz0_3 : w13.cell? ⟨w1.heap.size, 3, none⟩ = some (.int .i64 2) := (blk_cell BKd.out 3).trans rfl
  have hgt1 : w1.heap.size + 1 < w13.heap.size := blk_lt BKl.out
  have hgt2 : w2.heap.size < w13.heap.size := blk_lt BKs.out
  have hz2_0 : w13.cell? ⟨w2.heap.size, 0, none⟩ = some (.slice A4 4 c4) := (blk_cell BKs.out 0).trans rfl
  have hz2_1 : w13.cell? ⟨w2.heap.size, 1, none⟩ = some (.slice A5 3 c5) := (blk_cell BKs.out 1).trans rfl
  have hz2_2 : w13.cell? ⟨w2.heap.size, 2, none⟩ = some (.slice A6 2 c6) := (blk_cell BKs.out 2).trans rfl
  have hz2_3 : w13.cell? ⟨w2.heap.size, 3, none⟩ = some (.int .i64 2) := (blk_cell BKs.out 3).trans rfl
  have hgt3 : w3.heap.size < w13.heap.size := blk_lt BKv.out
  have hz3_0 : w13.cell? ⟨w3.heap.size, 0, none⟩ = some (.slice A7 4 c7) := (blk_cell BKv.out 0).trans rfl
  have hz3_1 : w13.cell? ⟨w3.heap.size, 1, none⟩ = some (.slice A8 3 c8) := (blk_cell BKv.out 1).trans rfl
  have hz3_2 : w13.cell? ⟨w3.heap.size, 2, none⟩ = some (.slice A9 2 c9) := (blk_cell BKv.out 2).trans rfl
  have hz3_3 : w13.cell? ⟨w3.heap.size, 3, none⟩ = some (.int .i64 2) := (blk_cell BKv.out 3).trans rfl
  go_wp2_with fail
  refine (domain_Holds.calls 9 _ _ ([0, 0, 1, 2] : List Int) _ _ ([⟨0, false⟩, ⟨0, false⟩, ⟨1, true⟩] : List S117) _ _ ([0, 1] : List Int) 2 2 _ 4 ([0, 2, 3, -1] : List Int) ([2, 1] : List Int) _ (Kd.C_below C1.out HW1.out) hl1 (Kd.C_below C2.out HW1.out) hl2 (Kd.C_below C3.out HW1.out) hl3 (C_ints_ ([0, 2, 3, -1] : List Int) BKl.out (by simp)) (by simp) (by kernel_rfl)).mono ?_
  rintro e w14 ⟨u0, rfl, ho0, hb⟩
  have HB0' := Aside0.mk (below_step HB0.out hb)
  have HW1' := Aside0.mk (below_step HW1.out hb)
  have HW2' := Aside0.mk (below_step HW2.out hb)
  have HW3' := Aside0.mk (below_step HW3.out hb)
  have BKd' := Aside0.mk (blk_below BKd.out hb)
  have BKl' := Aside0.mk (blk_below BKl.out hb)
  have BKs' := Aside0.mk (blk_below BKs.out hb)
  have BKv' := Aside0.mk (blk_below BKv.out hb)
  clear HB0 HW1 HW2 HW3 BKd BKl BKs BKv hgt0 hgt1 hgt2 hgt3 hz0_0 hz0_1 hz0_2 hz0_3 hz2_0 hz2_1 hz2_2 hz2_3 hz3_0 hz3_1 hz3_2 hz3_3
  have HB0 := HB0'
  clear HB0'
  have HW1 := HW1'
  clear HW1'
  have HW2 := HW2'
  clear HW2'
  have HW3 := HW3'
  clear HW3'
  have BKd := BKd'
  clear BKd'
  have BKl := BKl'
  clear BKl'
  have BKs := BKs'
  clear BKs'
  have BKv := BKv'
  clear BKv'
  clear hb
  obtain ⟨A14, c14, rfl, hl14, hc14⟩ := Kd.R_reads ho0
  have C14 := Aside0.mk hc14
  clear hc14 ho0
  have hgt0 : w1.heap.size < w14.heap.size := blk_lt BKd.out
  have hz0_0 : w14.cell? ⟨w1.heap.size, 0, none⟩ = some (.slice A1 4 c1) := (blk_cell BKd.out 0).trans rfl
  have hz0_1 : w14.cell? ⟨w1.heap.size, 1, none⟩ = some (.slice A2 3 c2) := (blk_cell BKd.out 1).trans rfl
  have hz0_2 : w14.cell? ⟨w1.heap.size, 2, none⟩ = some (.slice A3 2 c3) := (blk_cell BKd.out 2).trans rfl
  have hz0_3 : w14.cell? ⟨w1.heap.size, 3, none⟩ = some (.int .i64 2) := (blk_cell BKd.out 3).trans rfl
  have hgt1 : w1.heap.size + 1 < w14.heap.size := blk_lt BKl.out
  have hgt2 : w2.heap.size < w14.heap.size := blk_lt BKs.out
  have hz2_0 : w14.cell? ⟨w2.heap.size, 0, none⟩ = some (.slice A4 4 c4) := (blk_cell BKs.out 0).trans rfl
  have hz2_1 : w14.cell? ⟨w2.heap.size, 1, none⟩ = some (.slice A5 3 c5) := (blk_cell BKs.out 1).trans rfl
  have hz2_2 : w14.cell? ⟨w2.heap.size, 2, none⟩ = some (.slice A6 2 c6) := (blk_cell BKs.out 2).trans rfl
  have hz2_3 : w14.cell? ⟨w2.heap.size, 3, none⟩ = some (.int .i64 2) := (blk_cell BKs.out 3).trans rfl
  have hgt3 : w3.heap.size < w14.heap.size := blk_lt BKv.out
  have hz3_0 : w14.cell? ⟨w3.heap.size, 0, none⟩ = some (.slice A7 4 c7) := (blk_cell BKv.out 0).trans rfl
  have hz3_1 : w14.cell? ⟨w3.heap.size, 1, none⟩ = some (.slice A8 3 c8) := (blk_cell BKv.out 1).trans rfl
  have hz3_2 : w14.cell? ⟨w3.heap.size, 2, none⟩ = some (.slice A9 2 c9) := (blk_cell BKv.out 2).trans rfl
  have hz3_3 : w14.cell? ⟨w3.heap.size, 3, none⟩ = some (.int .i64 2) := (blk_cell BKv.out 3).trans rfl
  go_wp2_with fail
  have hnew : Aside0 (Kd.C (Kd.int .i64) (w14.alloc (.cells #[.int .i64 2, .int .i64 1] 3)) (some ⟨w14.heap.size, 0, none⟩) 2 ([2, 1] : List Int)) := ⟨C_ints_ _ (blk_new w14 _) (by simp)⟩
  refine (quietusref10_SameList.calls 9 _ _ ([2, 1] : List Int) _ 2 ([2, 1] : List Int) true _ (Kd.C_below C14.out (below_alloc (Below.refl _ _) _)) hl14 hnew.out (by simp) (by kernel_rfl)).mono ?_
  rintro e w15 ⟨rfl, hd⟩
  have hb := Drawn0.below hd
  clear hd hnew
  have HB0' := Aside0.mk (below_step (below_alloc HB0.out _) hb)
  have HW1' := Aside0.mk (below_step (below_alloc HW1.out _) hb)
  have HW2' := Aside0.mk (below_step (below_alloc HW2.out _) hb)
  have HW3' := Aside0.mk (below_step (below_alloc HW3.out _) hb)
  have BKd' := Aside0.mk (blk_below (blk_alloc BKd.out _) hb)
  have BKl' := Aside0.mk (blk_below (blk_alloc BKl.out _) hb)
  have BKs' := Aside0.mk (blk_below (blk_alloc BKs.out _) hb)
  have BKv' := Aside0.mk (blk_below (blk_alloc BKv.out _) hb)
  clear HB0 HW1 HW2 HW3 BKd BKl BKs BKv hgt0 hgt1 hgt2 hgt3 hz0_0 hz0_1 hz0_2 hz0_3 hz2_0 hz2_1 hz2_2 hz2_3 hz3_0 hz3_1 hz3_2 hz3_3
  have HB0 := HB0'
  clear HB0'
  have HW1 := HW1'
  clear HW1'
  have HW2 := HW2'
  clear HW2'
  have HW3 := HW3'
  clear HW3'
  have BKd := BKd'
  clear BKd'
  have BKl := BKl'
  clear BKl'
  have BKs := BKs'
  clear BKs'
  have BKv := BKv'
  clear BKv'
  clear hb
  have hgt0 : w1.heap.size < w15.heap.size := blk_lt BKd.out
  have hz0_0 : w15.cell? ⟨w1.heap.size, 0, none⟩ = some (.slice A1 4 c1) := (blk_cell BKd.out 0).trans rfl
  have hz0_1 : w15.cell? ⟨w1.heap.size, 1, none⟩ = some (.slice A2 3 c2) := (blk_cell BKd.out 1).trans rfl
  have hz0_2 : w15.cell? ⟨w1.heap.size, 2, none⟩ = some (.slice A3 2 c3) := (blk_cell BKd.out 2).trans rfl
  have hz0_3 : w15.cell? ⟨w1.heap.size, 3, none⟩ = some (.int .i64 2) := (blk_cell BKd.out 3).trans rfl
  have hgt1 : w1.heap.size + 1 < w15.heap.size := blk_lt BKl.out
  have hgt2 : w2.heap.size < w15.heap.size := blk_lt BKs.out
  have hz2_0 : w15.cell? ⟨w2.heap.size, 0, none⟩ = some (.slice A4 4 c4) := (blk_cell BKs.out 0).trans rfl
  have hz2_1 : w15.cell? ⟨w2.heap.size, 1, none⟩ = some (.slice A5 3 c5) := (blk_cell BKs.out 1).trans rfl
  have hz2_2 : w15.cell? ⟨w2.heap.size, 2, none⟩ = some (.slice A6 2 c6) := (blk_cell BKs.out 2).trans rfl
  have hz2_3 : w15.cell? ⟨w2.heap.size, 3, none⟩ = some (.int .i64 2) := (blk_cell BKs.out 3).trans rfl
  have hgt3 : w3.heap.size < w15.heap.size := blk_lt BKv.out
  have hz3_0 : w15.cell? ⟨w3.heap.size, 0, none⟩ = some (.slice A7 4 c7) := (blk_cell BKv.out 0).trans rfl
  have hz3_1 : w15.cell? ⟨w3.heap.size, 1, none⟩ = some (.slice A8 3 c8) := (blk_cell BKv.out 1).trans rfl
  have hz3_2 : w15.cell? ⟨w3.heap.size, 2, none⟩ = some (.slice A9 2 c9) := (blk_cell BKv.out 2).trans rfl
  have hz3_3 : w15.cell? ⟨w3.heap.size, 3, none⟩ = some (.int .i64 2) := (blk_cell BKv.out 3).trans rfl
  go_wp2_with fail
  have hnew : Aside0 (Kd.C (Kd.int .i64) (w15.alloc (.cells #[.int .i64 1] 3)) (some ⟨w15.heap.size, 0, none⟩) 1 ([1] : List Int)) := ⟨C_ints_ _ (blk_new w15 _) (by simp)⟩
  refine (domain_Left.calls 9 _ _ ([0, 0, 1, 2] : List Int) _ _ ([⟨0, false⟩, ⟨0, false⟩, ⟨1, true⟩] : List S117) _ _ ([0, 1] : List Int) 2 1 _ 4 ([0, 2, 3, -1] : List Int) _ 1 ([1] : List Int) 5 _ (Kd.C_below C1.out (below_alloc HW1.out _)) hl1 (Kd.C_below C2.out (below_alloc HW1.out _)) hl2 (Kd.C_below C3.out (below_alloc HW1.out _)) hl3 (C_ints_ ([0, 2, 3, -1] : List Int) (blk_alloc BKl.out _) (by simp)) (by simp) hnew.out (by simp) (by kernel_rfl)).mono ?_
  rintro e w16 ⟨rfl, hb⟩
  clear hnew
  have HB0' := Aside0.mk (below_step (below_alloc HB0.out _) hb)
  have HW1' := Aside0.mk (below_step (below_alloc HW1.out _) hb)
  have HW2' := Aside0.mk (below_step (below_alloc HW2.out _) hb)
  have HW3' := Aside0.mk (below_step (below_alloc HW3.out _) hb)
  have BKd' := Aside0.mk (blk_below (blk_alloc BKd.out _) hb)
  have BKl' := Aside0.mk (blk_below (blk_alloc BKl.out _) hb)
  have BKs' := Aside0.mk (blk_below (blk_alloc BKs.out _) hb)
  have BKv' := Aside0.mk (blk_below (blk_alloc BKv.out _) hb)
  clear HB0 HW1 HW2 HW3 BKd BKl BKs BKv hgt0 hgt1 hgt2 hgt3 hz0_0 hz0_1 hz0_2 hz0_3 hz2_0 hz2_1 hz2_2 hz2_3 hz3_0 hz3_1 hz3_2 hz3_3
  have HB0 := HB0'
  clear HB0'
  have HW1 := HW1'
  clear HW1'
  have HW2 := HW2'
  clear HW2'
  have HW3 := HW3'
  clear HW3'
  have BKd := BKd'
  clear BKd'
  have BKl := BKl'
  clear BKl'
  have BKs := BKs'
  clear BKs'
  have BKv := BKv'
  clear BKv'
  clear hb
  have hgt0 : w1.heap.size < w16.heap.size := blk_lt BKd.out
  have hz0_0 : w16.cell? ⟨w1.heap.size, 0, none⟩ = some (.slice A1 4 c1) := (blk_cell BKd.out 0).trans rfl
  have hz0_1 : w16.cell? ⟨w1.heap.size, 1, none⟩ = some (.slice A2 3 c2) := (blk_cell BKd.out 1).trans rfl
  have hz0_2 : w16.cell? ⟨w1.heap.size, 2, none⟩ = some (.slice A3 2 c3) := (blk_cell BKd.out 2).trans rfl
  have hz0_3 : w16.cell? ⟨w1.heap.size, 3, none⟩ = some (.int .i64 2) := (blk_cell BKd.out 3).trans rfl
  have hgt1 : w1.heap.size + 1 < w16.heap.size := blk_lt BKl.out
  have hgt2 : w2.heap.size < w16.heap.size := blk_lt BKs.out
  have hz2_0 : w16.cell? ⟨w2.heap.size, 0, none⟩ = some (.slice A4 4 c4) := (blk_cell BKs.out 0).trans rfl
  have hz2_1 : w16.cell? ⟨w2.heap.size, 1, none⟩ = some (.slice A5 3 c5) := (blk_cell BKs.out 1).trans rfl
  have hz2_2 : w16.cell? ⟨w2.heap.size, 2, none⟩ = some (.slice A6 2 c6) := (blk_cell BKs.out 2).trans rfl
  have hz2_3 : w16.cell? ⟨w2.heap.size, 3, none⟩ = some (.int .i64 2) := (blk_cell BKs.out 3).trans rfl
  have hgt3 : w3.heap.size < w16.heap.size := blk_lt BKv.out
  have hz3_0 : w16.cell? ⟨w3.heap.size, 0, none⟩ = some (.slice A7 4 c7) := (blk_cell BKv.out 0).trans rfl
  have hz3_1 : w16.cell? ⟨w3.heap.size, 1, none⟩ = some (.slice A8 3 c8) := (blk_cell BKv.out 1).trans rfl
  have hz3_2 : w16.cell? ⟨w3.heap.size, 2, none⟩ = some (.slice A9 2 c9) := (blk_cell BKv.out 2).trans rfl
  have hz3_3 : w16.cell? ⟨w3.heap.size, 3, none⟩ = some (.int .i64 2) := (blk_cell BKv.out 3).trans rfl
  go_wp2_with fail
  refine (domain_Relate.calls 9 _ _ ([0, 0, 1, 2] : List Int) _ _ ([⟨0, false⟩, ⟨0, false⟩, ⟨1, true⟩] : List S117) _ _ ([0, 0] : List Int) 2 0 3 3 _ (Kd.C_below C4.out HW2.out) hl4 (Kd.C_below C5.out HW2.out) hl5 (Kd.C_below C6.out HW2.out) hl6 (by kernel_rfl)).mono ?_
  rintro e w17 ⟨rfl, hb⟩
  have HB0' := Aside0.mk (below_step HB0.out hb)
  have HW1' := Aside0.mk (below_step HW1.out hb)
  have HW2' := Aside0.mk (below_step HW2.out hb)
  have HW3' := Aside0.mk (below_step HW3.out hb)
  have BKd' := Aside0.mk (blk_below BKd.out hb)
  have BKl' := Aside0.mk (blk_below BKl.out hb)
  have BKs' := Aside0.mk (blk_below BKs.out hb)
  have BKv' := Aside0.mk (blk_below BKv.out hb)
  clear HB0 HW1 HW2 HW3 BKd BKl BKs BKv hgt0 hgt1 hgt2 hgt3 hz0_0 hz0_1 hz0_2 hz0_3 hz2_0 hz2_1 hz2_2 hz2_3 hz3_0 hz3_1 hz3_2 hz3_3
  have HB0 := HB0'
  clear HB0'
  have HW1 := HW1'
  clear HW1'
  have HW2 := HW2'
  clear HW2'
  have HW3 := HW3'
  clear HW3'
  have BKd := BKd'
  clear BKd'
  have BKl := BKl'
  clear BKl'
  have BKs := BKs'
  clear BKs'
  have BKv := BKv'
  clear BKv'
  clear hb
  have hgt0 : w1.heap.size < w17.heap.size := blk_lt BKd.out
  have hz0_0 : w17.cell? ⟨w1.heap.size, 0, none⟩ = some (.slice A1 4 c1) := (blk_cell BKd.out 0).trans rfl
  have hz0_1 : w17.cell? ⟨w1.heap.size, 1, none⟩ = some (.slice A2 3 c2) := (blk_cell BKd.out 1).trans rfl
  have hz0_2 : w17.cell? ⟨w1.heap.size, 2, none⟩ = some (.slice A3 2 c3) := (blk_cell BKd.out 2).trans rfl
  have hz0_3 : w17.cell? ⟨w1.heap.size, 3, none⟩ = some (.int .i64 2) := (blk_cell BKd.out 3).trans rfl
  have hgt1 : w1.heap.size + 1 < w17.heap.size := blk_lt BKl.out
  have hgt2 : w2.heap.size < w17.heap.size := blk_lt BKs.out
  have hz2_0 : w17.cell? ⟨w2.heap.size, 0, none⟩ = some (.slice A4 4 c4) := (blk_cell BKs.out 0).trans rfl
  have hz2_1 : w17.cell? ⟨w2.heap.size, 1, none⟩ = some (.slice A5 3 c5) := (blk_cell BKs.out 1).trans rfl
  have hz2_2 : w17.cell? ⟨w2.heap.size, 2, none⟩ = some (.slice A6 2 c6) := (blk_cell BKs.out 2).trans rfl
  have hz2_3 : w17.cell? ⟨w2.heap.size, 3, none⟩ = some (.int .i64 2) := (blk_cell BKs.out 3).trans rfl
  have hgt3 : w3.heap.size < w17.heap.size := blk_lt BKv.out
  have hz3_0 : w17.cell? ⟨w3.heap.size, 0, none⟩ = some (.slice A7 4 c7) := (blk_cell BKv.out 0).trans rfl
  have hz3_1 : w17.cell? ⟨w3.heap.size, 1, none⟩ = some (.slice A8 3 c8) := (blk_cell BKv.out 1).trans rfl
  have hz3_2 : w17.cell? ⟨w3.heap.size, 2, none⟩ = some (.slice A9 2 c9) := (blk_cell BKv.out 2).trans rfl
  have hz3_3 : w17.cell? ⟨w3.heap.size, 3, none⟩ = some (.int .i64 2) := (blk_cell BKv.out 3).trans rfl
  go_wp2_with fail
  refine (domain_Relate.calls 9 _ _ ([0, 0, 1, 2] : List Int) _ _ ([⟨0, false⟩, ⟨0, false⟩, ⟨0, true⟩] : List S117) _ _ ([0, 1] : List Int) 2 0 3 2 _ (Kd.C_below C7.out HW3.out) hl7 (Kd.C_below C8.out HW3.out) hl8 (Kd.C_below C9.out HW3.out) hl9 (by kernel_rfl)).mono ?_
  rintro e w18 ⟨rfl, hb⟩
  have HB0' := Aside0.mk (below_step HB0.out hb)
  have HW1' := Aside0.mk (below_step HW1.out hb)
  have HW2' := Aside0.mk (below_step HW2.out hb)
  have HW3' := Aside0.mk (below_step HW3.out hb)
  have BKd' := Aside0.mk (blk_below BKd.out hb)
  have BKl' := Aside0.mk (blk_below BKl.out hb)
  have BKs' := Aside0.mk (blk_below BKs.out hb)
  have BKv' := Aside0.mk (blk_below BKv.out hb)
  clear HB0 HW1 HW2 HW3 BKd BKl BKs BKv hgt0 hgt1 hgt2 hgt3 hz0_0 hz0_1 hz0_2 hz0_3 hz2_0 hz2_1 hz2_2 hz2_3 hz3_0 hz3_1 hz3_2 hz3_3
  have HB0 := HB0'
  clear HB0'
  have HW1 := HW1'
  clear HW1'
  have HW2 := HW2'
  clear HW2'
  have HW3 := HW3'
  clear HW3'
  have BKd := BKd'
  clear BKd'
  have BKl := BKl'
  clear BKl'
  have BKs := BKs'
  clear BKs'
  have BKv := BKv'
  clear BKv'
  clear hb
  have hgt0 : w1.heap.size < w18.heap.size := blk_lt BKd.out
  have hz0_0 : w18.cell? ⟨w1.heap.size, 0, none⟩ = some (.slice A1 4 c1) := (blk_cell BKd.out 0).trans rfl
  have hz0_1 : w18.cell? ⟨w1.heap.size, 1, none⟩ = some (.slice A2 3 c2) := (blk_cell BKd.out 1).trans rfl
  have hz0_2 : w18.cell? ⟨w1.heap.size, 2, none⟩ = some (.slice A3 2 c3) := (blk_cell BKd.out 2).trans rfl
  have hz0_3 : w18.cell? ⟨w1.heap.size, 3, none⟩ = some (.int .i64 2) := (blk_cell BKd.out 3).trans rfl
  have hgt1 : w1.heap.size + 1 < w18.heap.size := blk_lt BKl.out
  have hgt2 : w2.heap.size < w18.heap.size := blk_lt BKs.out
  have hz2_0 : w18.cell? ⟨w2.heap.size, 0, none⟩ = some (.slice A4 4 c4) := (blk_cell BKs.out 0).trans rfl
  have hz2_1 : w18.cell? ⟨w2.heap.size, 1, none⟩ = some (.slice A5 3 c5) := (blk_cell BKs.out 1).trans rfl
  have hz2_2 : w18.cell? ⟨w2.heap.size, 2, none⟩ = some (.slice A6 2 c6) := (blk_cell BKs.out 2).trans rfl
  have hz2_3 : w18.cell? ⟨w2.heap.size, 3, none⟩ = some (.int .i64 2) := (blk_cell BKs.out 3).trans rfl
  have hgt3 : w3.heap.size < w18.heap.size := blk_lt BKv.out
  have hz3_0 : w18.cell? ⟨w3.heap.size, 0, none⟩ = some (.slice A7 4 c7) := (blk_cell BKv.out 0).trans rfl
  have hz3_1 : w18.cell? ⟨w3.heap.size, 1, none⟩ = some (.slice A8 3 c8) := (blk_cell BKv.out 1).trans rfl
  have hz3_2 : w18.cell? ⟨w3.heap.size, 2, none⟩ = some (.slice A9 2 c9) := (blk_cell BKv.out 2).trans rfl
  have hz3_3 : w18.cell? ⟨w3.heap.size, 3, none⟩ = some (.int .i64 2) := (blk_cell BKv.out 3).trans rfl
  go_wp2_with fail
  go_ret
  exact ⟨rfl, HB0.out⟩
end Go.Proofs.Yteknbadjfojmbaa.QA
