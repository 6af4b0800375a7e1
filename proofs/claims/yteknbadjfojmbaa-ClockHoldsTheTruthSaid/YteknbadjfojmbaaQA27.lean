-- What this claim does not use was left out by prune.py, a program of this session.
import Derived.Test.YteknbadjfojmbaaQA0
namespace Go.Proofs.Yteknbadjfojmbaa.QA
open Go.RowKit Go.Proofs.YteknbadjfojmbaaW.PrintWords Go.Proofs.YteknbadjfojmbaaW.PrintLast Go.Proofs.YteknbadjfojmbaaW.PrintMore
attribute [local go_sem] max2_int min2_int max_two min_two max_three min_three max_four min_four
set_option linter.unusedVariables false
set_option linter.unusedSimpArgs false
def quietusref14_instant.f (a0 : Int) : Option (Bool) := if a0 ≥ 0 then (some (decide (a0 ≤ 3600000000))) else (some false)
set_option maxHeartbeats 8000000 in
set_option maxRecDepth 100000 in
theorem quietusref14_instant.calls (a0 : Int) (r : Bool) (w : World) (h : quietusref14_instant.f a0 = some r) :
    Calls Try.prog 73 #[.int .i64 a0] w fun e w' => e = .returned (.bool r) ∧ Drawn0 w w' := by
  have H : (if a0 ≥ 0 then (some (decide (a0 ≤ 3600000000))) else (some false)) = some r := h
  clear h
  by_cases c2 : a0 ≥ 0
  · rw [if_pos c2] at H
    have c2b0 : decide (0 ≤ a0) = true := decide_eq_true c2
    clear c2
    obtain rfl := Option.some.inj H
    go_enter Try.func73, Try.ntmps73
    go_wp2
    go_ret
    exact ⟨by first | rfl | (simp; done) | (simp [*]; done), by repeat (first | exact Drawn0.refl _ | apply Drawn0.step)⟩
  · rw [if_neg c2] at H
    have c2b0 : decide (0 ≤ a0) = false := decide_eq_false c2
    clear c2
    obtain rfl := Option.some.inj H
    go_enter Try.func73, Try.ntmps73
    go_wp2
    go_ret
    exact ⟨by first | rfl | (simp; done) | (simp [*]; done), by repeat (first | exact Drawn0.refl _ | apply Drawn0.step)⟩
open Go.Proofs.YteknbadjfojmbaaW.PrintWords renaming blk_drewN → zm_, blk_drew → zn_, blk_alloc → zo_, below_set → zr_, below_alloc → zs_, pw_below_drewN → zt_, below_drew1 → zu_, below_step → zv_, below_size → zw_
def quietusref14_Valid.f (a0_0 : Int) (a0_1 : Int) : Option (Bool) := (quietusref14_instant.f a0_0).bind fun t454 => ((quietusref14_instant.f a0_1).bind fun t455 => (if t454 = true then (if t455 = true then (some (decide (a0_0 ≤ a0_1))) else (some false)) else (some false)))
set_option maxHeartbeats 8000000 in
set_option maxRecDepth 100000 in
theorem quietusref14_Valid.calls (a0_0 : Int) (a0_1 : Int) (r : Bool) (w : World) (h : quietusref14_Valid.f a0_0 a0_1 = some r) :
    Calls Try.prog 50 #[.agg #[.int .i64 a0_0, .int .i64 a0_1]] w fun e w' => e = .returned (.bool r) ∧ Below w.heap.size w w' := by
  have hu56 := Try.underlying56
  have HB := Aside0.mk (Below.refl w.heap.size w)
  have H : ((quietusref14_instant.f a0_0).bind fun t454 => ((quietusref14_instant.f a0_1).bind fun t455 => (if t454 = true then (if t455 = true then (some (decide (a0_0 ≤ a0_1))) else (some false)) else (some false)))) = some r := h
  clear h
  replace H := Option.bind_eq_some_iff.mp H
  obtain ⟨t454, A20, H⟩ := H
  replace H : ((quietusref14_instant.f a0_1).bind fun t455 => (if t454 = true then (if t455 = true then (some (decide (a0_0 ≤ a0_1))) else (some false)) else (some false))) = some r := H
  have A2 := Aside0.mk A20
  clear A20
  replace H := Option.bind_eq_some_iff.mp H
  obtain ⟨t455, A30, H⟩ := H
  replace H : (if t454 = true then (if t455 = true then (some (decide (a0_0 ≤ a0_1))) else (some false)) else (some false)) = some r := H
  have A3 := Aside0.mk A30
  clear A30
  by_cases c4 : t454 = true
  · subst c4
    have H1 : (if t455 = true then (some (decide (a0_0 ≤ a0_1))) else (some false)) = some r := by rw [if_pos rfl] at H; exact H
    clear H
    have H := H1
    clear H1
    by_cases c5 : t455 = true
    · subst c5
      have H1 : (some (decide (a0_0 ≤ a0_1))) = some r := by rw [if_pos rfl] at H; exact H
      clear H
      have H := H1
      clear H1
      obtain rfl := Option.some.inj H
      go_enter Try.func50, Try.ntmps50
      go_wp2_with (first | ((with_reducible refine gate_dst (N := 1) rfl ?_); refine box_event ?hg (N := 1) ?hd (cs := #[.int .i64 a0_0, .int .i64 a0_1]) (t := 56) ?hr ?_; (case hd => rfl); (case hg => rfl); (case hr => first | (go_simp; done) | (go_simp; rfl)); intro gb453 hg w6 hbox hb; have n0_ := Aside0.mk (below_step (by repeat (first | (with_reducible first | exact HB.out | apply below_alloc | apply pw_below_drewN | apply below_drew1) | exact HB.out)) hb); have n1_ := Aside0.mk (hbox); have n2_ := Aside0.mk ((by rw [hg]; exact (below_size (by repeat (first | (with_reducible first | exact HB.out | apply below_alloc | apply pw_below_drewN | apply below_drew1) | exact HB.out))) : w.heap.size ≤ gb453)); have n3_ := Aside0.mk ((by rw [hg]; exact (below_size (by repeat (first | (with_reducible first | exact HB.out | apply below_alloc | apply pw_below_drewN | apply below_drew1) | exact HB.out))) : w.heap.size ≤ gb453)); clear HB; have HB := n0_; have BK453 := n1_; have GW453 := n2_; have GE453 := n3_; clear n0_ n1_ n2_ n3_; clear hb hbox hg; have hcz7_0 : w6.cell? ⟨gb453, 0, none⟩ = some (.int .i64 a0_0) := (blk_cell BK453.out 0).trans rfl; have hcz7_1 : w6.cell? ⟨gb453, 1, none⟩ = some (.int .i64 a0_1) := (blk_cell BK453.out 1).trans rfl; have hfz7_0 := blk_frozen BK453.out 0; have hfz7_1 := blk_frozen BK453.out 1) | ((with_reducible refine gate_callee (f := 73) rfl ?_); refine goesL_ (some 7) rfl rfl Try.func73 (by kernel_rfl) rfl #[.int .i64 a0_0] rfl (by (try simp only [List.map_toArray, List.map_cons, List.map_nil]); first | done | rfl | (simp only [List.length_drop, List.length_take]; rfl)) ?_; (with_reducible refine (quietusref14_instant.calls a0_0 true _ A2.out).mono ?_); rintro e w' ⟨rfl, ⟨nd, rfl⟩⟩; refine ⟨_, rfl, ?_⟩) | ((with_reducible refine gate_callee (f := 73) rfl ?_); refine goesL_ (some 10) rfl rfl Try.func73 (by kernel_rfl) rfl #[.int .i64 a0_1] rfl (by (try simp only [List.map_toArray, List.map_cons, List.map_nil]); first | done | rfl | (simp only [List.length_drop, List.length_take]; rfl)) ?_; (with_reducible refine (quietusref14_instant.calls a0_1 true _ A3.out).mono ?_); rintro e w' ⟨rfl, ⟨nd, rfl⟩⟩; refine ⟨_, rfl, ?_⟩))
      go_ret
      exact ⟨by first | rfl | (simp [errW_none, errW_some] <;> rfl) | (simp [*, errW_none, errW_some] <;> rfl), by repeat (first | (with_reducible first | exact HB.out | apply below_alloc | apply pw_below_drewN | apply below_drew1 | refine below_set ?_ GE453.out) | exact HB.out)⟩
    · replace c5 := Bool.eq_false_iff.mpr c5
      subst c5
      have H1 : (some false) = some r := by rw [if_neg (show ¬ (false = true) by decide)] at H; exact H
      clear H
      have H := H1
      clear H1
      obtain rfl := Option.some.inj H
      go_enter Try.func50, Try.ntmps50
      go_wp2_with (first | ((with_reducible refine gate_dst (N := 1) rfl ?_); refine box_event ?hg (N := 1) ?hd (cs := #[.int .i64 a0_0, .int .i64 a0_1]) (t := 56) ?hr ?_; (case hd => rfl); (case hg => rfl); (case hr => first | (go_simp; done) | (go_simp; rfl)); intro gb453 hg w8 hbox hb; have n0_ := Aside0.mk (below_step (by repeat (first | (with_reducible first | exact HB.out | apply below_alloc | apply pw_below_drewN | apply below_drew1) | exact HB.out)) hb); have n1_ := Aside0.mk (hbox); have n2_ := Aside0.mk ((by rw [hg]; exact (below_size (by repeat (first | (with_reducible first | exact HB.out | apply below_alloc | apply pw_below_drewN | apply below_drew1) | exact HB.out))) : w.heap.size ≤ gb453)); have n3_ := Aside0.mk ((by rw [hg]; exact (below_size (by repeat (first | (with_reducible first | exact HB.out | apply below_alloc | apply pw_below_drewN | apply below_drew1) | exact HB.out))) : w.heap.size ≤ gb453)); clear HB; have HB := n0_; have BK453 := n1_; have GW453 := n2_; have GE453 := n3_; clear n0_ n1_ n2_ n3_; clear hb hbox hg; have hcz9_0 : w8.cell? ⟨gb453, 0, none⟩ = some (.int .i64 a0_0) := (blk_cell BK453.out 0).trans rfl; have hcz9_1 : w8.cell? ⟨gb453, 1, none⟩ = some (.int .i64 a0_1) := (blk_cell BK453.out 1).trans rfl; have hfz9_0 := blk_frozen BK453.out 0; have hfz9_1 := blk_frozen BK453.out 1) | ((with_reducible refine gate_callee (f := 73) rfl ?_); refine goesL_ (some 7) rfl rfl Try.func73 (by kernel_rfl) rfl #[.int .i64 a0_0] rfl (by (try simp only [List.map_toArray, List.map_cons, List.map_nil]); first | done | rfl | (simp only [List.length_drop, List.length_take]; rfl)) ?_; (with_reducible refine (quietusref14_instant.calls a0_0 true _ A2.out).mono ?_); rintro e w' ⟨rfl, ⟨nd, rfl⟩⟩; refine ⟨_, rfl, ?_⟩) | ((with_reducible refine gate_callee (f := 73) rfl ?_); refine goesL_ (some 10) rfl rfl Try.func73 (by kernel_rfl) rfl #[.int .i64 a0_1] rfl (by (try simp only [List.map_toArray, List.map_cons, List.map_nil]); first | done | rfl | (simp only [List.length_drop, List.length_take]; rfl)) ?_; (with_reducible refine (quietusref14_instant.calls a0_1 false _ A3.out).mono ?_); rintro e w' ⟨rfl, ⟨nd, rfl⟩⟩; refine ⟨_, rfl, ?_⟩))
      go_ret
      exact ⟨by first | rfl | (simp [errW_none, errW_some] <;> rfl) | (simp [*, errW_none, errW_some] <;> rfl), by repeat (first | (with_reducible first | exact HB.out | apply below_alloc | apply pw_below_drewN | apply below_drew1 | refine below_set ?_ GE453.out) | exact HB.out)⟩
  · replace c4 := Bool.eq_false_iff.mpr c4
    subst c4
    have H1 : (some false) = some r := by rw [if_neg (show ¬ (false = true) by decide)] at H; exact H
    clear H
    have H := H1
    clear H1
    obtain rfl := Option.some.inj H
    go_enter Try.func50, Try.ntmps50
    go_wp2_with (first | ((with_reducible refine gate_dst (N := 1) rfl ?_); refine box_event ?hg (N := 1) ?hd (cs := #[.int .i64 a0_0, .int .i64 a0_1]) (t := 56) ?hr ?_; (case hd => rfl); (case hg => rfl); (case hr => first | (go_simp; done) | (go_simp; rfl)); intro gb453 hg w10 hbox hb; have n0_ := Aside0.mk (below_step (by repeat (first | (with_reducible first | exact HB.out | apply below_alloc | apply pw_below_drewN | apply below_drew1) | exact HB.out)) hb); have n1_ := Aside0.mk (hbox); have n2_ := Aside0.mk ((by rw [hg]; exact (below_size (by repeat (first | (with_reducible first | exact HB.out | apply below_alloc | apply pw_below_drewN | apply below_drew1) | exact HB.out))) : w.heap.size ≤ gb453)); have n3_ := Aside0.mk ((by rw [hg]; exact (below_size (by repeat (first | (with_reducible first | exact HB.out | apply below_alloc | apply pw_below_drewN | apply below_drew1) | exact HB.out))) : w.heap.size ≤ gb453)); clear HB; have HB := n0_; have BK453 := n1_; have GW453 := n2_; have GE453 := n3_; clear n0_ n1_ n2_ n3_; clear hb hbox hg; have hcz11_0 : w10.cell? ⟨gb453, 0, none⟩ = some (.int .i64 a0_0) := (blk_cell BK453.out 0).trans rfl; have hcz11_1 : w10.cell? ⟨gb453, 1, none⟩ = some (.int .i64 a0_1) := (blk_cell BK453.out 1).trans rfl; have hfz11_0 := blk_frozen BK453.out 0; have hfz11_1 := blk_frozen BK453.out 1) | ((with_reducible refine gate_callee (f := 73) rfl ?_); refine goesL_ (some 7) rfl rfl Try.func73 (by kernel_rfl) rfl #[.int .i64 a0_0] rfl (by (try simp only [List.map_toArray, List.map_cons, List.map_nil]); first | done | rfl | (simp only [List.length_drop, List.length_take]; rfl)) ?_; (with_reducible refine (quietusref14_instant.calls a0_0 false _ A2.out).mono ?_); rintro e w' ⟨rfl, ⟨nd, rfl⟩⟩; refine ⟨_, rfl, ?_⟩) | ((with_reducible refine gate_callee (f := 73) rfl ?_); refine goesL_ (some 10) rfl rfl Try.func73 (by kernel_rfl) rfl #[.int .i64 a0_1] rfl (by (try simp only [List.map_toArray, List.map_cons, List.map_nil]); first | done | rfl | (simp only [List.length_drop, List.length_take]; rfl)) ?_; (with_reducible refine (quietusref14_instant.calls a0_1 t455 _ A3.out).mono ?_); rintro e w' ⟨rfl, ⟨nd, rfl⟩⟩; refine ⟨_, rfl, ?_⟩))
    go_ret
    exact ⟨by first | rfl | (simp [errW_none, errW_some] <;> rfl) | (simp [*, errW_none, errW_some] <;> rfl), by repeat (first | (with_reducible first | exact HB.out | apply below_alloc | apply pw_below_drewN | apply below_drew1 | refine below_set ?_ GE453.out) | exact HB.out)⟩
def quietusref14_read.f (a0_0 : Int) (a0_1 : Int) (a0_2 : Int) : Option (Bool) := (quietusref14_instant.f a0_0).bind fun t457 => ((quietusref14_Valid.f a0_1 a0_2).bind fun t458 => (if t457 = true then (some t458) else (some false)))
set_option maxHeartbeats 8000000 in
set_option maxRecDepth 100000 in
theorem quietusref14_read.calls (a0_0 : Int) (a0_1 : Int) (a0_2 : Int) (r : Bool) (w : World) (h : quietusref14_read.f a0_0 a0_1 a0_2 = some r) :
    Calls Try.prog 78 #[.agg #[.int .i64 a0_0, .int .i64 a0_1, .int .i64 a0_2]] w fun e w' => e = .returned (.bool r) ∧ Below w.heap.size w w' := by
  have hu58 := Try.underlying58
  have hu56 := Try.underlying56
  have HB := Aside0.mk (Below.refl w.heap.size w)
  have H : ((quietusref14_instant.f a0_0).bind fun t457 => ((quietusref14_Valid.f a0_1 a0_2).bind fun t458 => (if t457 = true then (some t458) else (some false)))) = some r := h
  clear h
  replace H := Option.bind_eq_some_iff.mp H
  obtain ⟨t457, A20, H⟩ := H
  replace H : ((quietusref14_Valid.f a0_1 a0_2).bind fun t458 => (if t457 = true then (some t458) else (some false))) = some r := H
  have A2 := Aside0.mk A20
  clear A20
  replace H := Option.bind_eq_some_iff.mp H
  obtain ⟨t458, A30, H⟩ := H
  replace H : (if t457 = true then (some t458) else (some false)) = some r := H
  have A3 := Aside0.mk A30
  clear A30
  by_cases c4 : t457 = true
  · subst c4
    have H1 : (some t458) = some r := by rw [if_pos rfl] at H; exact H
    clear H
    have H := H1
    clear H1
    obtain rfl := Option.some.inj H
    go_enter Try.func78, Try.ntmps78
    go_wp2_with (first | ((with_reducible refine gate_dst (N := 1) rfl ?_); refine box_event ?hg (N := 1) ?hd (cs := #[.int .i64 a0_0, .int .i64 a0_1, .int .i64 a0_2]) (t := 58) ?hr ?_; (case hd => rfl); (case hg => rfl); (case hr => first | (go_simp; done) | (go_simp; rfl)); intro gb456 hg w5 hbox hb; have n0_ := Aside0.mk (below_step (by repeat (first | (with_reducible first | exact HB.out | apply below_alloc | apply pw_below_drewN | apply below_drew1) | exact HB.out)) hb); have n1_ := Aside0.mk (hbox); have n2_ := Aside0.mk ((by rw [hg]; exact (below_size (by repeat (first | (with_reducible first | exact HB.out | apply below_alloc | apply pw_below_drewN | apply below_drew1) | exact HB.out))) : w.heap.size ≤ gb456)); have n3_ := Aside0.mk ((by rw [hg]; exact (below_size (by repeat (first | (with_reducible first | exact HB.out | apply below_alloc | apply pw_below_drewN | apply below_drew1) | exact HB.out))) : w.heap.size ≤ gb456)); clear HB; have HB := n0_; have BK456 := n1_; have GW456 := n2_; have GE456 := n3_; clear n0_ n1_ n2_ n3_; clear hb hbox hg; have hcz6_0 : w5.cell? ⟨gb456, 0, none⟩ = some (.int .i64 a0_0) := (blk_cell BK456.out 0).trans rfl; have hcz6_1 : w5.cell? ⟨gb456, 1, none⟩ = some (.int .i64 a0_1) := (blk_cell BK456.out 1).trans rfl; have hcz6_2 : w5.cell? ⟨gb456, 2, none⟩ = some (.int .i64 a0_2) := (blk_cell BK456.out 2).trans rfl; have hfz6_0 := blk_frozen BK456.out 0; have hfz6_1 := blk_frozen BK456.out 1; have hfz6_2 := blk_frozen BK456.out 2) | ((with_reducible refine gate_callee (f := 73) rfl ?_); refine goesL_ (some 7) rfl rfl Try.func73 (by kernel_rfl) rfl #[.int .i64 a0_0] rfl (by (try simp only [List.map_toArray, List.map_cons, List.map_nil]); first | done | rfl | (simp only [List.length_drop, List.length_take]; rfl)) ?_; (with_reducible refine (quietusref14_instant.calls a0_0 true _ A2.out).mono ?_); rintro e w' ⟨rfl, ⟨nd, rfl⟩⟩; refine ⟨_, rfl, ?_⟩) | ((with_reducible refine gate_callee (f := 50) rfl ?_); refine goesL_ (some 10) rfl rfl Try.func50 (by kernel_rfl) rfl #[.agg #[.int .i64 a0_1, .int .i64 a0_2]] rfl (by (try simp only [List.map_toArray, List.map_cons, List.map_nil]); first | done | rfl | (simp only [List.length_drop, List.length_take]; rfl)) ?_; (with_reducible refine (quietusref14_Valid.calls a0_1 a0_2 t458 _ A3.out).mono ?_); rintro e w7 ⟨rfl, hb⟩; refine ⟨_, rfl, ?_⟩; have n0_ := Aside0.mk (blk_below (g := gb456) (o := .cells #[.int .i64 a0_0, .int .i64 a0_1, .int .i64 a0_2] 58 (0, 0)) (by (with_reducible repeat (first | refine blk_drewN ?_ _ | refine blk_drew ?_ | refine blk_alloc ?_ _)); exact BK456.out) hb); have n1_ := Aside0.mk (below_step (by repeat (first | (with_reducible first | exact HB.out | apply below_alloc | apply pw_below_drewN | apply below_drew1 | refine below_set ?_ GE456.out) | exact HB.out)) hb); clear BK456; clear HB; have BK456 := n0_; have HB := n1_; clear n0_ n1_; (try clear hb); (try clear hb2); (try clear hk); (try clear hi)))
    go_ret
    exact ⟨by first | rfl | (simp [errW_none, errW_some] <;> rfl) | (simp [*, errW_none, errW_some] <;> rfl), by repeat (first | (with_reducible first | exact HB.out | apply below_alloc | apply pw_below_drewN | apply below_drew1 | refine below_set ?_ GE456.out) | exact HB.out)⟩
  · replace c4 := Bool.eq_false_iff.mpr c4
    subst c4
    have H1 : (some false) = some r := by rw [if_neg (show ¬ (false = true) by decide)] at H; exact H
    clear H
    have H := H1
    clear H1
    obtain rfl := Option.some.inj H
    go_enter Try.func78, Try.ntmps78
    go_wp2_with (first | ((with_reducible refine gate_dst (N := 1) rfl ?_); refine box_event ?hg (N := 1) ?hd (cs := #[.int .i64 a0_0, .int .i64 a0_1, .int .i64 a0_2]) (t := 58) ?hr ?_; (case hd => rfl); (case hg => rfl); (case hr => first | (go_simp; done) | (go_simp; rfl)); intro gb456 hg w8 hbox hb; have n0_ := Aside0.mk (below_step (by repeat (first | (with_reducible first | exact HB.out | apply below_alloc | apply pw_below_drewN | apply below_drew1) | exact HB.out)) hb); have n1_ := Aside0.mk (hbox); have n2_ := Aside0.mk ((by rw [hg]; exact (below_size (by repeat (first | (with_reducible first | exact HB.out | apply below_alloc | apply pw_below_drewN | apply below_drew1) | exact HB.out))) : w.heap.size ≤ gb456)); have n3_ := Aside0.mk ((by rw [hg]; exact (below_size (by repeat (first | (with_reducible first | exact HB.out | apply below_alloc | apply pw_below_drewN | apply below_drew1) | exact HB.out))) : w.heap.size ≤ gb456)); clear HB; have HB := n0_; have BK456 := n1_; have GW456 := n2_; have GE456 := n3_; clear n0_ n1_ n2_ n3_; clear hb hbox hg; have hcz9_0 : w8.cell? ⟨gb456, 0, none⟩ = some (.int .i64 a0_0) := (blk_cell BK456.out 0).trans rfl; have hcz9_1 : w8.cell? ⟨gb456, 1, none⟩ = some (.int .i64 a0_1) := (blk_cell BK456.out 1).trans rfl; have hcz9_2 : w8.cell? ⟨gb456, 2, none⟩ = some (.int .i64 a0_2) := (blk_cell BK456.out 2).trans rfl; have hfz9_0 := blk_frozen BK456.out 0; have hfz9_1 := blk_frozen BK456.out 1; have hfz9_2 := blk_frozen BK456.out 2) | ((with_reducible refine gate_callee (f := 73) rfl ?_); refine goesL_ (some 7) rfl rfl Try.func73 (by kernel_rfl) rfl #[.int .i64 a0_0] rfl (by (try simp only [List.map_toArray, List.map_cons, List.map_nil]); first | done | rfl | (simp only [List.length_drop, List.length_take]; rfl)) ?_; (with_reducible refine (quietusref14_instant.calls a0_0 false _ A2.out).mono ?_); rintro e w' ⟨rfl, ⟨nd, rfl⟩⟩; refine ⟨_, rfl, ?_⟩) | ((with_reducible refine gate_callee (f := 50) rfl ?_); refine goesL_ (some 10) rfl rfl Try.func50 (by kernel_rfl) rfl #[.agg #[.int .i64 a0_1, .int .i64 a0_2]] rfl (by (try simp only [List.map_toArray, List.map_cons, List.map_nil]); first | done | rfl | (simp only [List.length_drop, List.length_take]; rfl)) ?_; (with_reducible refine (quietusref14_Valid.calls a0_1 a0_2 t458 _ A3.out).mono ?_); rintro e w10 ⟨rfl, hb⟩; refine ⟨_, rfl, ?_⟩; have n0_ := Aside0.mk (blk_below (g := gb456) (o := .cells #[.int .i64 a0_0, .int .i64 a0_1, .int .i64 a0_2] 58 (0, 0)) (by (with_reducible repeat (first | refine blk_drewN ?_ _ | refine blk_drew ?_ | refine blk_alloc ?_ _)); exact BK456.out) hb); have n1_ := Aside0.mk (below_step (by repeat (first | (with_reducible first | exact HB.out | apply below_alloc | apply pw_below_drewN | apply below_drew1 | refine below_set ?_ GE456.out) | exact HB.out)) hb); clear BK456; clear HB; have BK456 := n0_; have HB := n1_; clear n0_ n1_; (try clear hb); (try clear hb2); (try clear hk); (try clear hi)))
    go_ret
    exact ⟨by first | rfl | (simp [errW_none, errW_some] <;> rfl) | (simp [*, errW_none, errW_some] <;> rfl), by repeat (first | (with_reducible first | exact HB.out | apply below_alloc | apply pw_below_drewN | apply below_drew1 | refine below_set ?_ GE456.out) | exact HB.out)⟩
open Go.Proofs.YteknbadjfojmbaaW.PrintWords renaming blk_drewN → zm_, blk_drew → zn_, blk_alloc → zo_, blk_below → zq_, below_set → zr_, below_alloc → zs_, pw_below_drewN → zt_, below_drew1 → zu_, below_step → zv_, below_size → zw_
mutual
def quietusref14_Check.j0 : Nat → Bool → Int → List (S58) → Option (Int)
  | 0, _, _, _ => none
  | k + 1, x12, x460000, x460001 => if x12 = true then (some 3) else (if (x460001.length : Int) > 16 then (some 2) else (quietusref14_Check.l0 k 0 x460000 x460001))
def quietusref14_Check.l0 : Nat → Int → Int → List (S58) → Option (Int)
  | 0, _, _, _ => none
  | k + 1, x3, x460000, x460001 => if x3 < (x460001.length : Int) then (if 0 ≤ x3 then ((quietusref14_read.f ((rd_T58 x460001 x3).f0) ((rd_T58 x460001 x3).f1.f0) ((rd_T58 x460001 x3).f1.f1)).bind fun t461 => (if t461 = true then (if x3 > 0 then (if 0 ≤ (wrap64 (x3 - 1)) then (if (wrap64 (x3 - 1)) < (x460001.length : Int) then (if ((rd_T58 x460001 x3).f0) ≤ ((rd_T58 x460001 (wrap64 (x3 - 1))).f0) then (some 1) else (quietusref14_Check.l0 k (wrap64 (x3 + 1)) x460000 x460001)) else (none)) else (none)) else (quietusref14_Check.l0 k (wrap64 (x3 + 1)) x460000 x460001)) else (some 3))) else (none)) else (some 0)
end
def quietusref14_Check.f (k : Nat) (a0_0 : Int) (l0_1 : List (S58)) : Option (Int) := if a0_0 < 0 then (quietusref14_Check.j0 k true a0_0 l0_1) else (quietusref14_Check.j0 k (decide (a0_0 > 100000)) a0_0 l0_1)
set_option maxHeartbeats 8000000 in
set_option maxRecDepth 100000 in
theorem quietusref14_Check.calls (k : Nat) (a0_0 : Int) (A0_1 : Option Addr) (c0_1 : Nat) (l0_1 : List (S58)) (r : Int) (w : World) (hr0_1 : Kd.C k58 w A0_1 l0_1.length l0_1) (hc0_1 : l0_1.length ≤ c0_1) (h : quietusref14_Check.f k a0_0 l0_1 = some r) :
    Calls Try.prog 44 #[.agg #[.int .i64 a0_0, .slice A0_1 l0_1.length c0_1]] w fun e w' => e = .returned (.int .i64 r) ∧ Below w.heap.size w w' := by
  have hu54 := Try.underlying54
  have hu58 := Try.underlying58
  have HR0_1 := Aside0.mk hr0_1
  have HC0_1 := Aside0.mk hc0_1
  clear hr0_1 hc0_1
  have HB := Aside0.mk (Below.refl w.heap.size w)
  have H : (if a0_0 < 0 then (quietusref14_Check.j0 k true a0_0 l0_1) else (quietusref14_Check.j0 k (decide (a0_0 > 100000)) a0_0 l0_1)) = some r := h
  clear h
  have HC2 := Aside0.mk H
  clear H
  go_enter Try.func44, Try.ntmps44
  go_upto_region 1 with (first | ((with_reducible refine gate_dst (N := 1) rfl ?_); refine box_event ?hg (N := 1) ?hd (cs := #[.int .i64 a0_0, .slice A0_1 l0_1.length c0_1]) (t := 54) ?hr ?_; (case hd => rfl); (case hg => rfl); (case hr => first | (go_simp; done) | (go_simp; rfl)); intro gb459 hg w3 hbox hb; have n0_ := Aside0.mk (zv_ (by repeat (first | (with_reducible first | exact HB.out | apply zs_ | apply zt_ | apply zu_) | exact HB.out)) hb); have n1_ := Aside0.mk (hbox); have n2_ := Aside0.mk ((by rw [hg]; exact (zw_ (by repeat (first | (with_reducible first | exact HB.out | apply zs_ | apply zt_ | apply zu_) | exact HB.out))) : w.heap.size ≤ gb459)); have n3_ := Aside0.mk ((by rw [hg]; exact (zw_ (by repeat (first | (with_reducible first | exact HB.out | apply zs_ | apply zt_ | apply zu_) | exact HB.out))) : w.heap.size ≤ gb459)); clear HB; have HB := n0_; have BK459 := n1_; have GW459 := n2_; have GE459 := n3_; clear n0_ n1_ n2_ n3_; clear hb hbox hg))
  repeat (go_quiet (first | ((with_reducible refine gate_dst (N := 1) rfl ?_); refine box_event ?hg (N := 1) ?hd (cs := #[.int .i64 a0_0, .slice A0_1 l0_1.length c0_1]) (t := 54) ?hr ?_; (case hd => rfl); (case hg => rfl); (case hr => first | (go_simp; done) | (go_simp; rfl)); intro gb459 hg w3 hbox hb; have n0_ := Aside0.mk (zv_ (by repeat (first | (with_reducible first | exact HB.out | apply zs_ | apply zt_ | apply zu_) | exact HB.out)) hb); have n1_ := Aside0.mk (hbox); have n2_ := Aside0.mk ((by rw [hg]; exact (zw_ (by repeat (first | (with_reducible first | exact HB.out | apply zs_ | apply zt_ | apply zu_) | exact HB.out))) : w.heap.size ≤ gb459)); have n3_ := Aside0.mk ((by rw [hg]; exact (zw_ (by repeat (first | (with_reducible first | exact HB.out | apply zs_ | apply zt_ | apply zu_) | exact HB.out))) : w.heap.size ≤ gb459)); clear HB; have HB := n0_; have BK459 := n1_; have GW459 := n2_; have GE459 := n3_; clear n0_ n1_ n2_ n3_; clear hb hbox hg)); go_upto_region 1 with (first | ((with_reducible refine gate_dst (N := 1) rfl ?_); refine box_event ?hg (N := 1) ?hd (cs := #[.int .i64 a0_0, .slice A0_1 l0_1.length c0_1]) (t := 54) ?hr ?_; (case hd => rfl); (case hg => rfl); (case hr => first | (go_simp; done) | (go_simp; rfl)); intro gb459 hg w3 hbox hb; have n0_ := Aside0.mk (zv_ (by repeat (first | (with_reducible first | exact HB.out | apply zs_ | apply zt_ | apply zu_) | exact HB.out)) hb); have n1_ := Aside0.mk (hbox); have n2_ := Aside0.mk ((by rw [hg]; exact (zw_ (by repeat (first | (with_reducible first | exact HB.out | apply zs_ | apply zt_ | apply zu_) | exact HB.out))) : w.heap.size ≤ gb459)); have n3_ := Aside0.mk ((by rw [hg]; exact (zw_ (by repeat (first | (with_reducible first | exact HB.out | apply zs_ | apply zt_ | apply zu_) | exact HB.out))) : w.heap.size ≤ gb459)); clear HB; have HB := n0_; have BK459 := n1_; have GW459 := n2_; have GE459 := n3_; clear n0_ n1_ n2_ n3_; clear hb hbox hg)))
  (try simp only [Act.put, List.setIfInBounds_toArray, List.set_cons_zero, List.set_cons_succ])
  go_cut [12] (fun v12 wc => ∃ (kq : Nat) (x12_1 : Bool), v12 = .bool x12_1 ∧ Aside0 (quietusref14_Check.j0 kq x12_1 a0_0 l0_1 = some r) ∧ Aside0 (kq ≤ k) ∧ Aside0 (wc.heap[gb459]? = some (.cells #[.int .i64 a0_0, (.slice A0_1 l0_1.length c0_1)] 54 (0, 0))) ∧ Aside0 (Below w.heap.size w wc))
  case first =>
    have H := HC2.out
    clear HC2
    by_cases c4 : a0_0 < 0
    · rw [if_pos c4] at H
      have c4b0 : decide (a0_0 < 0) = true := decide_eq_true c4
      clear c4
      (first | rw [c4b0] | (simp only [i64_w, i32_w]; rw [c4b0]) | rw [c4b1] | skip)
      have H' := Aside0.mk H
      clear H
      have hcz5_0 : w3.cell? ⟨gb459, 0, none⟩ = some (.int .i64 a0_0) := (blk_cell BK459.out 0).trans rfl
      have hcz5_1 : w3.cell? ⟨gb459, 1, none⟩ = some (.slice A0_1 l0_1.length c0_1) := (blk_cell BK459.out 1).trans rfl
      have hfz5_0 := blk_frozen BK459.out 0
      have hfz5_1 := blk_frozen BK459.out 1
      go_wp2
      repeat (go_quiet (fail); try go_wp2)
      first | go_meet | (simp only [← hji16]; go_meet) | (simp only [hji16]; go_meet)
      case rel => exact ⟨_, (true), (by first | rfl | (simp; done) | (simp [*]; done)), (by first | exact H' | (simp only [hji16]; exact H') | (rw [hji16]; exact H')), ⟨by first | omega | exact Nat.le_refl _⟩, ⟨by (with_reducible repeat (first | refine zm_ ?_ _ | refine zn_ ?_ | refine zo_ ?_ _)); exact BK459.out⟩, ⟨by repeat (first | (with_reducible first | exact HB.out | apply zs_ | apply zt_ | apply zu_ | refine zr_ ?_ GE459.out) | exact HB.out)⟩⟩
    · rw [if_neg c4] at H
      have c4b0 : decide (a0_0 < 0) = false := decide_eq_false c4
      clear c4
      (first | rw [c4b0] | (simp only [i64_w, i32_w]; rw [c4b0]) | rw [c4b1] | skip)
      have H' := Aside0.mk H
      clear H
      have hcz6_0 : w3.cell? ⟨gb459, 0, none⟩ = some (.int .i64 a0_0) := (blk_cell BK459.out 0).trans rfl
      have hcz6_1 : w3.cell? ⟨gb459, 1, none⟩ = some (.slice A0_1 l0_1.length c0_1) := (blk_cell BK459.out 1).trans rfl
      have hfz6_0 := blk_frozen BK459.out 0
      have hfz6_1 := blk_frozen BK459.out 1
      go_wp2
      repeat (go_quiet (fail); try go_wp2)
      first | go_meet | (simp only [← hji16]; go_meet) | (simp only [hji16]; go_meet)
      case rel => exact ⟨_, (decide (a0_0 > 100000)), (by first | rfl | (simp; done) | (simp [*]; done)), (by first | exact H' | (simp only [hji16]; exact H') | (rw [hji16]; exact H')), ⟨by first | omega | exact Nat.le_refl _⟩, ⟨by (with_reducible repeat (first | refine zm_ ?_ _ | refine zn_ ?_ | refine zo_ ?_ _)); exact BK459.out⟩, ⟨by repeat (first | (with_reducible first | exact HB.out | apply zs_ | apply zt_ | apply zu_ | refine zr_ ?_ GE459.out) | exact HB.out)⟩⟩
  case rest =>
    clear HC2
    try clear p2
    try clear c4
    try clear c4b0
    try clear hcz5_0
    try clear hcz5_1
    try clear hcz6_0
    try clear hcz6_1
    try clear hfz5_0
    try clear hfz5_1
    try clear hfz6_0
    try clear hfz6_1
    obtain ⟨kq, x12_1, rfl, HA, HJ1, BK459, HB⟩ := hcut
    cases kq with
    | zero => exact absurd HA.out (by simp [quietusref14_Check.j0])
    | succ kj1 =>
      have H := HA.out
      clear HA
      simp only [quietusref14_Check.j0] at H
      by_cases c7 : x12_1 = true
      · subst c7
        have H1 : (some 3) = some r := by rw [if_pos rfl] at H; exact H
        clear H
        have H := H1
        clear H1
        obtain rfl := Option.some.inj H
        go_wp2
        repeat (go_quiet (fail); try go_wp2)
        go_ret
        exact ⟨by first | rfl | (simp [errW_none, errW_some] <;> rfl) | (simp [*, errW_none, errW_some] <;> rfl), by repeat (first | (with_reducible first | exact HB.out | apply zs_ | apply zt_ | apply zu_ | refine zr_ ?_ GE459.out) | exact HB.out)⟩
      · replace c7 := Bool.eq_false_iff.mpr c7
        subst c7
        have H1 : (if (l0_1.length : Int) > 16 then (some 2) else (quietusref14_Check.l0 kj1 0 a0_0 l0_1)) = some r := by rw [if_neg (show ¬ (false = true) by decide)] at H; exact H
        clear H
        have H := H1
        clear H1
        by_cases c8 : (l0_1.length : Int) > 16
        · rw [if_pos c8] at H
          have c8b0 : decide (16 < (l0_1.length : Int)) = true := decide_eq_true c8
          have c8b1 : decide (16 < l0_1.length) = true := decide_eq_true (by omega)
          clear c8
          obtain rfl := Option.some.inj H
          have hcz9_0 : wc.cell? ⟨gb459, 0, none⟩ = some (.int .i64 a0_0) := (blk_cell BK459.out 0).trans rfl
          have hcz9_1 : wc.cell? ⟨gb459, 1, none⟩ = some (.slice A0_1 l0_1.length c0_1) := (blk_cell BK459.out 1).trans rfl
          have hfz9_0 := blk_frozen BK459.out 0
          have hfz9_1 := blk_frozen BK459.out 1
          go_wp2
          repeat (go_quiet (fail); try go_wp2)
          go_ret
          exact ⟨by first | rfl | (simp [errW_none, errW_some] <;> rfl) | (simp [*, errW_none, errW_some] <;> rfl), by repeat (first | (with_reducible first | exact HB.out | apply zs_ | apply zt_ | apply zu_ | refine zr_ ?_ GE459.out) | exact HB.out)⟩
        · rw [if_neg c8] at H
          have c8b0 : decide (16 < (l0_1.length : Int)) = false := decide_eq_false c8
          have c8b1 : decide (16 < l0_1.length) = false := decide_eq_false (by omega)
          clear c8
          have H' := Aside0.mk H
          clear H
          have hcz10_0 : wc.cell? ⟨gb459, 0, none⟩ = some (.int .i64 a0_0) := (blk_cell BK459.out 0).trans rfl
          have hcz10_1 : wc.cell? ⟨gb459, 1, none⟩ = some (.slice A0_1 l0_1.length c0_1) := (blk_cell BK459.out 1).trans rfl
          have hfz10_0 := blk_frozen BK459.out 0
          have hfz10_1 := blk_frozen BK459.out 1
          go_wp2
          repeat (go_quiet (fail); try go_wp2)
          go_loopg [3] kj1 (fun kq v3 w' => ∃ (x3_2 : Int), v3 = .int .i64 x3_2 ∧ Aside0 (quietusref14_Check.l0 kq x3_2 a0_0 l0_1 = some r) ∧ Aside0 (kq ≤ kj1) ∧ Aside0 (w'.heap[gb459]? = some (.cells #[.int .i64 a0_0, (.slice A0_1 l0_1.length c0_1)] 54 (0, 0))) ∧ Aside0 (Below w.heap.size w w'))
          case atStart => exact ⟨(0), (by first | rfl | (simp; done) | (simp [*]; done)), H', ⟨Nat.le_refl _⟩, ⟨by (with_reducible repeat (first | refine zm_ ?_ _ | refine zn_ ?_ | refine zo_ ?_ _)); exact BK459.out⟩, ⟨by repeat (first | (with_reducible first | exact HB.out | apply zs_ | apply zt_ | apply zu_ | refine zr_ ?_ GE459.out) | exact HB.out)⟩⟩
          case round =>
            clear H'
            try clear p2
            try clear c4
            try clear c4b0
            try clear c7
            try clear c8
            try clear c8b0
            try clear c8b1
            try clear hcz10_0
            try clear hcz10_1
            try clear hcz5_0
            try clear hcz5_1
            try clear hcz6_0
            try clear hcz6_1
            try clear hcz9_0
            try clear hcz9_1
            try clear hfz10_0
            try clear hfz10_1
            try clear hfz5_0
            try clear hfz5_1
            try clear hfz6_0
            try clear hfz6_1
            try clear hfz9_0
            try clear hfz9_1
            try clear p2
            obtain ⟨x3_2, rfl, HA, HK2, BK459, HB⟩ := hrel
            cases gk with
            | zero => exact absurd HA.out (by simp [quietusref14_Check.l0])
            | succ k2 =>
              have H := HA.out
              clear HA
              simp only [quietusref14_Check.l0] at H
              by_cases c11 : x3_2 < (l0_1.length : Int)
              · rw [if_pos c11] at H
                have c11b0 : decide (x3_2 < (l0_1.length : Int)) = true := decide_eq_true c11
                clear c11
                by_cases c12 : 0 ≤ x3_2
                · rw [if_pos c12] at H
                  have c12b0 : decide (0 ≤ x3_2) = true := decide_eq_true c12
                  clear c12
                  replace H := Option.bind_eq_some_iff.mp H
                  obtain ⟨t461, A130, H⟩ := H
                  replace H : (if t461 = true then (if x3_2 > 0 then (if 0 ≤ (wrap64 (x3_2 - 1)) then (if (wrap64 (x3_2 - 1)) < (l0_1.length : Int) then (if ((rd_T58 l0_1 x3_2).f0) ≤ ((rd_T58 l0_1 (wrap64 (x3_2 - 1))).f0) then (some 1) else (quietusref14_Check.l0 k2 (wrap64 (x3_2 + 1)) a0_0 l0_1)) else (none)) else (none)) else (quietusref14_Check.l0 k2 (wrap64 (x3_2 + 1)) a0_0 l0_1)) else (some 3)) = some r := H
                  have A13 := Aside0.mk A130
                  clear A130
                  by_cases c14 : t461 = true
                  · subst c14
                    have H1 : (if x3_2 > 0 then (if 0 ≤ (wrap64 (x3_2 - 1)) then (if (wrap64 (x3_2 - 1)) < (l0_1.length : Int) then (if ((rd_T58 l0_1 x3_2).f0) ≤ ((rd_T58 l0_1 (wrap64 (x3_2 - 1))).f0) then (some 1) else (quietusref14_Check.l0 k2 (wrap64 (x3_2 + 1)) a0_0 l0_1)) else (none)) else (none)) else (quietusref14_Check.l0 k2 (wrap64 (x3_2 + 1)) a0_0 l0_1)) = some r := by rw [if_pos rfl] at H; exact H
                    clear H
                    have H := H1
                    clear H1
                    by_cases c15 : x3_2 > 0
                    · rw [if_pos c15] at H
                      have c15b0 : decide (0 < x3_2) = true := decide_eq_true c15
                      clear c15
                      obtain ⟨ji16, hji16⟩ : ∃ j_ : Int, (wrap64 (x3_2 - 1)) = j_ := ⟨_, rfl⟩
                      replace H : (if 0 ≤ (ji16) then (if (ji16) < (l0_1.length : Int) then (if ((rd_T58 l0_1 x3_2).f0) ≤ ((rd_T58 l0_1 (ji16)).f0) then (some 1) else (quietusref14_Check.l0 k2 (wrap64 (x3_2 + 1)) a0_0 l0_1)) else (none)) else (none)) = some r := by first | (rw [hji16] at H; exact H) | (simp only [hji16] at H ⊢; exact H)
                      (try rw [hji16] at A13)
                      have hji16w : (IntKind.i64.wrap (x3_2 - 1)) = ji16 := (i64_w _).trans hji16
                      by_cases c17 : 0 ≤ (ji16)
                      · rw [if_pos c17] at H
                        have c17b0 : decide (0 ≤ (ji16)) = true := decide_eq_true c17
                        clear c17
                        by_cases c18 : (ji16) < (l0_1.length : Int)
                        · rw [if_pos c18] at H
                          have c18b0 : decide ((ji16) < (l0_1.length : Int)) = true := decide_eq_true c18
                          clear c18
                          by_cases c19 : ((rd_T58 l0_1 x3_2).f0) ≤ ((rd_T58 l0_1 (ji16)).f0)
                          · rw [if_pos c19] at H
                            have c19b0 : decide (((rd_T58 l0_1 x3_2).f0) ≤ ((rd_T58 l0_1 (ji16)).f0)) = true := decide_eq_true c19
                            clear c19
                            obtain rfl := Option.some.inj H
                            have hcz20_0 : wr.cell? ⟨gb459, 0, none⟩ = some (.int .i64 a0_0) := (blk_cell BK459.out 0).trans rfl
                            have hcz20_1 : wr.cell? ⟨gb459, 1, none⟩ = some (.slice A0_1 l0_1.length c0_1) := (blk_cell BK459.out 1).trans rfl
                            have hfz20_0 := blk_frozen BK459.out 0
                            have hfz20_1 := blk_frozen BK459.out 1
                            have p460 : 0 ≤ (x3_2 : Int) := of_decide_eq_true (by first | (with_reducible assumption) | assumption)
                            have q460 : x3_2 < (l0_1.length : Int) := of_decide_eq_true (by first | (with_reducible assumption) | assumption)
                            obtain ⟨ad460, e460, hx460_0, hx460_1, hx460_2⟩ := at_T58 HR0_1.out x3_2 p460 q460
                            cases e460
                            replace hx460_0 := (HB.out.cell (World.block_lt_of_cell? w _ hx460_0)).trans hx460_0
                            replace hx460_1 := (HB.out.cell (World.block_lt_of_cell? w _ hx460_1)).trans hx460_1
                            replace hx460_2 := (HB.out.cell (World.block_lt_of_cell? w _ hx460_2)).trans hx460_2
                            replace p460 := eq_true p460
                            replace q460 := eq_true q460
                            go_wp2_with (first | (go_at_call 78; (with_reducible refine (quietusref14_read.calls ((rd_T58 l0_1 x3_2).f0) ((rd_T58 l0_1 x3_2).f1.f0) ((rd_T58 l0_1 x3_2).f1.f1) true _ A13.out).mono ?_); rintro e w21 ⟨rfl, hb⟩; have n0_ := Aside0.mk (zq_ (g := gb459) (o := .cells #[.int .i64 a0_0, .slice (some ad460) l0_1.length c0_1] 54 (0, 0)) (by (with_reducible repeat (first | refine zm_ ?_ _ | refine zn_ ?_ | refine zo_ ?_ _)); exact BK459.out) hb); have n1_ := Aside0.mk (zv_ (by repeat (first | (with_reducible first | exact HB.out | apply zs_ | apply zt_ | apply zu_ | refine zr_ ?_ GE459.out) | exact HB.out)) hb); clear BK459; clear HB; have BK459 := n0_; have HB := n1_; clear n0_ n1_; (try clear hb); (try clear hb2); (try clear hk); (try clear hi); have hcz22_0 : w21.cell? ⟨gb459, 0, none⟩ = some (.int .i64 a0_0) := (blk_cell BK459.out 0).trans rfl; have hcz22_1 : w21.cell? ⟨gb459, 1, none⟩ = some (.slice (some ad460) l0_1.length c0_1) := (blk_cell BK459.out 1).trans rfl; have hfz22_0 := blk_frozen BK459.out 0; have hfz22_1 := blk_frozen BK459.out 1; have p462 : 0 ≤ (x3_2 : Int) := of_decide_eq_true (by first | (with_reducible assumption) | assumption); have q462 : x3_2 < (l0_1.length : Int) := of_decide_eq_true (by first | (with_reducible assumption) | assumption); obtain ⟨ad462, e462, hx462_0, hx462_1, hx462_2⟩ := at_T58 HR0_1.out x3_2 p462 q462; obtain rfl : ad460 = ad462 := (by injection e462); replace hx462_0 := (HB.out.cell (World.block_lt_of_cell? w _ hx462_0)).trans hx462_0; replace hx462_1 := (HB.out.cell (World.block_lt_of_cell? w _ hx462_1)).trans hx462_1; replace hx462_2 := (HB.out.cell (World.block_lt_of_cell? w _ hx462_2)).trans hx462_2; replace p462 := eq_true p462; replace q462 := eq_true q462; have p463 : 0 ≤ ((ji16) : Int) := of_decide_eq_true (by first | (with_reducible assumption) | assumption); have q463 : (ji16) < (l0_1.length : Int) := of_decide_eq_true (by first | (with_reducible assumption) | assumption); obtain ⟨ad463, e463, hx463_0, hx463_1, hx463_2⟩ := at_T58 HR0_1.out (ji16) p463 q463; obtain rfl : ad460 = ad463 := (by injection e463); replace hx463_0 := (HB.out.cell (World.block_lt_of_cell? w _ hx463_0)).trans hx463_0; replace hx463_1 := (HB.out.cell (World.block_lt_of_cell? w _ hx463_1)).trans hx463_1; replace hx463_2 := (HB.out.cell (World.block_lt_of_cell? w _ hx463_2)).trans hx463_2; replace p463 := eq_true p463; replace q463 := eq_true q463))
                            repeat (go_quiet (first | (go_at_call 78; (with_reducible refine (quietusref14_read.calls ((rd_T58 l0_1 x3_2).f0) ((rd_T58 l0_1 x3_2).f1.f0) ((rd_T58 l0_1 x3_2).f1.f1) true _ A13.out).mono ?_); rintro e w21 ⟨rfl, hb⟩; have n0_ := Aside0.mk (zq_ (g := gb459) (o := .cells #[.int .i64 a0_0, .slice (some ad460) l0_1.length c0_1] 54 (0, 0)) (by (with_reducible repeat (first | refine zm_ ?_ _ | refine zn_ ?_ | refine zo_ ?_ _)); exact BK459.out) hb); have n1_ := Aside0.mk (zv_ (by repeat (first | (with_reducible first | exact HB.out | apply zs_ | apply zt_ | apply zu_ | refine zr_ ?_ GE459.out) | exact HB.out)) hb); clear BK459; clear HB; have BK459 := n0_; have HB := n1_; clear n0_ n1_; (try clear hb); (try clear hb2); (try clear hk); (try clear hi); have hcz22_0 : w21.cell? ⟨gb459, 0, none⟩ = some (.int .i64 a0_0) := (blk_cell BK459.out 0).trans rfl; have hcz22_1 : w21.cell? ⟨gb459, 1, none⟩ = some (.slice (some ad460) l0_1.length c0_1) := (blk_cell BK459.out 1).trans rfl; have hfz22_0 := blk_frozen BK459.out 0; have hfz22_1 := blk_frozen BK459.out 1; have p462 : 0 ≤ (x3_2 : Int) := of_decide_eq_true (by first | (with_reducible assumption) | assumption); have q462 : x3_2 < (l0_1.length : Int) := of_decide_eq_true (by first | (with_reducible assumption) | assumption); obtain ⟨ad462, e462, hx462_0, hx462_1, hx462_2⟩ := at_T58 HR0_1.out x3_2 p462 q462; obtain rfl : ad460 = ad462 := (by injection e462); replace hx462_0 := (HB.out.cell (World.block_lt_of_cell? w _ hx462_0)).trans hx462_0; replace hx462_1 := (HB.out.cell (World.block_lt_of_cell? w _ hx462_1)).trans hx462_1; replace hx462_2 := (HB.out.cell (World.block_lt_of_cell? w _ hx462_2)).trans hx462_2; replace p462 := eq_true p462; replace q462 := eq_true q462; have p463 : 0 ≤ ((ji16) : Int) := of_decide_eq_true (by first | (with_reducible assumption) | assumption); have q463 : (ji16) < (l0_1.length : Int) := of_decide_eq_true (by first | (with_reducible assumption) | assumption); obtain ⟨ad463, e463, hx463_0, hx463_1, hx463_2⟩ := at_T58 HR0_1.out (ji16) p463 q463; obtain rfl : ad460 = ad463 := (by injection e463); replace hx463_0 := (HB.out.cell (World.block_lt_of_cell? w _ hx463_0)).trans hx463_0; replace hx463_1 := (HB.out.cell (World.block_lt_of_cell? w _ hx463_1)).trans hx463_1; replace hx463_2 := (HB.out.cell (World.block_lt_of_cell? w _ hx463_2)).trans hx463_2; replace p463 := eq_true p463; replace q463 := eq_true q463)); try go_wp2_with (first | (go_at_call 78; (with_reducible refine (quietusref14_read.calls ((rd_T58 l0_1 x3_2).f0) ((rd_T58 l0_1 x3_2).f1.f0) ((rd_T58 l0_1 x3_2).f1.f1) true _ A13.out).mono ?_); rintro e w21 ⟨rfl, hb⟩; have n0_ := Aside0.mk (zq_ (g := gb459) (o := .cells #[.int .i64 a0_0, .slice (some ad460) l0_1.length c0_1] 54 (0, 0)) (by (with_reducible repeat (first | refine zm_ ?_ _ | refine zn_ ?_ | refine zo_ ?_ _)); exact BK459.out) hb); have n1_ := Aside0.mk (zv_ (by repeat (first | (with_reducible first | exact HB.out | apply zs_ | apply zt_ | apply zu_ | refine zr_ ?_ GE459.out) | exact HB.out)) hb); clear BK459; clear HB; have BK459 := n0_; have HB := n1_; clear n0_ n1_; (try clear hb); (try clear hb2); (try clear hk); (try clear hi); have hcz22_0 : w21.cell? ⟨gb459, 0, none⟩ = some (.int .i64 a0_0) := (blk_cell BK459.out 0).trans rfl; have hcz22_1 : w21.cell? ⟨gb459, 1, none⟩ = some (.slice (some ad460) l0_1.length c0_1) := (blk_cell BK459.out 1).trans rfl; have hfz22_0 := blk_frozen BK459.out 0; have hfz22_1 := blk_frozen BK459.out 1; have p462 : 0 ≤ (x3_2 : Int) := of_decide_eq_true (by first | (with_reducible assumption) | assumption); have q462 : x3_2 < (l0_1.length : Int) := of_decide_eq_true (by first | (with_reducible assumption) | assumption); obtain ⟨ad462, e462, hx462_0, hx462_1, hx462_2⟩ := at_T58 HR0_1.out x3_2 p462 q462; obtain rfl : ad460 = ad462 := (by injection e462); replace hx462_0 := (HB.out.cell (World.block_lt_of_cell? w _ hx462_0)).trans hx462_0; replace hx462_1 := (HB.out.cell (World.block_lt_of_cell? w _ hx462_1)).trans hx462_1; replace hx462_2 := (HB.out.cell (World.block_lt_of_cell? w _ hx462_2)).trans hx462_2; replace p462 := eq_true p462; replace q462 := eq_true q462; have p463 : 0 ≤ ((ji16) : Int) := of_decide_eq_true (by first | (with_reducible assumption) | assumption); have q463 : (ji16) < (l0_1.length : Int) := of_decide_eq_true (by first | (with_reducible assumption) | assumption); obtain ⟨ad463, e463, hx463_0, hx463_1, hx463_2⟩ := at_T58 HR0_1.out (ji16) p463 q463; obtain rfl : ad460 = ad463 := (by injection e463); replace hx463_0 := (HB.out.cell (World.block_lt_of_cell? w _ hx463_0)).trans hx463_0; replace hx463_1 := (HB.out.cell (World.block_lt_of_cell? w _ hx463_1)).trans hx463_1; replace hx463_2 := (HB.out.cell (World.block_lt_of_cell? w _ hx463_2)).trans hx463_2; replace p463 := eq_true p463; replace q463 := eq_true q463)))
                            go_ret
                            exact ⟨by first | rfl | (simp [errW_none, errW_some] <;> rfl) | (simp only [← hji16]; first | rfl | (simp [errW_none, errW_some] <;> rfl)) | (simp [*, errW_none, errW_some] <;> rfl), by repeat (first | (with_reducible first | exact HB.out | apply zs_ | apply zt_ | apply zu_ | refine zr_ ?_ GE459.out) | exact HB.out)⟩
                          · rw [if_neg c19] at H
                            have c19b0 : decide (((rd_T58 l0_1 x3_2).f0) ≤ ((rd_T58 l0_1 (ji16)).f0)) = false := decide_eq_false c19
                            clear c19
                            have H' := Aside0.mk H
                            clear H
                            have hcz23_0 : wr.cell? ⟨gb459, 0, none⟩ = some (.int .i64 a0_0) := (blk_cell BK459.out 0).trans rfl
                            have hcz23_1 : wr.cell? ⟨gb459, 1, none⟩ = some (.slice A0_1 l0_1.length c0_1) := (blk_cell BK459.out 1).trans rfl
                            have hfz23_0 := blk_frozen BK459.out 0
                            have hfz23_1 := blk_frozen BK459.out 1
                            have p460 : 0 ≤ (x3_2 : Int) := of_decide_eq_true (by first | (with_reducible assumption) | assumption)
                            have q460 : x3_2 < (l0_1.length : Int) := of_decide_eq_true (by first | (with_reducible assumption) | assumption)
                            obtain ⟨ad460, e460, hx460_0, hx460_1, hx460_2⟩ := at_T58 HR0_1.out x3_2 p460 q460
                            cases e460
                            replace hx460_0 := (HB.out.cell (World.block_lt_of_cell? w _ hx460_0)).trans hx460_0
                            replace hx460_1 := (HB.out.cell (World.block_lt_of_cell? w _ hx460_1)).trans hx460_1
                            replace hx460_2 := (HB.out.cell (World.block_lt_of_cell? w _ hx460_2)).trans hx460_2
                            replace p460 := eq_true p460
                            replace q460 := eq_true q460
                            go_wp2_with (first | (go_at_call 78; (with_reducible refine (quietusref14_read.calls ((rd_T58 l0_1 x3_2).f0) ((rd_T58 l0_1 x3_2).f1.f0) ((rd_T58 l0_1 x3_2).f1.f1) true _ A13.out).mono ?_); rintro e w24 ⟨rfl, hb⟩; have n0_ := Aside0.mk (zq_ (g := gb459) (o := .cells #[.int .i64 a0_0, .slice (some ad460) l0_1.length c0_1] 54 (0, 0)) (by (with_reducible repeat (first | refine zm_ ?_ _ | refine zn_ ?_ | refine zo_ ?_ _)); exact BK459.out) hb); have n1_ := Aside0.mk (zv_ (by repeat (first | (with_reducible first | exact HB.out | apply zs_ | apply zt_ | apply zu_ | refine zr_ ?_ GE459.out) | exact HB.out)) hb); clear BK459; clear HB; have BK459 := n0_; have HB := n1_; clear n0_ n1_; (try clear hb); (try clear hb2); (try clear hk); (try clear hi); have hcz25_0 : w24.cell? ⟨gb459, 0, none⟩ = some (.int .i64 a0_0) := (blk_cell BK459.out 0).trans rfl; have hcz25_1 : w24.cell? ⟨gb459, 1, none⟩ = some (.slice (some ad460) l0_1.length c0_1) := (blk_cell BK459.out 1).trans rfl; have hfz25_0 := blk_frozen BK459.out 0; have hfz25_1 := blk_frozen BK459.out 1; have p462 : 0 ≤ (x3_2 : Int) := of_decide_eq_true (by first | (with_reducible assumption) | assumption); have q462 : x3_2 < (l0_1.length : Int) := of_decide_eq_true (by first | (with_reducible assumption) | assumption); obtain ⟨ad462, e462, hx462_0, hx462_1, hx462_2⟩ := at_T58 HR0_1.out x3_2 p462 q462; obtain rfl : ad460 = ad462 := (by injection e462); replace hx462_0 := (HB.out.cell (World.block_lt_of_cell? w _ hx462_0)).trans hx462_0; replace hx462_1 := (HB.out.cell (World.block_lt_of_cell? w _ hx462_1)).trans hx462_1; replace hx462_2 := (HB.out.cell (World.block_lt_of_cell? w _ hx462_2)).trans hx462_2; replace p462 := eq_true p462; replace q462 := eq_true q462; have p463 : 0 ≤ ((ji16) : Int) := of_decide_eq_true (by first | (with_reducible assumption) | assumption); have q463 : (ji16) < (l0_1.length : Int) := of_decide_eq_true (by first | (with_reducible assumption) | assumption); obtain ⟨ad463, e463, hx463_0, hx463_1, hx463_2⟩ := at_T58 HR0_1.out (ji16) p463 q463; obtain rfl : ad460 = ad463 := (by injection e463); replace hx463_0 := (HB.out.cell (World.block_lt_of_cell? w _ hx463_0)).trans hx463_0; replace hx463_1 := (HB.out.cell (World.block_lt_of_cell? w _ hx463_1)).trans hx463_1; replace hx463_2 := (HB.out.cell (World.block_lt_of_cell? w _ hx463_2)).trans hx463_2; replace p463 := eq_true p463; replace q463 := eq_true q463))
                            repeat (go_quiet (first | (go_at_call 78; (with_reducible refine (quietusref14_read.calls ((rd_T58 l0_1 x3_2).f0) ((rd_T58 l0_1 x3_2).f1.f0) ((rd_T58 l0_1 x3_2).f1.f1) true _ A13.out).mono ?_); rintro e w24 ⟨rfl, hb⟩; have n0_ := Aside0.mk (zq_ (g := gb459) (o := .cells #[.int .i64 a0_0, .slice (some ad460) l0_1.length c0_1] 54 (0, 0)) (by (with_reducible repeat (first | refine zm_ ?_ _ | refine zn_ ?_ | refine zo_ ?_ _)); exact BK459.out) hb); have n1_ := Aside0.mk (zv_ (by repeat (first | (with_reducible first | exact HB.out | apply zs_ | apply zt_ | apply zu_ | refine zr_ ?_ GE459.out) | exact HB.out)) hb); clear BK459; clear HB; have BK459 := n0_; have HB := n1_; clear n0_ n1_; (try clear hb); (try clear hb2); (try clear hk); (try clear hi); have hcz25_0 : w24.cell? ⟨gb459, 0, none⟩ = some (.int .i64 a0_0) := (blk_cell BK459.out 0).trans rfl; have hcz25_1 : w24.cell? ⟨gb459, 1, none⟩ = some (.slice (some ad460) l0_1.length c0_1) := (blk_cell BK459.out 1).trans rfl; have hfz25_0 := blk_frozen BK459.out 0; have hfz25_1 := blk_frozen BK459.out 1; have p462 : 0 ≤ (x3_2 : Int) := of_decide_eq_true (by first | (with_reducible assumption) | assumption); have q462 : x3_2 < (l0_1.length : Int) := of_decide_eq_true (by first | (with_reducible assumption) | assumption); obtain ⟨ad462, e462, hx462_0, hx462_1, hx462_2⟩ := at_T58 HR0_1.out x3_2 p462 q462; obtain rfl : ad460 = ad462 := (by injection e462); replace hx462_0 := (HB.out.cell (World.block_lt_of_cell? w _ hx462_0)).trans hx462_0; replace hx462_1 := (HB.out.cell (World.block_lt_of_cell? w _ hx462_1)).trans hx462_1; replace hx462_2 := (HB.out.cell (World.block_lt_of_cell? w _ hx462_2)).trans hx462_2; replace p462 := eq_true p462; replace q462 := eq_true q462; have p463 : 0 ≤ ((ji16) : Int) := of_decide_eq_true (by first | (with_reducible assumption) | assumption); have q463 : (ji16) < (l0_1.length : Int) := of_decide_eq_true (by first | (with_reducible assumption) | assumption); obtain ⟨ad463, e463, hx463_0, hx463_1, hx463_2⟩ := at_T58 HR0_1.out (ji16) p463 q463; obtain rfl : ad460 = ad463 := (by injection e463); replace hx463_0 := (HB.out.cell (World.block_lt_of_cell? w _ hx463_0)).trans hx463_0; replace hx463_1 := (HB.out.cell (World.block_lt_of_cell? w _ hx463_1)).trans hx463_1; replace hx463_2 := (HB.out.cell (World.block_lt_of_cell? w _ hx463_2)).trans hx463_2; replace p463 := eq_true p463; replace q463 := eq_true q463)); try go_wp2_with (first | (go_at_call 78; (with_reducible refine (quietusref14_read.calls ((rd_T58 l0_1 x3_2).f0) ((rd_T58 l0_1 x3_2).f1.f0) ((rd_T58 l0_1 x3_2).f1.f1) true _ A13.out).mono ?_); rintro e w24 ⟨rfl, hb⟩; have n0_ := Aside0.mk (zq_ (g := gb459) (o := .cells #[.int .i64 a0_0, .slice (some ad460) l0_1.length c0_1] 54 (0, 0)) (by (with_reducible repeat (first | refine zm_ ?_ _ | refine zn_ ?_ | refine zo_ ?_ _)); exact BK459.out) hb); have n1_ := Aside0.mk (zv_ (by repeat (first | (with_reducible first | exact HB.out | apply zs_ | apply zt_ | apply zu_ | refine zr_ ?_ GE459.out) | exact HB.out)) hb); clear BK459; clear HB; have BK459 := n0_; have HB := n1_; clear n0_ n1_; (try clear hb); (try clear hb2); (try clear hk); (try clear hi); have hcz25_0 : w24.cell? ⟨gb459, 0, none⟩ = some (.int .i64 a0_0) := (blk_cell BK459.out 0).trans rfl; have hcz25_1 : w24.cell? ⟨gb459, 1, none⟩ = some (.slice (some ad460) l0_1.length c0_1) := (blk_cell BK459.out 1).trans rfl; have hfz25_0 := blk_frozen BK459.out 0; have hfz25_1 := blk_frozen BK459.out 1; have p462 : 0 ≤ (x3_2 : Int) := of_decide_eq_true (by first | (with_reducible assumption) | assumption); have q462 : x3_2 < (l0_1.length : Int) := of_decide_eq_true (by first | (with_reducible assumption) | assumption); obtain ⟨ad462, e462, hx462_0, hx462_1, hx462_2⟩ := at_T58 HR0_1.out x3_2 p462 q462; obtain rfl : ad460 = ad462 := (by injection e462); replace hx462_0 := (HB.out.cell (World.block_lt_of_cell? w _ hx462_0)).trans hx462_0; replace hx462_1 := (HB.out.cell (World.block_lt_of_cell? w _ hx462_1)).trans hx462_1; replace hx462_2 := (HB.out.cell (World.block_lt_of_cell? w _ hx462_2)).trans hx462_2; replace p462 := eq_true p462; replace q462 := eq_true q462; have p463 : 0 ≤ ((ji16) : Int) := of_decide_eq_true (by first | (with_reducible assumption) | assumption); have q463 : (ji16) < (l0_1.length : Int) := of_decide_eq_true (by first | (with_reducible assumption) | assumption); obtain ⟨ad463, e463, hx463_0, hx463_1, hx463_2⟩ := at_T58 HR0_1.out (ji16) p463 q463; obtain rfl : ad460 = ad463 := (by injection e463); replace hx463_0 := (HB.out.cell (World.block_lt_of_cell? w _ hx463_0)).trans hx463_0; replace hx463_1 := (HB.out.cell (World.block_lt_of_cell? w _ hx463_1)).trans hx463_1; replace hx463_2 := (HB.out.cell (World.block_lt_of_cell? w _ hx463_2)).trans hx463_2; replace p463 := eq_true p463; replace q463 := eq_true q463)))
                            go_roundg k2
                            case measure => have := HJ1.out; have := HK2.out; omega
                            case rel => exact ⟨(wrap64 (x3_2 + 1)), (by first | rfl | (simp; done) | (simp [*]; done)), (by first | exact H' | (simp only [hji16]; exact H') | (rw [hji16]; exact H')), ⟨by have := HJ1.out; have := HK2.out; omega⟩, ⟨by (with_reducible repeat (first | refine zm_ ?_ _ | refine zn_ ?_ | refine zo_ ?_ _)); exact BK459.out⟩, ⟨by repeat (first | (with_reducible first | exact HB.out | apply zs_ | apply zt_ | apply zu_ | refine zr_ ?_ GE459.out) | exact HB.out)⟩⟩
                        · rw [if_neg c18] at H
                          exact absurd H (by simp)
                      · rw [if_neg c17] at H
                        exact absurd H (by simp)
                    · rw [if_neg c15] at H
                      have c15b0 : decide (0 < x3_2) = false := decide_eq_false c15
                      clear c15
                      have H' := Aside0.mk H
                      clear H
                      have hcz26_0 : wr.cell? ⟨gb459, 0, none⟩ = some (.int .i64 a0_0) := (blk_cell BK459.out 0).trans rfl
                      have hcz26_1 : wr.cell? ⟨gb459, 1, none⟩ = some (.slice A0_1 l0_1.length c0_1) := (blk_cell BK459.out 1).trans rfl
                      have hfz26_0 := blk_frozen BK459.out 0
                      have hfz26_1 := blk_frozen BK459.out 1
                      have p460 : 0 ≤ (x3_2 : Int) := of_decide_eq_true (by first | (with_reducible assumption) | assumption)
                      have q460 : x3_2 < (l0_1.length : Int) := of_decide_eq_true (by first | (with_reducible assumption) | assumption)
                      obtain ⟨ad460, e460, hx460_0, hx460_1, hx460_2⟩ := at_T58 HR0_1.out x3_2 p460 q460
                      cases e460
                      replace hx460_0 := (HB.out.cell (World.block_lt_of_cell? w _ hx460_0)).trans hx460_0
                      replace hx460_1 := (HB.out.cell (World.block_lt_of_cell? w _ hx460_1)).trans hx460_1
                      replace hx460_2 := (HB.out.cell (World.block_lt_of_cell? w _ hx460_2)).trans hx460_2
                      replace p460 := eq_true p460
                      replace q460 := eq_true q460
                      go_wp2_with (first | (go_at_call 78; (with_reducible refine (quietusref14_read.calls ((rd_T58 l0_1 x3_2).f0) ((rd_T58 l0_1 x3_2).f1.f0) ((rd_T58 l0_1 x3_2).f1.f1) true _ A13.out).mono ?_); rintro e w27 ⟨rfl, hb⟩; have n0_ := Aside0.mk (zq_ (g := gb459) (o := .cells #[.int .i64 a0_0, .slice (some ad460) l0_1.length c0_1] 54 (0, 0)) (by (with_reducible repeat (first | refine zm_ ?_ _ | refine zn_ ?_ | refine zo_ ?_ _)); exact BK459.out) hb); have n1_ := Aside0.mk (zv_ (by repeat (first | (with_reducible first | exact HB.out | apply zs_ | apply zt_ | apply zu_ | refine zr_ ?_ GE459.out) | exact HB.out)) hb); clear BK459; clear HB; have BK459 := n0_; have HB := n1_; clear n0_ n1_; (try clear hb); (try clear hb2); (try clear hk); (try clear hi)))
                      repeat (go_quiet (first | (go_at_call 78; (with_reducible refine (quietusref14_read.calls ((rd_T58 l0_1 x3_2).f0) ((rd_T58 l0_1 x3_2).f1.f0) ((rd_T58 l0_1 x3_2).f1.f1) true _ A13.out).mono ?_); rintro e w27 ⟨rfl, hb⟩; have n0_ := Aside0.mk (zq_ (g := gb459) (o := .cells #[.int .i64 a0_0, .slice (some ad460) l0_1.length c0_1] 54 (0, 0)) (by (with_reducible repeat (first | refine zm_ ?_ _ | refine zn_ ?_ | refine zo_ ?_ _)); exact BK459.out) hb); have n1_ := Aside0.mk (zv_ (by repeat (first | (with_reducible first | exact HB.out | apply zs_ | apply zt_ | apply zu_ | refine zr_ ?_ GE459.out) | exact HB.out)) hb); clear BK459; clear HB; have BK459 := n0_; have HB := n1_; clear n0_ n1_; (try clear hb); (try clear hb2); (try clear hk); (try clear hi))); try go_wp2_with (first | (go_at_call 78; (with_reducible refine (quietusref14_read.calls ((rd_T58 l0_1 x3_2).f0) ((rd_T58 l0_1 x3_2).f1.f0) ((rd_T58 l0_1 x3_2).f1.f1) true _ A13.out).mono ?_); rintro e w27 ⟨rfl, hb⟩; have n0_ := Aside0.mk (zq_ (g := gb459) (o := .cells #[.int .i64 a0_0, .slice (some ad460) l0_1.length c0_1] 54 (0, 0)) (by (with_reducible repeat (first | refine zm_ ?_ _ | refine zn_ ?_ | refine zo_ ?_ _)); exact BK459.out) hb); have n1_ := Aside0.mk (zv_ (by repeat (first | (with_reducible first | exact HB.out | apply zs_ | apply zt_ | apply zu_ | refine zr_ ?_ GE459.out) | exact HB.out)) hb); clear BK459; clear HB; have BK459 := n0_; have HB := n1_; clear n0_ n1_; (try clear hb); (try clear hb2); (try clear hk); (try clear hi))))
                      go_roundg k2
                      case measure => have := HJ1.out; have := HK2.out; omega
                      case rel => exact ⟨(wrap64 (x3_2 + 1)), (by first | rfl | (simp; done) | (simp [*]; done)), (by first | exact H' | (simp only [hji16]; exact H') | (rw [hji16]; exact H')), ⟨by have := HJ1.out; have := HK2.out; omega⟩, ⟨by (with_reducible repeat (first | refine zm_ ?_ _ | refine zn_ ?_ | refine zo_ ?_ _)); exact BK459.out⟩, ⟨by repeat (first | (with_reducible first | exact HB.out | apply zs_ | apply zt_ | apply zu_ | refine zr_ ?_ GE459.out) | exact HB.out)⟩⟩
                  · replace c14 := Bool.eq_false_iff.mpr c14
                    subst c14
                    have H1 : (some 3) = some r := by rw [if_neg (show ¬ (false = true) by decide)] at H; exact H
                    clear H
                    have H := H1
                    clear H1
                    obtain rfl := Option.some.inj H
                    have hcz28_0 : wr.cell? ⟨gb459, 0, none⟩ = some (.int .i64 a0_0) := (blk_cell BK459.out 0).trans rfl
                    have hcz28_1 : wr.cell? ⟨gb459, 1, none⟩ = some (.slice A0_1 l0_1.length c0_1) := (blk_cell BK459.out 1).trans rfl
                    have hfz28_0 := blk_frozen BK459.out 0
                    have hfz28_1 := blk_frozen BK459.out 1
                    have p460 : 0 ≤ (x3_2 : Int) := of_decide_eq_true (by first | (with_reducible assumption) | assumption)
                    have q460 : x3_2 < (l0_1.length : Int) := of_decide_eq_true (by first | (with_reducible assumption) | assumption)
                    obtain ⟨ad460, e460, hx460_0, hx460_1, hx460_2⟩ := at_T58 HR0_1.out x3_2 p460 q460
                    cases e460
                    replace hx460_0 := (HB.out.cell (World.block_lt_of_cell? w _ hx460_0)).trans hx460_0
                    replace hx460_1 := (HB.out.cell (World.block_lt_of_cell? w _ hx460_1)).trans hx460_1
                    replace hx460_2 := (HB.out.cell (World.block_lt_of_cell? w _ hx460_2)).trans hx460_2
                    replace p460 := eq_true p460
                    replace q460 := eq_true q460
                    go_wp2_with (first | (go_at_call 78; (with_reducible refine (quietusref14_read.calls ((rd_T58 l0_1 x3_2).f0) ((rd_T58 l0_1 x3_2).f1.f0) ((rd_T58 l0_1 x3_2).f1.f1) false _ A13.out).mono ?_); rintro e w29 ⟨rfl, hb⟩; have n0_ := Aside0.mk (zq_ (g := gb459) (o := .cells #[.int .i64 a0_0, .slice (some ad460) l0_1.length c0_1] 54 (0, 0)) (by (with_reducible repeat (first | refine zm_ ?_ _ | refine zn_ ?_ | refine zo_ ?_ _)); exact BK459.out) hb); have n1_ := Aside0.mk (zv_ (by repeat (first | (with_reducible first | exact HB.out | apply zs_ | apply zt_ | apply zu_ | refine zr_ ?_ GE459.out) | exact HB.out)) hb); clear BK459; clear HB; have BK459 := n0_; have HB := n1_; clear n0_ n1_; (try clear hb); (try clear hb2); (try clear hk); (try clear hi)))
                    repeat (go_quiet (first | (go_at_call 78; (with_reducible refine (quietusref14_read.calls ((rd_T58 l0_1 x3_2).f0) ((rd_T58 l0_1 x3_2).f1.f0) ((rd_T58 l0_1 x3_2).f1.f1) false _ A13.out).mono ?_); rintro e w29 ⟨rfl, hb⟩; have n0_ := Aside0.mk (zq_ (g := gb459) (o := .cells #[.int .i64 a0_0, .slice (some ad460) l0_1.length c0_1] 54 (0, 0)) (by (with_reducible repeat (first | refine zm_ ?_ _ | refine zn_ ?_ | refine zo_ ?_ _)); exact BK459.out) hb); have n1_ := Aside0.mk (zv_ (by repeat (first | (with_reducible first | exact HB.out | apply zs_ | apply zt_ | apply zu_ | refine zr_ ?_ GE459.out) | exact HB.out)) hb); clear BK459; clear HB; have BK459 := n0_; have HB := n1_; clear n0_ n1_; (try clear hb); (try clear hb2); (try clear hk); (try clear hi))); try go_wp2_with (first | (go_at_call 78; (with_reducible refine (quietusref14_read.calls ((rd_T58 l0_1 x3_2).f0) ((rd_T58 l0_1 x3_2).f1.f0) ((rd_T58 l0_1 x3_2).f1.f1) false _ A13.out).mono ?_); rintro e w29 ⟨rfl, hb⟩; have n0_ := Aside0.mk (zq_ (g := gb459) (o := .cells #[.int .i64 a0_0, .slice (some ad460) l0_1.length c0_1] 54 (0, 0)) (by (with_reducible repeat (first | refine zm_ ?_ _ | refine zn_ ?_ | refine zo_ ?_ _)); exact BK459.out) hb); have n1_ := Aside0.mk (zv_ (by repeat (first | (with_reducible first | exact HB.out | apply zs_ | apply zt_ | apply zu_ | refine zr_ ?_ GE459.out) | exact HB.out)) hb); clear BK459; clear HB; have BK459 := n0_; have HB := n1_; clear n0_ n1_; (try clear hb); (try clear hb2); (try clear hk); (try clear hi))))
                    go_ret
                    exact ⟨by first | rfl | (simp [errW_none, errW_some] <;> rfl) | (simp [*, errW_none, errW_some] <;> rfl), by repeat (first | (with_reducible first | exact HB.out | apply zs_ | apply zt_ | apply zu_ | refine zr_ ?_ GE459.out) | exact HB.out)⟩
                · rw [if_neg c12] at H
                  exact absurd H (by simp)
              · rw [if_neg c11] at H
                have c11b0 : decide (x3_2 < (l0_1.length : Int)) = false := decide_eq_false c11
                clear c11
                obtain rfl := Option.some.inj H
                have hcz30_0 : wr.cell? ⟨gb459, 0, none⟩ = some (.int .i64 a0_0) := (blk_cell BK459.out 0).trans rfl
                have hcz30_1 : wr.cell? ⟨gb459, 1, none⟩ = some (.slice A0_1 l0_1.length c0_1) := (blk_cell BK459.out 1).trans rfl
                have hfz30_0 := blk_frozen BK459.out 0
                have hfz30_1 := blk_frozen BK459.out 1
                go_wp2
                repeat (go_quiet (fail); try go_wp2)
                go_ret
                exact ⟨by first | rfl | (simp [errW_none, errW_some] <;> rfl) | (simp [*, errW_none, errW_some] <;> rfl), by repeat (first | (with_reducible first | exact HB.out | apply zs_ | apply zt_ | apply zu_ | refine zr_ ?_ GE459.out) | exact HB.out)⟩
open Go.Proofs.YteknbadjfojmbaaW.PrintWords renaming blk_drewN → zm_, blk_drew → zn_, blk_alloc → zo_, blk_below → zq_, below_set → zr_, below_alloc → zs_, pw_below_drewN → zt_, below_drew1 → zu_, below_step → zv_, below_size → zw_
end Go.Proofs.Yteknbadjfojmbaa.QA
