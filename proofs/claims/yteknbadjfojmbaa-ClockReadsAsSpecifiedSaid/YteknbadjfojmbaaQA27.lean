-- What this claim does not use was left out by prune.py, a program of this session.
import Derived.Test.YteknbadjfojmbaaQA0
import Derived.Test.YteknbadjfojmbaaQA26
namespace Go.Proofs.Yteknbadjfojmbaa.QA
open Go.RowKit Go.Proofs.YteknbadjfojmbaaW.PrintWords Go.Proofs.YteknbadjfojmbaaW.PrintLast Go.Proofs.YteknbadjfojmbaaW.PrintMore
attribute [local go_sem] max2_int min2_int max_two min_two max_three min_three max_four min_four
set_option linter.unusedVariables false
set_option linter.unusedSimpArgs false
open Go.Proofs.YteknbadjfojmbaaW.PrintWords renaming blk_drewN → zm_, blk_drew → zn_, blk_alloc → zo_, blk_far → zp_, blk_below → zq_, below_set → zr_, below_alloc → zs_, pw_below_drewN → zt_, below_drew1 → zu_, below_step → zv_, below_size → zw_
def quietusref14_Bounds.l0 : Nat → Int → Int → Int → List (S58) → Int → Int → Option (Int × Int)
  | 0, _, _, _, _, _, _ => none
  | k + 1, x1, x6, x472000, x472001, x474000, x474001 => if x6 < (x472001.length : Int) then (if 0 ≤ x6 then ((quietusref14_allowed.f k x472000 ((rd_T58 x472001 x6).f0) ((rd_T58 x472001 x6).f1.f0) ((rd_T58 x472001 x6).f1.f1) x1).bind fun bt475 => (quietusref14_Bounds.l0 k x1 (wrap64 (x6 + 1)) x472000 x472001 (mx x474000 bt475.1) (mn x474001 bt475.2))) else (none)) else (some (x474000, x474001))
def quietusref14_Bounds.f (k : Nat) (a0_0 : Int) (l0_1 : List (S58)) (a1 : Int) : Option (Int × Int) := quietusref14_Bounds.l0 k a1 0 a0_0 l0_1 0 3600000000
def quietusref14_Bounds.T5 : Bool × List (List Nat × List Nat) := (true, [([], []), ([0], [0]), ([], []), ([2], [2]), ([], []), ([3, 4], [3, 4]), ([5], [5]), ([], []), ([1, 6, 7], [1, 6, 7]), ([], []), ([9, 8, 8, 0, 1, 2, 3, 4, 5, 6, 7, 8, 9], [8, 9])])
def quietusref14_Bounds.B5 : List Nat := [0, 1, 0, 4, 0, 28, 60, 0, 255, 0, 1023]
theorem quietusref14_Bounds.tab5 : rtab .any (opsOf Try.f75 5) = quietusref14_Bounds.T5 := by kernel_rfl
theorem quietusref14_Bounds.bits5 : waitsOk quietusref14_Bounds.T5.2 quietusref14_Bounds.B5 = true := by kernel_rfl
set_option maxHeartbeats 8000000 in
set_option maxRecDepth 100000 in
theorem quietusref14_Bounds.calls (k : Nat) (a0_0 : Int) (A0_1 : Option Addr) (c0_1 : Nat) (l0_1 : List (S58)) (a1 : Int) (r1 : Int) (r2 : Int) (w : World) (hr0_1 : Kd.C k58 w A0_1 l0_1.length l0_1) (hc0_1 : l0_1.length ≤ c0_1) (h : quietusref14_Bounds.f k a0_0 l0_1 a1 = some (r1, r2)) :
    Calls Try.prog 75 #[.agg #[.int .i64 a0_0, .slice A0_1 l0_1.length c0_1], .int .i64 a1] w fun e w' => e = .returned (.agg #[.int .i64 r1, .int .i64 r2]) ∧ Below w.heap.size w w' := by
  have hu54 := Try.underlying54
  have hu56 := Try.underlying56
  have hu58 := Try.underlying58
  have HR0_1 := Aside0.mk hr0_1
  have HC0_1 := Aside0.mk hc0_1
  clear hr0_1 hc0_1
  have HB := Aside0.mk (Below.refl w.heap.size w)
  have H : (quietusref14_Bounds.l0 k a1 0 a0_0 l0_1 0 3600000000) = some (r1, r2) := h
  clear h
  have H' := Aside0.mk H
  clear H
  go_enter Try.func75, Try.ntmps75
  go_wp2_with (first | ((with_reducible refine gate_dst (N := 2) rfl ?_); refine box_event ?hg (N := 2) ?hd (cs := #[.int .i64 a0_0, .slice A0_1 l0_1.length c0_1]) (t := 54) ?hr ?_; (case hd => rfl); (case hg => rfl); (case hr => first | (go_simp; done) | (go_simp; rfl)); intro gb471 hg w3 hbox hb; have n0_ := Aside0.mk (zv_ (by repeat (first | (with_reducible first | exact HB.out | apply zs_ | apply zt_ | apply zu_) | exact HB.out)) hb); have n1_ := Aside0.mk (hbox); have n2_ := Aside0.mk ((by rw [hg]; exact (zw_ (by repeat (first | (with_reducible first | exact HB.out | apply zs_ | apply zt_ | apply zu_) | exact HB.out))) : w.heap.size ≤ gb471)); have n3_ := Aside0.mk ((by rw [hg]; exact (zw_ (by repeat (first | (with_reducible first | exact HB.out | apply zs_ | apply zt_ | apply zu_) | exact HB.out))) : w.heap.size ≤ gb471)); clear HB; have HB := n0_; have BK471 := n1_; have GW471 := n2_; have GE471 := n3_; clear n0_ n1_ n2_ n3_; clear hb hbox hg) | ((with_reducible refine gate_dst (N := 4) rfl ?_); refine box_event ?hg (N := 4) ?hd (cs := #[.int .i64 0, .int .i64 0]) (t := 56) ?hr ?_; (case hd => rfl); (case hg => rfl); (case hr => first | (go_simp; done) | (go_simp; rfl)); intro gb472 hg w4 hbox hb; have n0_ := Aside0.mk (zq_ (g := gb471) (o := .cells #[.int .i64 a0_0, .slice A0_1 l0_1.length c0_1] 54 (0, 0)) (by (with_reducible repeat (first | refine zm_ ?_ _ | refine zn_ ?_ | refine zo_ ?_ _)); exact BK471.out) hb); have n1_ := Aside0.mk (zv_ (by repeat (first | (with_reducible first | exact HB.out | apply zs_ | apply zt_ | apply zu_ | refine zr_ ?_ GE471.out) | exact HB.out)) hb); have n2_ := Aside0.mk (hbox); have n3_ := Aside0.mk ((by rw [hg]; exact (zw_ (by repeat (first | (with_reducible first | exact HB.out | apply zs_ | apply zt_ | apply zu_ | refine zr_ ?_ GE471.out) | exact HB.out))) : w.heap.size ≤ gb472)); have n4_ := Aside0.mk ((by rw [hg]; exact (zw_ (by repeat (first | (with_reducible first | exact HB.out | apply zs_ | apply zt_ | apply zu_ | refine zr_ ?_ GE471.out) | exact HB.out))) : w.heap.size ≤ gb472)); have n5_ := Aside0.mk ((by rw [hg]; exact Nat.ne_of_lt (blk_lt (g := gb471) (o := .cells #[.int .i64 a0_0, .slice A0_1 l0_1.length c0_1] 54 (0, 0)) (by (with_reducible repeat (first | refine zm_ ?_ _ | refine zn_ ?_ | refine zo_ ?_ _)); exact BK471.out)) : gb471 ≠ gb472)); have n6_ := Aside0.mk ((by rw [hg]; exact Nat.ne_of_gt (blk_lt (g := gb471) (o := .cells #[.int .i64 a0_0, .slice A0_1 l0_1.length c0_1] 54 (0, 0)) (by (with_reducible repeat (first | refine zm_ ?_ _ | refine zn_ ?_ | refine zo_ ?_ _)); exact BK471.out)) : gb472 ≠ gb471)); clear BK471; clear HB; have BK471 := n0_; have HB := n1_; have BK472 := n2_; have GW472 := n3_; have GE472 := n4_; have NB471_472 := n5_; have NB472_471 := n6_; clear n0_ n1_ n2_ n3_ n4_ n5_ n6_; clear hb hbox hg) | ((with_reducible refine gate_dst (N := 5) rfl ?_); refine box_event ?hg (N := 5) ?hd (cs := #[.int .i64 0, .int .i64 0]) (t := 56) ?hr ?_; (case hd => rfl); (case hg => rfl); (case hr => first | (go_simp; done) | (go_simp; rfl)); intro gb473 hg w5 hbox hb; have n0_ := Aside0.mk (zq_ (g := gb471) (o := .cells #[.int .i64 a0_0, .slice A0_1 l0_1.length c0_1] 54 (0, 0)) (by (with_reducible repeat (first | refine zm_ ?_ _ | refine zn_ ?_ | refine zo_ ?_ _)); exact BK471.out) hb); have n1_ := Aside0.mk (zq_ (g := gb472) (o := .cells #[.int .i64 0, .int .i64 0] 56 (0, 0)) (by (with_reducible repeat (first | refine zm_ ?_ _ | refine zn_ ?_ | refine zo_ ?_ _)); exact BK472.out) hb); have n2_ := Aside0.mk (zv_ (by repeat (first | (with_reducible first | exact HB.out | apply zs_ | apply zt_ | apply zu_ | refine zr_ ?_ GE471.out | refine zr_ ?_ GE472.out) | exact HB.out)) hb); have n3_ := Aside0.mk (hbox); have n4_ := Aside0.mk ((by rw [hg]; exact (zw_ (by repeat (first | (with_reducible first | exact HB.out | apply zs_ | apply zt_ | apply zu_ | refine zr_ ?_ GE471.out | refine zr_ ?_ GE472.out) | exact HB.out))) : w.heap.size ≤ gb473)); have n5_ := Aside0.mk ((by rw [hg]; exact (zw_ (by repeat (first | (with_reducible first | exact HB.out | apply zs_ | apply zt_ | apply zu_ | refine zr_ ?_ GE471.out | refine zr_ ?_ GE472.out) | exact HB.out))) : w.heap.size ≤ gb473)); have n6_ := Aside0.mk ((by rw [hg]; exact Nat.ne_of_lt (blk_lt (g := gb471) (o := .cells #[.int .i64 a0_0, .slice A0_1 l0_1.length c0_1] 54 (0, 0)) (by (with_reducible repeat (first | refine zm_ ?_ _ | refine zn_ ?_ | refine zo_ ?_ _)); exact BK471.out)) : gb471 ≠ gb473)); have n7_ := Aside0.mk ((by rw [hg]; exact Nat.ne_of_gt (blk_lt (g := gb471) (o := .cells #[.int .i64 a0_0, .slice A0_1 l0_1.length c0_1] 54 (0, 0)) (by (with_reducible repeat (first | refine zm_ ?_ _ | refine zn_ ?_ | refine zo_ ?_ _)); exact BK471.out)) : gb473 ≠ gb471)); have n8_ := Aside0.mk ((by rw [hg]; exact Nat.ne_of_lt (blk_lt (g := gb472) (o := .cells #[.int .i64 0, .int .i64 0] 56 (0, 0)) (by (with_reducible repeat (first | refine zm_ ?_ _ | refine zn_ ?_ | refine zo_ ?_ _)); exact BK472.out)) : gb472 ≠ gb473)); have n9_ := Aside0.mk ((by rw [hg]; exact Nat.ne_of_gt (blk_lt (g := gb472) (o := .cells #[.int .i64 0, .int .i64 0] 56 (0, 0)) (by (with_reducible repeat (first | refine zm_ ?_ _ | refine zn_ ?_ | refine zo_ ?_ _)); exact BK472.out)) : gb473 ≠ gb472)); clear BK471; clear BK472; clear HB; have BK471 := n0_; have BK472 := n1_; have HB := n2_; have BK473 := n3_; have GW473 := n4_; have GE473 := n5_; have NB471_473 := n6_; have NB473_471 := n7_; have NB472_473 := n8_; have NB473_472 := n9_; clear n0_ n1_ n2_ n3_ n4_ n5_ n6_ n7_ n8_ n9_; clear hb hbox hg; have hnb6 := NB473_471.out; have hnc6 := NB471_473.out; have hnb7 := NB473_472.out; have hnc7 := NB472_473.out; have hcz8_0 : w5.cell? ⟨gb473, 0, none⟩ = some (.int .i64 0) := (blk_cell BK473.out 0).trans rfl; have hcz8_1 : w5.cell? ⟨gb473, 1, none⟩ = some (.int .i64 0) := (blk_cell BK473.out 1).trans rfl; have hfz8_0 := blk_frozen BK473.out 0; have hfz8_1 := blk_frozen BK473.out 1))
  go_loopg [6] k (fun kq v6 w' => ∃ (x6_1 : Int) (x474000_1 : Int) (x474001_1 : Int), v6 = .int .i64 x6_1 ∧ Aside0 (quietusref14_Bounds.l0 kq a1 x6_1 a0_0 l0_1 x474000_1 x474001_1 = some (r1, r2)) ∧ Aside0 (kq ≤ k) ∧ Aside0 (w'.heap[gb471]? = some (.cells #[.int .i64 a0_0, (.slice A0_1 l0_1.length c0_1)] 54 (0, 0))) ∧ Aside0 (w'.heap[gb472]? = some (.cells #[.int .i64 0, .int .i64 0] 56 (0, 0))) ∧ Aside0 (w'.heap[gb473]? = some (.cells #[.int .i64 x474000_1, .int .i64 x474001_1] 56 (0, 0))) ∧ Aside0 (Below w.heap.size w w'))
  case atStart => exact ⟨(0), (0), (3600000000), (by first | rfl | (simp; done) | (simp [*]; done)), H', ⟨Nat.le_refl _⟩, ⟨by (with_reducible repeat (first | refine zm_ ?_ _ | refine zn_ ?_ | refine zo_ ?_ _)); refine zp_ ?_ NB471_473.out _; (with_reducible repeat (first | refine zm_ ?_ _ | refine zn_ ?_ | refine zo_ ?_ _)); refine zp_ ?_ NB471_473.out _; (with_reducible repeat (first | refine zm_ ?_ _ | refine zn_ ?_ | refine zo_ ?_ _)); exact BK471.out⟩, ⟨by (with_reducible repeat (first | refine zm_ ?_ _ | refine zn_ ?_ | refine zo_ ?_ _)); refine zp_ ?_ NB472_473.out _; (with_reducible repeat (first | refine zm_ ?_ _ | refine zn_ ?_ | refine zo_ ?_ _)); refine zp_ ?_ NB472_473.out _; (with_reducible repeat (first | refine zm_ ?_ _ | refine zn_ ?_ | refine zo_ ?_ _)); exact BK472.out⟩, ⟨by (with_reducible repeat (first | refine zm_ ?_ _ | refine zn_ ?_ | refine zo_ ?_ _)); refine blk_put (cs := #[.int .i64 0, .int .i64 0]) ?_ 1 _ rfl; (with_reducible repeat (first | refine zm_ ?_ _ | refine zn_ ?_ | refine zo_ ?_ _)); refine blk_put (cs := #[.int .i64 0, .int .i64 0]) ?_ 0 _ rfl; (with_reducible repeat (first | refine zm_ ?_ _ | refine zn_ ?_ | refine zo_ ?_ _)); exact BK473.out⟩, ⟨by repeat (first | (with_reducible first | exact HB.out | apply zs_ | apply zt_ | apply zu_ | refine zr_ ?_ GE471.out | refine zr_ ?_ GE472.out | refine zr_ ?_ GE473.out) | exact HB.out)⟩⟩
  case round =>
    clear H'
    try clear p2
    try clear c6
    try clear c7
    try clear hcz8_0
    try clear hcz8_1
    try clear hfz8_0
    try clear hfz8_1
    obtain ⟨x6_1, x474000_1, x474001_1, rfl, HA, HK1, BK471, BK472, BK473, HB⟩ := hrel
    cases gk with
    | zero => exact absurd HA.out (by simp [quietusref14_Bounds.l0])
    | succ k1 =>
      have H := HA.out
      clear HA
      simp only [quietusref14_Bounds.l0] at H
      by_cases c9 : x6_1 < (l0_1.length : Int)
      · rw [if_pos c9] at H
        have c9b0 : decide (x6_1 < (l0_1.length : Int)) = true := decide_eq_true c9
        clear c9
        by_cases c10 : 0 ≤ x6_1
        · rw [if_pos c10] at H
          have c10b0 : decide (0 ≤ x6_1) = true := decide_eq_true c10
          clear c10
          replace H := Option.bind_eq_some_iff.mp H
          obtain ⟨⟨t475, t476⟩, A110, H⟩ := H
          replace H : (quietusref14_Bounds.l0 k1 a1 (wrap64 (x6_1 + 1)) a0_0 l0_1 (mx x474000_1 t475) (mn x474001_1 t476)) = some (r1, r2) := H
          have A11 := Aside0.mk A110
          clear A110
          obtain ⟨ji12, hji12⟩ : ∃ j_ : Int, (mx x474000_1 t475) = j_ := ⟨_, rfl⟩
          replace H : (quietusref14_Bounds.l0 k1 a1 (wrap64 (x6_1 + 1)) a0_0 l0_1 ji12 (mn x474001_1 t476)) = some (r1, r2) := by first | (rw [hji12] at H; exact H) | (simp only [hji12] at H ⊢; exact H)
          (try rw [hji12] at A11)
          have hji12_ : (if x474000_1 < t475 then t475 else x474000_1) = ji12 := hji12
          obtain ⟨ji13, hji13⟩ : ∃ j_ : Int, (mn x474001_1 t476) = j_ := ⟨_, rfl⟩
          replace H : (quietusref14_Bounds.l0 k1 a1 (wrap64 (x6_1 + 1)) a0_0 l0_1 ji12 ji13) = some (r1, r2) := by first | (rw [hji13] at H; exact H) | (simp only [hji13] at H ⊢; exact H)
          (try rw [hji13] at A11)
          have hji13_ : (if t476 < x474001_1 then t476 else x474001_1) = ji13 := hji13
          have H' := Aside0.mk H
          clear H
          have hnb14 := NB471_472.out
          have hnc14 := NB472_471.out
          have hnb15 := NB471_473.out
          have hnc15 := NB473_471.out
          have hcz16_0 : wr.cell? ⟨gb471, 0, none⟩ = some (.int .i64 a0_0) := (blk_cell BK471.out 0).trans rfl
          have hcz16_1 : wr.cell? ⟨gb471, 1, none⟩ = some (.slice A0_1 l0_1.length c0_1) := (blk_cell BK471.out 1).trans rfl
          have hfz16_0 := blk_frozen BK471.out 0
          have hfz16_1 := blk_frozen BK471.out 1
          try go_wp2
          have n0_ := Aside0.mk (zn_ BK471.out)
          have n1_ := Aside0.mk (zn_ BK472.out)
          have n2_ := Aside0.mk (zn_ BK473.out)
          have n3_ := Aside0.mk (zu_ HB.out)
          clear BK471
          clear BK472
          clear BK473
          clear HB
          have BK471 := n0_
          have BK472 := n1_
          have BK473 := n2_
          have HB := n3_
          clear n0_ n1_ n2_ n3_
          have p474 : 0 ≤ (x6_1 : Int) := of_decide_eq_true (by first | (with_reducible assumption) | assumption)
          have q474 : x6_1 < (l0_1.length : Int) := of_decide_eq_true (by first | (with_reducible assumption) | assumption)
          obtain ⟨ad474, e474, hx474_0, hx474_1, hx474_2⟩ := at_T58 HR0_1.out x6_1 p474 q474
          have hw474_2 := hx474_2
          have hw474_1 := hx474_1
          have hw474_0 := hx474_0
          cases e474
          replace hx474_0 := (HB.out.cell (World.block_lt_of_cell? w _ hx474_0)).trans hx474_0
          replace hx474_1 := (HB.out.cell (World.block_lt_of_cell? w _ hx474_1)).trans hx474_1
          replace hx474_2 := (HB.out.cell (World.block_lt_of_cell? w _ hx474_2)).trans hx474_2
          replace p474 := eq_true p474
          replace q474 := eq_true q474
          refine start_ (n := 11) (S := fun w' => w'.cell? ⟨gb471, 0, none⟩ = some (.int .i64 a0_0) ∧ w'.cell? ⟨gb471, 1, none⟩ = some (.slice (some ad474) l0_1.length c0_1) ∧ w'.cell? (ad474.add ((x6_1).toNat * 3)) = some (.int .i64 ((rd_T58 l0_1 x6_1).f0)) ∧ w'.cell? ⟨(ad474.add ((x6_1).toNat * 3)).block, (ad474.add ((x6_1).toNat * 3)).off + 1, none⟩ = some (.int .i64 ((rd_T58 l0_1 x6_1).f1.f0)) ∧ w'.cell? ⟨(ad474.add ((x6_1).toNat * 3)).block, (ad474.add ((x6_1).toNat * 3)).off + 2, none⟩ = some (.int .i64 ((rd_T58 l0_1 x6_1).f1.f1))) (ds := []) #[false, false, false, false, false, false, false, false, false, false, false] (by kernel_rfl) rfl rfl ⟨(blk_cell BK471.out 0).trans rfl, (blk_cell BK471.out 1).trans rfl, ((HB.out.cell (World.block_lt_of_cell? w _ hw474_0)).trans hw474_0), ((HB.out.cell (World.block_lt_of_cell? w _ hw474_1)).trans hw474_1), ((HB.out.cell (World.block_lt_of_cell? w _ hw474_2)).trans hw474_2)⟩ (fun hHeld => ?_); refine with_tabW quietusref14_Bounds.tab5 quietusref14_Bounds.bits5 (fun HT_ HW_ => ?_)
          generalize wr.drew = w17 at BK471 BK472 BK473 HB hx474_0 hx474_1 hx474_2 hHeld ⊢
          refine pure_ (i := 0) (N := some 16) (v := ?_) (a' := ?_) #[true, false, false, false, false, false, false, false, false, false, false] rfl rfl (any_of HT_.out (by kernel_rfl)) (fun _ _ _ h => h) (Or.inl ⟨by rfl, ?_⟩) ?_ ?_
          rotate_left
          · intro w'
            go_simp
            with_reducible rfl
          rotate_left
          · simp only [Act.put, List.setIfInBounds_toArray, List.set_cons_zero, List.set_cons_succ, i64_w, i32_w]
            rfl
          refine pure_ (i := 2) (N := some 18) (v := ?_) (a' := ?_) #[true, false, true, false, false, false, false, false, false, false, false] rfl rfl (any_of HT_.out (by kernel_rfl)) (fun _ _ _ h => h) (Or.inl ⟨by rfl, ?_⟩) ?_ ?_
          rotate_left
          · intro w'
            go_simp
            with_reducible rfl
          rotate_left
          · simp only [Act.put, List.setIfInBounds_toArray, List.set_cons_zero, List.set_cons_succ, i64_w, i32_w]
            rfl
          refine pure_ (i := 4) (N := some 20) (v := ?_) (a' := ?_) #[true, false, true, false, true, false, false, false, false, false, false] rfl rfl (any_of HT_.out (by kernel_rfl)) (fun _ _ _ h => h) (Or.inl ⟨by rfl, ?_⟩) ?_ ?_
          rotate_left
          · intro w'
            go_simp
            with_reducible rfl
          rotate_left
          · simp only [Act.put, List.setIfInBounds_toArray, List.set_cons_zero, List.set_cons_succ, i64_w, i32_w]
            rfl
          refine pure_ (i := 7) (N := some 23) (v := ?_) (a' := ?_) #[true, false, true, false, true, false, false, true, false, false, false] rfl rfl (any_of HT_.out (by kernel_rfl)) (fun _ _ _ h => h) (Or.inl ⟨by rfl, ?_⟩) ?_ ?_
          rotate_left
          · intro w'
            go_simp
            with_reducible rfl
          rotate_left
          · simp only [Act.put, List.setIfInBounds_toArray, List.set_cons_zero, List.set_cons_succ, i64_w, i32_w]
            rfl
          refine take_ (i := 1) (N := some 17) (v := ?_) (a' := ?_) #[true, true, true, false, true, false, false, true, false, false, false] rfl rfl (take_ofW HT_.out HW_.out (by kernel_rfl)) (fun _ _ _ h => h) (Or.inl ⟨by rfl, ?_⟩) hHeld ?_ ?_
          rotate_left
          · rintro w' ⟨s0, s1, s2, s3, s4⟩
            go_simp
            with_reducible rfl
          rotate_left
          · simp only [Act.put, List.setIfInBounds_toArray, List.set_cons_zero, List.set_cons_succ, i64_w, i32_w]
            rfl
          refine take_ (i := 3) (N := some 19) (v := ?_) (a' := ?_) #[true, true, true, true, true, false, false, true, false, false, false] rfl rfl (take_ofW HT_.out HW_.out (by kernel_rfl)) (fun _ _ _ h => h) (Or.inl ⟨by rfl, ?_⟩) hHeld ?_ ?_
          rotate_left
          · rintro w' ⟨s0, s1, s2, s3, s4⟩
            go_simp
            with_reducible rfl
          rotate_left
          · simp only [Act.put, List.setIfInBounds_toArray, List.set_cons_zero, List.set_cons_succ, i64_w, i32_w]
            rfl
          refine pure_ (i := 5) (N := some 21) (v := ?_) (a' := ?_) #[true, true, true, true, true, true, false, true, false, false, false] rfl rfl (any_of HT_.out (by kernel_rfl)) (fun _ _ _ h => h) (Or.inl ⟨by rfl, ?_⟩) ?_ ?_
          rotate_left
          · intro w'
            go_simp
            with_reducible rfl
          rotate_left
          · simp only [Act.put, List.setIfInBounds_toArray, List.set_cons_zero, List.set_cons_succ, i64_w, i32_w]
            rfl
          refine take_ (i := 6) (N := some 22) (v := ?_) (a' := ?_) #[true, true, true, true, true, true, true, true, false, false, false] rfl rfl (take_ofW HT_.out HW_.out (by kernel_rfl)) (fun _ _ _ h => h) (Or.inl ⟨by rfl, ?_⟩) hHeld ?_ ?_
          rotate_left
          · rintro w' ⟨s0, s1, s2, s3, s4⟩
            go_simp
            with_reducible rfl
          rotate_left
          · simp only [Act.put, List.setIfInBounds_toArray, List.set_cons_zero, List.set_cons_succ, i64_w, i32_w]
            rfl
          refine join_ (σ := Nat) 1 #[true, true, true, true, true, true, true, true, true, true, false] (fun s_ => [(24, .agg #[.int .i64 t475, .int .i64 t476]), (7, .pointer (some ⟨s_, 0, none⟩))]) (fun s_ w' => (w'.cell? ⟨gb471, 0, none⟩ = some (.int .i64 a0_0) ∧ w'.cell? ⟨gb471, 1, none⟩ = some (.slice (some ad474) l0_1.length c0_1) ∧ w'.cell? (ad474.add ((x6_1).toNat * 3)) = some (.int .i64 ((rd_T58 l0_1 x6_1).f0)) ∧ w'.cell? ⟨(ad474.add ((x6_1).toNat * 3)).block, (ad474.add ((x6_1).toNat * 3)).off + 1, none⟩ = some (.int .i64 ((rd_T58 l0_1 x6_1).f1.f0)) ∧ w'.cell? ⟨(ad474.add ((x6_1).toNat * 3)).block, (ad474.add ((x6_1).toNat * 3)).off + 2, none⟩ = some (.int .i64 ((rd_T58 l0_1 x6_1).f1.f1))) ∧ (w'.heap[gb471]? = some (.cells #[.int .i64 a0_0, .slice (some ad474) l0_1.length c0_1] 54 (0, 0))) ∧ (w'.heap[gb472]? = some (.cells #[.int .i64 0, .int .i64 0] 56 (0, 0))) ∧ (w'.heap[gb473]? = some (.cells #[.int .i64 x474000_1, .int .i64 x474001_1] 56 (0, 0))) ∧ (w'.heap[s_]? = some (.cells #[.int .i64 0, .int .i64 0] 56 (0, 0))) ∧ (w.heap.size ≤ s_) ∧ (w.heap.size ≤ s_) ∧ (gb471 ≠ s_) ∧ (s_ ≠ gb471) ∧ (gb472 ≠ s_) ∧ (s_ ≠ gb472) ∧ (gb473 ≠ s_) ∧ (s_ ≠ gb473) ∧ (Below w.heap.size w w')) ?_ ?_
          rotate_left
          · intro hCont
            refine two_ (i := 8) (j := 9) (Ni := some 24) (Nj := some 7) #[true, true, true, true, true, true, true, true, true, false, false] #[true, true, true, true, true, true, true, true, false, true, false] rfl rfl rfl rfl (two_of HT_.out (by kernel_rfl)) (by decide) (by decide) (fun K hK => ?_) (fun K hK => ?_)
            · skip
              refine goes_ Try.func92 (by kernel_rfl) rfl #[.int .i64 a0_0, .agg #[.int .i64 ((rd_T58 l0_1 x6_1).f0), .int .i64 ((rd_T58 l0_1 x6_1).f1.f0), .int .i64 ((rd_T58 l0_1 x6_1).f1.f1)], .int .i64 a1] (by rfl) rfl rfl (by (try simp only [List.map_toArray, List.map_cons, List.map_nil]); first | done | rfl | (simp only [List.length_drop, List.length_take]; rfl)) ?_
              with_reducible refine (quietusref14_allowed.calls k1 a0_0 ((rd_T58 l0_1 x6_1).f0) ((rd_T58 l0_1 x6_1).f1.f0) ((rd_T58 l0_1 x6_1).f1.f1) a1 t475 t476 _ A11.out).mono ?_
              rintro e w18 ⟨rfl, hb⟩
              refine ⟨_, rfl, ?_⟩
              have n0_ := Aside0.mk (zq_ (g := gb471) (o := .cells #[.int .i64 a0_0, .slice (some ad474) l0_1.length c0_1] 54 (0, 0)) (by (with_reducible repeat (first | refine zm_ ?_ _ | refine zn_ ?_ | refine zo_ ?_ _)); exact BK471.out) hb)
              have n1_ := Aside0.mk (zq_ (g := gb472) (o := .cells #[.int .i64 0, .int .i64 0] 56 (0, 0)) (by (with_reducible repeat (first | refine zm_ ?_ _ | refine zn_ ?_ | refine zo_ ?_ _)); exact BK472.out) hb)
              have n2_ := Aside0.mk (zq_ (g := gb473) (o := .cells #[.int .i64 x474000_1, .int .i64 x474001_1] 56 (0, 0)) (by (with_reducible repeat (first | refine zm_ ?_ _ | refine zn_ ?_ | refine zo_ ?_ _)); exact BK473.out) hb)
              have n3_ := Aside0.mk (zv_ (by repeat (first | (with_reducible first | exact HB.out | apply zs_ | apply zt_ | apply zu_ | refine zr_ ?_ GE471.out | refine zr_ ?_ GE472.out | refine zr_ ?_ GE473.out) | exact HB.out)) hb)
              clear BK471
              clear BK472
              clear BK473
              clear HB
              have BK471 := n0_
              have BK472 := n1_
              have BK473 := n2_
              have HB := n3_
              clear n0_ n1_ n2_ n3_
              (try clear hb)
              (try clear hb2)
              (try clear hk)
              (try clear hi)
              refine hK.out _ _ ⟨(blk_cell BK471.out 0).trans rfl, (blk_cell BK471.out 1).trans rfl, ((HB.out.cell (World.block_lt_of_cell? w _ hw474_0)).trans hw474_0), ((HB.out.cell (World.block_lt_of_cell? w _ hw474_1)).trans hw474_1), ((HB.out.cell (World.block_lt_of_cell? w _ hw474_2)).trans hw474_2)⟩ (fun hHeld => ?_)
              clear hK K
              refine norm_ (a' := ?_) ?_ ?_
              rotate_left
              · show Act.put _ (some 24) _ = _
                simp only [Act.put, List.setIfInBounds_toArray, List.set_cons_zero, List.set_cons_succ, i64_w, i32_w]
                rfl
              refine one_ (i := 9) (N := some 7) #[true, true, true, true, true, true, true, true, true, true, false] rfl rfl (one_of HT_.out (by kernel_rfl)) (by decide) (fun K hK => ?_)
              refine box_step ?hg (N := 7) ?hd (cs := #[.int .i64 0, .int .i64 0]) (t := 56) ?hr ?_; (case hd => rfl); (case hg => rfl); (case hr => first | (go_simp; done) | (go_simp; rfl))
              intro gb477 hg w19 hbox hb
              have n0_ := Aside0.mk (zq_ (g := gb471) (o := .cells #[.int .i64 a0_0, .slice (some ad474) l0_1.length c0_1] 54 (0, 0)) (by (with_reducible repeat (first | refine zm_ ?_ _ | refine zn_ ?_ | refine zo_ ?_ _)); exact BK471.out) hb)
              have n1_ := Aside0.mk (zq_ (g := gb472) (o := .cells #[.int .i64 0, .int .i64 0] 56 (0, 0)) (by (with_reducible repeat (first | refine zm_ ?_ _ | refine zn_ ?_ | refine zo_ ?_ _)); exact BK472.out) hb)
              have n2_ := Aside0.mk (zq_ (g := gb473) (o := .cells #[.int .i64 x474000_1, .int .i64 x474001_1] 56 (0, 0)) (by (with_reducible repeat (first | refine zm_ ?_ _ | refine zn_ ?_ | refine zo_ ?_ _)); exact BK473.out) hb)
              have n3_ := Aside0.mk (zv_ (by repeat (first | (with_reducible first | exact HB.out | apply zs_ | apply zt_ | apply zu_ | refine zr_ ?_ GE471.out | refine zr_ ?_ GE472.out | refine zr_ ?_ GE473.out) | exact HB.out)) hb)
              have n4_ := Aside0.mk (hbox)
              have n5_ := Aside0.mk ((by rw [hg]; exact (zw_ (by repeat (first | (with_reducible first | exact HB.out | apply zs_ | apply zt_ | apply zu_ | refine zr_ ?_ GE471.out | refine zr_ ?_ GE472.out | refine zr_ ?_ GE473.out) | exact HB.out))) : w.heap.size ≤ gb477))
              have n6_ := Aside0.mk ((by rw [hg]; exact (zw_ (by repeat (first | (with_reducible first | exact HB.out | apply zs_ | apply zt_ | apply zu_ | refine zr_ ?_ GE471.out | refine zr_ ?_ GE472.out | refine zr_ ?_ GE473.out) | exact HB.out))) : w.heap.size ≤ gb477))
              have n7_ := Aside0.mk ((by rw [hg]; exact Nat.ne_of_lt (blk_lt (g := gb471) (o := .cells #[.int .i64 a0_0, .slice (some ad474) l0_1.length c0_1] 54 (0, 0)) (by (with_reducible repeat (first | refine zm_ ?_ _ | refine zn_ ?_ | refine zo_ ?_ _)); exact BK471.out)) : gb471 ≠ gb477))
              have n8_ := Aside0.mk ((by rw [hg]; exact Nat.ne_of_gt (blk_lt (g := gb471) (o := .cells #[.int .i64 a0_0, .slice (some ad474) l0_1.length c0_1] 54 (0, 0)) (by (with_reducible repeat (first | refine zm_ ?_ _ | refine zn_ ?_ | refine zo_ ?_ _)); exact BK471.out)) : gb477 ≠ gb471))
              have n9_ := Aside0.mk ((by rw [hg]; exact Nat.ne_of_lt (blk_lt (g := gb472) (o := .cells #[.int .i64 0, .int .i64 0] 56 (0, 0)) (by (with_reducible repeat (first | refine zm_ ?_ _ | refine zn_ ?_ | refine zo_ ?_ _)); exact BK472.out)) : gb472 ≠ gb477))
              have n10_ := Aside0.mk ((by rw [hg]; exact Nat.ne_of_gt (blk_lt (g := gb472) (o := .cells #[.int .i64 0, .int .i64 0] 56 (0, 0)) (by (with_reducible repeat (first | refine zm_ ?_ _ | refine zn_ ?_ | refine zo_ ?_ _)); exact BK472.out)) : gb477 ≠ gb472))
              have n11_ := Aside0.mk ((by rw [hg]; exact Nat.ne_of_lt (blk_lt (g := gb473) (o := .cells #[.int .i64 x474000_1, .int .i64 x474001_1] 56 (0, 0)) (by (with_reducible repeat (first | refine zm_ ?_ _ | refine zn_ ?_ | refine zo_ ?_ _)); exact BK473.out)) : gb473 ≠ gb477))
              have n12_ := Aside0.mk ((by rw [hg]; exact Nat.ne_of_gt (blk_lt (g := gb473) (o := .cells #[.int .i64 x474000_1, .int .i64 x474001_1] 56 (0, 0)) (by (with_reducible repeat (first | refine zm_ ?_ _ | refine zn_ ?_ | refine zo_ ?_ _)); exact BK473.out)) : gb477 ≠ gb473))
              clear BK471
              clear BK472
              clear BK473
              clear HB
              have BK471 := n0_
              have BK472 := n1_
              have BK473 := n2_
              have HB := n3_
              have BK477 := n4_
              have GW477 := n5_
              have GE477 := n6_
              have NB471_477 := n7_
              have NB477_471 := n8_
              have NB472_477 := n9_
              have NB477_472 := n10_
              have NB473_477 := n11_
              have NB477_473 := n12_
              clear n0_ n1_ n2_ n3_ n4_ n5_ n6_ n7_ n8_ n9_ n10_ n11_ n12_
              clear hb hbox hg
              refine hK.out _ _ ⟨(blk_cell BK471.out 0).trans rfl, (blk_cell BK471.out 1).trans rfl, ((HB.out.cell (World.block_lt_of_cell? w _ hw474_0)).trans hw474_0), ((HB.out.cell (World.block_lt_of_cell? w _ hw474_1)).trans hw474_1), ((HB.out.cell (World.block_lt_of_cell? w _ hw474_2)).trans hw474_2)⟩ (fun hHeld => ?_)
              clear hK K
              refine norm_ (a' := ?_) ?_ ?_
              rotate_left
              · show Act.put _ (some 7) _ = _
                simp only [Act.put, List.setIfInBounds_toArray, List.set_cons_zero, List.set_cons_succ, i64_w, i32_w]
                rfl
              exact norm_ (by simp only [putAll, Act.put, List.setIfInBounds_toArray, List.set_cons_zero, List.set_cons_succ]) (hCont (gb477) _ ⟨hHeld, (by (with_reducible repeat (first | refine zm_ ?_ _ | refine zn_ ?_ | refine zo_ ?_ _)); exact BK471.out), (by (with_reducible repeat (first | refine zm_ ?_ _ | refine zn_ ?_ | refine zo_ ?_ _)); exact BK472.out), (by (with_reducible repeat (first | refine zm_ ?_ _ | refine zn_ ?_ | refine zo_ ?_ _)); exact BK473.out), (by (with_reducible repeat (first | refine zm_ ?_ _ | refine zn_ ?_ | refine zo_ ?_ _)); exact BK477.out), GW477.out, GE477.out, NB471_477.out, NB477_471.out, NB472_477.out, NB477_472.out, NB473_477.out, NB477_473.out, (by repeat (first | (with_reducible first | exact HB.out | apply zs_ | apply zt_ | apply zu_ | refine zr_ ?_ GE471.out | refine zr_ ?_ GE472.out | refine zr_ ?_ GE473.out | refine zr_ ?_ GE477.out) | exact HB.out))⟩)
            · skip
              refine box_step ?hg (N := 7) ?hd (cs := #[.int .i64 0, .int .i64 0]) (t := 56) ?hr ?_; (case hd => rfl); (case hg => rfl); (case hr => first | (go_simp; done) | (go_simp; rfl))
              intro gb477 hg w18 hbox hb
              have n0_ := Aside0.mk (zq_ (g := gb471) (o := .cells #[.int .i64 a0_0, .slice (some ad474) l0_1.length c0_1] 54 (0, 0)) (by (with_reducible repeat (first | refine zm_ ?_ _ | refine zn_ ?_ | refine zo_ ?_ _)); exact BK471.out) hb)
              have n1_ := Aside0.mk (zq_ (g := gb472) (o := .cells #[.int .i64 0, .int .i64 0] 56 (0, 0)) (by (with_reducible repeat (first | refine zm_ ?_ _ | refine zn_ ?_ | refine zo_ ?_ _)); exact BK472.out) hb)
              have n2_ := Aside0.mk (zq_ (g := gb473) (o := .cells #[.int .i64 x474000_1, .int .i64 x474001_1] 56 (0, 0)) (by (with_reducible repeat (first | refine zm_ ?_ _ | refine zn_ ?_ | refine zo_ ?_ _)); exact BK473.out) hb)
              have n3_ := Aside0.mk (zv_ (by repeat (first | (with_reducible first | exact HB.out | apply zs_ | apply zt_ | apply zu_ | refine zr_ ?_ GE471.out | refine zr_ ?_ GE472.out | refine zr_ ?_ GE473.out) | exact HB.out)) hb)
              have n4_ := Aside0.mk (hbox)
              have n5_ := Aside0.mk ((by rw [hg]; exact (zw_ (by repeat (first | (with_reducible first | exact HB.out | apply zs_ | apply zt_ | apply zu_ | refine zr_ ?_ GE471.out | refine zr_ ?_ GE472.out | refine zr_ ?_ GE473.out) | exact HB.out))) : w.heap.size ≤ gb477))
              have n6_ := Aside0.mk ((by rw [hg]; exact (zw_ (by repeat (first | (with_reducible first | exact HB.out | apply zs_ | apply zt_ | apply zu_ | refine zr_ ?_ GE471.out | refine zr_ ?_ GE472.out | refine zr_ ?_ GE473.out) | exact HB.out))) : w.heap.size ≤ gb477))
              have n7_ := Aside0.mk ((by rw [hg]; exact Nat.ne_of_lt (blk_lt (g := gb471) (o := .cells #[.int .i64 a0_0, .slice (some ad474) l0_1.length c0_1] 54 (0, 0)) (by (with_reducible repeat (first | refine zm_ ?_ _ | refine zn_ ?_ | refine zo_ ?_ _)); exact BK471.out)) : gb471 ≠ gb477))
              have n8_ := Aside0.mk ((by rw [hg]; exact Nat.ne_of_gt (blk_lt (g := gb471) (o := .cells #[.int .i64 a0_0, .slice (some ad474) l0_1.length c0_1] 54 (0, 0)) (by (with_reducible repeat (first | refine zm_ ?_ _ | refine zn_ ?_ | refine zo_ ?_ _)); exact BK471.out)) : gb477 ≠ gb471))
              have n9_ := Aside0.mk ((by rw [hg]; exact Nat.ne_of_lt (blk_lt (g := gb472) (o := .cells #[.int .i64 0, .int .i64 0] 56 (0, 0)) (by (with_reducible repeat (first | refine zm_ ?_ _ | refine zn_ ?_ | refine zo_ ?_ _)); exact BK472.out)) : gb472 ≠ gb477))
              have n10_ := Aside0.mk ((by rw [hg]; exact Nat.ne_of_gt (blk_lt (g := gb472) (o := .cells #[.int .i64 0, .int .i64 0] 56 (0, 0)) (by (with_reducible repeat (first | refine zm_ ?_ _ | refine zn_ ?_ | refine zo_ ?_ _)); exact BK472.out)) : gb477 ≠ gb472))
              have n11_ := Aside0.mk ((by rw [hg]; exact Nat.ne_of_lt (blk_lt (g := gb473) (o := .cells #[.int .i64 x474000_1, .int .i64 x474001_1] 56 (0, 0)) (by (with_reducible repeat (first | refine zm_ ?_ _ | refine zn_ ?_ | refine zo_ ?_ _)); exact BK473.out)) : gb473 ≠ gb477))
              have n12_ := Aside0.mk ((by rw [hg]; exact Nat.ne_of_gt (blk_lt (g := gb473) (o := .cells #[.int .i64 x474000_1, .int .i64 x474001_1] 56 (0, 0)) (by (with_reducible repeat (first | refine zm_ ?_ _ | refine zn_ ?_ | refine zo_ ?_ _)); exact BK473.out)) : gb477 ≠ gb473))
              clear BK471
              clear BK472
              clear BK473
              clear HB
              have BK471 := n0_
              have BK472 := n1_
              have BK473 := n2_
              have HB := n3_
              have BK477 := n4_
              have GW477 := n5_
              have GE477 := n6_
              have NB471_477 := n7_
              have NB477_471 := n8_
              have NB472_477 := n9_
              have NB477_472 := n10_
              have NB473_477 := n11_
              have NB477_473 := n12_
              clear n0_ n1_ n2_ n3_ n4_ n5_ n6_ n7_ n8_ n9_ n10_ n11_ n12_
              clear hb hbox hg
              refine hK.out _ _ ⟨(blk_cell BK471.out 0).trans rfl, (blk_cell BK471.out 1).trans rfl, ((HB.out.cell (World.block_lt_of_cell? w _ hw474_0)).trans hw474_0), ((HB.out.cell (World.block_lt_of_cell? w _ hw474_1)).trans hw474_1), ((HB.out.cell (World.block_lt_of_cell? w _ hw474_2)).trans hw474_2)⟩ (fun hHeld => ?_)
              clear hK K
              refine norm_ (a' := ?_) ?_ ?_
              rotate_left
              · show Act.put _ (some 7) _ = _
                simp only [Act.put, List.setIfInBounds_toArray, List.set_cons_zero, List.set_cons_succ, i64_w, i32_w]
                rfl
              refine one_ (i := 8) (N := some 24) #[true, true, true, true, true, true, true, true, true, true, false] rfl rfl (one_of HT_.out (by kernel_rfl)) (by decide) (fun K hK => ?_)
              refine goes_ Try.func92 (by kernel_rfl) rfl #[.int .i64 a0_0, .agg #[.int .i64 ((rd_T58 l0_1 x6_1).f0), .int .i64 ((rd_T58 l0_1 x6_1).f1.f0), .int .i64 ((rd_T58 l0_1 x6_1).f1.f1)], .int .i64 a1] (by rfl) rfl rfl (by (try simp only [List.map_toArray, List.map_cons, List.map_nil]); first | done | rfl | (simp only [List.length_drop, List.length_take]; rfl)) ?_
              with_reducible refine (quietusref14_allowed.calls k1 a0_0 ((rd_T58 l0_1 x6_1).f0) ((rd_T58 l0_1 x6_1).f1.f0) ((rd_T58 l0_1 x6_1).f1.f1) a1 t475 t476 _ A11.out).mono ?_
              rintro e w19 ⟨rfl, hb⟩
              refine ⟨_, rfl, ?_⟩
              have n0_ := Aside0.mk (zq_ (g := gb471) (o := .cells #[.int .i64 a0_0, .slice (some ad474) l0_1.length c0_1] 54 (0, 0)) (by (with_reducible repeat (first | refine zm_ ?_ _ | refine zn_ ?_ | refine zo_ ?_ _)); exact BK471.out) hb)
              have n1_ := Aside0.mk (zq_ (g := gb472) (o := .cells #[.int .i64 0, .int .i64 0] 56 (0, 0)) (by (with_reducible repeat (first | refine zm_ ?_ _ | refine zn_ ?_ | refine zo_ ?_ _)); exact BK472.out) hb)
              have n2_ := Aside0.mk (zq_ (g := gb473) (o := .cells #[.int .i64 x474000_1, .int .i64 x474001_1] 56 (0, 0)) (by (with_reducible repeat (first | refine zm_ ?_ _ | refine zn_ ?_ | refine zo_ ?_ _)); exact BK473.out) hb)
              have n3_ := Aside0.mk (zq_ (g := gb477) (o := .cells #[.int .i64 0, .int .i64 0] 56 (0, 0)) (by (with_reducible repeat (first | refine zm_ ?_ _ | refine zn_ ?_ | refine zo_ ?_ _)); exact BK477.out) hb)
              have n4_ := Aside0.mk (zv_ (by repeat (first | (with_reducible first | exact HB.out | apply zs_ | apply zt_ | apply zu_ | refine zr_ ?_ GE471.out | refine zr_ ?_ GE472.out | refine zr_ ?_ GE473.out | refine zr_ ?_ GE477.out) | exact HB.out)) hb)
              clear BK471
              clear BK472
              clear BK473
              clear BK477
              clear HB
              have BK471 := n0_
              have BK472 := n1_
              have BK473 := n2_
              have BK477 := n3_
              have HB := n4_
              clear n0_ n1_ n2_ n3_ n4_
              (try clear hb)
              (try clear hb2)
              (try clear hk)
              (try clear hi)
              refine hK.out _ _ ⟨(blk_cell BK471.out 0).trans rfl, (blk_cell BK471.out 1).trans rfl, ((HB.out.cell (World.block_lt_of_cell? w _ hw474_0)).trans hw474_0), ((HB.out.cell (World.block_lt_of_cell? w _ hw474_1)).trans hw474_1), ((HB.out.cell (World.block_lt_of_cell? w _ hw474_2)).trans hw474_2)⟩ (fun hHeld => ?_)
              clear hK K
              refine norm_ (a' := ?_) ?_ ?_
              rotate_left
              · show Act.put _ (some 24) _ = _
                simp only [Act.put, List.setIfInBounds_toArray, List.set_cons_zero, List.set_cons_succ, i64_w, i32_w]
                rfl
              exact norm_ (by simp only [putAll, Act.put, List.setIfInBounds_toArray, List.set_cons_zero, List.set_cons_succ]) (hCont (gb477) _ ⟨hHeld, (by (with_reducible repeat (first | refine zm_ ?_ _ | refine zn_ ?_ | refine zo_ ?_ _)); exact BK471.out), (by (with_reducible repeat (first | refine zm_ ?_ _ | refine zn_ ?_ | refine zo_ ?_ _)); exact BK472.out), (by (with_reducible repeat (first | refine zm_ ?_ _ | refine zn_ ?_ | refine zo_ ?_ _)); exact BK473.out), (by (with_reducible repeat (first | refine zm_ ?_ _ | refine zn_ ?_ | refine zo_ ?_ _)); exact BK477.out), GW477.out, GE477.out, NB471_477.out, NB477_471.out, NB472_477.out, NB477_472.out, NB473_477.out, NB477_473.out, (by repeat (first | (with_reducible first | exact HB.out | apply zs_ | apply zt_ | apply zu_ | refine zr_ ?_ GE471.out | refine zr_ ?_ GE472.out | refine zr_ ?_ GE473.out | refine zr_ ?_ GE477.out) | exact HB.out))⟩)
          rintro gb477 w20 ⟨hS_, h0_, h1_, h2_, h3_, h4_, h5_, h6_, h7_, h8_, h9_, h10_, h11_, h12_⟩
          have n0_ : Aside0 (w20.heap[gb471]? = some (.cells #[.int .i64 a0_0, .slice (some ad474) l0_1.length c0_1] 54 (0, 0))) := ⟨h0_⟩
          have n1_ : Aside0 (w20.heap[gb472]? = some (.cells #[.int .i64 0, .int .i64 0] 56 (0, 0))) := ⟨h1_⟩
          have n2_ : Aside0 (w20.heap[gb473]? = some (.cells #[.int .i64 x474000_1, .int .i64 x474001_1] 56 (0, 0))) := ⟨h2_⟩
          have n3_ : Aside0 (w20.heap[gb477]? = some (.cells #[.int .i64 0, .int .i64 0] 56 (0, 0))) := ⟨h3_⟩
          have n4_ : Aside0 (w.heap.size ≤ gb477) := ⟨h4_⟩
          have n5_ : Aside0 (w.heap.size ≤ gb477) := ⟨h5_⟩
          have n6_ : Aside0 (gb471 ≠ gb477) := ⟨h6_⟩
          have n7_ : Aside0 (gb477 ≠ gb471) := ⟨h7_⟩
          have n8_ : Aside0 (gb472 ≠ gb477) := ⟨h8_⟩
          have n9_ : Aside0 (gb477 ≠ gb472) := ⟨h9_⟩
          have n10_ : Aside0 (gb473 ≠ gb477) := ⟨h10_⟩
          have n11_ : Aside0 (gb477 ≠ gb473) := ⟨h11_⟩
          have n12_ : Aside0 (Below w.heap.size w w20) := ⟨h12_⟩
          clear BK471
          clear BK472
          clear BK473
          clear HB
          clear h0_ h1_ h2_ h3_ h4_ h5_ h6_ h7_ h8_ h9_ h10_ h11_ h12_
          have BK471 := n0_
          have BK472 := n1_
          have BK473 := n2_
          have BK477 := n3_
          have GW477 := n4_
          have GE477 := n5_
          have NB471_477 := n6_
          have NB477_471 := n7_
          have NB472_477 := n8_
          have NB477_472 := n9_
          have NB473_477 := n10_
          have NB477_473 := n11_
          have HB := n12_
          clear n0_ n1_ n2_ n3_ n4_ n5_ n6_ n7_ n8_ n9_ n10_ n11_ n12_
          have hHeld : w20.cell? ⟨gb471, 0, none⟩ = some (.int .i64 a0_0) ∧ w20.cell? ⟨gb471, 1, none⟩ = some (.slice (some ad474) l0_1.length c0_1) ∧ w20.cell? (ad474.add ((x6_1).toNat * 3)) = some (.int .i64 ((rd_T58 l0_1 x6_1).f0)) ∧ w20.cell? ⟨(ad474.add ((x6_1).toNat * 3)).block, (ad474.add ((x6_1).toNat * 3)).off + 1, none⟩ = some (.int .i64 ((rd_T58 l0_1 x6_1).f1.f0)) ∧ w20.cell? ⟨(ad474.add ((x6_1).toNat * 3)).block, (ad474.add ((x6_1).toNat * 3)).off + 2, none⟩ = some (.int .i64 ((rd_T58 l0_1 x6_1).f1.f1)) := hS_
          refine norm_ (a' := ?_) ?_ ?_
          rotate_left
          · simp only [putAll, Act.put, List.setIfInBounds_toArray, List.set_cons_zero, List.set_cons_succ]
            rfl
          refine one_ (i := 10) (N := none) #[true, true, true, true, true, true, true, true, true, true, true] rfl rfl (one_of HT_.out (by kernel_rfl)) (by decide) (fun K hK => ?_)
          have hs21 : w20.cell? ⟨gb477, 0, none⟩ = some (.int .i64 0) := (blk_cell BK477.out 0).trans rfl
          have hfs21 := blk_frozen BK477.out 0
          have hns21_0 := NB471_477.out
          have hns21_1 := NB472_477.out
          have hns21_2 := NB473_477.out
          have hms21_0 := NB477_471.out
          have hms21_1 := NB477_472.out
          have hms21_2 := NB477_473.out
          have hs22 : w20.cell? ⟨gb477, 1, none⟩ = some (.int .i64 0) := (blk_cell BK477.out 1).trans rfl
          have hfs22 := blk_frozen BK477.out 1
          have hns22_0 := NB471_477.out
          have hns22_1 := NB472_477.out
          have hns22_2 := NB473_477.out
          have hms22_0 := NB477_471.out
          have hms22_1 := NB477_472.out
          have hms22_2 := NB477_473.out
          refine skip_ (w1 := ?_) (by rfl) rfl ?_ ?_
          rotate_left
          · go_simp
            rfl
          refine hK.out _ _ ⟨((cell_far (p := ⟨gb477, _, none⟩) NB471_477.out _).trans (((cell_far (p := ⟨gb477, _, none⟩) NB471_477.out _).trans (hHeld.1)))), ((cell_far (p := ⟨gb477, _, none⟩) NB471_477.out _).trans (((cell_far (p := ⟨gb477, _, none⟩) NB471_477.out _).trans (hHeld.2.1)))), ((cell_far (p := ⟨gb477, _, none⟩) (by first | exact Nat.ne_of_lt (Nat.lt_of_lt_of_le (by have := World.block_lt_of_cell? _ _ hw474_0; first | rwa [add_block] at this | exact this) GW477.out) | (rw [add_block]; exact Nat.ne_of_lt (Nat.lt_of_lt_of_le (by have := World.block_lt_of_cell? _ _ hw474_0; first | rwa [add_block] at this | exact this) GW477.out)) | (show (Addr.add _ _).block ≠ _; rw [add_block]; exact Nat.ne_of_lt (Nat.lt_of_lt_of_le (by have := World.block_lt_of_cell? _ _ hw474_0; first | rwa [add_block] at this | exact this) GW477.out)) | (dsimp only; exact Nat.ne_of_lt (Nat.lt_of_lt_of_le (by have := World.block_lt_of_cell? _ _ hw474_0; first | rwa [add_block] at this | exact this) GW477.out))) _).trans (((cell_far (p := ⟨gb477, _, none⟩) (by first | exact Nat.ne_of_lt (Nat.lt_of_lt_of_le (by have := World.block_lt_of_cell? _ _ hw474_0; first | rwa [add_block] at this | exact this) GW477.out) | (rw [add_block]; exact Nat.ne_of_lt (Nat.lt_of_lt_of_le (by have := World.block_lt_of_cell? _ _ hw474_0; first | rwa [add_block] at this | exact this) GW477.out)) | (show (Addr.add _ _).block ≠ _; rw [add_block]; exact Nat.ne_of_lt (Nat.lt_of_lt_of_le (by have := World.block_lt_of_cell? _ _ hw474_0; first | rwa [add_block] at this | exact this) GW477.out)) | (dsimp only; exact Nat.ne_of_lt (Nat.lt_of_lt_of_le (by have := World.block_lt_of_cell? _ _ hw474_0; first | rwa [add_block] at this | exact this) GW477.out))) _).trans (hHeld.2.2.1)))), ((cell_far (p := ⟨gb477, _, none⟩) (by first | exact Nat.ne_of_lt (Nat.lt_of_lt_of_le (by have := World.block_lt_of_cell? _ _ hw474_1; first | rwa [add_block] at this | exact this) GW477.out) | (rw [add_block]; exact Nat.ne_of_lt (Nat.lt_of_lt_of_le (by have := World.block_lt_of_cell? _ _ hw474_1; first | rwa [add_block] at this | exact this) GW477.out)) | (show (Addr.add _ _).block ≠ _; rw [add_block]; exact Nat.ne_of_lt (Nat.lt_of_lt_of_le (by have := World.block_lt_of_cell? _ _ hw474_1; first | rwa [add_block] at this | exact this) GW477.out)) | (dsimp only; exact Nat.ne_of_lt (Nat.lt_of_lt_of_le (by have := World.block_lt_of_cell? _ _ hw474_1; first | rwa [add_block] at this | exact this) GW477.out))) _).trans (((cell_far (p := ⟨gb477, _, none⟩) (by first | exact Nat.ne_of_lt (Nat.lt_of_lt_of_le (by have := World.block_lt_of_cell? _ _ hw474_1; first | rwa [add_block] at this | exact this) GW477.out) | (rw [add_block]; exact Nat.ne_of_lt (Nat.lt_of_lt_of_le (by have := World.block_lt_of_cell? _ _ hw474_1; first | rwa [add_block] at this | exact this) GW477.out)) | (show (Addr.add _ _).block ≠ _; rw [add_block]; exact Nat.ne_of_lt (Nat.lt_of_lt_of_le (by have := World.block_lt_of_cell? _ _ hw474_1; first | rwa [add_block] at this | exact this) GW477.out)) | (dsimp only; exact Nat.ne_of_lt (Nat.lt_of_lt_of_le (by have := World.block_lt_of_cell? _ _ hw474_1; first | rwa [add_block] at this | exact this) GW477.out))) _).trans (hHeld.2.2.2.1)))), ((cell_far (p := ⟨gb477, _, none⟩) (by first | exact Nat.ne_of_lt (Nat.lt_of_lt_of_le (by have := World.block_lt_of_cell? _ _ hw474_2; first | rwa [add_block] at this | exact this) GW477.out) | (rw [add_block]; exact Nat.ne_of_lt (Nat.lt_of_lt_of_le (by have := World.block_lt_of_cell? _ _ hw474_2; first | rwa [add_block] at this | exact this) GW477.out)) | (show (Addr.add _ _).block ≠ _; rw [add_block]; exact Nat.ne_of_lt (Nat.lt_of_lt_of_le (by have := World.block_lt_of_cell? _ _ hw474_2; first | rwa [add_block] at this | exact this) GW477.out)) | (dsimp only; exact Nat.ne_of_lt (Nat.lt_of_lt_of_le (by have := World.block_lt_of_cell? _ _ hw474_2; first | rwa [add_block] at this | exact this) GW477.out))) _).trans (((cell_far (p := ⟨gb477, _, none⟩) (by first | exact Nat.ne_of_lt (Nat.lt_of_lt_of_le (by have := World.block_lt_of_cell? _ _ hw474_2; first | rwa [add_block] at this | exact this) GW477.out) | (rw [add_block]; exact Nat.ne_of_lt (Nat.lt_of_lt_of_le (by have := World.block_lt_of_cell? _ _ hw474_2; first | rwa [add_block] at this | exact this) GW477.out)) | (show (Addr.add _ _).block ≠ _; rw [add_block]; exact Nat.ne_of_lt (Nat.lt_of_lt_of_le (by have := World.block_lt_of_cell? _ _ hw474_2; first | rwa [add_block] at this | exact this) GW477.out)) | (dsimp only; exact Nat.ne_of_lt (Nat.lt_of_lt_of_le (by have := World.block_lt_of_cell? _ _ hw474_2; first | rwa [add_block] at this | exact this) GW477.out))) _).trans (hHeld.2.2.2.2))))⟩ (fun hHeld => ?_)
          clear hK K
          refine done_ (done_of HT_.out (by kernel_rfl)) ?_
          have hnb23 := NB473_472.out
          have hnc23 := NB472_473.out
          have hnb24 := NB473_477.out
          have hnc24 := NB477_473.out
          have hcz25_0 : w20.cell? ⟨gb473, 0, none⟩ = some (.int .i64 x474000_1) := (blk_cell BK473.out 0).trans rfl
          have hcz25_1 : w20.cell? ⟨gb473, 1, none⟩ = some (.int .i64 x474001_1) := (blk_cell BK473.out 1).trans rfl
          have hfz25_0 := blk_frozen BK473.out 0
          have hfz25_1 := blk_frozen BK473.out 1
          have hnb26 := NB477_471.out
          have hnc26 := NB471_477.out
          have hnb27 := NB477_472.out
          have hnc27 := NB472_477.out
          have hcz28_0 : w20.cell? ⟨gb477, 0, none⟩ = some (.int .i64 0) := (blk_cell BK477.out 0).trans rfl
          have hcz28_1 : w20.cell? ⟨gb477, 1, none⟩ = some (.int .i64 0) := (blk_cell BK477.out 1).trans rfl
          have hfz28_0 := blk_frozen BK477.out 0
          have hfz28_1 := blk_frozen BK477.out 1
          try go_wp2
          go_roundg k1
          case measure => have := HK1.out; omega
          case rel => exact ⟨(wrap64 (x6_1 + 1)), (ji12), (ji13), (by first | rfl | (simp; done) | (simp [*]; done)), (by first | exact H' | (simp only [hji12, hji13]; exact H') | (rw [hji12]; exact H') | (rw [hji13]; exact H')), ⟨by have := HK1.out; omega⟩, ⟨by (with_reducible repeat (first | refine zm_ ?_ _ | refine zn_ ?_ | refine zo_ ?_ _)); refine zp_ ?_ NB471_473.out _; (with_reducible repeat (first | refine zm_ ?_ _ | refine zn_ ?_ | refine zo_ ?_ _)); refine zp_ ?_ NB471_473.out _; (with_reducible repeat (first | refine zm_ ?_ _ | refine zn_ ?_ | refine zo_ ?_ _)); refine zp_ ?_ NB471_477.out _; (with_reducible repeat (first | refine zm_ ?_ _ | refine zn_ ?_ | refine zo_ ?_ _)); refine zp_ ?_ NB471_477.out _; (with_reducible repeat (first | refine zm_ ?_ _ | refine zn_ ?_ | refine zo_ ?_ _)); exact BK471.out⟩, ⟨by (with_reducible repeat (first | refine zm_ ?_ _ | refine zn_ ?_ | refine zo_ ?_ _)); refine zp_ ?_ NB472_473.out _; (with_reducible repeat (first | refine zm_ ?_ _ | refine zn_ ?_ | refine zo_ ?_ _)); refine zp_ ?_ NB472_473.out _; (with_reducible repeat (first | refine zm_ ?_ _ | refine zn_ ?_ | refine zo_ ?_ _)); refine zp_ ?_ NB472_477.out _; (with_reducible repeat (first | refine zm_ ?_ _ | refine zn_ ?_ | refine zo_ ?_ _)); refine zp_ ?_ NB472_477.out _; (with_reducible repeat (first | refine zm_ ?_ _ | refine zn_ ?_ | refine zo_ ?_ _)); exact BK472.out⟩, ⟨by (with_reducible repeat (first | refine zm_ ?_ _ | refine zn_ ?_ | refine zo_ ?_ _)); refine blk_put (cs := #[.int .i64 ji12, .int .i64 x474001_1]) ?_ 1 _ rfl; (with_reducible repeat (first | refine zm_ ?_ _ | refine zn_ ?_ | refine zo_ ?_ _)); refine blk_put (cs := #[.int .i64 x474000_1, .int .i64 x474001_1]) ?_ 0 _ rfl; (with_reducible repeat (first | refine zm_ ?_ _ | refine zn_ ?_ | refine zo_ ?_ _)); refine zp_ ?_ NB473_477.out _; (with_reducible repeat (first | refine zm_ ?_ _ | refine zn_ ?_ | refine zo_ ?_ _)); refine zp_ ?_ NB473_477.out _; (with_reducible repeat (first | refine zm_ ?_ _ | refine zn_ ?_ | refine zo_ ?_ _)); exact BK473.out⟩, ⟨by repeat (first | (with_reducible first | exact HB.out | apply zs_ | apply zt_ | apply zu_ | refine zr_ ?_ GE471.out | refine zr_ ?_ GE472.out | refine zr_ ?_ GE473.out | refine zr_ ?_ GE477.out) | exact HB.out)⟩⟩
        · rw [if_neg c10] at H
          exact absurd H (by simp)
      · rw [if_neg c9] at H
        have c9b0 : decide (x6_1 < (l0_1.length : Int)) = false := decide_eq_false c9
        clear c9
        simp only [Option.some.injEq, Prod.mk.injEq] at H
        obtain ⟨rfl, rfl⟩ := H
        have hnb29 := NB471_472.out
        have hnc29 := NB472_471.out
        have hnb30 := NB471_473.out
        have hnc30 := NB473_471.out
        have hcz31_0 : wr.cell? ⟨gb471, 0, none⟩ = some (.int .i64 a0_0) := (blk_cell BK471.out 0).trans rfl
        have hcz31_1 : wr.cell? ⟨gb471, 1, none⟩ = some (.slice A0_1 l0_1.length c0_1) := (blk_cell BK471.out 1).trans rfl
        have hfz31_0 := blk_frozen BK471.out 0
        have hfz31_1 := blk_frozen BK471.out 1
        have hnb32 := NB473_472.out
        have hnc32 := NB472_473.out
        have hcz33_0 : wr.cell? ⟨gb473, 0, none⟩ = some (.int .i64 x474000_1) := (blk_cell BK473.out 0).trans rfl
        have hcz33_1 : wr.cell? ⟨gb473, 1, none⟩ = some (.int .i64 x474001_1) := (blk_cell BK473.out 1).trans rfl
        have hfz33_0 := blk_frozen BK473.out 0
        have hfz33_1 := blk_frozen BK473.out 1
        have hcz34_0 : wr.cell? ⟨gb472, 0, none⟩ = some (.int .i64 0) := (blk_cell BK472.out 0).trans rfl
        have hcz34_1 : wr.cell? ⟨gb472, 1, none⟩ = some (.int .i64 0) := (blk_cell BK472.out 1).trans rfl
        have hfz34_0 := blk_frozen BK472.out 0
        have hfz34_1 := blk_frozen BK472.out 1
        go_wp2
        refine bodyPost_ret (results_cell_row rfl _ _ gb472 56 #[.int .i64 x474000_1, .int .i64 x474001_1] (0, 0) _ rfl (by (with_reducible repeat (first | refine zm_ ?_ _ | refine zn_ ?_ | refine zo_ ?_ _)); refine blk_put (cs := #[.int .i64 x474000_1, .int .i64 0]) ?_ 1 _ rfl; (with_reducible repeat (first | refine zm_ ?_ _ | refine zn_ ?_ | refine zo_ ?_ _)); refine blk_put (cs := #[.int .i64 0, .int .i64 0]) ?_ 0 _ rfl; (with_reducible repeat (first | refine zm_ ?_ _ | refine zn_ ?_ | refine zo_ ?_ _)); exact BK472.out) Try.underlying56 rfl (by kernel_rfl)) rfl ?_
        exact ⟨by first | rfl | (simp [errW_none, errW_some] <;> rfl) | (simp [*, errW_none, errW_some] <;> rfl), by repeat (first | (with_reducible first | exact HB.out | apply zs_ | apply zt_ | apply zu_ | refine zr_ ?_ GE471.out | refine zr_ ?_ GE472.out | refine zr_ ?_ GE473.out) | exact HB.out)⟩
open Go.Proofs.YteknbadjfojmbaaW.PrintWords renaming blk_drewN → zm_, blk_drew → zn_, blk_alloc → zo_, blk_far → zp_, blk_below → zq_, below_set → zr_, below_alloc → zs_, pw_below_drewN → zt_, below_drew1 → zu_, below_step → zv_, below_size → zw_
def quietusref14_Now.f (k : Nat) (a0_0 : Int) (l0_1 : List (S58)) (a1 : Int) : Option (Int × Int × Int) := (quietusref14_Check.f k a0_0 l0_1).bind fun t480 => (if t480 = 0 then ((quietusref14_instant.f a1).bind fun t481 => (if t481 = true then ((quietusref14_Bounds.f k a0_0 l0_1 a1).bind fun bt482 => (if bt482.1 > bt482.2 then (some (0, 0, 24)) else (some (bt482.1, bt482.2, 0)))) else (some (0, 0, 3)))) else (some (0, 0, t480)))
set_option maxHeartbeats 8000000 in
set_option maxRecDepth 100000 in
theorem quietusref14_Now.calls (k : Nat) (a0_0 : Int) (A0_1 : Option Addr) (c0_1 : Nat) (l0_1 : List (S58)) (a1 : Int) (r1 : Int) (r2 : Int) (r3 : Int) (w : World) (hr0_1 : Kd.C k58 w A0_1 l0_1.length l0_1) (hc0_1 : l0_1.length ≤ c0_1) (h : quietusref14_Now.f k a0_0 l0_1 a1 = some (r1, r2, r3)) :
    Calls Try.prog 40 #[.agg #[.int .i64 a0_0, .slice A0_1 l0_1.length c0_1], .int .i64 a1] w fun e w' => e = .returned (.agg #[.int .i64 r1, .int .i64 r2, .int .i64 r3]) ∧ Below w.heap.size w w' := by
  have hu54 := Try.underlying54
  have hu68 := Try.underlying68
  have hu56 := Try.underlying56
  have HR0_1 := Aside0.mk hr0_1
  have HC0_1 := Aside0.mk hc0_1
  clear hr0_1 hc0_1
  have HB := Aside0.mk (Below.refl w.heap.size w)
  have H : ((quietusref14_Check.f k a0_0 l0_1).bind fun t480 => (if t480 = 0 then ((quietusref14_instant.f a1).bind fun t481 => (if t481 = true then ((quietusref14_Bounds.f k a0_0 l0_1 a1).bind fun bt482 => (if bt482.1 > bt482.2 then (some (0, 0, 24)) else (some (bt482.1, bt482.2, 0)))) else (some (0, 0, 3)))) else (some (0, 0, t480)))) = some (r1, r2, r3) := h
  clear h
  replace H := Option.bind_eq_some_iff.mp H
  obtain ⟨t480, A30, H⟩ := H
  replace H : (if t480 = 0 then ((quietusref14_instant.f a1).bind fun t481 => (if t481 = true then ((quietusref14_Bounds.f k a0_0 l0_1 a1).bind fun bt482 => (if bt482.1 > bt482.2 then (some (0, 0, 24)) else (some (bt482.1, bt482.2, 0)))) else (some (0, 0, 3)))) else (some (0, 0, t480))) = some (r1, r2, r3) := H
  have A3 := Aside0.mk A30
  clear A30
  by_cases c4 : t480 = 0
  · rw [if_pos c4] at H
    have c4b0 : (t480 == 0) = true := beq_iff_eq.mpr c4
    have c4b1 : (t480 != 0) = false := bne_eq_false_iff_eq.mpr c4
    clear c4
    replace H := Option.bind_eq_some_iff.mp H
    obtain ⟨t481, A50, H⟩ := H
    replace H : (if t481 = true then ((quietusref14_Bounds.f k a0_0 l0_1 a1).bind fun bt482 => (if bt482.1 > bt482.2 then (some (0, 0, 24)) else (some (bt482.1, bt482.2, 0)))) else (some (0, 0, 3))) = some (r1, r2, r3) := H
    have A5 := Aside0.mk A50
    clear A50
    by_cases c6 : t481 = true
    · subst c6
      have H1 : ((quietusref14_Bounds.f k a0_0 l0_1 a1).bind fun bt482 => (if bt482.1 > bt482.2 then (some (0, 0, 24)) else (some (bt482.1, bt482.2, 0)))) = some (r1, r2, r3) := by rw [if_pos rfl] at H; exact H
      clear H
      have H := H1
      clear H1
      replace H := Option.bind_eq_some_iff.mp H
      obtain ⟨⟨t482, t483⟩, A70, H⟩ := H
      replace H : (if t482 > t483 then (some (0, 0, 24)) else (some (t482, t483, 0))) = some (r1, r2, r3) := H
      have A7 := Aside0.mk A70
      clear A70
      by_cases c8 : t482 > t483
      · rw [if_pos c8] at H
        have c8b0 : decide (t483 < t482) = true := decide_eq_true c8
        clear c8
        simp only [Option.some.injEq, Prod.mk.injEq] at H
        obtain ⟨rfl, rfl, rfl⟩ := H
        go_enter Try.func40, Try.ntmps40
        go_wp2_with (first | ((with_reducible refine gate_dst (N := 2) rfl ?_); refine box_event ?hg (N := 2) ?hd (cs := #[.int .i64 a0_0, .slice A0_1 l0_1.length c0_1]) (t := 54) ?hr ?_; (case hd => rfl); (case hg => rfl); (case hr => first | (go_simp; done) | (go_simp; rfl)); intro gb478 hg w9 hbox hb; have n0_ := Aside0.mk (zv_ (by repeat (first | (with_reducible first | exact HB.out | apply zs_ | apply zt_ | apply zu_) | exact HB.out)) hb); have n1_ := Aside0.mk (hbox); have n2_ := Aside0.mk ((by rw [hg]; exact (zw_ (by repeat (first | (with_reducible first | exact HB.out | apply zs_ | apply zt_ | apply zu_) | exact HB.out))) : w.heap.size ≤ gb478)); have n3_ := Aside0.mk ((by rw [hg]; exact (zw_ (by repeat (first | (with_reducible first | exact HB.out | apply zs_ | apply zt_ | apply zu_) | exact HB.out))) : w.heap.size ≤ gb478)); clear HB; have HB := n0_; have BK478 := n1_; have GW478 := n2_; have GE478 := n3_; clear n0_ n1_ n2_ n3_; clear hb hbox hg) | ((with_reducible refine gate_dst (N := 4) rfl ?_); refine box_event ?hg (N := 4) ?hd (cs := #[.int .i64 0, .int .i64 0, .int .i64 0]) (t := 68) ?hr ?_; (case hd => rfl); (case hg => rfl); (case hr => first | (go_simp; done) | (go_simp; rfl)); intro gb479 hg w10 hbox hb; have n0_ := Aside0.mk (zq_ (g := gb478) (o := .cells #[.int .i64 a0_0, .slice A0_1 l0_1.length c0_1] 54 (0, 0)) (by (with_reducible repeat (first | refine zm_ ?_ _ | refine zn_ ?_ | refine zo_ ?_ _)); exact BK478.out) hb); have n1_ := Aside0.mk (zv_ (by repeat (first | (with_reducible first | exact HB.out | apply zs_ | apply zt_ | apply zu_ | refine zr_ ?_ GE478.out) | exact HB.out)) hb); have n2_ := Aside0.mk (hbox); have n3_ := Aside0.mk ((by rw [hg]; exact (zw_ (by repeat (first | (with_reducible first | exact HB.out | apply zs_ | apply zt_ | apply zu_ | refine zr_ ?_ GE478.out) | exact HB.out))) : w.heap.size ≤ gb479)); have n4_ := Aside0.mk ((by rw [hg]; exact (zw_ (by repeat (first | (with_reducible first | exact HB.out | apply zs_ | apply zt_ | apply zu_ | refine zr_ ?_ GE478.out) | exact HB.out))) : w.heap.size ≤ gb479)); have n5_ := Aside0.mk ((by rw [hg]; exact Nat.ne_of_lt (blk_lt (g := gb478) (o := .cells #[.int .i64 a0_0, .slice A0_1 l0_1.length c0_1] 54 (0, 0)) (by (with_reducible repeat (first | refine zm_ ?_ _ | refine zn_ ?_ | refine zo_ ?_ _)); exact BK478.out)) : gb478 ≠ gb479)); have n6_ := Aside0.mk ((by rw [hg]; exact Nat.ne_of_gt (blk_lt (g := gb478) (o := .cells #[.int .i64 a0_0, .slice A0_1 l0_1.length c0_1] 54 (0, 0)) (by (with_reducible repeat (first | refine zm_ ?_ _ | refine zn_ ?_ | refine zo_ ?_ _)); exact BK478.out)) : gb479 ≠ gb478)); clear BK478; clear HB; have BK478 := n0_; have HB := n1_; have BK479 := n2_; have GW479 := n3_; have GE479 := n4_; have NB478_479 := n5_; have NB479_478 := n6_; clear n0_ n1_ n2_ n3_ n4_ n5_ n6_; clear hb hbox hg; have hnb11 := NB478_479.out; have hnc11 := NB479_478.out; have hcz12_0 : w10.cell? ⟨gb478, 0, none⟩ = some (.int .i64 a0_0) := (blk_cell BK478.out 0).trans rfl; have hcz12_1 : w10.cell? ⟨gb478, 1, none⟩ = some (.slice A0_1 l0_1.length c0_1) := (blk_cell BK478.out 1).trans rfl; have hfz12_0 := blk_frozen BK478.out 0; have hfz12_1 := blk_frozen BK478.out 1) | ((with_reducible refine gate_callee (f := 44) rfl ?_); refine goesL_ (some 9) rfl rfl Try.func44 (by kernel_rfl) rfl #[.agg #[.int .i64 a0_0, .slice A0_1 l0_1.length c0_1]] rfl (by (try simp only [List.map_toArray, List.map_cons, List.map_nil]); first | done | rfl | (simp only [List.length_drop, List.length_take]; rfl)) ?_; (with_reducible refine (quietusref14_Check.calls k a0_0 _ _ l0_1 t480 _ ?side1 ?side2 A3.out).mono ?_); (case side1 => repeat (first | exact (Kd.C_below HR0_1.out HB.out) | (with_reducible refine Kd.C_alloc ?_ _) | (with_reducible refine Kd.C_drewN ?_ _) | (with_reducible refine Kd.C_drew ?_))); (case side2 => exact HC0_1.out); rintro e w13 ⟨rfl, hb⟩; refine ⟨_, rfl, ?_⟩; have n0_ := Aside0.mk (zq_ (g := gb478) (o := .cells #[.int .i64 a0_0, .slice A0_1 l0_1.length c0_1] 54 (0, 0)) (by (with_reducible repeat (first | refine zm_ ?_ _ | refine zn_ ?_ | refine zo_ ?_ _)); exact BK478.out) hb); have n1_ := Aside0.mk (zq_ (g := gb479) (o := .cells #[.int .i64 0, .int .i64 0, .int .i64 0] 68 (0, 0)) (by (with_reducible repeat (first | refine zm_ ?_ _ | refine zn_ ?_ | refine zo_ ?_ _)); exact BK479.out) hb); have n2_ := Aside0.mk (zv_ (by repeat (first | (with_reducible first | exact HB.out | apply zs_ | apply zt_ | apply zu_ | refine zr_ ?_ GE478.out | refine zr_ ?_ GE479.out) | exact HB.out)) hb); clear BK478; clear BK479; clear HB; have BK478 := n0_; have BK479 := n1_; have HB := n2_; clear n0_ n1_ n2_; (try clear hb); (try clear hb2); (try clear hk); (try clear hi)) | ((with_reducible refine gate_callee (f := 73) rfl ?_); refine goesL_ (some 15) rfl rfl Try.func73 (by kernel_rfl) rfl #[.int .i64 a1] rfl (by (try simp only [List.map_toArray, List.map_cons, List.map_nil]); first | done | rfl | (simp only [List.length_drop, List.length_take]; rfl)) ?_; (with_reducible refine (quietusref14_instant.calls a1 true _ A5.out).mono ?_); rintro e w' ⟨rfl, ⟨nd, rfl⟩⟩; refine ⟨_, rfl, ?_⟩; (try (rw [drewN_self w13]; generalize hq_ : World.drewN w13 _ = w13; have n0_ : Aside0 (w13.heap[gb478]? = some (.cells #[.int .i64 a0_0, .slice A0_1 l0_1.length c0_1] 54 (0, 0))) := ⟨by rw [← hq_]; exact (by (with_reducible repeat (first | refine zm_ ?_ _ | refine zn_ ?_ | refine zo_ ?_ _)); exact BK478.out)⟩; have n1_ : Aside0 (w13.heap[gb479]? = some (.cells #[.int .i64 0, .int .i64 0, .int .i64 0] 68 (0, 0))) := ⟨by rw [← hq_]; exact (by (with_reducible repeat (first | refine zm_ ?_ _ | refine zn_ ?_ | refine zo_ ?_ _)); exact BK479.out)⟩; have n2_ : Aside0 (Below w.heap.size w w13) := ⟨by rw [← hq_]; exact (by repeat (first | (with_reducible first | exact HB.out | apply zs_ | apply zt_ | apply zu_ | refine zr_ ?_ GE478.out | refine zr_ ?_ GE479.out) | exact HB.out))⟩; clear BK478 BK479 HB hq_; have BK478 := n0_; have BK479 := n1_; have HB := n2_; clear n0_ n1_ n2_)); have hcz14_0 : w13.cell? ⟨gb478, 0, none⟩ = some (.int .i64 a0_0) := (blk_cell BK478.out 0).trans rfl; have hcz14_1 : w13.cell? ⟨gb478, 1, none⟩ = some (.slice A0_1 l0_1.length c0_1) := (blk_cell BK478.out 1).trans rfl; have hfz14_0 := blk_frozen BK478.out 0; have hfz14_1 := blk_frozen BK478.out 1) | ((with_reducible refine gate_callee (f := 75) rfl ?_); refine goesL_ (some 21) rfl rfl Try.func75 (by kernel_rfl) rfl #[.agg #[.int .i64 a0_0, .slice A0_1 l0_1.length c0_1], .int .i64 a1] rfl (by (try simp only [List.map_toArray, List.map_cons, List.map_nil]); first | done | rfl | (simp only [List.length_drop, List.length_take]; rfl)) ?_; (with_reducible refine (quietusref14_Bounds.calls k a0_0 _ _ l0_1 a1 t482 t483 _ ?side1 ?side2 A7.out).mono ?_); (case side1 => repeat (first | exact (Kd.C_below HR0_1.out HB.out) | (with_reducible refine Kd.C_alloc ?_ _) | (with_reducible refine Kd.C_drewN ?_ _) | (with_reducible refine Kd.C_drew ?_))); (case side2 => exact HC0_1.out); rintro e w15 ⟨rfl, hb⟩; refine ⟨_, rfl, ?_⟩; have n0_ := Aside0.mk (zq_ (g := gb478) (o := .cells #[.int .i64 a0_0, .slice A0_1 l0_1.length c0_1] 54 (0, 0)) (by (with_reducible repeat (first | refine zm_ ?_ _ | refine zn_ ?_ | refine zo_ ?_ _)); exact BK478.out) hb); have n1_ := Aside0.mk (zq_ (g := gb479) (o := .cells #[.int .i64 0, .int .i64 0, .int .i64 0] 68 (0, 0)) (by (with_reducible repeat (first | refine zm_ ?_ _ | refine zn_ ?_ | refine zo_ ?_ _)); exact BK479.out) hb); have n2_ := Aside0.mk (zv_ (by repeat (first | (with_reducible first | exact HB.out | apply zs_ | apply zt_ | apply zu_ | refine zr_ ?_ GE478.out | refine zr_ ?_ GE479.out) | exact HB.out)) hb); clear BK478; clear BK479; clear HB; have BK478 := n0_; have BK479 := n1_; have HB := n2_; clear n0_ n1_ n2_; (try clear hb); (try clear hb2); (try clear hk); (try clear hi)) | ((with_reducible refine gate_dst (N := 7) rfl ?_); refine box_event ?hg (N := 7) ?hd (cs := #[.int .i64 0, .int .i64 0]) (t := 56) ?hr ?_; (case hd => rfl); (case hg => rfl); (case hr => first | (go_simp; done) | (go_simp; rfl)); intro gb484 hg w16 hbox hb; have n0_ := Aside0.mk (zq_ (g := gb478) (o := .cells #[.int .i64 a0_0, .slice A0_1 l0_1.length c0_1] 54 (0, 0)) (by (with_reducible repeat (first | refine zm_ ?_ _ | refine zn_ ?_ | refine zo_ ?_ _)); exact BK478.out) hb); have n1_ := Aside0.mk (zq_ (g := gb479) (o := .cells #[.int .i64 0, .int .i64 0, .int .i64 0] 68 (0, 0)) (by (with_reducible repeat (first | refine zm_ ?_ _ | refine zn_ ?_ | refine zo_ ?_ _)); exact BK479.out) hb); have n2_ := Aside0.mk (zv_ (by repeat (first | (with_reducible first | exact HB.out | apply zs_ | apply zt_ | apply zu_ | refine zr_ ?_ GE478.out | refine zr_ ?_ GE479.out) | exact HB.out)) hb); have n3_ := Aside0.mk (hbox); have n4_ := Aside0.mk ((by rw [hg]; exact (zw_ (by repeat (first | (with_reducible first | exact HB.out | apply zs_ | apply zt_ | apply zu_ | refine zr_ ?_ GE478.out | refine zr_ ?_ GE479.out) | exact HB.out))) : w.heap.size ≤ gb484)); have n5_ := Aside0.mk ((by rw [hg]; exact (zw_ (by repeat (first | (with_reducible first | exact HB.out | apply zs_ | apply zt_ | apply zu_ | refine zr_ ?_ GE478.out | refine zr_ ?_ GE479.out) | exact HB.out))) : w.heap.size ≤ gb484)); have n6_ := Aside0.mk ((by rw [hg]; exact Nat.ne_of_lt (blk_lt (g := gb478) (o := .cells #[.int .i64 a0_0, .slice A0_1 l0_1.length c0_1] 54 (0, 0)) (by (with_reducible repeat (first | refine zm_ ?_ _ | refine zn_ ?_ | refine zo_ ?_ _)); exact BK478.out)) : gb478 ≠ gb484)); have n7_ := Aside0.mk ((by rw [hg]; exact Nat.ne_of_gt (blk_lt (g := gb478) (o := .cells #[.int .i64 a0_0, .slice A0_1 l0_1.length c0_1] 54 (0, 0)) (by (with_reducible repeat (first | refine zm_ ?_ _ | refine zn_ ?_ | refine zo_ ?_ _)); exact BK478.out)) : gb484 ≠ gb478)); have n8_ := Aside0.mk ((by rw [hg]; exact Nat.ne_of_lt (blk_lt (g := gb479) (o := .cells #[.int .i64 0, .int .i64 0, .int .i64 0] 68 (0, 0)) (by (with_reducible repeat (first | refine zm_ ?_ _ | refine zn_ ?_ | refine zo_ ?_ _)); exact BK479.out)) : gb479 ≠ gb484)); have n9_ := Aside0.mk ((by rw [hg]; exact Nat.ne_of_gt (blk_lt (g := gb479) (o := .cells #[.int .i64 0, .int .i64 0, .int .i64 0] 68 (0, 0)) (by (with_reducible repeat (first | refine zm_ ?_ _ | refine zn_ ?_ | refine zo_ ?_ _)); exact BK479.out)) : gb484 ≠ gb479)); clear BK478; clear BK479; clear HB; have BK478 := n0_; have BK479 := n1_; have HB := n2_; have BK484 := n3_; have GW484 := n4_; have GE484 := n5_; have NB478_484 := n6_; have NB484_478 := n7_; have NB479_484 := n8_; have NB484_479 := n9_; clear n0_ n1_ n2_ n3_ n4_ n5_ n6_ n7_ n8_ n9_; clear hb hbox hg; have hnb17 := NB484_478.out; have hnc17 := NB478_484.out; have hnb18 := NB484_479.out; have hnc18 := NB479_484.out; have hcz19_0 : w16.cell? ⟨gb484, 0, none⟩ = some (.int .i64 0) := (blk_cell BK484.out 0).trans rfl; have hcz19_1 : w16.cell? ⟨gb484, 1, none⟩ = some (.int .i64 0) := (blk_cell BK484.out 1).trans rfl; have hfz19_0 := blk_frozen BK484.out 0; have hfz19_1 := blk_frozen BK484.out 1; have hcz20_0 : w16.cell? ⟨gb479, 0, none⟩ = some (.int .i64 0) := (blk_cell BK479.out 0).trans rfl; have hcz20_1 : w16.cell? ⟨gb479, 1, none⟩ = some (.int .i64 0) := (blk_cell BK479.out 1).trans rfl; have hcz20_2 : w16.cell? ⟨gb479, 2, none⟩ = some (.int .i64 0) := (blk_cell BK479.out 2).trans rfl; have hfz20_0 := blk_frozen BK479.out 0; have hfz20_1 := blk_frozen BK479.out 1; have hfz20_2 := blk_frozen BK479.out 2))
        refine bodyPost_ret (results_cell_row rfl _ _ gb479 68 #[.int .i64 0, .int .i64 0, .int .i64 24] (0, 0) _ rfl (by (with_reducible repeat (first | refine zm_ ?_ _ | refine zn_ ?_ | refine zo_ ?_ _)); refine blk_put (cs := #[.int .i64 0, .int .i64 0, .int .i64 0]) ?_ 2 _ rfl; (with_reducible repeat (first | refine zm_ ?_ _ | refine zn_ ?_ | refine zo_ ?_ _)); refine blk_put (cs := #[.int .i64 0, .int .i64 0, .int .i64 0]) ?_ 1 _ rfl; (with_reducible repeat (first | refine zm_ ?_ _ | refine zn_ ?_ | refine zo_ ?_ _)); refine blk_put (cs := #[.int .i64 0, .int .i64 0, .int .i64 0]) ?_ 0 _ rfl; (with_reducible repeat (first | refine zm_ ?_ _ | refine zn_ ?_ | refine zo_ ?_ _)); refine zp_ ?_ NB479_484.out _; (with_reducible repeat (first | refine zm_ ?_ _ | refine zn_ ?_ | refine zo_ ?_ _)); refine zp_ ?_ NB479_484.out _; (with_reducible repeat (first | refine zm_ ?_ _ | refine zn_ ?_ | refine zo_ ?_ _)); exact BK479.out) Try.underlying68 rfl (by kernel_rfl)) rfl ?_
        exact ⟨by first | rfl | (simp [errW_none, errW_some] <;> rfl) | (simp [*, errW_none, errW_some] <;> rfl), by repeat (first | (with_reducible first | exact HB.out | apply zs_ | apply zt_ | apply zu_ | refine zr_ ?_ GE478.out | refine zr_ ?_ GE479.out | refine zr_ ?_ GE484.out) | exact HB.out)⟩
      · rw [if_neg c8] at H
        have c8b0 : decide (t483 < t482) = false := decide_eq_false c8
        clear c8
        simp only [Option.some.injEq, Prod.mk.injEq] at H
        obtain ⟨rfl, rfl, rfl⟩ := H
        go_enter Try.func40, Try.ntmps40
        go_wp2_with (first | ((with_reducible refine gate_dst (N := 2) rfl ?_); refine box_event ?hg (N := 2) ?hd (cs := #[.int .i64 a0_0, .slice A0_1 l0_1.length c0_1]) (t := 54) ?hr ?_; (case hd => rfl); (case hg => rfl); (case hr => first | (go_simp; done) | (go_simp; rfl)); intro gb478 hg w21 hbox hb; have n0_ := Aside0.mk (zv_ (by repeat (first | (with_reducible first | exact HB.out | apply zs_ | apply zt_ | apply zu_) | exact HB.out)) hb); have n1_ := Aside0.mk (hbox); have n2_ := Aside0.mk ((by rw [hg]; exact (zw_ (by repeat (first | (with_reducible first | exact HB.out | apply zs_ | apply zt_ | apply zu_) | exact HB.out))) : w.heap.size ≤ gb478)); have n3_ := Aside0.mk ((by rw [hg]; exact (zw_ (by repeat (first | (with_reducible first | exact HB.out | apply zs_ | apply zt_ | apply zu_) | exact HB.out))) : w.heap.size ≤ gb478)); clear HB; have HB := n0_; have BK478 := n1_; have GW478 := n2_; have GE478 := n3_; clear n0_ n1_ n2_ n3_; clear hb hbox hg) | ((with_reducible refine gate_dst (N := 4) rfl ?_); refine box_event ?hg (N := 4) ?hd (cs := #[.int .i64 0, .int .i64 0, .int .i64 0]) (t := 68) ?hr ?_; (case hd => rfl); (case hg => rfl); (case hr => first | (go_simp; done) | (go_simp; rfl)); intro gb479 hg w22 hbox hb; have n0_ := Aside0.mk (zq_ (g := gb478) (o := .cells #[.int .i64 a0_0, .slice A0_1 l0_1.length c0_1] 54 (0, 0)) (by (with_reducible repeat (first | refine zm_ ?_ _ | refine zn_ ?_ | refine zo_ ?_ _)); exact BK478.out) hb); have n1_ := Aside0.mk (zv_ (by repeat (first | (with_reducible first | exact HB.out | apply zs_ | apply zt_ | apply zu_ | refine zr_ ?_ GE478.out) | exact HB.out)) hb); have n2_ := Aside0.mk (hbox); have n3_ := Aside0.mk ((by rw [hg]; exact (zw_ (by repeat (first | (with_reducible first | exact HB.out | apply zs_ | apply zt_ | apply zu_ | refine zr_ ?_ GE478.out) | exact HB.out))) : w.heap.size ≤ gb479)); have n4_ := Aside0.mk ((by rw [hg]; exact (zw_ (by repeat (first | (with_reducible first | exact HB.out | apply zs_ | apply zt_ | apply zu_ | refine zr_ ?_ GE478.out) | exact HB.out))) : w.heap.size ≤ gb479)); have n5_ := Aside0.mk ((by rw [hg]; exact Nat.ne_of_lt (blk_lt (g := gb478) (o := .cells #[.int .i64 a0_0, .slice A0_1 l0_1.length c0_1] 54 (0, 0)) (by (with_reducible repeat (first | refine zm_ ?_ _ | refine zn_ ?_ | refine zo_ ?_ _)); exact BK478.out)) : gb478 ≠ gb479)); have n6_ := Aside0.mk ((by rw [hg]; exact Nat.ne_of_gt (blk_lt (g := gb478) (o := .cells #[.int .i64 a0_0, .slice A0_1 l0_1.length c0_1] 54 (0, 0)) (by (with_reducible repeat (first | refine zm_ ?_ _ | refine zn_ ?_ | refine zo_ ?_ _)); exact BK478.out)) : gb479 ≠ gb478)); clear BK478; clear HB; have BK478 := n0_; have HB := n1_; have BK479 := n2_; have GW479 := n3_; have GE479 := n4_; have NB478_479 := n5_; have NB479_478 := n6_; clear n0_ n1_ n2_ n3_ n4_ n5_ n6_; clear hb hbox hg; have hnb23 := NB478_479.out; have hnc23 := NB479_478.out; have hcz24_0 : w22.cell? ⟨gb478, 0, none⟩ = some (.int .i64 a0_0) := (blk_cell BK478.out 0).trans rfl; have hcz24_1 : w22.cell? ⟨gb478, 1, none⟩ = some (.slice A0_1 l0_1.length c0_1) := (blk_cell BK478.out 1).trans rfl; have hfz24_0 := blk_frozen BK478.out 0; have hfz24_1 := blk_frozen BK478.out 1) | ((with_reducible refine gate_callee (f := 44) rfl ?_); refine goesL_ (some 9) rfl rfl Try.func44 (by kernel_rfl) rfl #[.agg #[.int .i64 a0_0, .slice A0_1 l0_1.length c0_1]] rfl (by (try simp only [List.map_toArray, List.map_cons, List.map_nil]); first | done | rfl | (simp only [List.length_drop, List.length_take]; rfl)) ?_; (with_reducible refine (quietusref14_Check.calls k a0_0 _ _ l0_1 t480 _ ?side1 ?side2 A3.out).mono ?_); (case side1 => repeat (first | exact (Kd.C_below HR0_1.out HB.out) | (with_reducible refine Kd.C_alloc ?_ _) | (with_reducible refine Kd.C_drewN ?_ _) | (with_reducible refine Kd.C_drew ?_))); (case side2 => exact HC0_1.out); rintro e w25 ⟨rfl, hb⟩; refine ⟨_, rfl, ?_⟩; have n0_ := Aside0.mk (zq_ (g := gb478) (o := .cells #[.int .i64 a0_0, .slice A0_1 l0_1.length c0_1] 54 (0, 0)) (by (with_reducible repeat (first | refine zm_ ?_ _ | refine zn_ ?_ | refine zo_ ?_ _)); exact BK478.out) hb); have n1_ := Aside0.mk (zq_ (g := gb479) (o := .cells #[.int .i64 0, .int .i64 0, .int .i64 0] 68 (0, 0)) (by (with_reducible repeat (first | refine zm_ ?_ _ | refine zn_ ?_ | refine zo_ ?_ _)); exact BK479.out) hb); have n2_ := Aside0.mk (zv_ (by repeat (first | (with_reducible first | exact HB.out | apply zs_ | apply zt_ | apply zu_ | refine zr_ ?_ GE478.out | refine zr_ ?_ GE479.out) | exact HB.out)) hb); clear BK478; clear BK479; clear HB; have BK478 := n0_; have BK479 := n1_; have HB := n2_; clear n0_ n1_ n2_; (try clear hb); (try clear hb2); (try clear hk); (try clear hi)) | ((with_reducible refine gate_callee (f := 73) rfl ?_); refine goesL_ (some 15) rfl rfl Try.func73 (by kernel_rfl) rfl #[.int .i64 a1] rfl (by (try simp only [List.map_toArray, List.map_cons, List.map_nil]); first | done | rfl | (simp only [List.length_drop, List.length_take]; rfl)) ?_; (with_reducible refine (quietusref14_instant.calls a1 true _ A5.out).mono ?_); rintro e w' ⟨rfl, ⟨nd, rfl⟩⟩; refine ⟨_, rfl, ?_⟩; (try (rw [drewN_self w25]; generalize hq_ : World.drewN w25 _ = w25; have n0_ : Aside0 (w25.heap[gb478]? = some (.cells #[.int .i64 a0_0, .slice A0_1 l0_1.length c0_1] 54 (0, 0))) := ⟨by rw [← hq_]; exact (by (with_reducible repeat (first | refine zm_ ?_ _ | refine zn_ ?_ | refine zo_ ?_ _)); exact BK478.out)⟩; have n1_ : Aside0 (w25.heap[gb479]? = some (.cells #[.int .i64 0, .int .i64 0, .int .i64 0] 68 (0, 0))) := ⟨by rw [← hq_]; exact (by (with_reducible repeat (first | refine zm_ ?_ _ | refine zn_ ?_ | refine zo_ ?_ _)); exact BK479.out)⟩; have n2_ : Aside0 (Below w.heap.size w w25) := ⟨by rw [← hq_]; exact (by repeat (first | (with_reducible first | exact HB.out | apply zs_ | apply zt_ | apply zu_ | refine zr_ ?_ GE478.out | refine zr_ ?_ GE479.out) | exact HB.out))⟩; clear BK478 BK479 HB hq_; have BK478 := n0_; have BK479 := n1_; have HB := n2_; clear n0_ n1_ n2_)); have hcz26_0 : w25.cell? ⟨gb478, 0, none⟩ = some (.int .i64 a0_0) := (blk_cell BK478.out 0).trans rfl; have hcz26_1 : w25.cell? ⟨gb478, 1, none⟩ = some (.slice A0_1 l0_1.length c0_1) := (blk_cell BK478.out 1).trans rfl; have hfz26_0 := blk_frozen BK478.out 0; have hfz26_1 := blk_frozen BK478.out 1) | ((with_reducible refine gate_callee (f := 75) rfl ?_); refine goesL_ (some 21) rfl rfl Try.func75 (by kernel_rfl) rfl #[.agg #[.int .i64 a0_0, .slice A0_1 l0_1.length c0_1], .int .i64 a1] rfl (by (try simp only [List.map_toArray, List.map_cons, List.map_nil]); first | done | rfl | (simp only [List.length_drop, List.length_take]; rfl)) ?_; (with_reducible refine (quietusref14_Bounds.calls k a0_0 _ _ l0_1 a1 t482 t483 _ ?side1 ?side2 A7.out).mono ?_); (case side1 => repeat (first | exact (Kd.C_below HR0_1.out HB.out) | (with_reducible refine Kd.C_alloc ?_ _) | (with_reducible refine Kd.C_drewN ?_ _) | (with_reducible refine Kd.C_drew ?_))); (case side2 => exact HC0_1.out); rintro e w27 ⟨rfl, hb⟩; refine ⟨_, rfl, ?_⟩; have n0_ := Aside0.mk (zq_ (g := gb478) (o := .cells #[.int .i64 a0_0, .slice A0_1 l0_1.length c0_1] 54 (0, 0)) (by (with_reducible repeat (first | refine zm_ ?_ _ | refine zn_ ?_ | refine zo_ ?_ _)); exact BK478.out) hb); have n1_ := Aside0.mk (zq_ (g := gb479) (o := .cells #[.int .i64 0, .int .i64 0, .int .i64 0] 68 (0, 0)) (by (with_reducible repeat (first | refine zm_ ?_ _ | refine zn_ ?_ | refine zo_ ?_ _)); exact BK479.out) hb); have n2_ := Aside0.mk (zv_ (by repeat (first | (with_reducible first | exact HB.out | apply zs_ | apply zt_ | apply zu_ | refine zr_ ?_ GE478.out | refine zr_ ?_ GE479.out) | exact HB.out)) hb); clear BK478; clear BK479; clear HB; have BK478 := n0_; have BK479 := n1_; have HB := n2_; clear n0_ n1_ n2_; (try clear hb); (try clear hb2); (try clear hk); (try clear hi)) | ((with_reducible refine gate_dst (N := 7) rfl ?_); refine box_event ?hg (N := 7) ?hd (cs := #[.int .i64 0, .int .i64 0]) (t := 56) ?hr ?_; (case hd => rfl); (case hg => rfl); (case hr => first | (go_simp; done) | (go_simp; rfl)); intro gb484 hg w28 hbox hb; have n0_ := Aside0.mk (zq_ (g := gb478) (o := .cells #[.int .i64 a0_0, .slice A0_1 l0_1.length c0_1] 54 (0, 0)) (by (with_reducible repeat (first | refine zm_ ?_ _ | refine zn_ ?_ | refine zo_ ?_ _)); exact BK478.out) hb); have n1_ := Aside0.mk (zq_ (g := gb479) (o := .cells #[.int .i64 0, .int .i64 0, .int .i64 0] 68 (0, 0)) (by (with_reducible repeat (first | refine zm_ ?_ _ | refine zn_ ?_ | refine zo_ ?_ _)); exact BK479.out) hb); have n2_ := Aside0.mk (zv_ (by repeat (first | (with_reducible first | exact HB.out | apply zs_ | apply zt_ | apply zu_ | refine zr_ ?_ GE478.out | refine zr_ ?_ GE479.out) | exact HB.out)) hb); have n3_ := Aside0.mk (hbox); have n4_ := Aside0.mk ((by rw [hg]; exact (zw_ (by repeat (first | (with_reducible first | exact HB.out | apply zs_ | apply zt_ | apply zu_ | refine zr_ ?_ GE478.out | refine zr_ ?_ GE479.out) | exact HB.out))) : w.heap.size ≤ gb484)); have n5_ := Aside0.mk ((by rw [hg]; exact (zw_ (by repeat (first | (with_reducible first | exact HB.out | apply zs_ | apply zt_ | apply zu_ | refine zr_ ?_ GE478.out | refine zr_ ?_ GE479.out) | exact HB.out))) : w.heap.size ≤ gb484)); have n6_ := Aside0.mk ((by rw [hg]; exact Nat.ne_of_lt (blk_lt (g := gb478) (o := .cells #[.int .i64 a0_0, .slice A0_1 l0_1.length c0_1] 54 (0, 0)) (by (with_reducible repeat (first | refine zm_ ?_ _ | refine zn_ ?_ | refine zo_ ?_ _)); exact BK478.out)) : gb478 ≠ gb484)); have n7_ := Aside0.mk ((by rw [hg]; exact Nat.ne_of_gt (blk_lt (g := gb478) (o := .cells #[.int .i64 a0_0, .slice A0_1 l0_1.length c0_1] 54 (0, 0)) (by (with_reducible repeat (first | refine zm_ ?_ _ | refine zn_ ?_ | refine zo_ ?_ _)); exact BK478.out)) : gb484 ≠ gb478)); have n8_ := Aside0.mk ((by rw [hg]; exact Nat.ne_of_lt (blk_lt (g := gb479) (o := .cells #[.int .i64 0, .int .i64 0, .int .i64 0] 68 (0, 0)) (by (with_reducible repeat (first | refine zm_ ?_ _ | refine zn_ ?_ | refine zo_ ?_ _)); exact BK479.out)) : gb479 ≠ gb484)); have n9_ := Aside0.mk ((by rw [hg]; exact Nat.ne_of_gt (blk_lt (g := gb479) (o := .cells #[.int .i64 0, .int .i64 0, .int .i64 0] 68 (0, 0)) (by (with_reducible repeat (first | refine zm_ ?_ _ | refine zn_ ?_ | refine zo_ ?_ _)); exact BK479.out)) : gb484 ≠ gb479)); clear BK478; clear BK479; clear HB; have BK478 := n0_; have BK479 := n1_; have HB := n2_; have BK484 := n3_; have GW484 := n4_; have GE484 := n5_; have NB478_484 := n6_; have NB484_478 := n7_; have NB479_484 := n8_; have NB484_479 := n9_; clear n0_ n1_ n2_ n3_ n4_ n5_ n6_ n7_ n8_ n9_; clear hb hbox hg; have hnb29 := NB484_478.out; have hnc29 := NB478_484.out; have hnb30 := NB484_479.out; have hnc30 := NB479_484.out; have hcz31_0 : w28.cell? ⟨gb484, 0, none⟩ = some (.int .i64 0) := (blk_cell BK484.out 0).trans rfl; have hcz31_1 : w28.cell? ⟨gb484, 1, none⟩ = some (.int .i64 0) := (blk_cell BK484.out 1).trans rfl; have hfz31_0 := blk_frozen BK484.out 0; have hfz31_1 := blk_frozen BK484.out 1; have hcz32_0 : w28.cell? ⟨gb479, 0, none⟩ = some (.int .i64 0) := (blk_cell BK479.out 0).trans rfl; have hcz32_1 : w28.cell? ⟨gb479, 1, none⟩ = some (.int .i64 0) := (blk_cell BK479.out 1).trans rfl; have hcz32_2 : w28.cell? ⟨gb479, 2, none⟩ = some (.int .i64 0) := (blk_cell BK479.out 2).trans rfl; have hfz32_0 := blk_frozen BK479.out 0; have hfz32_1 := blk_frozen BK479.out 1; have hfz32_2 := blk_frozen BK479.out 2))
        refine bodyPost_ret (results_cell_row rfl _ _ gb479 68 #[.int .i64 t482, .int .i64 t483, .int .i64 0] (0, 0) _ rfl (by (with_reducible repeat (first | refine zm_ ?_ _ | refine zn_ ?_ | refine zo_ ?_ _)); refine blk_put (cs := #[.int .i64 t482, .int .i64 t483, .int .i64 0]) ?_ 2 _ rfl; (with_reducible repeat (first | refine zm_ ?_ _ | refine zn_ ?_ | refine zo_ ?_ _)); refine blk_put (cs := #[.int .i64 t482, .int .i64 0, .int .i64 0]) ?_ 1 _ rfl; (with_reducible repeat (first | refine zm_ ?_ _ | refine zn_ ?_ | refine zo_ ?_ _)); refine blk_put (cs := #[.int .i64 0, .int .i64 0, .int .i64 0]) ?_ 0 _ rfl; (with_reducible repeat (first | refine zm_ ?_ _ | refine zn_ ?_ | refine zo_ ?_ _)); refine zp_ ?_ NB479_484.out _; (with_reducible repeat (first | refine zm_ ?_ _ | refine zn_ ?_ | refine zo_ ?_ _)); refine zp_ ?_ NB479_484.out _; (with_reducible repeat (first | refine zm_ ?_ _ | refine zn_ ?_ | refine zo_ ?_ _)); exact BK479.out) Try.underlying68 rfl (by kernel_rfl)) rfl ?_
        exact ⟨by first | rfl | (simp [errW_none, errW_some] <;> rfl) | (simp [*, errW_none, errW_some] <;> rfl), by repeat (first | (with_reducible first | exact HB.out | apply zs_ | apply zt_ | apply zu_ | refine zr_ ?_ GE478.out | refine zr_ ?_ GE479.out | refine zr_ ?_ GE484.out) | exact HB.out)⟩
    · replace c6 := Bool.eq_false_iff.mpr c6
      subst c6
      have H1 : (some (0, 0, 3)) = some (r1, r2, r3) := by rw [if_neg (show ¬ (false = true) by decide)] at H; exact H
      clear H
      have H := H1
      clear H1
      simp only [Option.some.injEq, Prod.mk.injEq] at H
      obtain ⟨rfl, rfl, rfl⟩ := H
      go_enter Try.func40, Try.ntmps40
      go_wp2_with (first | ((with_reducible refine gate_dst (N := 2) rfl ?_); refine box_event ?hg (N := 2) ?hd (cs := #[.int .i64 a0_0, .slice A0_1 l0_1.length c0_1]) (t := 54) ?hr ?_; (case hd => rfl); (case hg => rfl); (case hr => first | (go_simp; done) | (go_simp; rfl)); intro gb478 hg w33 hbox hb; have n0_ := Aside0.mk (zv_ (by repeat (first | (with_reducible first | exact HB.out | apply zs_ | apply zt_ | apply zu_) | exact HB.out)) hb); have n1_ := Aside0.mk (hbox); have n2_ := Aside0.mk ((by rw [hg]; exact (zw_ (by repeat (first | (with_reducible first | exact HB.out | apply zs_ | apply zt_ | apply zu_) | exact HB.out))) : w.heap.size ≤ gb478)); have n3_ := Aside0.mk ((by rw [hg]; exact (zw_ (by repeat (first | (with_reducible first | exact HB.out | apply zs_ | apply zt_ | apply zu_) | exact HB.out))) : w.heap.size ≤ gb478)); clear HB; have HB := n0_; have BK478 := n1_; have GW478 := n2_; have GE478 := n3_; clear n0_ n1_ n2_ n3_; clear hb hbox hg) | ((with_reducible refine gate_dst (N := 4) rfl ?_); refine box_event ?hg (N := 4) ?hd (cs := #[.int .i64 0, .int .i64 0, .int .i64 0]) (t := 68) ?hr ?_; (case hd => rfl); (case hg => rfl); (case hr => first | (go_simp; done) | (go_simp; rfl)); intro gb479 hg w34 hbox hb; have n0_ := Aside0.mk (zq_ (g := gb478) (o := .cells #[.int .i64 a0_0, .slice A0_1 l0_1.length c0_1] 54 (0, 0)) (by (with_reducible repeat (first | refine zm_ ?_ _ | refine zn_ ?_ | refine zo_ ?_ _)); exact BK478.out) hb); have n1_ := Aside0.mk (zv_ (by repeat (first | (with_reducible first | exact HB.out | apply zs_ | apply zt_ | apply zu_ | refine zr_ ?_ GE478.out) | exact HB.out)) hb); have n2_ := Aside0.mk (hbox); have n3_ := Aside0.mk ((by rw [hg]; exact (zw_ (by repeat (first | (with_reducible first | exact HB.out | apply zs_ | apply zt_ | apply zu_ | refine zr_ ?_ GE478.out) | exact HB.out))) : w.heap.size ≤ gb479)); have n4_ := Aside0.mk ((by rw [hg]; exact (zw_ (by repeat (first | (with_reducible first | exact HB.out | apply zs_ | apply zt_ | apply zu_ | refine zr_ ?_ GE478.out) | exact HB.out))) : w.heap.size ≤ gb479)); have n5_ := Aside0.mk ((by rw [hg]; exact Nat.ne_of_lt (blk_lt (g := gb478) (o := .cells #[.int .i64 a0_0, .slice A0_1 l0_1.length c0_1] 54 (0, 0)) (by (with_reducible repeat (first | refine zm_ ?_ _ | refine zn_ ?_ | refine zo_ ?_ _)); exact BK478.out)) : gb478 ≠ gb479)); have n6_ := Aside0.mk ((by rw [hg]; exact Nat.ne_of_gt (blk_lt (g := gb478) (o := .cells #[.int .i64 a0_0, .slice A0_1 l0_1.length c0_1] 54 (0, 0)) (by (with_reducible repeat (first | refine zm_ ?_ _ | refine zn_ ?_ | refine zo_ ?_ _)); exact BK478.out)) : gb479 ≠ gb478)); clear BK478; clear HB; have BK478 := n0_; have HB := n1_; have BK479 := n2_; have GW479 := n3_; have GE479 := n4_; have NB478_479 := n5_; have NB479_478 := n6_; clear n0_ n1_ n2_ n3_ n4_ n5_ n6_; clear hb hbox hg; have hnb35 := NB478_479.out; have hnc35 := NB479_478.out; have hcz36_0 : w34.cell? ⟨gb478, 0, none⟩ = some (.int .i64 a0_0) := (blk_cell BK478.out 0).trans rfl; have hcz36_1 : w34.cell? ⟨gb478, 1, none⟩ = some (.slice A0_1 l0_1.length c0_1) := (blk_cell BK478.out 1).trans rfl; have hfz36_0 := blk_frozen BK478.out 0; have hfz36_1 := blk_frozen BK478.out 1) | ((with_reducible refine gate_callee (f := 44) rfl ?_); refine goesL_ (some 9) rfl rfl Try.func44 (by kernel_rfl) rfl #[.agg #[.int .i64 a0_0, .slice A0_1 l0_1.length c0_1]] rfl (by (try simp only [List.map_toArray, List.map_cons, List.map_nil]); first | done | rfl | (simp only [List.length_drop, List.length_take]; rfl)) ?_; (with_reducible refine (quietusref14_Check.calls k a0_0 _ _ l0_1 t480 _ ?side1 ?side2 A3.out).mono ?_); (case side1 => repeat (first | exact (Kd.C_below HR0_1.out HB.out) | (with_reducible refine Kd.C_alloc ?_ _) | (with_reducible refine Kd.C_drewN ?_ _) | (with_reducible refine Kd.C_drew ?_))); (case side2 => exact HC0_1.out); rintro e w37 ⟨rfl, hb⟩; refine ⟨_, rfl, ?_⟩; have n0_ := Aside0.mk (zq_ (g := gb478) (o := .cells #[.int .i64 a0_0, .slice A0_1 l0_1.length c0_1] 54 (0, 0)) (by (with_reducible repeat (first | refine zm_ ?_ _ | refine zn_ ?_ | refine zo_ ?_ _)); exact BK478.out) hb); have n1_ := Aside0.mk (zq_ (g := gb479) (o := .cells #[.int .i64 0, .int .i64 0, .int .i64 0] 68 (0, 0)) (by (with_reducible repeat (first | refine zm_ ?_ _ | refine zn_ ?_ | refine zo_ ?_ _)); exact BK479.out) hb); have n2_ := Aside0.mk (zv_ (by repeat (first | (with_reducible first | exact HB.out | apply zs_ | apply zt_ | apply zu_ | refine zr_ ?_ GE478.out | refine zr_ ?_ GE479.out) | exact HB.out)) hb); clear BK478; clear BK479; clear HB; have BK478 := n0_; have BK479 := n1_; have HB := n2_; clear n0_ n1_ n2_; (try clear hb); (try clear hb2); (try clear hk); (try clear hi)) | ((with_reducible refine gate_callee (f := 73) rfl ?_); refine goesL_ (some 15) rfl rfl Try.func73 (by kernel_rfl) rfl #[.int .i64 a1] rfl (by (try simp only [List.map_toArray, List.map_cons, List.map_nil]); first | done | rfl | (simp only [List.length_drop, List.length_take]; rfl)) ?_; (with_reducible refine (quietusref14_instant.calls a1 false _ A5.out).mono ?_); rintro e w' ⟨rfl, ⟨nd, rfl⟩⟩; refine ⟨_, rfl, ?_⟩; (try (rw [drewN_self w37]; generalize hq_ : World.drewN w37 _ = w37; have n0_ : Aside0 (w37.heap[gb478]? = some (.cells #[.int .i64 a0_0, .slice A0_1 l0_1.length c0_1] 54 (0, 0))) := ⟨by rw [← hq_]; exact (by (with_reducible repeat (first | refine zm_ ?_ _ | refine zn_ ?_ | refine zo_ ?_ _)); exact BK478.out)⟩; have n1_ : Aside0 (w37.heap[gb479]? = some (.cells #[.int .i64 0, .int .i64 0, .int .i64 0] 68 (0, 0))) := ⟨by rw [← hq_]; exact (by (with_reducible repeat (first | refine zm_ ?_ _ | refine zn_ ?_ | refine zo_ ?_ _)); exact BK479.out)⟩; have n2_ : Aside0 (Below w.heap.size w w37) := ⟨by rw [← hq_]; exact (by repeat (first | (with_reducible first | exact HB.out | apply zs_ | apply zt_ | apply zu_ | refine zr_ ?_ GE478.out | refine zr_ ?_ GE479.out) | exact HB.out))⟩; clear BK478 BK479 HB hq_; have BK478 := n0_; have BK479 := n1_; have HB := n2_; clear n0_ n1_ n2_)); have hcz38_0 : w37.cell? ⟨gb479, 0, none⟩ = some (.int .i64 0) := (blk_cell BK479.out 0).trans rfl; have hcz38_1 : w37.cell? ⟨gb479, 1, none⟩ = some (.int .i64 0) := (blk_cell BK479.out 1).trans rfl; have hcz38_2 : w37.cell? ⟨gb479, 2, none⟩ = some (.int .i64 0) := (blk_cell BK479.out 2).trans rfl; have hfz38_0 := blk_frozen BK479.out 0; have hfz38_1 := blk_frozen BK479.out 1; have hfz38_2 := blk_frozen BK479.out 2))
      refine bodyPost_ret (results_cell_row rfl _ _ gb479 68 #[.int .i64 0, .int .i64 0, .int .i64 3] (0, 0) _ rfl (by (with_reducible repeat (first | refine zm_ ?_ _ | refine zn_ ?_ | refine zo_ ?_ _)); refine blk_put (cs := #[.int .i64 0, .int .i64 0, .int .i64 0]) ?_ 2 _ rfl; (with_reducible repeat (first | refine zm_ ?_ _ | refine zn_ ?_ | refine zo_ ?_ _)); refine blk_put (cs := #[.int .i64 0, .int .i64 0, .int .i64 0]) ?_ 1 _ rfl; (with_reducible repeat (first | refine zm_ ?_ _ | refine zn_ ?_ | refine zo_ ?_ _)); refine blk_put (cs := #[.int .i64 0, .int .i64 0, .int .i64 0]) ?_ 0 _ rfl; (with_reducible repeat (first | refine zm_ ?_ _ | refine zn_ ?_ | refine zo_ ?_ _)); exact BK479.out) Try.underlying68 rfl (by kernel_rfl)) rfl ?_
      exact ⟨by first | rfl | (simp [errW_none, errW_some] <;> rfl) | (simp [*, errW_none, errW_some] <;> rfl), by repeat (first | (with_reducible first | exact HB.out | apply zs_ | apply zt_ | apply zu_ | refine zr_ ?_ GE478.out | refine zr_ ?_ GE479.out) | exact HB.out)⟩
  · rw [if_neg c4] at H
    have c4b0 : (t480 == 0) = false := beq_eq_false_iff_ne.mpr c4
    have c4b1 : (t480 != 0) = true := bne_iff_ne.mpr c4
    simp only [Option.some.injEq, Prod.mk.injEq] at H
    obtain ⟨rfl, rfl, rfl⟩ := H
    go_enter Try.func40, Try.ntmps40
    go_wp2_with (first | ((with_reducible refine gate_dst (N := 2) rfl ?_); refine box_event ?hg (N := 2) ?hd (cs := #[.int .i64 a0_0, .slice A0_1 l0_1.length c0_1]) (t := 54) ?hr ?_; (case hd => rfl); (case hg => rfl); (case hr => first | (go_simp; done) | (go_simp; rfl)); intro gb478 hg w39 hbox hb; have n0_ := Aside0.mk (zv_ (by repeat (first | (with_reducible first | exact HB.out | apply zs_ | apply zt_ | apply zu_) | exact HB.out)) hb); have n1_ := Aside0.mk (hbox); have n2_ := Aside0.mk ((by rw [hg]; exact (zw_ (by repeat (first | (with_reducible first | exact HB.out | apply zs_ | apply zt_ | apply zu_) | exact HB.out))) : w.heap.size ≤ gb478)); have n3_ := Aside0.mk ((by rw [hg]; exact (zw_ (by repeat (first | (with_reducible first | exact HB.out | apply zs_ | apply zt_ | apply zu_) | exact HB.out))) : w.heap.size ≤ gb478)); clear HB; have HB := n0_; have BK478 := n1_; have GW478 := n2_; have GE478 := n3_; clear n0_ n1_ n2_ n3_; clear hb hbox hg) | ((with_reducible refine gate_dst (N := 4) rfl ?_); refine box_event ?hg (N := 4) ?hd (cs := #[.int .i64 0, .int .i64 0, .int .i64 0]) (t := 68) ?hr ?_; (case hd => rfl); (case hg => rfl); (case hr => first | (go_simp; done) | (go_simp; rfl)); intro gb479 hg w40 hbox hb; have n0_ := Aside0.mk (zq_ (g := gb478) (o := .cells #[.int .i64 a0_0, .slice A0_1 l0_1.length c0_1] 54 (0, 0)) (by (with_reducible repeat (first | refine zm_ ?_ _ | refine zn_ ?_ | refine zo_ ?_ _)); exact BK478.out) hb); have n1_ := Aside0.mk (zv_ (by repeat (first | (with_reducible first | exact HB.out | apply zs_ | apply zt_ | apply zu_ | refine zr_ ?_ GE478.out) | exact HB.out)) hb); have n2_ := Aside0.mk (hbox); have n3_ := Aside0.mk ((by rw [hg]; exact (zw_ (by repeat (first | (with_reducible first | exact HB.out | apply zs_ | apply zt_ | apply zu_ | refine zr_ ?_ GE478.out) | exact HB.out))) : w.heap.size ≤ gb479)); have n4_ := Aside0.mk ((by rw [hg]; exact (zw_ (by repeat (first | (with_reducible first | exact HB.out | apply zs_ | apply zt_ | apply zu_ | refine zr_ ?_ GE478.out) | exact HB.out))) : w.heap.size ≤ gb479)); have n5_ := Aside0.mk ((by rw [hg]; exact Nat.ne_of_lt (blk_lt (g := gb478) (o := .cells #[.int .i64 a0_0, .slice A0_1 l0_1.length c0_1] 54 (0, 0)) (by (with_reducible repeat (first | refine zm_ ?_ _ | refine zn_ ?_ | refine zo_ ?_ _)); exact BK478.out)) : gb478 ≠ gb479)); have n6_ := Aside0.mk ((by rw [hg]; exact Nat.ne_of_gt (blk_lt (g := gb478) (o := .cells #[.int .i64 a0_0, .slice A0_1 l0_1.length c0_1] 54 (0, 0)) (by (with_reducible repeat (first | refine zm_ ?_ _ | refine zn_ ?_ | refine zo_ ?_ _)); exact BK478.out)) : gb479 ≠ gb478)); clear BK478; clear HB; have BK478 := n0_; have HB := n1_; have BK479 := n2_; have GW479 := n3_; have GE479 := n4_; have NB478_479 := n5_; have NB479_478 := n6_; clear n0_ n1_ n2_ n3_ n4_ n5_ n6_; clear hb hbox hg; have hnb41 := NB478_479.out; have hnc41 := NB479_478.out; have hcz42_0 : w40.cell? ⟨gb478, 0, none⟩ = some (.int .i64 a0_0) := (blk_cell BK478.out 0).trans rfl; have hcz42_1 : w40.cell? ⟨gb478, 1, none⟩ = some (.slice A0_1 l0_1.length c0_1) := (blk_cell BK478.out 1).trans rfl; have hfz42_0 := blk_frozen BK478.out 0; have hfz42_1 := blk_frozen BK478.out 1) | ((with_reducible refine gate_callee (f := 44) rfl ?_); refine goesL_ (some 9) rfl rfl Try.func44 (by kernel_rfl) rfl #[.agg #[.int .i64 a0_0, .slice A0_1 l0_1.length c0_1]] rfl (by (try simp only [List.map_toArray, List.map_cons, List.map_nil]); first | done | rfl | (simp only [List.length_drop, List.length_take]; rfl)) ?_; (with_reducible refine (quietusref14_Check.calls k a0_0 _ _ l0_1 t480 _ ?side1 ?side2 A3.out).mono ?_); (case side1 => repeat (first | exact (Kd.C_below HR0_1.out HB.out) | (with_reducible refine Kd.C_alloc ?_ _) | (with_reducible refine Kd.C_drewN ?_ _) | (with_reducible refine Kd.C_drew ?_))); (case side2 => exact HC0_1.out); rintro e w43 ⟨rfl, hb⟩; refine ⟨_, rfl, ?_⟩; have n0_ := Aside0.mk (zq_ (g := gb478) (o := .cells #[.int .i64 a0_0, .slice A0_1 l0_1.length c0_1] 54 (0, 0)) (by (with_reducible repeat (first | refine zm_ ?_ _ | refine zn_ ?_ | refine zo_ ?_ _)); exact BK478.out) hb); have n1_ := Aside0.mk (zq_ (g := gb479) (o := .cells #[.int .i64 0, .int .i64 0, .int .i64 0] 68 (0, 0)) (by (with_reducible repeat (first | refine zm_ ?_ _ | refine zn_ ?_ | refine zo_ ?_ _)); exact BK479.out) hb); have n2_ := Aside0.mk (zv_ (by repeat (first | (with_reducible first | exact HB.out | apply zs_ | apply zt_ | apply zu_ | refine zr_ ?_ GE478.out | refine zr_ ?_ GE479.out) | exact HB.out)) hb); clear BK478; clear BK479; clear HB; have BK478 := n0_; have BK479 := n1_; have HB := n2_; clear n0_ n1_ n2_; (try clear hb); (try clear hb2); (try clear hk); (try clear hi); have hcz44_0 : w43.cell? ⟨gb479, 0, none⟩ = some (.int .i64 0) := (blk_cell BK479.out 0).trans rfl; have hcz44_1 : w43.cell? ⟨gb479, 1, none⟩ = some (.int .i64 0) := (blk_cell BK479.out 1).trans rfl; have hcz44_2 : w43.cell? ⟨gb479, 2, none⟩ = some (.int .i64 0) := (blk_cell BK479.out 2).trans rfl; have hfz44_0 := blk_frozen BK479.out 0; have hfz44_1 := blk_frozen BK479.out 1; have hfz44_2 := blk_frozen BK479.out 2))
    refine bodyPost_ret (results_cell_row rfl _ _ gb479 68 #[.int .i64 0, .int .i64 0, .int .i64 t480] (0, 0) _ rfl (by (with_reducible repeat (first | refine zm_ ?_ _ | refine zn_ ?_ | refine zo_ ?_ _)); refine blk_put (cs := #[.int .i64 0, .int .i64 0, .int .i64 0]) ?_ 2 _ rfl; (with_reducible repeat (first | refine zm_ ?_ _ | refine zn_ ?_ | refine zo_ ?_ _)); refine blk_put (cs := #[.int .i64 0, .int .i64 0, .int .i64 0]) ?_ 1 _ rfl; (with_reducible repeat (first | refine zm_ ?_ _ | refine zn_ ?_ | refine zo_ ?_ _)); refine blk_put (cs := #[.int .i64 0, .int .i64 0, .int .i64 0]) ?_ 0 _ rfl; (with_reducible repeat (first | refine zm_ ?_ _ | refine zn_ ?_ | refine zo_ ?_ _)); exact BK479.out) Try.underlying68 rfl (by kernel_rfl)) rfl ?_
    exact ⟨by first | rfl | (simp [errW_none, errW_some] <;> rfl) | (simp [*, errW_none, errW_some] <;> rfl), by repeat (first | (with_reducible first | exact HB.out | apply zs_ | apply zt_ | apply zu_ | refine zr_ ?_ GE478.out | refine zr_ ?_ GE479.out) | exact HB.out)⟩
open Go.Proofs.YteknbadjfojmbaaW.PrintWords renaming blk_drewN → zm_, blk_drew → zn_, blk_alloc → zo_, blk_far → zp_, blk_below → zq_, below_set → zr_, below_alloc → zs_, pw_below_drewN → zt_, below_drew1 → zu_, below_step → zv_, below_size → zw_
def quietusref14_Join.j0 : Nat → Bool → Int → Int → Int → Int → Option (Int × Int × Int)
  | 0, _, _, _, _, _ => none
  | k + 1, x17, x486000, x486001, x487000, x487001 => if x17 = true then (some (0, 0, 3)) else (if (mx x486000 x487000) > (mn x486001 x487001) then (some (0, 0, 24)) else (some (mx x486000 x487000, mn x486001 x487001, 0)))
def quietusref14_Join.f (k : Nat) (a0_0 : Int) (a0_1 : Int) (a1_0 : Int) (a1_1 : Int) : Option (Int × Int × Int) := (quietusref14_Valid.f a0_0 a0_1).bind fun t488 => ((quietusref14_Valid.f a1_0 a1_1).bind fun t489 => (if t488 = true then (quietusref14_Join.j0 k (!t489) a0_0 a0_1 a1_0 a1_1) else (quietusref14_Join.j0 k true a0_0 a0_1 a1_0 a1_1)))
set_option maxHeartbeats 8000000 in
set_option maxRecDepth 100000 in
theorem quietusref14_Join.calls (k : Nat) (a0_0 : Int) (a0_1 : Int) (a1_0 : Int) (a1_1 : Int) (r1 : Int) (r2 : Int) (r3 : Int) (w : World) (h : quietusref14_Join.f k a0_0 a0_1 a1_0 a1_1 = some (r1, r2, r3)) :
    Calls Try.prog 49 #[.agg #[.int .i64 a0_0, .int .i64 a0_1], .agg #[.int .i64 a1_0, .int .i64 a1_1]] w fun e w' => e = .returned (.agg #[.int .i64 r1, .int .i64 r2, .int .i64 r3]) ∧ Below w.heap.size w w' := by
  have hu56 := Try.underlying56
  have hu68 := Try.underlying68
  have HB := Aside0.mk (Below.refl w.heap.size w)
  have H : ((quietusref14_Valid.f a0_0 a0_1).bind fun t488 => ((quietusref14_Valid.f a1_0 a1_1).bind fun t489 => (if t488 = true then (quietusref14_Join.j0 k (!t489) a0_0 a0_1 a1_0 a1_1) else (quietusref14_Join.j0 k true a0_0 a0_1 a1_0 a1_1)))) = some (r1, r2, r3) := h
  clear h
  replace H := Option.bind_eq_some_iff.mp H
  obtain ⟨t488, A30, H⟩ := H
  replace H : ((quietusref14_Valid.f a1_0 a1_1).bind fun t489 => (if t488 = true then (quietusref14_Join.j0 k (!t489) a0_0 a0_1 a1_0 a1_1) else (quietusref14_Join.j0 k true a0_0 a0_1 a1_0 a1_1))) = some (r1, r2, r3) := H
  have A3 := Aside0.mk A30
  clear A30
  replace H := Option.bind_eq_some_iff.mp H
  obtain ⟨t489, A40, H⟩ := H
  replace H : (if t488 = true then (quietusref14_Join.j0 k (!t489) a0_0 a0_1 a1_0 a1_1) else (quietusref14_Join.j0 k true a0_0 a0_1 a1_0 a1_1)) = some (r1, r2, r3) := H
  have A4 := Aside0.mk A40
  clear A40
  have HC5 := Aside0.mk H
  clear H
  go_enter Try.func49, Try.ntmps49
  go_upto_region 3 with (first | ((with_reducible refine gate_dst (N := 2) rfl ?_); refine box_event ?hg (N := 2) ?hd (cs := #[.int .i64 a0_0, .int .i64 a0_1]) (t := 56) ?hr ?_; (case hd => rfl); (case hg => rfl); (case hr => first | (go_simp; done) | (go_simp; rfl)); intro gb485 hg w6 hbox hb; have n0_ := Aside0.mk (zv_ (by repeat (first | (with_reducible first | exact HB.out | apply zs_ | apply zt_ | apply zu_) | exact HB.out)) hb); have n1_ := Aside0.mk (hbox); have n2_ := Aside0.mk ((by rw [hg]; exact (zw_ (by repeat (first | (with_reducible first | exact HB.out | apply zs_ | apply zt_ | apply zu_) | exact HB.out))) : w.heap.size ≤ gb485)); have n3_ := Aside0.mk ((by rw [hg]; exact (zw_ (by repeat (first | (with_reducible first | exact HB.out | apply zs_ | apply zt_ | apply zu_) | exact HB.out))) : w.heap.size ≤ gb485)); clear HB; have HB := n0_; have BK485 := n1_; have GW485 := n2_; have GE485 := n3_; clear n0_ n1_ n2_ n3_; clear hb hbox hg) | ((with_reducible refine gate_dst (N := 3) rfl ?_); refine box_event ?hg (N := 3) ?hd (cs := #[.int .i64 a1_0, .int .i64 a1_1]) (t := 56) ?hr ?_; (case hd => rfl); (case hg => rfl); (case hr => first | (go_simp; done) | (go_simp; rfl)); intro gb486 hg w7 hbox hb; have n0_ := Aside0.mk (zq_ (g := gb485) (o := .cells #[.int .i64 a0_0, .int .i64 a0_1] 56 (0, 0)) (by (with_reducible repeat (first | refine zm_ ?_ _ | refine zn_ ?_ | refine zo_ ?_ _)); exact BK485.out) hb); have n1_ := Aside0.mk (zv_ (by repeat (first | (with_reducible first | exact HB.out | apply zs_ | apply zt_ | apply zu_ | refine zr_ ?_ GE485.out) | exact HB.out)) hb); have n2_ := Aside0.mk (hbox); have n3_ := Aside0.mk ((by rw [hg]; exact (zw_ (by repeat (first | (with_reducible first | exact HB.out | apply zs_ | apply zt_ | apply zu_ | refine zr_ ?_ GE485.out) | exact HB.out))) : w.heap.size ≤ gb486)); have n4_ := Aside0.mk ((by rw [hg]; exact (zw_ (by repeat (first | (with_reducible first | exact HB.out | apply zs_ | apply zt_ | apply zu_ | refine zr_ ?_ GE485.out) | exact HB.out))) : w.heap.size ≤ gb486)); have n5_ := Aside0.mk ((by rw [hg]; exact Nat.ne_of_lt (blk_lt (g := gb485) (o := .cells #[.int .i64 a0_0, .int .i64 a0_1] 56 (0, 0)) (by (with_reducible repeat (first | refine zm_ ?_ _ | refine zn_ ?_ | refine zo_ ?_ _)); exact BK485.out)) : gb485 ≠ gb486)); have n6_ := Aside0.mk ((by rw [hg]; exact Nat.ne_of_gt (blk_lt (g := gb485) (o := .cells #[.int .i64 a0_0, .int .i64 a0_1] 56 (0, 0)) (by (with_reducible repeat (first | refine zm_ ?_ _ | refine zn_ ?_ | refine zo_ ?_ _)); exact BK485.out)) : gb486 ≠ gb485)); clear BK485; clear HB; have BK485 := n0_; have HB := n1_; have BK486 := n2_; have GW486 := n3_; have GE486 := n4_; have NB485_486 := n5_; have NB486_485 := n6_; clear n0_ n1_ n2_ n3_ n4_ n5_ n6_; clear hb hbox hg) | ((with_reducible refine gate_dst (N := 4) rfl ?_); refine box_event ?hg (N := 4) ?hd (cs := #[.int .i64 0, .int .i64 0, .int .i64 0]) (t := 68) ?hr ?_; (case hd => rfl); (case hg => rfl); (case hr => first | (go_simp; done) | (go_simp; rfl)); intro gb487 hg w8 hbox hb; have n0_ := Aside0.mk (zq_ (g := gb485) (o := .cells #[.int .i64 a0_0, .int .i64 a0_1] 56 (0, 0)) (by (with_reducible repeat (first | refine zm_ ?_ _ | refine zn_ ?_ | refine zo_ ?_ _)); exact BK485.out) hb); have n1_ := Aside0.mk (zq_ (g := gb486) (o := .cells #[.int .i64 a1_0, .int .i64 a1_1] 56 (0, 0)) (by (with_reducible repeat (first | refine zm_ ?_ _ | refine zn_ ?_ | refine zo_ ?_ _)); exact BK486.out) hb); have n2_ := Aside0.mk (zv_ (by repeat (first | (with_reducible first | exact HB.out | apply zs_ | apply zt_ | apply zu_ | refine zr_ ?_ GE485.out | refine zr_ ?_ GE486.out) | exact HB.out)) hb); have n3_ := Aside0.mk (hbox); have n4_ := Aside0.mk ((by rw [hg]; exact (zw_ (by repeat (first | (with_reducible first | exact HB.out | apply zs_ | apply zt_ | apply zu_ | refine zr_ ?_ GE485.out | refine zr_ ?_ GE486.out) | exact HB.out))) : w.heap.size ≤ gb487)); have n5_ := Aside0.mk ((by rw [hg]; exact (zw_ (by repeat (first | (with_reducible first | exact HB.out | apply zs_ | apply zt_ | apply zu_ | refine zr_ ?_ GE485.out | refine zr_ ?_ GE486.out) | exact HB.out))) : w.heap.size ≤ gb487)); have n6_ := Aside0.mk ((by rw [hg]; exact Nat.ne_of_lt (blk_lt (g := gb485) (o := .cells #[.int .i64 a0_0, .int .i64 a0_1] 56 (0, 0)) (by (with_reducible repeat (first | refine zm_ ?_ _ | refine zn_ ?_ | refine zo_ ?_ _)); exact BK485.out)) : gb485 ≠ gb487)); have n7_ := Aside0.mk ((by rw [hg]; exact Nat.ne_of_gt (blk_lt (g := gb485) (o := .cells #[.int .i64 a0_0, .int .i64 a0_1] 56 (0, 0)) (by (with_reducible repeat (first | refine zm_ ?_ _ | refine zn_ ?_ | refine zo_ ?_ _)); exact BK485.out)) : gb487 ≠ gb485)); have n8_ := Aside0.mk ((by rw [hg]; exact Nat.ne_of_lt (blk_lt (g := gb486) (o := .cells #[.int .i64 a1_0, .int .i64 a1_1] 56 (0, 0)) (by (with_reducible repeat (first | refine zm_ ?_ _ | refine zn_ ?_ | refine zo_ ?_ _)); exact BK486.out)) : gb486 ≠ gb487)); have n9_ := Aside0.mk ((by rw [hg]; exact Nat.ne_of_gt (blk_lt (g := gb486) (o := .cells #[.int .i64 a1_0, .int .i64 a1_1] 56 (0, 0)) (by (with_reducible repeat (first | refine zm_ ?_ _ | refine zn_ ?_ | refine zo_ ?_ _)); exact BK486.out)) : gb487 ≠ gb486)); clear BK485; clear BK486; clear HB; have BK485 := n0_; have BK486 := n1_; have HB := n2_; have BK487 := n3_; have GW487 := n4_; have GE487 := n5_; have NB485_487 := n6_; have NB487_485 := n7_; have NB486_487 := n8_; have NB487_486 := n9_; clear n0_ n1_ n2_ n3_ n4_ n5_ n6_ n7_ n8_ n9_; clear hb hbox hg; have hnb9 := NB485_486.out; have hnc9 := NB486_485.out; have hnb10 := NB485_487.out; have hnc10 := NB487_485.out; have hcz11_0 : w8.cell? ⟨gb485, 0, none⟩ = some (.int .i64 a0_0) := (blk_cell BK485.out 0).trans rfl; have hcz11_1 : w8.cell? ⟨gb485, 1, none⟩ = some (.int .i64 a0_1) := (blk_cell BK485.out 1).trans rfl; have hfz11_0 := blk_frozen BK485.out 0; have hfz11_1 := blk_frozen BK485.out 1) | ((with_reducible refine gate_callee (f := 50) rfl ?_); refine goesL_ (some 9) rfl rfl Try.func50 (by kernel_rfl) rfl #[.agg #[.int .i64 a0_0, .int .i64 a0_1]] rfl (by (try simp only [List.map_toArray, List.map_cons, List.map_nil]); first | done | rfl | (simp only [List.length_drop, List.length_take]; rfl)) ?_; (with_reducible refine (quietusref14_Valid.calls a0_0 a0_1 t488 _ A3.out).mono ?_); rintro e w12 ⟨rfl, hb⟩; refine ⟨_, rfl, ?_⟩; have n0_ := Aside0.mk (zq_ (g := gb485) (o := .cells #[.int .i64 a0_0, .int .i64 a0_1] 56 (0, 0)) (by (with_reducible repeat (first | refine zm_ ?_ _ | refine zn_ ?_ | refine zo_ ?_ _)); exact BK485.out) hb); have n1_ := Aside0.mk (zq_ (g := gb486) (o := .cells #[.int .i64 a1_0, .int .i64 a1_1] 56 (0, 0)) (by (with_reducible repeat (first | refine zm_ ?_ _ | refine zn_ ?_ | refine zo_ ?_ _)); exact BK486.out) hb); have n2_ := Aside0.mk (zq_ (g := gb487) (o := .cells #[.int .i64 0, .int .i64 0, .int .i64 0] 68 (0, 0)) (by (with_reducible repeat (first | refine zm_ ?_ _ | refine zn_ ?_ | refine zo_ ?_ _)); exact BK487.out) hb); have n3_ := Aside0.mk (zv_ (by repeat (first | (with_reducible first | exact HB.out | apply zs_ | apply zt_ | apply zu_ | refine zr_ ?_ GE485.out | refine zr_ ?_ GE486.out | refine zr_ ?_ GE487.out) | exact HB.out)) hb); clear BK485; clear BK486; clear BK487; clear HB; have BK485 := n0_; have BK486 := n1_; have BK487 := n2_; have HB := n3_; clear n0_ n1_ n2_ n3_; (try clear hb); (try clear hb2); (try clear hk); (try clear hi); have hnb13 := NB486_487.out; have hnc13 := NB487_486.out; have hcz14_0 : w12.cell? ⟨gb486, 0, none⟩ = some (.int .i64 a1_0) := (blk_cell BK486.out 0).trans rfl; have hcz14_1 : w12.cell? ⟨gb486, 1, none⟩ = some (.int .i64 a1_1) := (blk_cell BK486.out 1).trans rfl; have hfz14_0 := blk_frozen BK486.out 0; have hfz14_1 := blk_frozen BK486.out 1) | ((with_reducible refine gate_callee (f := 50) rfl ?_); refine goesL_ (some 11) rfl rfl Try.func50 (by kernel_rfl) rfl #[.agg #[.int .i64 a1_0, .int .i64 a1_1]] rfl (by (try simp only [List.map_toArray, List.map_cons, List.map_nil]); first | done | rfl | (simp only [List.length_drop, List.length_take]; rfl)) ?_; (with_reducible refine (quietusref14_Valid.calls a1_0 a1_1 t489 _ A4.out).mono ?_); rintro e w15 ⟨rfl, hb⟩; refine ⟨_, rfl, ?_⟩; have n0_ := Aside0.mk (zq_ (g := gb485) (o := .cells #[.int .i64 a0_0, .int .i64 a0_1] 56 (0, 0)) (by (with_reducible repeat (first | refine zm_ ?_ _ | refine zn_ ?_ | refine zo_ ?_ _)); exact BK485.out) hb); have n1_ := Aside0.mk (zq_ (g := gb486) (o := .cells #[.int .i64 a1_0, .int .i64 a1_1] 56 (0, 0)) (by (with_reducible repeat (first | refine zm_ ?_ _ | refine zn_ ?_ | refine zo_ ?_ _)); exact BK486.out) hb); have n2_ := Aside0.mk (zq_ (g := gb487) (o := .cells #[.int .i64 0, .int .i64 0, .int .i64 0] 68 (0, 0)) (by (with_reducible repeat (first | refine zm_ ?_ _ | refine zn_ ?_ | refine zo_ ?_ _)); exact BK487.out) hb); have n3_ := Aside0.mk (zv_ (by repeat (first | (with_reducible first | exact HB.out | apply zs_ | apply zt_ | apply zu_ | refine zr_ ?_ GE485.out | refine zr_ ?_ GE486.out | refine zr_ ?_ GE487.out) | exact HB.out)) hb); clear BK485; clear BK486; clear BK487; clear HB; have BK485 := n0_; have BK486 := n1_; have BK487 := n2_; have HB := n3_; clear n0_ n1_ n2_ n3_; (try clear hb); (try clear hb2); (try clear hk); (try clear hi)))
  (try simp only [Act.put, List.setIfInBounds_toArray, List.set_cons_zero, List.set_cons_succ])
  go_cut [17] (fun v17 wc => ∃ (kq : Nat) (x17_4 : Bool), v17 = .bool x17_4 ∧ Aside0 (quietusref14_Join.j0 kq x17_4 a0_0 a0_1 a1_0 a1_1 = some (r1, r2, r3)) ∧ Aside0 (kq ≤ k) ∧ Aside0 (wc.heap[gb485]? = some (.cells #[.int .i64 a0_0, .int .i64 a0_1] 56 (0, 0))) ∧ Aside0 (wc.heap[gb486]? = some (.cells #[.int .i64 a1_0, .int .i64 a1_1] 56 (0, 0))) ∧ Aside0 (wc.heap[gb487]? = some (.cells #[.int .i64 0, .int .i64 0, .int .i64 0] 68 (0, 0))) ∧ Aside0 (Below w.heap.size w wc))
  case first =>
    have H := HC5.out
    clear HC5
    by_cases c16 : t488 = true
    · subst c16
      have H1 : (quietusref14_Join.j0 k (!t489) a0_0 a0_1 a1_0 a1_1) = some (r1, r2, r3) := by rw [if_pos rfl] at H; exact H
      clear H
      have H := H1
      clear H1
      have H' := Aside0.mk H
      clear H
      go_wp2
      first | go_meet | (simp only [← hji21]; go_meet) | (simp only [hji21]; go_meet) | (simp only [← hji22]; go_meet) | (simp only [hji22]; go_meet)
      case rel => exact ⟨_, (!t489), (by first | rfl | (simp; done) | (simp [*]; done)), (by first | exact H' | (simp only [hji21, hji22]; exact H') | (rw [hji21]; exact H') | (rw [hji22]; exact H')), ⟨by first | omega | exact Nat.le_refl _⟩, ⟨by (with_reducible repeat (first | refine zm_ ?_ _ | refine zn_ ?_ | refine zo_ ?_ _)); exact BK485.out⟩, ⟨by (with_reducible repeat (first | refine zm_ ?_ _ | refine zn_ ?_ | refine zo_ ?_ _)); exact BK486.out⟩, ⟨by (with_reducible repeat (first | refine zm_ ?_ _ | refine zn_ ?_ | refine zo_ ?_ _)); exact BK487.out⟩, ⟨by repeat (first | (with_reducible first | exact HB.out | apply zs_ | apply zt_ | apply zu_ | refine zr_ ?_ GE485.out | refine zr_ ?_ GE486.out | refine zr_ ?_ GE487.out) | exact HB.out)⟩⟩
    · replace c16 := Bool.eq_false_iff.mpr c16
      subst c16
      have H1 : (quietusref14_Join.j0 k true a0_0 a0_1 a1_0 a1_1) = some (r1, r2, r3) := by rw [if_neg (show ¬ (false = true) by decide)] at H; exact H
      clear H
      have H := H1
      clear H1
      have H' := Aside0.mk H
      clear H
      go_wp2
      first | go_meet | (simp only [← hji21]; go_meet) | (simp only [hji21]; go_meet) | (simp only [← hji22]; go_meet) | (simp only [hji22]; go_meet)
      case rel => exact ⟨_, (true), (by first | rfl | (simp; done) | (simp [*]; done)), (by first | exact H' | (simp only [hji21, hji22]; exact H') | (rw [hji21]; exact H') | (rw [hji22]; exact H')), ⟨by first | omega | exact Nat.le_refl _⟩, ⟨by (with_reducible repeat (first | refine zm_ ?_ _ | refine zn_ ?_ | refine zo_ ?_ _)); exact BK485.out⟩, ⟨by (with_reducible repeat (first | refine zm_ ?_ _ | refine zn_ ?_ | refine zo_ ?_ _)); exact BK486.out⟩, ⟨by (with_reducible repeat (first | refine zm_ ?_ _ | refine zn_ ?_ | refine zo_ ?_ _)); exact BK487.out⟩, ⟨by repeat (first | (with_reducible first | exact HB.out | apply zs_ | apply zt_ | apply zu_ | refine zr_ ?_ GE485.out | refine zr_ ?_ GE486.out | refine zr_ ?_ GE487.out) | exact HB.out)⟩⟩
  case rest =>
    clear HC5
    try clear c1
    try clear p2
    try clear c4
    try clear c5
    try clear c9
    try clear c10
    try clear c13
    try clear c16
    try clear hcz11_0
    try clear hcz11_1
    try clear hcz14_0
    try clear hcz14_1
    try clear hfz11_0
    try clear hfz11_1
    try clear hfz14_0
    try clear hfz14_1
    obtain ⟨kq, x17_4, rfl, HA, HJ4, BK485, BK486, BK487, HB⟩ := hcut
    cases kq with
    | zero => exact absurd HA.out (by simp [quietusref14_Join.j0])
    | succ kj4 =>
      have H := HA.out
      clear HA
      simp only [quietusref14_Join.j0] at H
      by_cases c17 : x17_4 = true
      · subst c17
        have H1 : (some (0, 0, 3)) = some (r1, r2, r3) := by rw [if_pos rfl] at H; exact H
        clear H
        have H := H1
        clear H1
        simp only [Option.some.injEq, Prod.mk.injEq] at H
        obtain ⟨rfl, rfl, rfl⟩ := H
        have hnb18 := NB487_485.out
        have hnc18 := NB485_487.out
        have hnb19 := NB487_486.out
        have hnc19 := NB486_487.out
        have hcz20_0 : wc.cell? ⟨gb487, 0, none⟩ = some (.int .i64 0) := (blk_cell BK487.out 0).trans rfl
        have hcz20_1 : wc.cell? ⟨gb487, 1, none⟩ = some (.int .i64 0) := (blk_cell BK487.out 1).trans rfl
        have hcz20_2 : wc.cell? ⟨gb487, 2, none⟩ = some (.int .i64 0) := (blk_cell BK487.out 2).trans rfl
        have hfz20_0 := blk_frozen BK487.out 0
        have hfz20_1 := blk_frozen BK487.out 1
        have hfz20_2 := blk_frozen BK487.out 2
        go_wp2
        refine bodyPost_ret (results_cell_row rfl _ _ gb487 68 #[.int .i64 0, .int .i64 0, .int .i64 3] (0, 0) _ rfl (by (with_reducible repeat (first | refine zm_ ?_ _ | refine zn_ ?_ | refine zo_ ?_ _)); refine blk_put (cs := #[.int .i64 0, .int .i64 0, .int .i64 0]) ?_ 2 _ rfl; (with_reducible repeat (first | refine zm_ ?_ _ | refine zn_ ?_ | refine zo_ ?_ _)); refine blk_put (cs := #[.int .i64 0, .int .i64 0, .int .i64 0]) ?_ 1 _ rfl; (with_reducible repeat (first | refine zm_ ?_ _ | refine zn_ ?_ | refine zo_ ?_ _)); refine blk_put (cs := #[.int .i64 0, .int .i64 0, .int .i64 0]) ?_ 0 _ rfl; (with_reducible repeat (first | refine zm_ ?_ _ | refine zn_ ?_ | refine zo_ ?_ _)); exact BK487.out) Try.underlying68 rfl (by kernel_rfl)) rfl ?_
        exact ⟨by first | rfl | (simp [errW_none, errW_some] <;> rfl) | (simp [*, errW_none, errW_some] <;> rfl), by repeat (first | (with_reducible first | exact HB.out | apply zs_ | apply zt_ | apply zu_ | refine zr_ ?_ GE485.out | refine zr_ ?_ GE486.out | refine zr_ ?_ GE487.out) | exact HB.out)⟩
      · replace c17 := Bool.eq_false_iff.mpr c17
        subst c17
        have H1 : (if (mx a0_0 a1_0) > (mn a0_1 a1_1) then (some (0, 0, 24)) else (some (mx a0_0 a1_0, mn a0_1 a1_1, 0))) = some (r1, r2, r3) := by rw [if_neg (show ¬ (false = true) by decide)] at H; exact H
        clear H
        have H := H1
        clear H1
        obtain ⟨ji21, hji21⟩ : ∃ j_ : Int, (mx a0_0 a1_0) = j_ := ⟨_, rfl⟩
        replace H : (if (ji21) > (mn a0_1 a1_1) then (some (0, 0, 24)) else (some (ji21, mn a0_1 a1_1, 0))) = some (r1, r2, r3) := by first | (rw [hji21] at H; exact H) | (simp only [hji21] at H ⊢; exact H)
        have hji21_ : (if a0_0 < a1_0 then a1_0 else a0_0) = ji21 := hji21
        obtain ⟨ji22, hji22⟩ : ∃ j_ : Int, (mn a0_1 a1_1) = j_ := ⟨_, rfl⟩
        replace H : (if (ji21) > (ji22) then (some (0, 0, 24)) else (some (ji21, ji22, 0))) = some (r1, r2, r3) := by first | (rw [hji22] at H; exact H) | (simp only [hji22] at H ⊢; exact H)
        have hji22_ : (if a1_1 < a0_1 then a1_1 else a0_1) = ji22 := hji22
        by_cases c23 : (ji21) > (ji22)
        · rw [if_pos c23] at H
          have c23b0 : decide ((ji22) < (ji21)) = true := decide_eq_true c23
          clear c23
          simp only [Option.some.injEq, Prod.mk.injEq] at H
          obtain ⟨rfl, rfl, rfl⟩ := H
          have hnb24 := NB485_486.out
          have hnc24 := NB486_485.out
          have hnb25 := NB485_487.out
          have hnc25 := NB487_485.out
          have hcz26_0 : wc.cell? ⟨gb485, 0, none⟩ = some (.int .i64 a0_0) := (blk_cell BK485.out 0).trans rfl
          have hcz26_1 : wc.cell? ⟨gb485, 1, none⟩ = some (.int .i64 a0_1) := (blk_cell BK485.out 1).trans rfl
          have hfz26_0 := blk_frozen BK485.out 0
          have hfz26_1 := blk_frozen BK485.out 1
          have hnb27 := NB486_487.out
          have hnc27 := NB487_486.out
          have hcz28_0 : wc.cell? ⟨gb486, 0, none⟩ = some (.int .i64 a1_0) := (blk_cell BK486.out 0).trans rfl
          have hcz28_1 : wc.cell? ⟨gb486, 1, none⟩ = some (.int .i64 a1_1) := (blk_cell BK486.out 1).trans rfl
          have hfz28_0 := blk_frozen BK486.out 0
          have hfz28_1 := blk_frozen BK486.out 1
          go_wp2_with (first | ((with_reducible refine gate_dst (N := 7) rfl ?_); refine box_event ?hg (N := 7) ?hd (cs := #[.int .i64 0, .int .i64 0]) (t := 56) ?hr ?_; (case hd => rfl); (case hg => rfl); (case hr => first | (go_simp; done) | (go_simp; rfl)); intro gb490 hg w29 hbox hb; have n0_ := Aside0.mk (zq_ (g := gb485) (o := .cells #[.int .i64 a0_0, .int .i64 a0_1] 56 (0, 0)) (by (with_reducible repeat (first | refine zm_ ?_ _ | refine zn_ ?_ | refine zo_ ?_ _)); exact BK485.out) hb); have n1_ := Aside0.mk (zq_ (g := gb486) (o := .cells #[.int .i64 a1_0, .int .i64 a1_1] 56 (0, 0)) (by (with_reducible repeat (first | refine zm_ ?_ _ | refine zn_ ?_ | refine zo_ ?_ _)); exact BK486.out) hb); have n2_ := Aside0.mk (zq_ (g := gb487) (o := .cells #[.int .i64 0, .int .i64 0, .int .i64 0] 68 (0, 0)) (by (with_reducible repeat (first | refine zm_ ?_ _ | refine zn_ ?_ | refine zo_ ?_ _)); exact BK487.out) hb); have n3_ := Aside0.mk (zv_ (by repeat (first | (with_reducible first | exact HB.out | apply zs_ | apply zt_ | apply zu_ | refine zr_ ?_ GE485.out | refine zr_ ?_ GE486.out | refine zr_ ?_ GE487.out) | exact HB.out)) hb); have n4_ := Aside0.mk (hbox); have n5_ := Aside0.mk ((by rw [hg]; exact (zw_ (by repeat (first | (with_reducible first | exact HB.out | apply zs_ | apply zt_ | apply zu_ | refine zr_ ?_ GE485.out | refine zr_ ?_ GE486.out | refine zr_ ?_ GE487.out) | exact HB.out))) : w.heap.size ≤ gb490)); have n6_ := Aside0.mk ((by rw [hg]; exact (zw_ (by repeat (first | (with_reducible first | exact HB.out | apply zs_ | apply zt_ | apply zu_ | refine zr_ ?_ GE485.out | refine zr_ ?_ GE486.out | refine zr_ ?_ GE487.out) | exact HB.out))) : w.heap.size ≤ gb490)); have n7_ := Aside0.mk ((by rw [hg]; exact Nat.ne_of_lt (blk_lt (g := gb485) (o := .cells #[.int .i64 a0_0, .int .i64 a0_1] 56 (0, 0)) (by (with_reducible repeat (first | refine zm_ ?_ _ | refine zn_ ?_ | refine zo_ ?_ _)); exact BK485.out)) : gb485 ≠ gb490)); have n8_ := Aside0.mk ((by rw [hg]; exact Nat.ne_of_gt (blk_lt (g := gb485) (o := .cells #[.int .i64 a0_0, .int .i64 a0_1] 56 (0, 0)) (by (with_reducible repeat (first | refine zm_ ?_ _ | refine zn_ ?_ | refine zo_ ?_ _)); exact BK485.out)) : gb490 ≠ gb485)); have n9_ := Aside0.mk ((by rw [hg]; exact Nat.ne_of_lt (blk_lt (g := gb486) (o := .cells #[.int .i64 a1_0, .int .i64 a1_1] 56 (0, 0)) (by (with_reducible repeat (first | refine zm_ ?_ _ | refine zn_ ?_ | refine zo_ ?_ _)); exact BK486.out)) : gb486 ≠ gb490)); have n10_ := Aside0.mk ((by rw [hg]; exact Nat.ne_of_gt (blk_lt (g := gb486) (o := .cells #[.int .i64 a1_0, .int .i64 a1_1] 56 (0, 0)) (by (with_reducible repeat (first | refine zm_ ?_ _ | refine zn_ ?_ | refine zo_ ?_ _)); exact BK486.out)) : gb490 ≠ gb486)); have n11_ := Aside0.mk ((by rw [hg]; exact Nat.ne_of_lt (blk_lt (g := gb487) (o := .cells #[.int .i64 0, .int .i64 0, .int .i64 0] 68 (0, 0)) (by (with_reducible repeat (first | refine zm_ ?_ _ | refine zn_ ?_ | refine zo_ ?_ _)); exact BK487.out)) : gb487 ≠ gb490)); have n12_ := Aside0.mk ((by rw [hg]; exact Nat.ne_of_gt (blk_lt (g := gb487) (o := .cells #[.int .i64 0, .int .i64 0, .int .i64 0] 68 (0, 0)) (by (with_reducible repeat (first | refine zm_ ?_ _ | refine zn_ ?_ | refine zo_ ?_ _)); exact BK487.out)) : gb490 ≠ gb487)); clear BK485; clear BK486; clear BK487; clear HB; have BK485 := n0_; have BK486 := n1_; have BK487 := n2_; have HB := n3_; have BK490 := n4_; have GW490 := n5_; have GE490 := n6_; have NB485_490 := n7_; have NB490_485 := n8_; have NB486_490 := n9_; have NB490_486 := n10_; have NB487_490 := n11_; have NB490_487 := n12_; clear n0_ n1_ n2_ n3_ n4_ n5_ n6_ n7_ n8_ n9_ n10_ n11_ n12_; clear hb hbox hg; have hnb30 := NB490_485.out; have hnc30 := NB485_490.out; have hnb31 := NB490_486.out; have hnc31 := NB486_490.out; have hnb32 := NB490_487.out; have hnc32 := NB487_490.out; have hcz33_0 : w29.cell? ⟨gb490, 0, none⟩ = some (.int .i64 0) := (blk_cell BK490.out 0).trans rfl; have hcz33_1 : w29.cell? ⟨gb490, 1, none⟩ = some (.int .i64 0) := (blk_cell BK490.out 1).trans rfl; have hfz33_0 := blk_frozen BK490.out 0; have hfz33_1 := blk_frozen BK490.out 1; have hcz34_0 : w29.cell? ⟨gb487, 0, none⟩ = some (.int .i64 0) := (blk_cell BK487.out 0).trans rfl; have hcz34_1 : w29.cell? ⟨gb487, 1, none⟩ = some (.int .i64 0) := (blk_cell BK487.out 1).trans rfl; have hcz34_2 : w29.cell? ⟨gb487, 2, none⟩ = some (.int .i64 0) := (blk_cell BK487.out 2).trans rfl; have hfz34_0 := blk_frozen BK487.out 0; have hfz34_1 := blk_frozen BK487.out 1; have hfz34_2 := blk_frozen BK487.out 2))
          refine bodyPost_ret (results_cell_row rfl _ _ gb487 68 #[.int .i64 0, .int .i64 0, .int .i64 24] (0, 0) _ rfl (by (with_reducible repeat (first | refine zm_ ?_ _ | refine zn_ ?_ | refine zo_ ?_ _)); refine blk_put (cs := #[.int .i64 0, .int .i64 0, .int .i64 0]) ?_ 2 _ rfl; (with_reducible repeat (first | refine zm_ ?_ _ | refine zn_ ?_ | refine zo_ ?_ _)); refine blk_put (cs := #[.int .i64 0, .int .i64 0, .int .i64 0]) ?_ 1 _ rfl; (with_reducible repeat (first | refine zm_ ?_ _ | refine zn_ ?_ | refine zo_ ?_ _)); refine blk_put (cs := #[.int .i64 0, .int .i64 0, .int .i64 0]) ?_ 0 _ rfl; (with_reducible repeat (first | refine zm_ ?_ _ | refine zn_ ?_ | refine zo_ ?_ _)); refine zp_ ?_ NB487_490.out _; (with_reducible repeat (first | refine zm_ ?_ _ | refine zn_ ?_ | refine zo_ ?_ _)); refine zp_ ?_ NB487_490.out _; (with_reducible repeat (first | refine zm_ ?_ _ | refine zn_ ?_ | refine zo_ ?_ _)); exact BK487.out) Try.underlying68 rfl (by kernel_rfl)) rfl ?_
          exact ⟨by first | rfl | (simp [errW_none, errW_some] <;> rfl) | (simp only [← hji21, ← hji22]; first | rfl | (simp [errW_none, errW_some] <;> rfl)) | (simp [*, errW_none, errW_some] <;> rfl), by repeat (first | (with_reducible first | exact HB.out | apply zs_ | apply zt_ | apply zu_ | refine zr_ ?_ GE485.out | refine zr_ ?_ GE486.out | refine zr_ ?_ GE487.out | refine zr_ ?_ GE490.out) | exact HB.out)⟩
        · rw [if_neg c23] at H
          have c23b0 : decide ((ji22) < (ji21)) = false := decide_eq_false c23
          clear c23
          simp only [Option.some.injEq, Prod.mk.injEq] at H
          obtain ⟨rfl, rfl, rfl⟩ := H
          have hnb35 := NB485_486.out
          have hnc35 := NB486_485.out
          have hnb36 := NB485_487.out
          have hnc36 := NB487_485.out
          have hcz37_0 : wc.cell? ⟨gb485, 0, none⟩ = some (.int .i64 a0_0) := (blk_cell BK485.out 0).trans rfl
          have hcz37_1 : wc.cell? ⟨gb485, 1, none⟩ = some (.int .i64 a0_1) := (blk_cell BK485.out 1).trans rfl
          have hfz37_0 := blk_frozen BK485.out 0
          have hfz37_1 := blk_frozen BK485.out 1
          have hnb38 := NB486_487.out
          have hnc38 := NB487_486.out
          have hcz39_0 : wc.cell? ⟨gb486, 0, none⟩ = some (.int .i64 a1_0) := (blk_cell BK486.out 0).trans rfl
          have hcz39_1 : wc.cell? ⟨gb486, 1, none⟩ = some (.int .i64 a1_1) := (blk_cell BK486.out 1).trans rfl
          have hfz39_0 := blk_frozen BK486.out 0
          have hfz39_1 := blk_frozen BK486.out 1
          go_wp2_with (first | ((with_reducible refine gate_dst (N := 7) rfl ?_); refine box_event ?hg (N := 7) ?hd (cs := #[.int .i64 0, .int .i64 0]) (t := 56) ?hr ?_; (case hd => rfl); (case hg => rfl); (case hr => first | (go_simp; done) | (go_simp; rfl)); intro gb490 hg w40 hbox hb; have n0_ := Aside0.mk (zq_ (g := gb485) (o := .cells #[.int .i64 a0_0, .int .i64 a0_1] 56 (0, 0)) (by (with_reducible repeat (first | refine zm_ ?_ _ | refine zn_ ?_ | refine zo_ ?_ _)); exact BK485.out) hb); have n1_ := Aside0.mk (zq_ (g := gb486) (o := .cells #[.int .i64 a1_0, .int .i64 a1_1] 56 (0, 0)) (by (with_reducible repeat (first | refine zm_ ?_ _ | refine zn_ ?_ | refine zo_ ?_ _)); exact BK486.out) hb); have n2_ := Aside0.mk (zq_ (g := gb487) (o := .cells #[.int .i64 0, .int .i64 0, .int .i64 0] 68 (0, 0)) (by (with_reducible repeat (first | refine zm_ ?_ _ | refine zn_ ?_ | refine zo_ ?_ _)); exact BK487.out) hb); have n3_ := Aside0.mk (zv_ (by repeat (first | (with_reducible first | exact HB.out | apply zs_ | apply zt_ | apply zu_ | refine zr_ ?_ GE485.out | refine zr_ ?_ GE486.out | refine zr_ ?_ GE487.out) | exact HB.out)) hb); have n4_ := Aside0.mk (hbox); have n5_ := Aside0.mk ((by rw [hg]; exact (zw_ (by repeat (first | (with_reducible first | exact HB.out | apply zs_ | apply zt_ | apply zu_ | refine zr_ ?_ GE485.out | refine zr_ ?_ GE486.out | refine zr_ ?_ GE487.out) | exact HB.out))) : w.heap.size ≤ gb490)); have n6_ := Aside0.mk ((by rw [hg]; exact (zw_ (by repeat (first | (with_reducible first | exact HB.out | apply zs_ | apply zt_ | apply zu_ | refine zr_ ?_ GE485.out | refine zr_ ?_ GE486.out | refine zr_ ?_ GE487.out) | exact HB.out))) : w.heap.size ≤ gb490)); have n7_ := Aside0.mk ((by rw [hg]; exact Nat.ne_of_lt (blk_lt (g := gb485) (o := .cells #[.int .i64 a0_0, .int .i64 a0_1] 56 (0, 0)) (by (with_reducible repeat (first | refine zm_ ?_ _ | refine zn_ ?_ | refine zo_ ?_ _)); exact BK485.out)) : gb485 ≠ gb490)); have n8_ := Aside0.mk ((by rw [hg]; exact Nat.ne_of_gt (blk_lt (g := gb485) (o := .cells #[.int .i64 a0_0, .int .i64 a0_1] 56 (0, 0)) (by (with_reducible repeat (first | refine zm_ ?_ _ | refine zn_ ?_ | refine zo_ ?_ _)); exact BK485.out)) : gb490 ≠ gb485)); have n9_ := Aside0.mk ((by rw [hg]; exact Nat.ne_of_lt (blk_lt (g := gb486) (o := .cells #[.int .i64 a1_0, .int .i64 a1_1] 56 (0, 0)) (by (with_reducible repeat (first | refine zm_ ?_ _ | refine zn_ ?_ | refine zo_ ?_ _)); exact BK486.out)) : gb486 ≠ gb490)); have n10_ := Aside0.mk ((by rw [hg]; exact Nat.ne_of_gt (blk_lt (g := gb486) (o := .cells #[.int .i64 a1_0, .int .i64 a1_1] 56 (0, 0)) (by (with_reducible repeat (first | refine zm_ ?_ _ | refine zn_ ?_ | refine zo_ ?_ _)); exact BK486.out)) : gb490 ≠ gb486)); have n11_ := Aside0.mk ((by rw [hg]; exact Nat.ne_of_lt (blk_lt (g := gb487) (o := .cells #[.int .i64 0, .int .i64 0, .int .i64 0] 68 (0, 0)) (by (with_reducible repeat (first | refine zm_ ?_ _ | refine zn_ ?_ | refine zo_ ?_ _)); exact BK487.out)) : gb487 ≠ gb490)); have n12_ := Aside0.mk ((by rw [hg]; exact Nat.ne_of_gt (blk_lt (g := gb487) (o := .cells #[.int .i64 0, .int .i64 0, .int .i64 0] 68 (0, 0)) (by (with_reducible repeat (first | refine zm_ ?_ _ | refine zn_ ?_ | refine zo_ ?_ _)); exact BK487.out)) : gb490 ≠ gb487)); clear BK485; clear BK486; clear BK487; clear HB; have BK485 := n0_; have BK486 := n1_; have BK487 := n2_; have HB := n3_; have BK490 := n4_; have GW490 := n5_; have GE490 := n6_; have NB485_490 := n7_; have NB490_485 := n8_; have NB486_490 := n9_; have NB490_486 := n10_; have NB487_490 := n11_; have NB490_487 := n12_; clear n0_ n1_ n2_ n3_ n4_ n5_ n6_ n7_ n8_ n9_ n10_ n11_ n12_; clear hb hbox hg; have hnb41 := NB490_485.out; have hnc41 := NB485_490.out; have hnb42 := NB490_486.out; have hnc42 := NB486_490.out; have hnb43 := NB490_487.out; have hnc43 := NB487_490.out; have hcz44_0 : w40.cell? ⟨gb490, 0, none⟩ = some (.int .i64 0) := (blk_cell BK490.out 0).trans rfl; have hcz44_1 : w40.cell? ⟨gb490, 1, none⟩ = some (.int .i64 0) := (blk_cell BK490.out 1).trans rfl; have hfz44_0 := blk_frozen BK490.out 0; have hfz44_1 := blk_frozen BK490.out 1; have hcz45_0 : w40.cell? ⟨gb487, 0, none⟩ = some (.int .i64 0) := (blk_cell BK487.out 0).trans rfl; have hcz45_1 : w40.cell? ⟨gb487, 1, none⟩ = some (.int .i64 0) := (blk_cell BK487.out 1).trans rfl; have hcz45_2 : w40.cell? ⟨gb487, 2, none⟩ = some (.int .i64 0) := (blk_cell BK487.out 2).trans rfl; have hfz45_0 := blk_frozen BK487.out 0; have hfz45_1 := blk_frozen BK487.out 1; have hfz45_2 := blk_frozen BK487.out 2))
          refine bodyPost_ret (results_cell_row rfl _ _ gb487 68 #[.int .i64 ji21, .int .i64 ji22, .int .i64 0] (0, 0) _ rfl (by (with_reducible repeat (first | refine zm_ ?_ _ | refine zn_ ?_ | refine zo_ ?_ _)); refine blk_put (cs := #[.int .i64 ji21, .int .i64 ji22, .int .i64 0]) ?_ 2 _ rfl; (with_reducible repeat (first | refine zm_ ?_ _ | refine zn_ ?_ | refine zo_ ?_ _)); refine blk_put (cs := #[.int .i64 ji21, .int .i64 0, .int .i64 0]) ?_ 1 _ rfl; (with_reducible repeat (first | refine zm_ ?_ _ | refine zn_ ?_ | refine zo_ ?_ _)); refine blk_put (cs := #[.int .i64 0, .int .i64 0, .int .i64 0]) ?_ 0 _ rfl; (with_reducible repeat (first | refine zm_ ?_ _ | refine zn_ ?_ | refine zo_ ?_ _)); refine zp_ ?_ NB487_490.out _; (with_reducible repeat (first | refine zm_ ?_ _ | refine zn_ ?_ | refine zo_ ?_ _)); refine zp_ ?_ NB487_490.out _; (with_reducible repeat (first | refine zm_ ?_ _ | refine zn_ ?_ | refine zo_ ?_ _)); exact BK487.out) Try.underlying68 rfl (by kernel_rfl)) rfl ?_
          exact ⟨by first | rfl | (simp [errW_none, errW_some] <;> rfl) | (simp only [← hji21, ← hji22]; first | rfl | (simp [errW_none, errW_some] <;> rfl)) | (simp [*, errW_none, errW_some] <;> rfl), by repeat (first | (with_reducible first | exact HB.out | apply zs_ | apply zt_ | apply zu_ | refine zr_ ?_ GE485.out | refine zr_ ?_ GE486.out | refine zr_ ?_ GE487.out | refine zr_ ?_ GE490.out) | exact HB.out)⟩
end Go.Proofs.Yteknbadjfojmbaa.QA
