-- What this claim does not use was left out by prune.py, a program of this session.
import Derived.Test.YteknbadjfojmbaaQA0
import Derived.Test.YteknbadjfojmbaaQA27
namespace Go.Proofs.Yteknbadjfojmbaa.QA
open Go.RowKit Go.Proofs.YteknbadjfojmbaaW.PrintWords Go.Proofs.YteknbadjfojmbaaW.PrintLast Go.Proofs.YteknbadjfojmbaaW.PrintMore
attribute [local go_sem] max2_int min2_int max_two min_two max_three min_three max_four min_four
set_option linter.unusedVariables false
set_option linter.unusedSimpArgs false
open Go.Proofs.YteknbadjfojmbaaW.PrintWords renaming blk_drewN → zm_, blk_drew → zn_, blk_alloc → zo_, blk_far → zp_, blk_below → zq_, below_set → zr_, below_alloc → zs_, pw_below_drewN → zt_, below_drew1 → zu_, below_step → zv_, below_size → zw_
def quietusref14_Bounds.l0 : Nat → Int → Int → Int → List (S58) → Int → Int → Option (Int × Int)
  | 0, _, _, _, _, _, _ => none
  | k + 1, x1, x6, x472000, x472001, x474000, x474001 => if x6 < (x472001.length : Int) then (if 0 ≤ x6 then ((quietusref14_allowed.f k x472000 ((rd_T58 x472001 x6).f0) ((rd_T58 x472001 x6).f1.f0) ((rd_T58 x472001 x6).f1.f1) x1).bind fun bt475 => (quietusref14_Bounds.l0 k x1 (wrap64 (x6 + 1)) x472000 x472001 (mx x474000 bt475.1) (mn x474001 bt475.2))) else (none)) else (some (x474000, x474001))
def quietusref14_Bounds.f (k : Nat) (a0_0 : Int) (l0_1 : List (S58)) (a1 : Int) : Option (Int × Int) := quietusref14_Bounds.l0 k a1 0 a0_0 l0_1 0 3600000000
def quietusref14_Bounds.T5 : Bool × List (List Nat × List Nat) := (true, [([], []), ([0], [0]), ([], []), ([2], [2]), ([], []), ([3, 4], [3, 4]), ([5], [5]), ([], []), ([1, 6, 7], [1, 6, 7]), ([], []), ([9, 8, 8, 0, 1, 2, 3, 4, 5, 6, 7, 8, 9], [8, 9])])
def quietusref14_Bounds.B5 : List Nat := [0, 1, 0, 4, 0, 28, 60, 0, 255, 0, 1023]
theorem quietusref14_Bounds.tab5 : rtab .any (opsOf Try.f75 5) = quietusref14_Bounds.T5 := by kernel_rfl
theorem quietusref14_Bounds.bits5 : waitsOk quietusref14_Bounds.T5.2 quietusref14_Bounds.B5 = true := by kernel_rfl
set_option maxHeartbeats 8000000 in
set_option maxRecDepth 100000 in
theorem quietusref14_Bounds.calls (k : Nat) (a0_0 : Int) (A0_1 : Option Addr) (c0_1 : Nat) (l0_1 : List (S58)) (a1 : Int) (r1 : Int) (r2 : Int) (w : World) (hr0_1 : Kd.C k58 w A0_1 l0_1.length l0_1) (hc0_1 : l0_1.length ≤ c0_1) (h : quietusref14_Bounds.f k a0_0 l0_1 a1 = some (r1, r2)) :
    Calls Try.prog 75 #[.agg #[.int .i64 a0_0, .slice A0_1 l0_1.length c0_1], .int .i64 a1] w fun e w' => e = .returned (.agg #[.int .i64 r1, .int .i64 r2]) ∧ Below w.heap.size w w' := by
  have hu54 := Try.underlying54
  have hu56 := Try.underlying56
  have hu58 := Try.underlying58
  have HR0_1 := Aside0.mk hr0_1
  have HC0_1 := Aside0.mk hc0_1
  clear hr0_1 hc0_1
  have HB := Aside0.mk (Below.refl w.heap.size w)
  have H : (quietusref14_Bounds.l0 k a1 0 a0_0 l0_1 0 3600000000) = some (r1, r2) := h
  clear h
  have H' := Aside0.mk H
  clear H
  go_enter Try.func75, Try.ntmps75
  go_wp2_with (first | ((with_reducible refine gate_dst (N := 2) rfl ?_); refine box_event ?hg (N := 2) ?hd (cs := #[.int .i64 a0_0, .slice A0_1 l0_1.length c0_1]) (t := 54) ?hr ?_; (case hd => rfl); (case hg => rfl); (case hr => first | (go_simp; done) | (go_simp; rfl)); intro gb471 hg w3 hbox hb; have n0_ := Aside0.mk (zv_ (by repeat (first | (with_reducible first | exact HB.out | apply zs_ | apply zt_ | apply zu_) | exact HB.out)) hb); have n1_ := Aside0.mk (hbox); have n2_ := Aside0.mk ((by rw [hg]; exact (zw_ (by repeat (first | (with_reducible first | exact HB.out | apply zs_ | apply zt_ | apply zu_) | exact HB.out))) : w.heap.size ≤ gb471)); have n3_ := Aside0.mk ((by rw [hg]; exact (zw_ (by repeat (first | (with_reducible first | exact HB.out | apply zs_ | apply zt_ | apply zu_) | exact HB.out))) : w.heap.size ≤ gb471)); clear HB; have HB := n0_; have BK471 := n1_; have GW471 := n2_; have GE471 := n3_; clear n0_ n1_ n2_ n3_; clear hb hbox hg) | ((with_reducible refine gate_dst (N := 4) rfl ?_); refine box_event ?hg (N := 4) ?hd (cs := #[.int .i64 0, .int .i64 0]) (t := 56) ?hr ?_; (case hd => rfl); (case hg => rfl); (case hr => first | (go_simp; done) | (go_simp; rfl)); intro gb472 hg w4 hbox hb; have n0_ := Aside0.mk (zq_ (g := gb471) (o := .cells #[.int .i64 a0_0, .slice A0_1 l0_1.length c0_1] 54 (0, 0)) (by (with_reducible repeat (first | refine zm_ ?_ _ | refine zn_ ?_ | refine zo_ ?_ _)); exact BK471.out) hb); have n1_ := Aside0.mk (zv_ (by repeat (first | (with_reducible first | exact HB.out | apply zs_ | apply zt_ | apply zu_ | refine zr_ ?_ GE471.out) | exact HB.out)) hb); have n2_ := Aside0.mk (hbox); have n3_ := Aside0.mk ((by rw [hg]; exact (zw_ (by repeat (first | (with_reducible first | exact HB.out | apply zs_ | apply zt_ | apply zu_ | refine zr_ ?_ GE471.out) | exact HB.out))) : w.heap.size ≤ gb472)); have n4_ := Aside0.mk ((by rw [hg]; exact (zw_ (by repeat (first | (with_reducible first | exact HB.out | apply zs_ | apply zt_ | apply zu_ | refine zr_ ?_ GE471.out) | exact HB.out))) : w.heap.size ≤ gb472)); have n5_ := Aside0.mk ((by rw [hg]; exact Nat.ne_of_lt (blk_lt (g := gb471) (o := .cells #[.int .i64 a0_0, .slice A0_1 l0_1.length c0_1] 54 (0, 0)) (by (with_reducible repeat (first | refine zm_ ?_ _ | refine zn_ ?_ | refine zo_ ?_ _)); exact BK471.out)) : gb471 ≠ gb472)); have n6_ := Aside0.mk ((by rw [hg]; exact Nat.ne_of_gt (blk_lt (g := gb471) (o := .cells #[.int .i64 a0_0, .slice A0_1 l0_1.length c0_1] 54 (0, 0)) (by (with_reducible repeat (first | refine zm_ ?_ _ | refine zn_ ?_ | refine zo_ ?_ _)); exact BK471.out)) : gb472 ≠ gb471)); clear BK471; clear HB; have BK471 := n0_; have HB := n1_; have BK472 := n2_; have GW472 := n3_; have GE472 := n4_; have NB471_472 := n5_; have NB472_471 := n6_; clear n0_ n1_ n2_ n3_ n4_ n5_ n6_; clear hb hbox hg) | ((with_reducible refine gate_dst (N := 5) rfl ?_); refine box_event ?hg (N := 5) ?hd (cs := #[.int .i64 0, .int .i64 0]) (t := 56) ?hr ?_; (case hd => rfl); (case hg => rfl); (case hr => first | (go_simp; done) | (go_simp; rfl)); intro gb473 hg w5 hbox hb; have n0_ := Aside0.mk (zq_ (g := gb471) (o := .cells #[.int .i64 a0_0, .slice A0_1 l0_1.length c0_1] 54 (0, 0)) (by (with_reducible repeat (first | refine zm_ ?_ _ | refine zn_ ?_ | refine zo_ ?_ _)); exact BK471.out) hb); have n1_ := Aside0.mk (zq_ (g := gb472) (o := .cells #[.int .i64 0, .int .i64 0] 56 (0, 0)) (by (with_reducible repeat (first | refine zm_ ?_ _ | refine zn_ ?_ | refine zo_ ?_ _)); exact BK472.out) hb); have n2_ := Aside0.mk (zv_ (by repeat (first | (with_reducible first | exact HB.out | apply zs_ | apply zt_ | apply zu_ | refine zr_ ?_ GE471.out | refine zr_ ?_ GE472.out) | exact HB.out)) hb); have n3_ := Aside0.mk (hbox); have n4_ := Aside0.mk ((by rw [hg]; exact (zw_ (by repeat (first | (with_reducible first | exact HB.out | apply zs_ | apply zt_ | apply zu_ | refine zr_ ?_ GE471.out | refine zr_ ?_ GE472.out) | exact HB.out))) : w.heap.size ≤ gb473)); have n5_ := Aside0.mk ((by rw [hg]; exact (zw_ (by repeat (first | (with_reducible first | exact HB.out | apply zs_ | apply zt_ | apply zu_ | refine zr_ ?_ GE471.out | refine zr_ ?_ GE472.out) | exact HB.out))) : w.heap.size ≤ gb473)); have n6_ := Aside0.mk ((by rw [hg]; exact Nat.ne_of_lt (blk_lt (g := gb471) (o := .cells #[.int .i64 a0_0, .slice A0_1 l0_1.length c0_1] 54 (0, 0)) (by (with_reducible repeat (first | refine zm_ ?_ _ | refine zn_ ?_ | refine zo_ ?_ _)); exact BK471.out)) : gb471 ≠ gb473)); have n7_ := Aside0.mk ((by rw [hg]; exact Nat.ne_of_gt (blk_lt (g := gb471) (o := .cells #[.int .i64 a0_0, .slice A0_1 l0_1.length c0_1] 54 (0, 0)) (by (with_reducible repeat (first | refine zm_ ?_ _ | refine zn_ ?_ | refine zo_ ?_ _)); exact BK471.out)) : gb473 ≠ gb471)); have n8_ := Aside0.mk ((by rw [hg]; exact Nat.ne_of_lt (blk_lt (g := gb472) (o := .cells #[.int .i64 0, .int .i64 0] 56 (0, 0)) (by (with_reducible repeat (first | refine zm_ ?_ _ | refine zn_ ?_ | refine zo_ ?_ _)); exact BK472.out)) : gb472 ≠ gb473)); have n9_ := Aside0.mk ((by rw [hg]; exact Nat.ne_of_gt (blk_lt (g := gb472) (o := .cells #[.int .i64 0, .int .i64 0] 56 (0, 0)) (by (with_reducible repeat (first | refine zm_ ?_ _ | refine zn_ ?_ | refine zo_ ?_ _)); exact BK472.out)) : gb473 ≠ gb472)); clear BK471; clear BK472; clear HB; have BK471 := n0_; have BK472 := n1_; have HB := n2_; have BK473 := n3_; have GW473 := n4_; have GE473 := n5_; have NB471_473 := n6_; have NB473_471 := n7_; have NB472_473 := n8_; have NB473_472 := n9_; clear n0_ n1_ n2_ n3_ n4_ n5_ n6_ n7_ n8_ n9_; clear hb hbox hg; have hnb6 := NB473_471.out; have hnc6 := NB471_473.out; have hnb7 := NB473_472.out; have hnc7 := NB472_473.out; have hcz8_0 : w5.cell? ⟨gb473, 0, none⟩ = some (.int .i64 0) := (blk_cell BK473.out 0).trans rfl; have hcz8_1 : w5.cell? ⟨gb473, 1, none⟩ = some (.int .i64 0) := (blk_cell BK473.out 1).trans rfl; have hfz8_0 := blk_frozen BK473.out 0; have hfz8_1 := blk_frozen BK473.out 1))
  go_loopg [6] k (fun kq v6 w' => ∃ (x6_1 : Int) (x474000_1 : Int) (x474001_1 : Int), v6 = .int .i64 x6_1 ∧ Aside0 (quietusref14_Bounds.l0 kq a1 x6_1 a0_0 l0_1 x474000_1 x474001_1 = some (r1, r2)) ∧ Aside0 (kq ≤ k) ∧ Aside0 (w'.heap[gb471]? = some (.cells #[.int .i64 a0_0, (.slice A0_1 l0_1.length c0_1)] 54 (0, 0))) ∧ Aside0 (w'.heap[gb472]? = some (.cells #[.int .i64 0, .int .i64 0] 56 (0, 0))) ∧ Aside0 (w'.heap[gb473]? = some (.cells #[.int .i64 x474000_1, .int .i64 x474001_1] 56 (0, 0))) ∧ Aside0 (Below w.heap.size w w'))
  case atStart => exact ⟨(0), (0), (3600000000), (by first | rfl | (simp; done) | (simp [*]; done)), H', ⟨Nat.le_refl _⟩, ⟨by (with_reducible repeat (first | refine zm_ ?_ _ | refine zn_ ?_ | refine zo_ ?_ _)); refine zp_ ?_ NB471_473.out _; (with_reducible repeat (first | refine zm_ ?_ _ | refine zn_ ?_ | refine zo_ ?_ _)); refine zp_ ?_ NB471_473.out _; (with_reducible repeat (first | refine zm_ ?_ _ | refine zn_ ?_ | refine zo_ ?_ _)); exact BK471.out⟩, ⟨by (with_reducible repeat (first | refine zm_ ?_ _ | refine zn_ ?_ | refine zo_ ?_ _)); refine zp_ ?_ NB472_473.out _; (with_reducible repeat (first | refine zm_ ?_ _ | refine zn_ ?_ | refine zo_ ?_ _)); refine zp_ ?_ NB472_473.out _; (with_reducible repeat (first | refine zm_ ?_ _ | refine zn_ ?_ | refine zo_ ?_ _)); exact BK472.out⟩, ⟨by (with_reducible repeat (first | refine zm_ ?_ _ | refine zn_ ?_ | refine zo_ ?_ _)); refine blk_put (cs := #[.int .i64 0, .int .i64 0]) ?_ 1 _ rfl; (with_reducible repeat (first | refine zm_ ?_ _ | refine zn_ ?_ | refine zo_ ?_ _)); refine blk_put (cs := #[.int .i64 0, .int .i64 0]) ?_ 0 _ rfl; (with_reducible repeat (first | refine zm_ ?_ _ | refine zn_ ?_ | refine zo_ ?_ _)); exact BK473.out⟩, ⟨by repeat (first | (with_reducible first | exact HB.out | apply zs_ | apply zt_ | apply zu_ | refine zr_ ?_ GE471.out | refine zr_ ?_ GE472.out | refine zr_ ?_ GE473.out) | exact HB.out)⟩⟩
  case round =>
    clear H'
    try clear p2
    try clear c6
    try clear c7
    try clear hcz8_0
    try clear hcz8_1
    try clear hfz8_0
    try clear hfz8_1
    obtain ⟨x6_1, x474000_1, x474001_1, rfl, HA, HK1, BK471, BK472, BK473, HB⟩ := hrel
    cases gk with
    | zero => exact absurd HA.out (by simp [quietusref14_Bounds.l0])
    | succ k1 =>
      have H := HA.out
      clear HA
      simp only [quietusref14_Bounds.l0] at H
      by_cases c9 : x6_1 < (l0_1.length : Int)
      · rw [if_pos c9] at H
        have c9b0 : decide (x6_1 < (l0_1.length : Int)) = true := decide_eq_true c9
        clear c9
        by_cases c10 : 0 ≤ x6_1
        · rw [if_pos c10] at H
          have c10b0 : decide (0 ≤ x6_1) = true := decide_eq_true c10
          clear c10
          replace H := Option.bind_eq_some_iff.mp H
          obtain ⟨⟨t475, t476⟩, A110, H⟩ := H
          replace H : (quietusref14_Bounds.l0 k1 a1 (wrap64 (x6_1 + 1)) a0_0 l0_1 (mx x474000_1 t475) (mn x474001_1 t476)) = some (r1, r2) := H
          have A11 := Aside0.mk A110
          clear A110
          obtain ⟨ji12, hji12⟩ : ∃ j_ : Int, (mx x474000_1 t475) = j_ := ⟨_, rfl⟩
          replace H : (quietusref14_Bounds.l0 k1 a1 (wrap64 (x6_1 + 1)) a0_0 l0_1 ji12 (mn x474001_1 t476)) = some (r1, r2) := by first | (rw [hji12] at H; exact H) | (simp only [hji12] at H ⊢; exact H)
          (try rw [hji12] at A11)
          have hji12_ : (if x474000_1 < t475 then t475 else x474000_1) = ji12 := hji12
          obtain ⟨ji13, hji13⟩ : ∃ j_ : Int, (mn x474001_1 t476) = j_ := ⟨_, rfl⟩
          replace H : (quietusref14_Bounds.l0 k1 a1 (wrap64 (x6_1 + 1)) a0_0 l0_1 ji12 ji13) = some (r1, r2) := by first | (rw [hji13] at H; exact H) | (simp only [hji13] at H ⊢; exact H)
          (try rw [hji13] at A11)
          have hji13_ : (if t476 < x474001_1 then t476 else x474001_1) = ji13 := hji13
          have H' := Aside0.mk H
          clear H
          have hnb14 := NB471_472.out
          have hnc14 := NB472_471.out
          have hnb15 := NB471_473.out
          have hnc15 := NB473_471.out
          have hcz16_0 : wr.cell? ⟨gb471, 0, none⟩ = some (.int .i64 a0_0) := (blk_cell BK471.out 0).trans rfl
          have hcz16_1 : wr.cell? ⟨gb471, 1, none⟩ = some (.slice A0_1 l0_1.length c0_1) := (blk_cell BK471.out 1).trans rfl
          have hfz16_0 := blk_frozen BK471.out 0
          have hfz16_1 := blk_frozen BK471.out 1
          try go_wp2
          have n0_ := Aside0.mk (zn_ BK471.out)
          have n1_ := Aside0.mk (zn_ BK472.out)
          have n2_ := Aside0.mk (zn_ BK473.out)
          have n3_ := Aside0.mk (zu_ HB.out)
          clear BK471
          clear BK472
          clear BK473
          clear HB
          have BK471 := n0_
          have BK472 := n1_
          have BK473 := n2_
          have HB := n3_
          clear n0_ n1_ n2_ n3_
          have p474 : 0 ≤ (x6_1 : Int) := of_decide_eq_true (by first | (with_reducible assumption) | assumption)
          have q474 : x6_1 < (l0_1.length : Int) := of_decide_eq_true (by first | (with_reducible assumption) | assumption)
          obtain ⟨ad474, e474, hx474_0, hx474_1, hx474_2⟩ := at_T58 HR0_1.out x6_1 p474 q474
          have hw474_2 := hx474_2
          have hw474_1 := hx474_1
          have hw474_0 := hx474_0
          cases e474
          replace hx474_0 := (HB.out.cell (World.block_lt_of_cell? w _ hx474_0)).trans hx474_0
          replace hx474_1 := (HB.out.cell (World.block_lt_of_cell? w _ hx474_1)).trans hx474_1
          replace hx474_2 := (HB.out.cell (World.block_lt_of_cell? w _ hx474_2)).trans hx474_2
          replace p474 := eq_true p474
          replace q474 := eq_true q474
          refine start_ (n := 11) (S := fun w' => w'.cell? ⟨gb471, 0, none⟩ = some (.int .i64 a0_0) ∧ w'.cell? ⟨gb471, 1, none⟩ = some (.slice (some ad474) l0_1.length c0_1) ∧ w'.cell? (ad474.add ((x6_1).toNat * 3)) = some (.int .i64 ((rd_T58 l0_1 x6_1).f0)) ∧ w'.cell? ⟨(ad474.add ((x6_1).toNat * 3)).block, (ad474.add ((x6_1).toNat * 3)).off + 1, none⟩ = some (.int .i64 ((rd_T58 l0_1 x6_1).f1.f0)) ∧ w'.cell? ⟨(ad474.add ((x6_1).toNat * 3)).block, (ad474.add ((x6_1).toNat * 3)).off + 2, none⟩ = some (.int .i64 ((rd_T58 l0_1 x6_1).f1.f1))) (ds := []) #[false, false, false, false, false, false, false, false, false, false, false] (by kernel_rfl) rfl rfl ⟨(blk_cell BK471.out 0).trans rfl, (blk_cell BK471.out 1).trans rfl, ((HB.out.cell (World.block_lt_of_cell? w _ hw474_0)).trans hw474_0), ((HB.out.cell (World.block_lt_of_cell? w _ hw474_1)).trans hw474_1), ((HB.out.cell (World.block_lt_of_cell? w _ hw474_2)).trans hw474_2)⟩ (fun hHeld => ?_); refine with_tabW quietusref14_Bounds.tab5 quietusref14_Bounds.bits5 (fun HT_ HW_ => ?_)
          generalize wr.drew = w17 at BK471 BK472 BK473 HB hx474_0 hx474_1 hx474_2 hHeld ⊢
          refine pure_ (i := 0) (N := some 16) (v := ?_) (a' := ?_) #[true, false, false, false, false, false, false, false, false, false, false] rfl rfl (any_of HT_.out (by kernel_rfl)) (fun _ _ _ h => h) (Or.inl ⟨by rfl, ?_⟩) ?_ ?_
          rotate_left
          · intro w'
            go_simp
            with_reducible rfl
          rotate_left
          · simp only [Act.put, List.setIfInBounds_toArray, List.set_cons_zero, List.set_cons_succ, i64_w, i32_w]
            rfl
          refine pure_ (i := 2) (N := some 18) (v := ?_) (a' := ?_) #[true, false, true, false, false, false, false, false, false, false, false] rfl rfl (any_of HT_.out (by kernel_rfl)) (fun _ _ _ h => h) (Or.inl ⟨by rfl, ?_⟩) ?_ ?_
          rotate_left
          · intro w'
            go_simp
            with_reducible rfl
          rotate_left
          · simp only [Act.put, List.setIfInBounds_toArray, List.set_cons_zero, List.set_cons_succ, i64_w, i32_w]
            rfl
          refine pure_ (i := 4) (N := some 20) (v := ?_) (a' := ?_) #[true, false, true, false, true, false, false, false, false, false, false] rfl rfl (any_of HT_.out (by kernel_rfl)) (fun _ _ _ h => h) (Or.inl ⟨by rfl, ?_⟩) ?_ ?_
          rotate_left
          · intro w'
            go_simp
            with_reducible rfl
          rotate_left
          · simp only [Act.put, List.setIfInBounds_toArray, List.set_cons_zero, List.set_cons_succ, i64_w, i32_w]
            rfl
          refine pure_ (i := 7) (N := some 23) (v := ?_) (a' := ?_) #[true, false, true, false, true, false, false, true, false, false, false] rfl rfl (any_of HT_.out (by kernel_rfl)) (fun _ _ _ h => h) (Or.inl ⟨by rfl, ?_⟩) ?_ ?_
          rotate_left
          · intro w'
            go_simp
            with_reducible rfl
          rotate_left
          · simp only [Act.put, List.setIfInBounds_toArray, List.set_cons_zero, List.set_cons_succ, i64_w, i32_w]
            rfl
          refine take_ (i := 1) (N := some 17) (v := ?_) (a' := ?_) #[true, true, true, false, true, false, false, true, false, false, false] rfl rfl (take_ofW HT_.out HW_.out (by kernel_rfl)) (fun _ _ _ h => h) (Or.inl ⟨by rfl, ?_⟩) hHeld ?_ ?_
          rotate_left
          · rintro w' ⟨s0, s1, s2, s3, s4⟩
            go_simp
            with_reducible rfl
          rotate_left
          · simp only [Act.put, List.setIfInBounds_toArray, List.set_cons_zero, List.set_cons_succ, i64_w, i32_w]
            rfl
          refine take_ (i := 3) (N := some 19) (v := ?_) (a' := ?_) #[true, true, true, true, true, false, false, true, false, false, false] rfl rfl (take_ofW HT_.out HW_.out (by kernel_rfl)) (fun _ _ _ h => h) (Or.inl ⟨by rfl, ?_⟩) hHeld ?_ ?_
          rotate_left
          · rintro w' ⟨s0, s1, s2, s3, s4⟩
            go_simp
            with_reducible rfl
          rotate_left
          · simp only [Act.put, List.setIfInBounds_toArray, List.set_cons_zero, List.set_cons_succ, i64_w, i32_w]
            rfl
          refine pure_ (i := 5) (N := some 21) (v := ?_) (a' := ?_) #[true, true, true, true, true, true, false, true, false, false, false] rfl rfl (any_of HT_.out (by kernel_rfl)) (fun _ _ _ h => h) (Or.inl ⟨by rfl, ?_⟩) ?_ ?_
          rotate_left
          · intro w'
            go_simp
            with_reducible rfl
          rotate_left
          · simp only [Act.put, List.setIfInBounds_toArray, List.set_cons_zero, List.set_cons_succ, i64_w, i32_w]
            rfl
          refine take_ (i := 6) (N := some 22) (v := ?_) (a' := ?_) #[true, true, true, true, true, true, true, true, false, false, false] rfl rfl (take_ofW HT_.out HW_.out (by kernel_rfl)) (fun _ _ _ h => h) (Or.inl ⟨by rfl, ?_⟩) hHeld ?_ ?_
          rotate_left
          · rintro w' ⟨s0, s1, s2, s3, s4⟩
            go_simp
            with_reducible rfl
          rotate_left
          · simp only [Act.put, List.setIfInBounds_toArray, List.set_cons_zero, List.set_cons_succ, i64_w, i32_w]
            rfl
          refine join_ (σ := Nat) 1 #[true, true, true, true, true, true, true, true, true, true, false] (fun s_ => [(24, .agg #[.int .i64 t475, .int .i64 t476]), (7, .pointer (some ⟨s_, 0, none⟩))]) (fun s_ w' => (w'.cell? ⟨gb471, 0, none⟩ = some (.int .i64 a0_0) ∧ w'.cell? ⟨gb471, 1, none⟩ = some (.slice (some ad474) l0_1.length c0_1) ∧ w'.cell? (ad474.add ((x6_1).toNat * 3)) = some (.int .i64 ((rd_T58 l0_1 x6_1).f0)) ∧ w'.cell? ⟨(ad474.add ((x6_1).toNat * 3)).block, (ad474.add ((x6_1).toNat * 3)).off + 1, none⟩ = some (.int .i64 ((rd_T58 l0_1 x6_1).f1.f0)) ∧ w'.cell? ⟨(ad474.add ((x6_1).toNat * 3)).block, (ad474.add ((x6_1).toNat * 3)).off + 2, none⟩ = some (.int .i64 ((rd_T58 l0_1 x6_1).f1.f1))) ∧ (w'.heap[gb471]? = some (.cells #[.int .i64 a0_0, .slice (some ad474) l0_1.length c0_1] 54 (0, 0))) ∧ (w'.heap[gb472]? = some (.cells #[.int .i64 0, .int .i64 0] 56 (0, 0))) ∧ (w'.heap[gb473]? = some (.cells #[.int .i64 x474000_1, .int .i64 x474001_1] 56 (0, 0))) ∧ (w'.heap[s_]? = some (.cells #[.int .i64 0, .int .i64 0] 56 (0, 0))) ∧ (w.heap.size ≤ s_) ∧ (w.heap.size ≤ s_) ∧ (gb471 ≠ s_) ∧ (s_ ≠ gb471) ∧ (gb472 ≠ s_) ∧ (s_ ≠ gb472) ∧ (gb473 ≠ s_) ∧ (s_ ≠ gb473) ∧ (Below w.heap.size w w')) ?_ ?_
          rotate_left
          · intro hCont
            refine two_ (i := 8) (j := 9) (Ni := some 24) (Nj := some 7) #[true, true, true, true, true, true, true, true, true, false, false] #[true, true, true, true, true, true, true, true, false, true, false] rfl rfl rfl rfl (two_of HT_.out (by kernel_rfl)) (by decide) (by decide) (fun K hK => ?_) (fun K hK => ?_)
            · skip
              refine goes_ Try.func92 (by kernel_rfl) rfl #[.int .i64 a0_0, .agg #[.int .i64 ((rd_T58 l0_1 x6_1).f0), .int .i64 ((rd_T58 l0_1 x6_1).f1.f0), .int .i64 ((rd_T58 l0_1 x6_1).f1.f1)], .int .i64 a1] (by rfl) rfl rfl (by (try simp only [List.map_toArray, List.map_cons, List.map_nil]); first | done | rfl | (simp only [List.length_drop, List.length_take]; rfl)) ?_
              with_reducible refine (quietusref14_allowed.calls k1 a0_0 ((rd_T58 l0_1 x6_1).f0) ((rd_T58 l0_1 x6_1).f1.f0) ((rd_T58 l0_1 x6_1).f1.f1) a1 t475 t476 _ A11.out).mono ?_
              rintro e w18 ⟨rfl, hb⟩
              refine ⟨_, rfl, ?_⟩
              have n0_ := Aside0.mk (zq_ (g := gb471) (o := .cells #[.int .i64 a0_0, .slice (some ad474) l0_1.length c0_1] 54 (0, 0)) (by (with_reducible repeat (first | refine zm_ ?_ _ | refine zn_ ?_ | refine zo_ ?_ _)); exact BK471.out) hb)
              have n1_ := Aside0.mk (zq_ (g := gb472) (o := .cells #[.int .i64 0, .int .i64 0] 56 (0, 0)) (by (with_reducible repeat (first | refine zm_ ?_ _ | refine zn_ ?_ | refine zo_ ?_ _)); exact BK472.out) hb)
              have n2_ := Aside0.mk (zq_ (g := gb473) (o := .cells #[.int .i64 x474000_1, .int .i64 x474001_1] 56 (0, 0)) (by (with_reducible repeat (first | refine zm_ ?_ _ | refine zn_ ?_ | refine zo_ ?_ _)); exact BK473.out) hb)
              have n3_ := Aside0.mk (zv_ (by repeat (first | (with_reducible first | exact HB.out | apply zs_ | apply zt_ | apply zu_ | refine zr_ ?_ GE471.out | refine zr_ ?_ GE472.out | refine zr_ ?_ GE473.out) | exact HB.out)) hb)
              clear BK471
              clear BK472
              clear BK473
              clear HB
              have BK471 := n0_
              have BK472 := n1_
              have BK473 := n2_
              have HB := n3_
              clear n0_ n1_ n2_ n3_
              (try clear hb)
              (try clear hb2)
              (try clear hk)
              (try clear hi)
              refine hK.out _ _ ⟨(blk_cell BK471.out 0).trans rfl, (blk_cell BK471.out 1).trans rfl, ((HB.out.cell (World.block_lt_of_cell? w _ hw474_0)).trans hw474_0), ((HB.out.cell (World.block_lt_of_cell? w _ hw474_1)).trans hw474_1), ((HB.out.cell (World.block_lt_of_cell? w _ hw474_2)).trans hw474_2)⟩ (fun hHeld => ?_)
              clear hK K
              refine norm_ (a' := ?_) ?_ ?_
              rotate_left
              · show Act.put _ (some 24) _ = _
                simp only [Act.put, List.setIfInBounds_toArray, List.set_cons_zero, List.set_cons_succ, i64_w, i32_w]
                rfl
              refine one_ (i := 9) (N := some 7) #[true, true, true, true, true, true, true, true, true, true, false] rfl rfl (one_of HT_.out (by kernel_rfl)) (by decide) (fun K hK => ?_)
              refine box_step ?hg (N := 7) ?hd (cs := #[.int .i64 0, .int .i64 0]) (t := 56) ?hr ?_; (case hd => rfl); (case hg => rfl); (case hr => first | (go_simp; done) | (go_simp; rfl))
              intro gb477 hg w19 hbox hb
              have n0_ := Aside0.mk (zq_ (g := gb471) (o := .cells #[.int .i64 a0_0, .slice (some ad474) l0_1.length c0_1] 54 (0, 0)) (by (with_reducible repeat (first | refine zm_ ?_ _ | refine zn_ ?_ | refine zo_ ?_ _)); exact BK471.out) hb)
              have n1_ := Aside0.mk (zq_ (g := gb472) (o := .cells #[.int .i64 0, .int .i64 0] 56 (0, 0)) (by (with_reducible repeat (first | refine zm_ ?_ _ | refine zn_ ?_ | refine zo_ ?_ _)); exact BK472.out) hb)
              have n2_ := Aside0.mk (zq_ (g := gb473) (o := .cells #[.int .i64 x474000_1, .int .i64 x474001_1] 56 (0, 0)) (by (with_reducible repeat (first | refine zm_ ?_ _ | refine zn_ ?_ | refine zo_ ?_ _)); exact BK473.out) hb)
              have n3_ := Aside0.mk (zv_ (by repeat (first | (with_reducible first | exact HB.out | apply zs_ | apply zt_ | apply zu_ | refine zr_ ?_ GE471.out | refine zr_ ?_ GE472.out | refine zr_ ?_ GE473.out) | exact HB.out)) hb)
              have n4_ := Aside0.mk (hbox)
              have n5_ := Aside0.mk ((by rw [hg]; exact (zw_ (by repeat (first | (with_reducible first | exact HB.out | apply zs_ | apply zt_ | apply zu_ | refine zr_ ?_ GE471.out | refine zr_ ?_ GE472.out | refine zr_ ?_ GE473.out) | exact HB.out))) : w.heap.size ≤ gb477))
              have n6_ := Aside0.mk ((by rw [hg]; exact (zw_ (by repeat (first | (with_reducible first | exact HB.out | apply zs_ | apply zt_ | apply zu_ | refine zr_ ?_ GE471.out | refine zr_ ?_ GE472.out | refine zr_ ?_ GE473.out) | exact HB.out))) : w.heap.size ≤ gb477))
              have n7_ := Aside0.mk ((by rw [hg]; exact Nat.ne_of_lt (blk_lt (g := gb471) (o := .cells #[.int .i64 a0_0, .slice (some ad474) l0_1.length c0_1] 54 (0, 0)) (by (with_reducible repeat (first | refine zm_ ?_ _ | refine zn_ ?_ | refine zo_ ?_ _)); exact BK471.out)) : gb471 ≠ gb477))
              have n8_ := Aside0.mk ((by rw [hg]; exact Nat.ne_of_gt (blk_lt (g := gb471) (o := .cells #[.int .i64 a0_0, .slice (some ad474) l0_1.length c0_1] 54 (0, 0)) (by (with_reducible repeat (first | refine zm_ ?_ _ | refine zn_ ?_ | refine zo_ ?_ _)); exact BK471.out)) : gb477 ≠ gb471))
              have n9_ := Aside0.mk ((by rw [hg]; exact Nat.ne_of_lt (blk_lt (g := gb472) (o := .cells #[.int .i64 0, .int .i64 0] 56 (0, 0)) (by (with_reducible repeat (first | refine zm_ ?_ _ | refine zn_ ?_ | refine zo_ ?_ _)); exact BK472.out)) : gb472 ≠ gb477))
              have n10_ := Aside0.mk ((by rw [hg]; exact Nat.ne_of_gt (blk_lt (g := gb472) (o := .cells #[.int .i64 0, .int .i64 0] 56 (0, 0)) (by (with_reducible repeat (first | refine zm_ ?_ _ | refine zn_ ?_ | refine zo_ ?_ _)); exact BK472.out)) : gb477 ≠ gb472))
              have n11_ := Aside0.mk ((by rw [hg]; exact Nat.ne_of_lt (blk_lt (g := gb473) (o := .cells #[.int .i64 x474000_1, .int .i64 x474001_1] 56 (0, 0)) (by (with_reducible repeat (first | refine zm_ ?_ _ | refine zn_ ?_ | refine zo_ ?_ _)); exact BK473.out)) : gb473 ≠ gb477))
              have n12_ := Aside0.mk ((by rw [hg]; exact Nat.ne_of_gt (blk_lt (g := gb473) (o := .cells #[.int .i64 x474000_1, .int .i64 x474001_1] 56 (0, 0)) (by (with_reducible repeat (first | refine zm_ ?_ _ | refine zn_ ?_ | refine zo_ ?_ _)); exact BK473.out)) : gb477 ≠ gb473))
              clear BK471
              clear BK472
              clear BK473
              clear HB
              have BK471 := n0_
              have BK472 := n1_
              have BK473 := n2_
              have HB := n3_
              have BK477 := n4_
              have GW477 := n5_
              have GE477 := n6_
              have NB471_477 := n7_
              have NB477_471 := n8_
              have NB472_477 := n9_
              have NB477_472 := n10_
              have NB473_477 := n11_
              have NB477_473 := n12_
              clear n0_ n1_ n2_ n3_ n4_ n5_ n6_ n7_ n8_ n9_ n10_ n11_ n12_
              clear hb hbox hg
              refine hK.out _ _ ⟨(blk_cell BK471.out 0).trans rfl, (blk_cell BK471.out 1).trans rfl, ((HB.out.cell (World.block_lt_of_cell? w _ hw474_0)).trans hw474_0), ((HB.out.cell (World.block_lt_of_cell? w _ hw474_1)).trans hw474_1), ((HB.out.cell (World.block_lt_of_cell? w _ hw474_2)).trans hw474_2)⟩ (fun hHeld => ?_)
              clear hK K
              refine norm_ (a' := ?_) ?_ ?_
              rotate_left
              · show Act.put _ (some 7) _ = _
                simp only [Act.put, List.setIfInBounds_toArray, List.set_cons_zero, List.set_cons_succ, i64_w, i32_w]
                rfl
              exact norm_ (by simp only [putAll, Act.put, List.setIfInBounds_toArray, List.set_cons_zero, List.set_cons_succ]) (hCont (gb477) _ ⟨hHeld, (by (with_reducible repeat (first | refine zm_ ?_ _ | refine zn_ ?_ | refine zo_ ?_ _)); exact BK471.out), (by (with_reducible repeat (first | refine zm_ ?_ _ | refine zn_ ?_ | refine zo_ ?_ _)); exact BK472.out), (by (with_reducible repeat (first | refine zm_ ?_ _ | refine zn_ ?_ | refine zo_ ?_ _)); exact BK473.out), (by (with_reducible repeat (first | refine zm_ ?_ _ | refine zn_ ?_ | refine zo_ ?_ _)); exact BK477.out), GW477.out, GE477.out, NB471_477.out, NB477_471.out, NB472_477.out, NB477_472.out, NB473_477.out, NB477_473.out, (by repeat (first | (with_reducible first | exact HB.out | apply zs_ | apply zt_ | apply zu_ | refine zr_ ?_ GE471.out | refine zr_ ?_ GE472.out | refine zr_ ?_ GE473.out | refine zr_ ?_ GE477.out) | exact HB.out))⟩)
            · skip
              refine box_step ?hg (N := 7) ?hd (cs := #[.int .i64 0, .int .i64 0]) (t := 56) ?hr ?_; (case hd => rfl); (case hg => rfl); (case hr => first | (go_simp; done) | (go_simp; rfl))
              intro gb477 hg w18 hbox hb
              have n0_ := Aside0.mk (zq_ (g := gb471) (o := .cells #[.int .i64 a0_0, .slice (some ad474) l0_1.length c0_1] 54 (0, 0)) (by (with_reducible repeat (first | refine zm_ ?_ _ | refine zn_ ?_ | refine zo_ ?_ _)); exact BK471.out) hb)
              have n1_ := Aside0.mk (zq_ (g := gb472) (o := .cells #[.int .i64 0, .int .i64 0] 56 (0, 0)) (by (with_reducible repeat (first | refine zm_ ?_ _ | refine zn_ ?_ | refine zo_ ?_ _)); exact BK472.out) hb)
              have n2_ := Aside0.mk (zq_ (g := gb473) (o := .cells #[.int .i64 x474000_1, .int .i64 x474001_1] 56 (0, 0)) (by (with_reducible repeat (first | refine zm_ ?_ _ | refine zn_ ?_ | refine zo_ ?_ _)); exact BK473.out) hb)
              have n3_ := Aside0.mk (zv_ (by repeat (first | (with_reducible first | exact HB.out | apply zs_ | apply zt_ | apply zu_ | refine zr_ ?_ GE471.out | refine zr_ ?_ GE472.out | refine zr_ ?_ GE473.out) | exact HB.out)) hb)
              have n4_ := Aside0.mk (hbox)
              have n5_ := Aside0.mk ((by rw [hg]; exact (zw_ (by repeat (first | (with_reducible first | exact HB.out | apply zs_ | apply zt_ | apply zu_ | refine zr_ ?_ GE471.out | refine zr_ ?_ GE472.out | refine zr_ ?_ GE473.out) | exact HB.out))) : w.heap.size ≤ gb477))
              have n6_ := Aside0.mk ((by rw [hg]; exact (zw_ (by repeat (first | (with_reducible first | exact HB.out | apply zs_ | apply zt_ | apply zu_ | refine zr_ ?_ GE471.out | refine zr_ ?_ GE472.out | refine zr_ ?_ GE473.out) | exact HB.out))) : w.heap.size ≤ gb477))
              have n7_ := Aside0.mk ((by rw [hg]; exact Nat.ne_of_lt (blk_lt (g := gb471) (o := .cells #[.int .i64 a0_0, .slice (some ad474) l0_1.length c0_1] 54 (0, 0)) (by (with_reducible repeat (first | refine zm_ ?_ _ | refine zn_ ?_ | refine zo_ ?_ _)); exact BK471.out)) : gb471 ≠ gb477))
              have n8_ := Aside0.mk ((by rw [hg]; exact Nat.ne_of_gt (blk_lt (g := gb471) (o := .cells #[.int .i64 a0_0, .slice (some ad474) l0_1.length c0_1] 54 (0, 0)) (by (with_reducible repeat (first | refine zm_ ?_ _ | refine zn_ ?_ | refine zo_ ?_ _)); exact BK471.out)) : gb477 ≠ gb471))
              have n9_ := Aside0.mk ((by rw [hg]; exact Nat.ne_of_lt (blk_lt (g := gb472) (o := .cells #[.int .i64 0, .int .i64 0] 56 (0, 0)) (by (with_reducible repeat (first | refine zm_ ?_ _ | refine zn_ ?_ | refine zo_ ?_ _)); exact BK472.out)) : gb472 ≠ gb477))
              have n10_ := Aside0.mk ((by rw [hg]; exact Nat.ne_of_gt (blk_lt (g := gb472) (o := .cells #[.int .i64 0, .int .i64 0] 56 (0, 0)) (by (with_reducible repeat (first | refine zm_ ?_ _ | refine zn_ ?_ | refine zo_ ?_ _)); exact BK472.out)) : gb477 ≠ gb472))
              have n11_ := Aside0.mk ((by rw [hg]; exact Nat.ne_of_lt (blk_lt (g := gb473) (o := .cells #[.int .i64 x474000_1, .int .i64 x474001_1] 56 (0, 0)) (by (with_reducible repeat (first | refine zm_ ?_ _ | refine zn_ ?_ | refine zo_ ?_ _)); exact BK473.out)) : gb473 ≠ gb477))
              have n12_ := Aside0.mk ((by rw [hg]; exact Nat.ne_of_gt (blk_lt (g := gb473) (o := .cells #[.int .i64 x474000_1, .int .i64 x474001_1] 56 (0, 0)) (by (with_reducible repeat (first | refine zm_ ?_ _ | refine zn_ ?_ | refine zo_ ?_ _)); exact BK473.out)) : gb477 ≠ gb473))
              clear BK471
              clear BK472
              clear BK473
              clear HB
              have BK471 := n0_
              have BK472 := n1_
              have BK473 := n2_
              have HB := n3_
              have BK477 := n4_
              have GW477 := n5_
              have GE477 := n6_
              have NB471_477 := n7_
              have NB477_471 := n8_
              have NB472_477 := n9_
              have NB477_472 := n10_
              have NB473_477 := n11_
              have NB477_473 := n12_
              clear n0_ n1_ n2_ n3_ n4_ n5_ n6_ n7_ n8_ n9_ n10_ n11_ n12_
              clear hb hbox hg
              refine hK.out _ _ ⟨(blk_cell BK471.out 0).trans rfl, (blk_cell BK471.out 1).trans rfl, ((HB.out.cell (World.block_lt_of_cell? w _ hw474_0)).trans hw474_0), ((HB.out.cell (World.block_lt_of_cell? w _ hw474_1)).trans hw474_1), ((HB.out.cell (World.block_lt_of_cell? w _ hw474_2)).trans hw474_2)⟩ (fun hHeld => ?_)
              clear hK K
              refine norm_ (a' := ?_) ?_ ?_
              rotate_left
              · show Act.put _ (some 7) _ = _
                simp only [Act.put, List.setIfInBounds_toArray, List.set_cons_zero, List.set_cons_succ, i64_w, i32_w]
                rfl
              refine one_ (i := 8) (N := some 24) #[true, true, true, true, true, true, true, true, true, true, false] rfl rfl (one_of HT_.out (by kernel_rfl)) (by decide) (fun K hK => ?_)
              refine goes_ Try.func92 (by kernel_rfl) rfl #[.int .i64 a0_0, .agg #[.int .i64 ((rd_T58 l0_1 x6_1).f0), .int .i64 ((rd_T58 l0_1 x6_1).f1.f0), .int .i64 ((rd_T58 l0_1 x6_1).f1.f1)], .int .i64 a1] (by rfl) rfl rfl (by (try simp only [List.map_toArray, List.map_cons, List.map_nil]); first | done | rfl | (simp only [List.length_drop, List.length_take]; rfl)) ?_
              with_reducible refine (quietusref14_allowed.calls k1 a0_0 ((rd_T58 l0_1 x6_1).f0) ((rd_T58 l0_1 x6_1).f1.f0) ((rd_T58 l0_1 x6_1).f1.f1) a1 t475 t476 _ A11.out).mono ?_
              rintro e w19 ⟨rfl, hb⟩
              refine ⟨_, rfl, ?_⟩
              have n0_ := Aside0.mk (zq_ (g := gb471) (o := .cells #[.int .i64 a0_0, .slice (some ad474) l0_1.length c0_1] 54 (0, 0)) (by (with_reducible repeat (first | refine zm_ ?_ _ | refine zn_ ?_ | refine zo_ ?_ _)); exact BK471.out) hb)
              have n1_ := Aside0.mk (zq_ (g := gb472) (o := .cells #[.int .i64 0, .int .i64 0] 56 (0, 0)) (by (with_reducible repeat (first | refine zm_ ?_ _ | refine zn_ ?_ | refine zo_ ?_ _)); exact BK472.out) hb)
              have n2_ := Aside0.mk (zq_ (g := gb473) (o := .cells #[.int .i64 x474000_1, .int .i64 x474001_1] 56 (0, 0)) (by (with_reducible repeat (first | refine zm_ ?_ _ | refine zn_ ?_ | refine zo_ ?_ _)); exact BK473.out) hb)
              have n3_ := Aside0.mk (zq_ (g := gb477) (o := .cells #[.int .i64 0, .int .i64 0] 56 (0, 0)) (by (with_reducible repeat (first | refine zm_ ?_ _ | refine zn_ ?_ | refine zo_ ?_ _)); exact BK477.out) hb)
              have n4_ := Aside0.mk (zv_ (by repeat (first | (with_reducible first | exact HB.out | apply zs_ | apply zt_ | apply zu_ | refine zr_ ?_ GE471.out | refine zr_ ?_ GE472.out | refine zr_ ?_ GE473.out | refine zr_ ?_ GE477.out) | exact HB.out)) hb)
              clear BK471
              clear BK472
              clear BK473
              clear BK477
              clear HB
              have BK471 := n0_
              have BK472 := n1_
              have BK473 := n2_
              have BK477 := n3_
              have HB := n4_
              clear n0_ n1_ n2_ n3_ n4_
              (try clear hb)
              (try clear hb2)
              (try clear hk)
              (try clear hi)
              refine hK.out _ _ ⟨(blk_cell BK471.out 0).trans rfl, (blk_cell BK471.out 1).trans rfl, ((HB.out.cell (World.block_lt_of_cell? w _ hw474_0)).trans hw474_0), ((HB.out.cell (World.block_lt_of_cell? w _ hw474_1)).trans hw474_1), ((HB.out.cell (World.block_lt_of_cell? w _ hw474_2)).trans hw474_2)⟩ (fun hHeld => ?_)
              clear hK K
              refine norm_ (a' := ?_) ?_ ?_
              rotate_left
              · show Act.put _ (some 24) _ = _
                simp only [Act.put, List.setIfInBounds_toArray, List.set_cons_zero, List.set_cons_succ, i64_w, i32_w]
                rfl
              exact norm_ (by simp only [putAll, Act.put, List.setIfInBounds_toArray, List.set_cons_zero, List.set_cons_succ]) (hCont (gb477) _ ⟨hHeld, (by (with_reducible repeat (first | refine zm_ ?_ _ | refine zn_ ?_ | refine zo_ ?_ _)); exact BK471.out), (by (with_reducible repeat (first | refine zm_ ?_ _ | refine zn_ ?_ | refine zo_ ?_ _)); exact BK472.out), (by (with_reducible repeat (first | refine zm_ ?_ _ | refine zn_ ?_ | refine zo_ ?_ _)); exact BK473.out), (by (with_reducible repeat (first | refine zm_ ?_ _ | refine zn_ ?_ | refine zo_ ?_ _)); exact BK477.out), GW477.out, GE477.out, NB471_477.out, NB477_471.out, NB472_477.out, NB477_472.out, NB473_477.out, NB477_473.out, (by repeat (first | (with_reducible first | exact HB.out | apply zs_ | apply zt_ | apply zu_ | refine zr_ ?_ GE471.out | refine zr_ ?_ GE472.out | refine zr_ ?_ GE473.out | refine zr_ ?_ GE477.out) | exact HB.out))⟩)
          rintro gb477 w20 ⟨hS_, h0_, h1_, h2_, h3_, h4_, h5_, h6_, h7_, h8_, h9_, h10_, h11_, h12_⟩
          have n0_ : Aside0 (w20.heap[gb471]? = some (.cells #[.int .i64 a0_0, .slice (some ad474) l0_1.length c0_1] 54 (0, 0))) := ⟨h0_⟩
          have n1_ : Aside0 (w20.heap[gb472]? = some (.cells #[.int .i64 0, .int .i64 0] 56 (0, 0))) := ⟨h1_⟩
          have n2_ : Aside0 (w20.heap[gb473]? = some (.cells #[.int .i64 x474000_1, .int .i64 x474001_1] 56 (0, 0))) := ⟨h2_⟩
          have n3_ : Aside0 (w20.heap[gb477]? = some (.cells #[.int .i64 0, .int .i64 0] 56 (0, 0))) := ⟨h3_⟩
          have n4_ : Aside0 (w.heap.size ≤ gb477) := ⟨h4_⟩
          have n5_ : Aside0 (w.heap.size ≤ gb477) := ⟨h5_⟩
          have n6_ : Aside0 (gb471 ≠ gb477) := ⟨h6_⟩
          have n7_ : Aside0 (gb477 ≠ gb471) := ⟨h7_⟩
          have n8_ : Aside0 (gb472 ≠ gb477) := ⟨h8_⟩
          have n9_ : Aside0 (gb477 ≠ gb472) := ⟨h9_⟩
          have n10_ : Aside0 (gb473 ≠ gb477) := ⟨h10_⟩
          have n11_ : Aside0 (gb477 ≠ gb473) := ⟨h11_⟩
          have n12_ : Aside0 (Below w.heap.size w w20) := ⟨h12_⟩
          clear BK471
          clear BK472
          clear BK473
          clear HB
          clear h0_ h1_ h2_ h3_ h4_ h5_ h6_ h7_ h8_ h9_ h10_ h11_ h12_
          have BK471 := n0_
          have BK472 := n1_
          have BK473 := n2_
          have BK477 := n3_
          have GW477 := n4_
          have GE477 := n5_
          have NB471_477 := n6_
          have NB477_471 := n7_
          have NB472_477 := n8_
          have NB477_472 := n9_
          have NB473_477 := n10_
          have NB477_473 := n11_
          have HB := n12_
          clear n0_ n1_ n2_ n3_ n4_ n5_ n6_ n7_ n8_ n9_ n10_ n11_ n12_
          have hHeld : w20.cell? ⟨gb471, 0, none⟩ = some (.int .i64 a0_0) ∧ w20.cell? ⟨gb471, 1, none⟩ = some (.slice (some ad474) l0_1.length c0_1) ∧ w20.cell? (ad474.add ((x6_1).toNat * 3)) = some (.int .i64 ((rd_T58 l0_1 x6_1).f0)) ∧ w20.cell? ⟨(ad474.add ((x6_1).toNat * 3)).block, (ad474.add ((x6_1).toNat * 3)).off + 1, none⟩ = some (.int .i64 ((rd_T58 l0_1 x6_1).f1.f0)) ∧ w20.cell? ⟨(ad474.add ((x6_1).toNat * 3)).block, (ad474.add ((x6_1).toNat * 3)).off + 2, none⟩ = some (.int .i64 ((rd_T58 l0_1 x6_1).f1.f1)) := hS_
          refine norm_ (a' := ?_) ?_ ?_
          rotate_left
          · simp only [putAll, Act.put, List.setIfInBounds_toArray, List.set_cons_zero, List.set_cons_succ]
            rfl
          refine one_ (i := 10) (N := none) #[true, true, true, true, true, true, true, true, true, true, true] rfl rfl (one_of HT_.out (by kernel_rfl)) (by decide) (fun K hK => ?_)
          have hs21 : w20.cell? ⟨gb477, 0, none⟩ = some (.int .i64 0) := (blk_cell BK477.out 0).trans rfl
          have hfs21 := blk_frozen BK477.out 0
          have hns21_0 := NB471_477.out
          have hns21_1 := NB472_477.out
          have hns21_2 := NB473_477.out
          have hms21_0 := NB477_471.out
          have hms21_1 := NB477_472.out
          have hms21_2 := NB477_473.out
          have hs22 : w20.cell? ⟨gb477, 1, none⟩ = some (.int .i64 0) := (blk_cell BK477.out 1).trans rfl
          have hfs22 := blk_frozen BK477.out 1
          have hns22_0 := NB471_477.out
          have hns22_1 := NB472_477.out
          have hns22_2 := NB473_477.out
          have hms22_0 := NB477_471.out
          have hms22_1 := NB477_472.out
          have hms22_2 := NB477_473.out
          refine skip_ (w1 := ?_) (by rfl) rfl ?_ ?_
          rotate_left
          · go_simp
            rfl
          refine hK.out _ _ ⟨((cell_far (p := ⟨gb477, _, none⟩) NB471_477.out _).trans (((cell_far (p := ⟨gb477, _, none⟩) NB471_477.out _).trans (hHeld.1)))), ((cell_far (p := ⟨gb477, _, none⟩) NB471_477.out _).trans (((cell_far (p := ⟨gb477, _, none⟩) NB471_477.out _).trans (hHeld.2.1)))), ((cell_far (p := ⟨gb477, _, none⟩) (by first | exact Nat.ne_of_lt (Nat.lt_of_lt_of_le (by have := World.block_lt_of_cell? _ _ hw474_0; first | rwa [add_block] at this | exact this) GW477.out) | (rw [add_block]; exact Nat.ne_of_lt (Nat.lt_of_lt_of_le (by have := World.block_lt_of_cell? _ _ hw474_0; first | rwa [add_block] at this | exact this) GW477.out)) | (show (Addr.add _ _).block ≠ _; rw [add_block]; exact Nat.ne_of_lt (Nat.lt_of_lt_of_le (by have := World.block_lt_of_cell? _ _ hw474_0; first | rwa [add_block] at this | exact this) GW477.out)) | (dsimp only; exact Nat.ne_of_lt (Nat.lt_of_lt_of_le (by have := World.block_lt_of_cell? _ _ hw474_0; first | rwa [add_block] at this | exact this) GW477.out))) _).trans (((cell_far (p := ⟨gb477, _, none⟩) (by first | exact Nat.ne_of_lt (Nat.lt_of_lt_of_le (by have := World.block_lt_of_cell? _ _ hw474_0; first | rwa [add_block] at this | exact this) GW477.out) | (rw [add_block]; exact Nat.ne_of_lt (Nat.lt_of_lt_of_le (by have := World.block_lt_of_cell? _ _ hw474_0; first | rwa [add_block] at this | exact this) GW477.out)) | (show (Addr.add _ _).block ≠ _; rw [add_block]; exact Nat.ne_of_lt (Nat.lt_of_lt_of_le (by have := World.block_lt_of_cell? _ _ hw474_0; first | rwa [add_block] at this | exact this) GW477.out)) | (dsimp only; exact Nat.ne_of_lt (Nat.lt_of_lt_of_le (by have := World.block_lt_of_cell? _ _ hw474_0; first | rwa [add_block] at this | exact this) GW477.out))) _).trans (hHeld.2.2.1)))), ((cell_far (p := ⟨gb477, _, none⟩) (by first | exact Nat.ne_of_lt (Nat.lt_of_lt_of_le (by have := World.block_lt_of_cell? _ _ hw474_1; first | rwa [add_block] at this | exact this) GW477.out) | (rw [add_block]; exact Nat.ne_of_lt (Nat.lt_of_lt_of_le (by have := World.block_lt_of_cell? _ _ hw474_1; first | rwa [add_block] at this | exact this) GW477.out)) | (show (Addr.add _ _).block ≠ _; rw [add_block]; exact Nat.ne_of_lt (Nat.lt_of_lt_of_le (by have := World.block_lt_of_cell? _ _ hw474_1; first | rwa [add_block] at this | exact this) GW477.out)) | (dsimp only; exact Nat.ne_of_lt (Nat.lt_of_lt_of_le (by have := World.block_lt_of_cell? _ _ hw474_1; first | rwa [add_block] at this | exact this) GW477.out))) _).trans (((cell_far (p := ⟨gb477, _, none⟩) (by first | exact Nat.ne_of_lt (Nat.lt_of_lt_of_le (by have := World.block_lt_of_cell? _ _ hw474_1; first | rwa [add_block] at this | exact this) GW477.out) | (rw [add_block]; exact Nat.ne_of_lt (Nat.lt_of_lt_of_le (by have := World.block_lt_of_cell? _ _ hw474_1; first | rwa [add_block] at this | exact this) GW477.out)) | (show (Addr.add _ _).block ≠ _; rw [add_block]; exact Nat.ne_of_lt (Nat.lt_of_lt_of_le (by have := World.block_lt_of_cell? _ _ hw474_1; first | rwa [add_block] at this | exact this) GW477.out)) | (dsimp only; exact Nat.ne_of_lt (Nat.lt_of_lt_of_le (by have := World.block_lt_of_cell? _ _ hw474_1; first | rwa [add_block] at this | exact this) GW477.out))) _).trans (hHeld.2.2.2.1)))), ((cell_far (p := ⟨gb477, _, none⟩) (by first | exact Nat.ne_of_lt (Nat.lt_of_lt_of_le (by have := World.block_lt_of_cell? _ _ hw474_2; first | rwa [add_block] at this | exact this) GW477.out) | (rw [add_block]; exact Nat.ne_of_lt (Nat.lt_of_lt_of_le (by have := World.block_lt_of_cell? _ _ hw474_2; first | rwa [add_block] at this | exact this) GW477.out)) | (show (Addr.add _ _).block ≠ _; rw [add_block]; exact Nat.ne_of_lt (Nat.lt_of_lt_of_le (by have := World.block_lt_of_cell? _ _ hw474_2; first | rwa [add_block] at this | exact this) GW477.out)) | (dsimp only; exact Nat.ne_of_lt (Nat.lt_of_lt_of_le (by have := World.block_lt_of_cell? _ _ hw474_2; first | rwa [add_block] at this | exact this) GW477.out))) _).trans (((cell_far (p := ⟨gb477, _, none⟩) (by first | exact Nat.ne_of_lt (Nat.lt_of_lt_of_le (by have := World.block_lt_of_cell? _ _ hw474_2; first | rwa [add_block] at this | exact this) GW477.out) | (rw [add_block]; exact Nat.ne_of_lt (Nat.lt_of_lt_of_le (by have := World.block_lt_of_cell? _ _ hw474_2; first | rwa [add_block] at this | exact this) GW477.out)) | (show (Addr.add _ _).block ≠ _; rw [add_block]; exact Nat.ne_of_lt (Nat.lt_of_lt_of_le (by have := World.block_lt_of_cell? _ _ hw474_2; first | rwa [add_block] at this | exact this) GW477.out)) | (dsimp only; exact Nat.ne_of_lt (Nat.lt_of_lt_of_le (by have := World.block_lt_of_cell? _ _ hw474_2; first | rwa [add_block] at this | exact this) GW477.out))) _).trans (hHeld.2.2.2.2))))⟩ (fun hHeld => ?_)
          clear hK K
          refine done_ (done_of HT_.out (by kernel_rfl)) ?_
          have hnb23 := NB473_472.out
          have hnc23 := NB472_473.out
          have hnb24 := NB473_477.out
          have hnc24 := NB477_473.out
          have hcz25_0 : w20.cell? ⟨gb473, 0, none⟩ = some (.int .i64 x474000_1) := (blk_cell BK473.out 0).trans rfl
          have hcz25_1 : w20.cell? ⟨gb473, 1, none⟩ = some (.int .i64 x474001_1) := (blk_cell BK473.out 1).trans rfl
          have hfz25_0 := blk_frozen BK473.out 0
          have hfz25_1 := blk_frozen BK473.out 1
          have hnb26 := NB477_471.out
          have hnc26 := NB471_477.out
          have hnb27 := NB477_472.out
          have hnc27 := NB472_477.out
          have hcz28_0 : w20.cell? ⟨gb477, 0, none⟩ = some (.int .i64 0) := (blk_cell BK477.out 0).trans rfl
          have hcz28_1 : w20.cell? ⟨gb477, 1, none⟩ = some (.int .i64 0) := (blk_cell BK477.out 1).trans rfl
          have hfz28_0 := blk_frozen BK477.out 0
          have hfz28_1 := blk_frozen BK477.out 1
          try go_wp2
          go_roundg k1
          case measure => have := HK1.out; omega
          case rel => exact ⟨(wrap64 (x6_1 + 1)), (ji12), (ji13), (by first | rfl | (simp; done) | (simp [*]; done)), (by first | exact H' | (simp only [hji12, hji13]; exact H') | (rw [hji12]; exact H') | (rw [hji13]; exact H')), ⟨by have := HK1.out; omega⟩, ⟨by (with_reducible repeat (first | refine zm_ ?_ _ | refine zn_ ?_ | refine zo_ ?_ _)); refine zp_ ?_ NB471_473.out _; (with_reducible repeat (first | refine zm_ ?_ _ | refine zn_ ?_ | refine zo_ ?_ _)); refine zp_ ?_ NB471_473.out _; (with_reducible repeat (first | refine zm_ ?_ _ | refine zn_ ?_ | refine zo_ ?_ _)); refine zp_ ?_ NB471_477.out _; (with_reducible repeat (first | refine zm_ ?_ _ | refine zn_ ?_ | refine zo_ ?_ _)); refine zp_ ?_ NB471_477.out _; (with_reducible repeat (first | refine zm_ ?_ _ | refine zn_ ?_ | refine zo_ ?_ _)); exact BK471.out⟩, ⟨by (with_reducible repeat (first | refine zm_ ?_ _ | refine zn_ ?_ | refine zo_ ?_ _)); refine zp_ ?_ NB472_473.out _; (with_reducible repeat (first | refine zm_ ?_ _ | refine zn_ ?_ | refine zo_ ?_ _)); refine zp_ ?_ NB472_473.out _; (with_reducible repeat (first | refine zm_ ?_ _ | refine zn_ ?_ | refine zo_ ?_ _)); refine zp_ ?_ NB472_477.out _; (with_reducible repeat (first | refine zm_ ?_ _ | refine zn_ ?_ | refine zo_ ?_ _)); refine zp_ ?_ NB472_477.out _; (with_reducible repeat (first | refine zm_ ?_ _ | refine zn_ ?_ | refine zo_ ?_ _)); exact BK472.out⟩, ⟨by (with_reducible repeat (first | refine zm_ ?_ _ | refine zn_ ?_ | refine zo_ ?_ _)); refine blk_put (cs := #[.int .i64 ji12, .int .i64 x474001_1]) ?_ 1 _ rfl; (with_reducible repeat (first | refine zm_ ?_ _ | refine zn_ ?_ | refine zo_ ?_ _)); refine blk_put (cs := #[.int .i64 x474000_1, .int .i64 x474001_1]) ?_ 0 _ rfl; (with_reducible repeat (first | refine zm_ ?_ _ | refine zn_ ?_ | refine zo_ ?_ _)); refine zp_ ?_ NB473_477.out _; (with_reducible repeat (first | refine zm_ ?_ _ | refine zn_ ?_ | refine zo_ ?_ _)); refine zp_ ?_ NB473_477.out _; (with_reducible repeat (first | refine zm_ ?_ _ | refine zn_ ?_ | refine zo_ ?_ _)); exact BK473.out⟩, ⟨by repeat (first | (with_reducible first | exact HB.out | apply zs_ | apply zt_ | apply zu_ | refine zr_ ?_ GE471.out | refine zr_ ?_ GE472.out | refine zr_ ?_ GE473.out | refine zr_ ?_ GE477.out) | exact HB.out)⟩⟩
        · rw [if_neg c10] at H
          exact absurd H (by simp)
      · rw [if_neg c9] at H
        have c9b0 : decide (x6_1 < (l0_1.length : Int)) = false := decide_eq_false c9
        clear c9
        simp only [Option.some.injEq, Prod.mk.injEq] at H
        obtain ⟨rfl, rfl⟩ := H
        have hnb29 := NB471_472.out
        have hnc29 := NB472_471.out
        have hnb30 := NB471_473.out
        have hnc30 := NB473_471.out
        have hcz31_0 : wr.cell? ⟨gb471, 0, none⟩ = some (.int .i64 a0_0) := (blk_cell BK471.out 0).trans rfl
        have hcz31_1 : wr.cell? ⟨gb471, 1, none⟩ = some (.slice A0_1 l0_1.length c0_1) := (blk_cell BK471.out 1).trans rfl
        have hfz31_0 := blk_frozen BK471.out 0
        have hfz31_1 := blk_frozen BK471.out 1
        have hnb32 := NB473_472.out
        have hnc32 := NB472_473.out
        have hcz33_0 : wr.cell? ⟨gb473, 0, none⟩ = some (.int .i64 x474000_1) := (blk_cell BK473.out 0).trans rfl
        have hcz33_1 : wr.cell? ⟨gb473, 1, none⟩ = some (.int .i64 x474001_1) := (blk_cell BK473.out 1).trans rfl
        have hfz33_0 := blk_frozen BK473.out 0
        have hfz33_1 := blk_frozen BK473.out 1
        have hcz34_0 : wr.cell? ⟨gb472, 0, none⟩ = some (.int .i64 0) := (blk_cell BK472.out 0).trans rfl
        have hcz34_1 : wr.cell? ⟨gb472, 1, none⟩ = some (.int .i64 0) := (blk_cell BK472.out 1).trans rfl
        have hfz34_0 := blk_frozen BK472.out 0
        have hfz34_1 := blk_frozen BK472.out 1
        go_wp2
        refine bodyPost_ret (results_cell_row rfl _ _ gb472 56 #[.int .i64 x474000_1, .int .i64 x474001_1] (0, 0) _ rfl (by (with_reducible repeat (first | refine zm_ ?_ _ | refine zn_ ?_ | refine zo_ ?_ _)); refine blk_put (cs := #[.int .i64 x474000_1, .int .i64 0]) ?_ 1 _ rfl; (with_reducible repeat (first | refine zm_ ?_ _ | refine zn_ ?_ | refine zo_ ?_ _)); refine blk_put (cs := #[.int .i64 0, .int .i64 0]) ?_ 0 _ rfl; (with_reducible repeat (first | refine zm_ ?_ _ | refine zn_ ?_ | refine zo_ ?_ _)); exact BK472.out) Try.underlying56 rfl (by kernel_rfl)) rfl ?_
        exact ⟨by first | rfl | (simp [errW_none, errW_some] <;> rfl) | (simp [*, errW_none, errW_some] <;> rfl), by repeat (first | (with_reducible first | exact HB.out | apply zs_ | apply zt_ | apply zu_ | refine zr_ ?_ GE471.out | refine zr_ ?_ GE472.out | refine zr_ ?_ GE473.out) | exact HB.out)⟩
open Go.Proofs.YteknbadjfojmbaaW.PrintWords renaming blk_drewN → zm_, blk_drew → zn_, blk_alloc → zo_, blk_far → zp_, blk_below → zq_, below_set → zr_, below_alloc → zs_, pw_below_drewN → zt_, below_drew1 → zu_, below_step → zv_, below_size → zw_
open Go.Proofs.YteknbadjfojmbaaW.PrintWords renaming blk_drewN → zm_, blk_drew → zn_, blk_alloc → zo_, blk_far → zp_, blk_below → zq_, below_set → zr_, below_alloc → zs_, pw_below_drewN → zt_, below_drew1 → zu_, below_step → zv_, below_size → zw_
end Go.Proofs.Yteknbadjfojmbaa.QA
