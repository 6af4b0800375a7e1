-- What this claim does not use was left out by prune.py, a program of this session.
import Derived.Test.YteknbadjfojmbaaQA0
import Derived.Test.YteknbadjfojmbaaQA19
namespace Go.Proofs.Yteknbadjfojmbaa.QA
open Go.RowKit Go.Proofs.YteknbadjfojmbaaW.PrintWords Go.Proofs.YteknbadjfojmbaaW.PrintLast Go.Proofs.YteknbadjfojmbaaW.PrintMore
attribute [local go_sem] max2_int min2_int max_two min_two max_three min_three max_four min_four
set_option linter.unusedVariables false
set_option linter.unusedSimpArgs false
open Go.Proofs.YteknbadjfojmbaaW.PrintWords.Kd renaming R_alloc → za_, R_drewN → zb_, R_drew → zc_, R_lower → zg_, R_reads' → zl_
open Go.Proofs.YteknbadjfojmbaaW.PrintWords renaming blk_drewN → zm_, blk_drew → zn_, blk_alloc → zo_, blk_far → zp_, blk_below → zq_, below_set → zr_, below_alloc → zs_, pw_below_drewN → zt_, below_drew1 → zu_, below_step → zv_, below_size → zw_
mutual
def clock_Check.j0 : Nat → Bool → Int → List (S58) → Option (Int)
  | 0, _, _, _ => none
  | k + 1, x6, x415000, x415001 => if x6 = true then (some 3) else (if (x415001.length : Int) > 16 then (some 2) else (clock_Check.l0 k (-1) x415001 (x415001.length : Int) 0))
def clock_Check.l0 : Nat → Int → List (S58) → Int → Int → Option (Int)
  | 0, _, _, _, _ => none
  | k + 1, x3, x21, x22, x23 => if x23 < x22 then (if 0 ≤ x23 then (if x23 < (x21.length : Int) then ((clock_instants.f (([(rd_T58 x21 x23).f0] : List Int))).bind fun t420 => (if t420 = true then ((clock_valid.f ((rd_T58 x21 x23).f1.f0) ((rd_T58 x21 x23).f1.f1)).bind fun t421 => (clock_Check.j2 k x3 x21 x22 x23 (!t421) ((rd_T58 x21 x23).f0) ((rd_T58 x21 x23).f1.f0) ((rd_T58 x21 x23).f1.f1))) else (clock_Check.j2 k x3 x21 x22 x23 true ((rd_T58 x21 x23).f0) ((rd_T58 x21 x23).f1.f0) ((rd_T58 x21 x23).f1.f1)))) else (none)) else (none)) else (some 0)
def clock_Check.j2 : Nat → Int → List (S58) → Int → Int → Bool → Int → Int → Int → Option (Int)
  | 0, _, _, _, _, _, _, _, _ => none
  | k + 1, x3, x21, x22, x23, x27, x417000, x417001, x417002 => if x27 = true then (some 3) else (if x417000 ≤ x3 then (some 1) else (clock_Check.l0 k x417000 x21 x22 (wrap64 (x23 + 1))))
end
def clock_Check.f (k : Nat) (a0_0 : Int) (l0_1 : List (S58)) : Option (Int) := if a0_0 < 0 then (clock_Check.j0 k true a0_0 l0_1) else (clock_Check.j0 k (decide (a0_0 > 100000)) a0_0 l0_1)
set_option maxHeartbeats 8000000 in
set_option maxRecDepth 100000 in
theorem clock_Check.calls (k : Nat) (a0_0 : Int) (A0_1 : Option Addr) (c0_1 : Nat) (l0_1 : List (S58)) (r : Int) (w : World) (hr0_1 : Kd.C k58 w A0_1 l0_1.length l0_1) (hc0_1 : l0_1.length ≤ c0_1) (h : clock_Check.f k a0_0 l0_1 = some r) :
    Calls Try.prog 43 #[.agg #[.int .i64 a0_0, .slice A0_1 l0_1.length c0_1]] w fun e w' => e = .returned (.int .i64 r) ∧ Below w.heap.size w w' := by
  have hu54 := Try.underlying54
  have hu58 := Try.underlying58
  have hu56 := Try.underlying56
  have HR0_1 := Aside0.mk hr0_1
  have HC0_1 := Aside0.mk hc0_1
  clear hr0_1 hc0_1
  have HB := Aside0.mk (Below.refl w.heap.size w)
  have H : (if a0_0 < 0 then (clock_Check.j0 k true a0_0 l0_1) else (clock_Check.j0 k (decide (a0_0 > 100000)) a0_0 l0_1)) = some r := h
  clear h
  have HC2 := Aside0.mk H
  clear H
  go_enter Try.func43, Try.ntmps43
  go_upto_region 1 with (first | ((with_reducible refine gate_dst (N := 1) rfl ?_); refine box_event ?hg (N := 1) ?hd (cs := #[.int .i64 a0_0, .slice A0_1 l0_1.length c0_1]) (t := 54) ?hr ?_; (case hd => rfl); (case hg => rfl); (case hr => first | (go_simp; done) | (go_simp; rfl)); intro gb414 hg w3 hbox hb; have n0_ := Aside0.mk (zv_ (by repeat (first | (with_reducible first | exact HB.out | apply zs_ | apply zt_ | apply zu_) | exact HB.out)) hb); have n1_ := Aside0.mk (hbox); have n2_ := Aside0.mk ((by rw [hg]; exact (zw_ (by repeat (first | (with_reducible first | exact HB.out | apply zs_ | apply zt_ | apply zu_) | exact HB.out))) : w.heap.size ≤ gb414)); have n3_ := Aside0.mk ((by rw [hg]; exact (zw_ (by repeat (first | (with_reducible first | exact HB.out | apply zs_ | apply zt_ | apply zu_) | exact HB.out))) : w.heap.size ≤ gb414)); clear HB; have HB := n0_; have BK414 := n1_; have GW414 := n2_; have GE414 := n3_; clear n0_ n1_ n2_ n3_; clear hb hbox hg))
  (try simp only [Act.put, List.setIfInBounds_toArray, List.set_cons_zero, List.set_cons_succ])
  go_cut [6] (fun v6 wc => ∃ (kq : Nat) (x6_1 : Bool), v6 = .bool x6_1 ∧ Aside0 (clock_Check.j0 kq x6_1 a0_0 l0_1 = some r) ∧ Aside0 (kq ≤ k) ∧ Aside0 (wc.heap[gb414]? = some (.cells #[.int .i64 a0_0, (.slice A0_1 l0_1.length c0_1)] 54 (0, 0))) ∧ Aside0 (Below w.heap.size w wc))
  case first =>
    have H := HC2.out
    clear HC2
    by_cases c4 : a0_0 < 0
    · rw [if_pos c4] at H
      have c4b0 : decide (a0_0 < 0) = true := decide_eq_true c4
      clear c4
      (first | rw [c4b0] | (simp only [i64_w, i32_w]; rw [c4b0]) | rw [c4b1] | skip)
      have H' := Aside0.mk H
      clear H
      have hcz5_0 : w3.cell? ⟨gb414, 0, none⟩ = some (.int .i64 a0_0) := (blk_cell BK414.out 0).trans rfl
      have hcz5_1 : w3.cell? ⟨gb414, 1, none⟩ = some (.slice A0_1 l0_1.length c0_1) := (blk_cell BK414.out 1).trans rfl
      have hfz5_0 := blk_frozen BK414.out 0
      have hfz5_1 := blk_frozen BK414.out 1
      go_wp2
      go_meet
      case rel => exact ⟨_, (true), (by first | rfl | (simp; done) | (simp [*]; done)), H', ⟨by first | omega | exact Nat.le_refl _⟩, ⟨by (with_reducible repeat (first | refine zm_ ?_ _ | refine zn_ ?_ | refine zo_ ?_ _)); exact BK414.out⟩, ⟨by repeat (first | (with_reducible first | exact HB.out | apply zs_ | apply zt_ | apply zu_ | refine zr_ ?_ GE414.out) | exact HB.out)⟩⟩
    · rw [if_neg c4] at H
      have c4b0 : decide (a0_0 < 0) = false := decide_eq_false c4
      clear c4
      (first | rw [c4b0] | (simp only [i64_w, i32_w]; rw [c4b0]) | rw [c4b1] | skip)
      have H' := Aside0.mk H
      clear H
      have hcz6_0 : w3.cell? ⟨gb414, 0, none⟩ = some (.int .i64 a0_0) := (blk_cell BK414.out 0).trans rfl
      have hcz6_1 : w3.cell? ⟨gb414, 1, none⟩ = some (.slice A0_1 l0_1.length c0_1) := (blk_cell BK414.out 1).trans rfl
      have hfz6_0 := blk_frozen BK414.out 0
      have hfz6_1 := blk_frozen BK414.out 1
      go_wp2
      go_meet
      case rel => exact ⟨_, (decide (a0_0 > 100000)), (by first | rfl | (simp; done) | (simp [*]; done)), H', ⟨by first | omega | exact Nat.le_refl _⟩, ⟨by (with_reducible repeat (first | refine zm_ ?_ _ | refine zn_ ?_ | refine zo_ ?_ _)); exact BK414.out⟩, ⟨by repeat (first | (with_reducible first | exact HB.out | apply zs_ | apply zt_ | apply zu_ | refine zr_ ?_ GE414.out) | exact HB.out)⟩⟩
  case rest =>
    clear HC2
    try clear p2
    try clear c4
    try clear c4b0
    try clear hcz5_0
    try clear hcz5_1
    try clear hcz6_0
    try clear hcz6_1
    try clear hfz5_0
    try clear hfz5_1
    try clear hfz6_0
    try clear hfz6_1
    obtain ⟨kq, x6_1, rfl, HA, HJ1, BK414, HB⟩ := hcut
    cases kq with
    | zero => exact absurd HA.out (by simp [clock_Check.j0])
    | succ kj1 =>
      have H := HA.out
      clear HA
      simp only [clock_Check.j0] at H
      by_cases c7 : x6_1 = true
      · subst c7
        have H1 : (some 3) = some r := by rw [if_pos rfl] at H; exact H
        clear H
        have H := H1
        clear H1
        obtain rfl := Option.some.inj H
        go_wp2
        go_ret
        exact ⟨by first | rfl | (simp [errW_none, errW_some] <;> rfl) | (simp [*, errW_none, errW_some] <;> rfl), by repeat (first | (with_reducible first | exact HB.out | apply zs_ | apply zt_ | apply zu_ | refine zr_ ?_ GE414.out) | exact HB.out)⟩
      · replace c7 := Bool.eq_false_iff.mpr c7
        subst c7
        have H1 : (if (l0_1.length : Int) > 16 then (some 2) else (clock_Check.l0 kj1 (-1) l0_1 (l0_1.length : Int) 0)) = some r := by rw [if_neg (show ¬ (false = true) by decide)] at H; exact H
        clear H
        have H := H1
        clear H1
        by_cases c8 : (l0_1.length : Int) > 16
        · rw [if_pos c8] at H
          have c8b0 : decide (16 < (l0_1.length : Int)) = true := decide_eq_true c8
          have c8b1 : decide (16 < l0_1.length) = true := decide_eq_true (by omega)
          clear c8
          obtain rfl := Option.some.inj H
          have hcz9_0 : wc.cell? ⟨gb414, 0, none⟩ = some (.int .i64 a0_0) := (blk_cell BK414.out 0).trans rfl
          have hcz9_1 : wc.cell? ⟨gb414, 1, none⟩ = some (.slice A0_1 l0_1.length c0_1) := (blk_cell BK414.out 1).trans rfl
          have hfz9_0 := blk_frozen BK414.out 0
          have hfz9_1 := blk_frozen BK414.out 1
          go_wp2
          go_ret
          exact ⟨by first | rfl | (simp [errW_none, errW_some] <;> rfl) | (simp [*, errW_none, errW_some] <;> rfl), by repeat (first | (with_reducible first | exact HB.out | apply zs_ | apply zt_ | apply zu_ | refine zr_ ?_ GE414.out) | exact HB.out)⟩
        · rw [if_neg c8] at H
          have c8b0 : decide (16 < (l0_1.length : Int)) = false := decide_eq_false c8
          have c8b1 : decide (16 < l0_1.length) = false := decide_eq_false (by omega)
          clear c8
          have H' := Aside0.mk H
          clear H
          have hcz10_0 : wc.cell? ⟨gb414, 0, none⟩ = some (.int .i64 a0_0) := (blk_cell BK414.out 0).trans rfl
          have hcz10_1 : wc.cell? ⟨gb414, 1, none⟩ = some (.slice A0_1 l0_1.length c0_1) := (blk_cell BK414.out 1).trans rfl
          have hfz10_0 := blk_frozen BK414.out 0
          have hfz10_1 := blk_frozen BK414.out 1
          go_wp2
          go_loopg [3, 23] kj1 (fun kq v3 v23 w' => ∃ (x3_2 : Int) (x23_2 : Int), v3 = .int .i64 x3_2 ∧ v23 = .int .i64 x23_2 ∧ Aside0 (clock_Check.l0 kq x3_2 l0_1 (l0_1.length : Int) x23_2 = some r) ∧ Aside0 (kq ≤ kj1) ∧ Aside0 (w'.heap[gb414]? = some (.cells #[.int .i64 a0_0, (.slice A0_1 l0_1.length c0_1)] 54 (0, 0))) ∧ Aside0 (Below w.heap.size w w'))
          case atStart => exact ⟨((-1)), (0), (by first | rfl | (simp; done) | (simp [*]; done)), (by first | rfl | (simp; done) | (simp [*]; done)), H', ⟨Nat.le_refl _⟩, ⟨by (with_reducible repeat (first | refine zm_ ?_ _ | refine zn_ ?_ | refine zo_ ?_ _)); exact BK414.out⟩, ⟨by repeat (first | (with_reducible first | exact HB.out | apply zs_ | apply zt_ | apply zu_ | refine zr_ ?_ GE414.out) | exact HB.out)⟩⟩
          case round =>
            clear H'
            try clear p2
            try clear c4
            try clear c4b0
            try clear c7
            try clear c8
            try clear c8b0
            try clear c8b1
            try clear hcz10_0
            try clear hcz10_1
            try clear hcz5_0
            try clear hcz5_1
            try clear hcz6_0
            try clear hcz6_1
            try clear hcz9_0
            try clear hcz9_1
            try clear hfz10_0
            try clear hfz10_1
            try clear hfz5_0
            try clear hfz5_1
            try clear hfz6_0
            try clear hfz6_1
            try clear hfz9_0
            try clear hfz9_1
            try clear p2
            obtain ⟨x3_2, x23_2, rfl, rfl, HA, HK2, BK414, HB⟩ := hrel
            cases gk with
            | zero => exact absurd HA.out (by simp [clock_Check.l0])
            | succ k2 =>
              have H := HA.out
              clear HA
              simp only [clock_Check.l0] at H
              by_cases c11 : x23_2 < (l0_1.length : Int)
              · rw [if_pos c11] at H
                have c11b0 : decide (x23_2 < (l0_1.length : Int)) = true := decide_eq_true c11
                clear c11
                by_cases c12 : 0 ≤ x23_2
                · rw [if_pos c12] at H
                  have c12b0 : decide (0 ≤ x23_2) = true := decide_eq_true c12
                  clear c12
                  by_cases c13 : x23_2 < (l0_1.length : Int)
                  · rw [if_pos c13] at H
                    have c13b0 : decide (x23_2 < (l0_1.length : Int)) = true := decide_eq_true c13
                    clear c13
                    have HC14 := Aside0.mk H
                    clear H
                    have p415 : 0 ≤ (x23_2 : Int) := of_decide_eq_true (by first | (with_reducible assumption) | assumption)
                    have q415 : x23_2 < (l0_1.length : Int) := of_decide_eq_true (by first | (with_reducible assumption) | assumption)
                    obtain ⟨ad415, e415, hx415_0, hx415_1, hx415_2⟩ := at_T58 HR0_1.out x23_2 p415 q415
                    cases e415
                    replace hx415_0 := (HB.out.cell (World.block_lt_of_cell? w _ hx415_0)).trans hx415_0
                    replace hx415_1 := (HB.out.cell (World.block_lt_of_cell? w _ hx415_1)).trans hx415_1
                    replace hx415_2 := (HB.out.cell (World.block_lt_of_cell? w _ hx415_2)).trans hx415_2
                    replace p415 := eq_true p415
                    replace q415 := eq_true q415
                    go_upto_region 9 with (first | ((with_reducible refine gate_dst (N := 5) rfl ?_); refine box_event ?hg (N := 5) ?hd (cs := #[.int .i64 0, .int .i64 0, .int .i64 0]) (t := 58) ?hr ?_; (case hd => rfl); (case hg => rfl); (case hr => first | (go_simp; done) | (go_simp; rfl)); intro gb416 hg w15 hbox hb; have n0_ := Aside0.mk (zq_ (g := gb414) (o := .cells #[.int .i64 a0_0, .slice (some ad415) l0_1.length c0_1] 54 (0, 0)) (by (with_reducible repeat (first | refine zm_ ?_ _ | refine zn_ ?_ | refine zo_ ?_ _)); exact BK414.out) hb); have n1_ := Aside0.mk (zv_ (by repeat (first | (with_reducible first | exact HB.out | apply zs_ | apply zt_ | apply zu_ | refine zr_ ?_ GE414.out) | exact HB.out)) hb); have n2_ := Aside0.mk (hbox); have n3_ := Aside0.mk ((by rw [hg]; exact (zw_ (by repeat (first | (with_reducible first | exact HB.out | apply zs_ | apply zt_ | apply zu_ | refine zr_ ?_ GE414.out) | exact HB.out))) : w.heap.size ≤ gb416)); have n4_ := Aside0.mk ((by rw [hg]; exact (zw_ (by repeat (first | (with_reducible first | exact HB.out | apply zs_ | apply zt_ | apply zu_ | refine zr_ ?_ GE414.out) | exact HB.out))) : w.heap.size ≤ gb416)); have n5_ := Aside0.mk ((by rw [hg]; exact Nat.ne_of_lt (blk_lt (g := gb414) (o := .cells #[.int .i64 a0_0, .slice (some ad415) l0_1.length c0_1] 54 (0, 0)) (by (with_reducible repeat (first | refine zm_ ?_ _ | refine zn_ ?_ | refine zo_ ?_ _)); exact BK414.out)) : gb414 ≠ gb416)); have n6_ := Aside0.mk ((by rw [hg]; exact Nat.ne_of_gt (blk_lt (g := gb414) (o := .cells #[.int .i64 a0_0, .slice (some ad415) l0_1.length c0_1] 54 (0, 0)) (by (with_reducible repeat (first | refine zm_ ?_ _ | refine zn_ ?_ | refine zo_ ?_ _)); exact BK414.out)) : gb416 ≠ gb414)); clear BK414; clear HB; have BK414 := n0_; have HB := n1_; have BK416 := n2_; have GW416 := n3_; have GE416 := n4_; have NB414_416 := n5_; have NB416_414 := n6_; clear n0_ n1_ n2_ n3_ n4_ n5_ n6_; clear hb hbox hg; have hnb16 := NB416_414.out; have hnc16 := NB414_416.out; have hcz17_0 : w15.cell? ⟨gb416, 0, none⟩ = some (.int .i64 0) := (blk_cell BK416.out 0).trans rfl; have hcz17_1 : w15.cell? ⟨gb416, 1, none⟩ = some (.int .i64 0) := (blk_cell BK416.out 1).trans rfl; have hcz17_2 : w15.cell? ⟨gb416, 2, none⟩ = some (.int .i64 0) := (blk_cell BK416.out 2).trans rfl; have hfz17_0 := blk_frozen BK416.out 0; have hfz17_1 := blk_frozen BK416.out 1; have hfz17_2 := blk_frozen BK416.out 2))
                    (try simp only [Act.put, List.setIfInBounds_toArray, List.set_cons_zero, List.set_cons_succ])
                    go_cut [27] (fun v27 wc => ∃ (kq : Nat) (x27_13 : Bool), v27 = .bool x27_13 ∧ Aside0 (clock_Check.j2 kq x3_2 l0_1 (l0_1.length : Int) x23_2 x27_13 ((rd_T58 l0_1 x23_2).f0) ((rd_T58 l0_1 x23_2).f1.f0) ((rd_T58 l0_1 x23_2).f1.f1) = some r) ∧ Aside0 (kq ≤ k2) ∧ Aside0 (wc.heap[gb414]? = some (.cells #[.int .i64 a0_0, (.slice (some ad415) l0_1.length c0_1)] 54 (0, 0))) ∧ Aside0 (wc.heap[gb416]? = some (.cells #[.int .i64 ((rd_T58 l0_1 x23_2).f0), .int .i64 ((rd_T58 l0_1 x23_2).f1.f0), .int .i64 ((rd_T58 l0_1 x23_2).f1.f1)] 58 (0, 0))) ∧ Aside0 (Below w.heap.size w wc))
                    case first =>
                      have H := HC14.out
                      clear HC14
                      obtain ⟨y417, hy417⟩ : ∃ y_ : List Int, y_ = (([(rd_T58 l0_1 x23_2).f0] : List Int)) := ⟨_, rfl⟩
                      replace H : ((clock_instants.f y417).bind fun t420 => (if t420 = true then ((clock_valid.f ((rd_T58 l0_1 x23_2).f1.f0) ((rd_T58 l0_1 x23_2).f1.f1)).bind fun t421 => (clock_Check.j2 k2 x3_2 l0_1 (l0_1.length : Int) x23_2 (!t421) ((rd_T58 l0_1 x23_2).f0) ((rd_T58 l0_1 x23_2).f1.f0) ((rd_T58 l0_1 x23_2).f1.f1))) else (clock_Check.j2 k2 x3_2 l0_1 (l0_1.length : Int) x23_2 true ((rd_T58 l0_1 x23_2).f0) ((rd_T58 l0_1 x23_2).f1.f0) ((rd_T58 l0_1 x23_2).f1.f1)))) = some r := by first | (rw [hy417]; with_reducible exact H) | (have H2_ := (Option.bind_some _ _).symm.trans H; rw [hy417]; with_reducible exact H2_) | (have H2_ := (Option.bind_some _ _).symm.trans H; with_reducible exact H2_) | with_reducible exact H | (rw [hy417]; exact H) | exact H
                      have Ny417 := Aside0.mk hy417
                      clear hy417
                      replace H := Option.bind_eq_some_iff.mp H
                      obtain ⟨t420, A180, H⟩ := H
                      replace H : (if t420 = true then ((clock_valid.f ((rd_T58 l0_1 x23_2).f1.f0) ((rd_T58 l0_1 x23_2).f1.f1)).bind fun t421 => (clock_Check.j2 k2 x3_2 l0_1 (l0_1.length : Int) x23_2 (!t421) ((rd_T58 l0_1 x23_2).f0) ((rd_T58 l0_1 x23_2).f1.f0) ((rd_T58 l0_1 x23_2).f1.f1))) else (clock_Check.j2 k2 x3_2 l0_1 (l0_1.length : Int) x23_2 true ((rd_T58 l0_1 x23_2).f0) ((rd_T58 l0_1 x23_2).f1.f0) ((rd_T58 l0_1 x23_2).f1.f1))) = some r := H
                      have A18 := Aside0.mk A180
                      clear A180
                      by_cases c19 : t420 = true
                      · subst c19
                        have H1 : ((clock_valid.f ((rd_T58 l0_1 x23_2).f1.f0) ((rd_T58 l0_1 x23_2).f1.f1)).bind fun t421 => (clock_Check.j2 k2 x3_2 l0_1 (l0_1.length : Int) x23_2 (!t421) ((rd_T58 l0_1 x23_2).f0) ((rd_T58 l0_1 x23_2).f1.f0) ((rd_T58 l0_1 x23_2).f1.f1))) = some r := by rw [if_pos rfl] at H; exact H
                        clear H
                        have H := H1
                        clear H1
                        replace H := Option.bind_eq_some_iff.mp H
                        obtain ⟨t421, A200, H⟩ := H
                        replace H : (clock_Check.j2 k2 x3_2 l0_1 (l0_1.length : Int) x23_2 (!t421) ((rd_T58 l0_1 x23_2).f0) ((rd_T58 l0_1 x23_2).f1.f0) ((rd_T58 l0_1 x23_2).f1.f1)) = some r := H
                        have A20 := Aside0.mk A200
                        clear A200
                        have H' := Aside0.mk H
                        clear H
                        have hnb21 := NB416_414.out
                        have hnc21 := NB414_416.out
                        have hcz22_0 : w15.cell? ⟨gb416, 0, none⟩ = some (.int .i64 0) := (blk_cell BK416.out 0).trans rfl
                        have hcz22_1 : w15.cell? ⟨gb416, 1, none⟩ = some (.int .i64 0) := (blk_cell BK416.out 1).trans rfl
                        have hcz22_2 : w15.cell? ⟨gb416, 2, none⟩ = some (.int .i64 0) := (blk_cell BK416.out 2).trans rfl
                        have hfz22_0 := blk_frozen BK416.out 0
                        have hfz22_1 := blk_frozen BK416.out 1
                        have hfz22_2 := blk_frozen BK416.out 2
                        go_wp2_with (first | ((with_reducible refine gate_dst (N := 30) rfl ?_); refine Kd.R_lit (Kd.int .i64) _ 3 ?hg (N := 30) ?hd (xs := ([(rd_T58 l0_1 x23_2).f0] : List Int)) (inner := [.int .i64 ((rd_T58 l0_1 x23_2).f0)]) (ok := fun _ => True) (okp := fun _ => True) ?hr ?hp (fun _ hk => hk) trivial (Below.refl _ _) (Nat.le_refl _) (by simp) ?_; (case hd => rfl); (case hg => rfl); (case hr => first | (go_simp; done) | (go_simp; rfl)); (case hp => exact (Reps.one (show Kd.M (Kd.int .i64) _ _ _ ((rd_T58 l0_1 x23_2).f0) [.int .i64 ((rd_T58 l0_1 x23_2).f0)] from rfl) (Reps.none _ _))); intro v418 w23 ho24 hb hg_ hnew_; clear hg_ hnew_; (first | rw [← Ny417.out] at ho24 | (simp only [Int.reduceToNat] at ho24; rw [← Ny417.out] at ho24)); have n0_ := Aside0.mk (zg_ ho24 (zw_ (by repeat (first | (with_reducible first | exact HB.out | apply zs_ | apply zt_ | apply zu_ | refine zr_ ?_ GE414.out | refine zr_ ?_ GE416.out) | exact HB.out)))); have n1_ := Aside0.mk (zq_ (g := gb414) (o := .cells #[.int .i64 a0_0, .slice (some ad415) l0_1.length c0_1] 54 (0, 0)) (by (with_reducible repeat (first | refine zm_ ?_ _ | refine zn_ ?_ | refine zo_ ?_ _)); refine zp_ ?_ NB414_416.out _; (with_reducible repeat (first | refine zm_ ?_ _ | refine zn_ ?_ | refine zo_ ?_ _)); refine zp_ ?_ NB414_416.out _; (with_reducible repeat (first | refine zm_ ?_ _ | refine zn_ ?_ | refine zo_ ?_ _)); refine zp_ ?_ NB414_416.out _; (with_reducible repeat (first | refine zm_ ?_ _ | refine zn_ ?_ | refine zo_ ?_ _)); exact BK414.out) hb); have n2_ := Aside0.mk (zq_ (g := gb416) (o := .cells #[.int .i64 ((rd_T58 l0_1 x23_2).f0), .int .i64 ((rd_T58 l0_1 x23_2).f1.f0), .int .i64 ((rd_T58 l0_1 x23_2).f1.f1)] 58 (0, 0)) (by (with_reducible repeat (first | refine zm_ ?_ _ | refine zn_ ?_ | refine zo_ ?_ _)); refine blk_put (cs := #[.int .i64 ((rd_T58 l0_1 x23_2).f0), .int .i64 ((rd_T58 l0_1 x23_2).f1.f0), .int .i64 0]) ?_ 2 _ rfl; (with_reducible repeat (first | refine zm_ ?_ _ | refine zn_ ?_ | refine zo_ ?_ _)); refine blk_put (cs := #[.int .i64 ((rd_T58 l0_1 x23_2).f0), .int .i64 0, .int .i64 0]) ?_ 1 _ rfl; (with_reducible repeat (first | refine zm_ ?_ _ | refine zn_ ?_ | refine zo_ ?_ _)); refine blk_put (cs := #[.int .i64 0, .int .i64 0, .int .i64 0]) ?_ 0 _ rfl; (with_reducible repeat (first | refine zm_ ?_ _ | refine zn_ ?_ | refine zo_ ?_ _)); exact BK416.out) hb); have n3_ := Aside0.mk (zv_ (by repeat (first | (with_reducible first | exact HB.out | apply zs_ | apply zt_ | apply zu_ | refine zr_ ?_ GE414.out | refine zr_ ?_ GE416.out) | exact HB.out)) hb); clear BK414; clear BK416; clear HB; have HO419 := n0_; have BK414 := n1_; have BK416 := n2_; have HB := n3_; clear n0_ n1_ n2_ n3_; clear hb ho24; obtain ⟨Ao25, co25, eo25⟩ := Kd.R_slice HO419.out; subst eo25) | ((with_reducible refine gate_callee (f := 71) rfl ?_); refine goesL_ (some 31) rfl rfl Try.func71 (by kernel_rfl) rfl #[.slice Ao25 y417.length co25] rfl (by (try simp only [List.map_toArray, List.map_cons, List.map_nil]); first | done | rfl | (simp only [List.length_drop, List.length_take]; rfl)) ?_; (with_reducible refine (clock_instants.calls _ _ y417 true _ ?side1 ?side2 A18.out).mono ?_); (case side1 => repeat (first | exact (zl_ HO419.out).2.2 | (with_reducible refine Kd.C_alloc ?_ _) | (with_reducible refine Kd.C_drewN ?_ _) | (with_reducible refine Kd.C_drew ?_))); (case side2 => exact (zl_ HO419.out).2.1); rintro e w' ⟨rfl, ⟨nd, rfl⟩⟩; refine ⟨_, rfl, ?_⟩; have hcz26_0 : w23.cell? ⟨gb416, 0, none⟩ = some (.int .i64 ((rd_T58 l0_1 x23_2).f0)) := (blk_cell BK416.out 0).trans rfl; have hcz26_1 : w23.cell? ⟨gb416, 1, none⟩ = some (.int .i64 ((rd_T58 l0_1 x23_2).f1.f0)) := (blk_cell BK416.out 1).trans rfl; have hcz26_2 : w23.cell? ⟨gb416, 2, none⟩ = some (.int .i64 ((rd_T58 l0_1 x23_2).f1.f1)) := (blk_cell BK416.out 2).trans rfl; have hfz26_0 := blk_frozen BK416.out 0; have hfz26_1 := blk_frozen BK416.out 1; have hfz26_2 := blk_frozen BK416.out 2) | (go_at_call 76; (with_reducible refine (clock_valid.calls ((rd_T58 l0_1 x23_2).f1.f0) ((rd_T58 l0_1 x23_2).f1.f1) t421 _ A20.out).mono ?_); rintro e w27 ⟨rfl, hb⟩; have n0_ := Aside0.mk (Kd.R_below (by (with_reducible repeat (first | apply za_ | apply zb_ | apply zc_)); exact HO419.out) hb); have n1_ := Aside0.mk (zq_ (g := gb414) (o := .cells #[.int .i64 a0_0, .slice (some ad415) l0_1.length c0_1] 54 (0, 0)) (by (with_reducible repeat (first | refine zm_ ?_ _ | refine zn_ ?_ | refine zo_ ?_ _)); exact BK414.out) hb); have n2_ := Aside0.mk (zq_ (g := gb416) (o := .cells #[.int .i64 ((rd_T58 l0_1 x23_2).f0), .int .i64 ((rd_T58 l0_1 x23_2).f1.f0), .int .i64 ((rd_T58 l0_1 x23_2).f1.f1)] 58 (0, 0)) (by (with_reducible repeat (first | refine zm_ ?_ _ | refine zn_ ?_ | refine zo_ ?_ _)); exact BK416.out) hb); have n3_ := Aside0.mk (zv_ (by repeat (first | (with_reducible first | exact HB.out | apply zs_ | apply zt_ | apply zu_ | refine zr_ ?_ GE414.out | refine zr_ ?_ GE416.out) | exact HB.out)) hb); clear HO419; clear BK414; clear BK416; clear HB; have HO419 := n0_; have BK414 := n1_; have BK416 := n2_; have HB := n3_; clear n0_ n1_ n2_ n3_; (try clear hb); (try clear hb2); (try clear hk); (try clear hi)))
                        go_meet
                        case rel => exact ⟨_, (!t421), (by first | rfl | (simp; done) | (simp [*]; done)), H', ⟨by have := HJ1.out; have := HK2.out; first | omega | exact Nat.le_refl _⟩, ⟨by (with_reducible repeat (first | refine zm_ ?_ _ | refine zn_ ?_ | refine zo_ ?_ _)); exact BK414.out⟩, ⟨by (with_reducible repeat (first | refine zm_ ?_ _ | refine zn_ ?_ | refine zo_ ?_ _)); exact BK416.out⟩, ⟨by repeat (first | (with_reducible first | exact HB.out | apply zs_ | apply zt_ | apply zu_ | refine zr_ ?_ GE414.out | refine zr_ ?_ GE416.out) | exact HB.out)⟩⟩
                      · replace c19 := Bool.eq_false_iff.mpr c19
                        subst c19
                        have H1 : (clock_Check.j2 k2 x3_2 l0_1 (l0_1.length : Int) x23_2 true ((rd_T58 l0_1 x23_2).f0) ((rd_T58 l0_1 x23_2).f1.f0) ((rd_T58 l0_1 x23_2).f1.f1)) = some r := by rw [if_neg (show ¬ (false = true) by decide)] at H; exact H
                        clear H
                        have H := H1
                        clear H1
                        have H' := Aside0.mk H
                        clear H
                        have hnb28 := NB416_414.out
                        have hnc28 := NB414_416.out
                        have hcz29_0 : w15.cell? ⟨gb416, 0, none⟩ = some (.int .i64 0) := (blk_cell BK416.out 0).trans rfl
                        have hcz29_1 : w15.cell? ⟨gb416, 1, none⟩ = some (.int .i64 0) := (blk_cell BK416.out 1).trans rfl
                        have hcz29_2 : w15.cell? ⟨gb416, 2, none⟩ = some (.int .i64 0) := (blk_cell BK416.out 2).trans rfl
                        have hfz29_0 := blk_frozen BK416.out 0
                        have hfz29_1 := blk_frozen BK416.out 1
                        have hfz29_2 := blk_frozen BK416.out 2
                        go_wp2_with (first | ((with_reducible refine gate_dst (N := 30) rfl ?_); refine Kd.R_lit (Kd.int .i64) _ 3 ?hg (N := 30) ?hd (xs := ([(rd_T58 l0_1 x23_2).f0] : List Int)) (inner := [.int .i64 ((rd_T58 l0_1 x23_2).f0)]) (ok := fun _ => True) (okp := fun _ => True) ?hr ?hp (fun _ hk => hk) trivial (Below.refl _ _) (Nat.le_refl _) (by simp) ?_; (case hd => rfl); (case hg => rfl); (case hr => first | (go_simp; done) | (go_simp; rfl)); (case hp => exact (Reps.one (show Kd.M (Kd.int .i64) _ _ _ ((rd_T58 l0_1 x23_2).f0) [.int .i64 ((rd_T58 l0_1 x23_2).f0)] from rfl) (Reps.none _ _))); intro v418 w30 ho31 hb hg_ hnew_; clear hg_ hnew_; (first | rw [← Ny417.out] at ho31 | (simp only [Int.reduceToNat] at ho31; rw [← Ny417.out] at ho31)); have n0_ := Aside0.mk (zg_ ho31 (zw_ (by repeat (first | (with_reducible first | exact HB.out | apply zs_ | apply zt_ | apply zu_ | refine zr_ ?_ GE414.out | refine zr_ ?_ GE416.out) | exact HB.out)))); have n1_ := Aside0.mk (zq_ (g := gb414) (o := .cells #[.int .i64 a0_0, .slice (some ad415) l0_1.length c0_1] 54 (0, 0)) (by (with_reducible repeat (first | refine zm_ ?_ _ | refine zn_ ?_ | refine zo_ ?_ _)); refine zp_ ?_ NB414_416.out _; (with_reducible repeat (first | refine zm_ ?_ _ | refine zn_ ?_ | refine zo_ ?_ _)); refine zp_ ?_ NB414_416.out _; (with_reducible repeat (first | refine zm_ ?_ _ | refine zn_ ?_ | refine zo_ ?_ _)); refine zp_ ?_ NB414_416.out _; (with_reducible repeat (first | refine zm_ ?_ _ | refine zn_ ?_ | refine zo_ ?_ _)); exact BK414.out) hb); have n2_ := Aside0.mk (zq_ (g := gb416) (o := .cells #[.int .i64 ((rd_T58 l0_1 x23_2).f0), .int .i64 ((rd_T58 l0_1 x23_2).f1.f0), .int .i64 ((rd_T58 l0_1 x23_2).f1.f1)] 58 (0, 0)) (by (with_reducible repeat (first | refine zm_ ?_ _ | refine zn_ ?_ | refine zo_ ?_ _)); refine blk_put (cs := #[.int .i64 ((rd_T58 l0_1 x23_2).f0), .int .i64 ((rd_T58 l0_1 x23_2).f1.f0), .int .i64 0]) ?_ 2 _ rfl; (with_reducible repeat (first | refine zm_ ?_ _ | refine zn_ ?_ | refine zo_ ?_ _)); refine blk_put (cs := #[.int .i64 ((rd_T58 l0_1 x23_2).f0), .int .i64 0, .int .i64 0]) ?_ 1 _ rfl; (with_reducible repeat (first | refine zm_ ?_ _ | refine zn_ ?_ | refine zo_ ?_ _)); refine blk_put (cs := #[.int .i64 0, .int .i64 0, .int .i64 0]) ?_ 0 _ rfl; (with_reducible repeat (first | refine zm_ ?_ _ | refine zn_ ?_ | refine zo_ ?_ _)); exact BK416.out) hb); have n3_ := Aside0.mk (zv_ (by repeat (first | (with_reducible first | exact HB.out | apply zs_ | apply zt_ | apply zu_ | refine zr_ ?_ GE414.out | refine zr_ ?_ GE416.out) | exact HB.out)) hb); clear BK414; clear BK416; clear HB; have HO419 := n0_; have BK414 := n1_; have BK416 := n2_; have HB := n3_; clear n0_ n1_ n2_ n3_; clear hb ho31; obtain ⟨Ao32, co32, eo32⟩ := Kd.R_slice HO419.out; subst eo32) | ((with_reducible refine gate_callee (f := 71) rfl ?_); refine goesL_ (some 31) rfl rfl Try.func71 (by kernel_rfl) rfl #[.slice Ao32 y417.length co32] rfl (by (try simp only [List.map_toArray, List.map_cons, List.map_nil]); first | done | rfl | (simp only [List.length_drop, List.length_take]; rfl)) ?_; (with_reducible refine (clock_instants.calls _ _ y417 false _ ?side1 ?side2 A18.out).mono ?_); (case side1 => repeat (first | exact (zl_ HO419.out).2.2 | (with_reducible refine Kd.C_alloc ?_ _) | (with_reducible refine Kd.C_drewN ?_ _) | (with_reducible refine Kd.C_drew ?_))); (case side2 => exact (zl_ HO419.out).2.1); rintro e w' ⟨rfl, ⟨nd, rfl⟩⟩; refine ⟨_, rfl, ?_⟩))
                        go_meet
                        case rel => exact ⟨_, (true), (by first | rfl | (simp; done) | (simp [*]; done)), H', ⟨by have := HJ1.out; have := HK2.out; first | omega | exact Nat.le_refl _⟩, ⟨by (with_reducible repeat (first | refine zm_ ?_ _ | refine zn_ ?_ | refine zo_ ?_ _)); exact BK414.out⟩, ⟨by (with_reducible repeat (first | refine zm_ ?_ _ | refine zn_ ?_ | refine zo_ ?_ _)); exact BK416.out⟩, ⟨by repeat (first | (with_reducible first | exact HB.out | apply zs_ | apply zt_ | apply zu_ | refine zr_ ?_ GE414.out | refine zr_ ?_ GE416.out) | exact HB.out)⟩⟩
                    case rest =>
                      clear HC14
                      try clear c1
                      try clear c2
                      try clear p2
                      try clear c4
                      try clear c4b0
                      try clear p4
                      try clear q4
                      try clear hx4
                      try clear c7
                      try clear c8
                      try clear c8b0
                      try clear c8b1
                      try clear c11
                      try clear c11b0
                      try clear c12
                      try clear c12b0
                      try clear c13
                      try clear c13b0
                      try clear c16
                      try clear c19
                      try clear c21
                      try clear c28
                      try clear hcz10_0
                      try clear hcz10_1
                      try clear hcz17_0
                      try clear hcz17_1
                      try clear hcz17_2
                      try clear hcz22_0
                      try clear hcz22_1
                      try clear hcz22_2
                      try clear hcz26_0
                      try clear hcz26_1
                      try clear hcz26_2
                      try clear hcz29_0
                      try clear hcz29_1
                      try clear hcz29_2
                      try clear hcz5_0
                      try clear hcz5_1
                      try clear hcz6_0
                      try clear hcz6_1
                      try clear hcz9_0
                      try clear hcz9_1
                      try clear hfz10_0
                      try clear hfz10_1
                      try clear hfz17_0
                      try clear hfz17_1
                      try clear hfz17_2
                      try clear hfz22_0
                      try clear hfz22_1
                      try clear hfz22_2
                      try clear hfz26_0
                      try clear hfz26_1
                      try clear hfz26_2
                      try clear hfz29_0
                      try clear hfz29_1
                      try clear hfz29_2
                      try clear hfz5_0
                      try clear hfz5_1
                      try clear hfz6_0
                      try clear hfz6_1
                      try clear hfz9_0
                      try clear hfz9_1
                      try clear hx415_0
                      try clear hx415_1
                      try clear hx415_2
                      try clear p2
                      try clear p415
                      try clear q415
                      obtain ⟨kq, x27_13, rfl, HA, HJ13, BK414, BK416, HB⟩ := hcut
                      cases kq with
                      | zero => exact absurd HA.out (by simp [clock_Check.j2])
                      | succ kj13 =>
                        have H := HA.out
                        clear HA
                        simp only [clock_Check.j2] at H
                        by_cases c33 : x27_13 = true
                        · subst c33
                          have H1 : (some 3) = some r := by rw [if_pos rfl] at H; exact H
                          clear H
                          have H := H1
                          clear H1
                          obtain rfl := Option.some.inj H
                          go_wp2
                          go_ret
                          exact ⟨by first | rfl | (simp [errW_none, errW_some] <;> rfl) | (simp [*, errW_none, errW_some] <;> rfl), by repeat (first | (with_reducible first | exact HB.out | apply zs_ | apply zt_ | apply zu_ | refine zr_ ?_ GE414.out | refine zr_ ?_ GE416.out) | exact HB.out)⟩
                        · replace c33 := Bool.eq_false_iff.mpr c33
                          subst c33
                          have H1 : (if ((rd_T58 l0_1 x23_2).f0) ≤ x3_2 then (some 1) else (clock_Check.l0 kj13 ((rd_T58 l0_1 x23_2).f0) l0_1 (l0_1.length : Int) (wrap64 (x23_2 + 1)))) = some r := by rw [if_neg (show ¬ (false = true) by decide)] at H; exact H
                          clear H
                          have H := H1
                          clear H1
                          by_cases c34 : ((rd_T58 l0_1 x23_2).f0) ≤ x3_2
                          · rw [if_pos c34] at H
                            have c34b0 : decide (((rd_T58 l0_1 x23_2).f0) ≤ x3_2) = true := decide_eq_true c34
                            clear c34
                            obtain rfl := Option.some.inj H
                            have hnb35 := NB416_414.out
                            have hnc35 := NB414_416.out
                            have hcz36_0 : wc.cell? ⟨gb416, 0, none⟩ = some (.int .i64 ((rd_T58 l0_1 x23_2).f0)) := (blk_cell BK416.out 0).trans rfl
                            have hcz36_1 : wc.cell? ⟨gb416, 1, none⟩ = some (.int .i64 ((rd_T58 l0_1 x23_2).f1.f0)) := (blk_cell BK416.out 1).trans rfl
                            have hcz36_2 : wc.cell? ⟨gb416, 2, none⟩ = some (.int .i64 ((rd_T58 l0_1 x23_2).f1.f1)) := (blk_cell BK416.out 2).trans rfl
                            have hfz36_0 := blk_frozen BK416.out 0
                            have hfz36_1 := blk_frozen BK416.out 1
                            have hfz36_2 := blk_frozen BK416.out 2
                            go_wp2
                            go_ret
                            exact ⟨by first | rfl | (simp [errW_none, errW_some] <;> rfl) | (simp [*, errW_none, errW_some] <;> rfl), by repeat (first | (with_reducible first | exact HB.out | apply zs_ | apply zt_ | apply zu_ | refine zr_ ?_ GE414.out | refine zr_ ?_ GE416.out) | exact HB.out)⟩
                          · rw [if_neg c34] at H
                            have c34b0 : decide (((rd_T58 l0_1 x23_2).f0) ≤ x3_2) = false := decide_eq_false c34
                            clear c34
                            have H' := Aside0.mk H
                            clear H
                            have hnb37 := NB416_414.out
                            have hnc37 := NB414_416.out
                            have hcz38_0 : wc.cell? ⟨gb416, 0, none⟩ = some (.int .i64 ((rd_T58 l0_1 x23_2).f0)) := (blk_cell BK416.out 0).trans rfl
                            have hcz38_1 : wc.cell? ⟨gb416, 1, none⟩ = some (.int .i64 ((rd_T58 l0_1 x23_2).f1.f0)) := (blk_cell BK416.out 1).trans rfl
                            have hcz38_2 : wc.cell? ⟨gb416, 2, none⟩ = some (.int .i64 ((rd_T58 l0_1 x23_2).f1.f1)) := (blk_cell BK416.out 2).trans rfl
                            have hfz38_0 := blk_frozen BK416.out 0
                            have hfz38_1 := blk_frozen BK416.out 1
                            have hfz38_2 := blk_frozen BK416.out 2
                            go_wp2
                            go_roundg kj13
                            case measure => have := HJ1.out; have := HK2.out; have := HJ13.out; omega
                            case rel => exact ⟨(((rd_T58 l0_1 x23_2).f0)), (wrap64 (x23_2 + 1)), (by first | rfl | (simp; done) | (simp [*]; done)), (by first | rfl | (simp; done) | (simp [*]; done)), H', ⟨by have := HJ1.out; have := HK2.out; have := HJ13.out; omega⟩, ⟨by (with_reducible repeat (first | refine zm_ ?_ _ | refine zn_ ?_ | refine zo_ ?_ _)); exact BK414.out⟩, ⟨by repeat (first | (with_reducible first | exact HB.out | apply zs_ | apply zt_ | apply zu_ | refine zr_ ?_ GE414.out | refine zr_ ?_ GE416.out) | exact HB.out)⟩⟩
                  · rw [if_neg c13] at H
                    exact absurd H (by simp)
                · rw [if_neg c12] at H
                  exact absurd H (by simp)
              · rw [if_neg c11] at H
                have c11b0 : decide (x23_2 < (l0_1.length : Int)) = false := decide_eq_false c11
                clear c11
                obtain rfl := Option.some.inj H
                go_wp2
                go_ret
                exact ⟨by first | rfl | (simp [errW_none, errW_some] <;> rfl) | (simp [*, errW_none, errW_some] <;> rfl), by repeat (first | (with_reducible first | exact HB.out | apply zs_ | apply zt_ | apply zu_ | refine zr_ ?_ GE414.out) | exact HB.out)⟩
end Go.Proofs.Yteknbadjfojmbaa.QA
