-- WRITTEN BY qprint.py, a program of this session (the kit's print, driven with contracts proved by hand): Lean checks it.
import Derived.Test.YtgfnllaajaoljaaQA0
import Derived.Test.YtgfnllaajaoljaaQA1
import Derived.Test.YtgfnllaajaoljaaQA3
import Derived.Test.YtgfnllaajaoljaaQA4
import Derived.Test.YtgfnllaajaoljaaQA5
import Derived.Test.YtgfnllaajaoljaaQA9
namespace Go.Proofs.Ytgfnllaajaoljaa.QA
open Go.RowKit Go.Proofs.YtgfnllaajaoljaaW.PrintWords Go.Proofs.YtgfnllaajaoljaaW.PrintLast Go.Proofs.YtgfnllaajaoljaaW.PrintMore
attribute [local go_sem] max2_int min2_int max_two min_two max_three min_three max_four min_four   -- for this text's walks alone
set_option linter.unusedVariables false
set_option linter.unusedSimpArgs false

/-! ### quietuslaw25_PadsAgreeAsSpecified: function 4 -/
def quietuslaw25_PadsAgreeAsSpecified.j0 : Nat → List ByteArray → List ByteArray → List Int → Bool → Option (Bool)
  | 0, _, _, _, _ => none
  | k + 1, x0, x1, x2, x22 => if x22 = true then ((quietuslaw25_sanity.f k).bind fun t376 => (some t376)) else ((pad_Agree.f k x0 x1 x2).bind fun bt377 => ((quietusref25_Agree.f k x0 x1 x2).bind fun bt379 => ((quietuslaw25_sanity.f k).bind fun t382 => (if t382 = true then (if bt377.1 = bt379.1 then (some (bt377.2 == bt379.2)) else (none)) else (none)))))
def quietuslaw25_PadsAgreeAsSpecified.f (k : Nat) (l0 : List ByteArray) (l1 : List ByteArray) (l2 : List Int) : Option (Bool) := if (l0.length : Int) > 5 then (quietuslaw25_PadsAgreeAsSpecified.j0 k l0 l1 l2 true) else (if (l1.length : Int) > 5 then (quietuslaw25_PadsAgreeAsSpecified.j0 k l0 l1 l2 true) else (quietuslaw25_PadsAgreeAsSpecified.j0 k l0 l1 l2 (decide ((l2.length : Int) > 12))))
theorem quietuslaw25_PadsAgreeAsSpecified.mono_l : ∀ k, (∀ y0 y1 y2 y3, LeO (quietuslaw25_PadsAgreeAsSpecified.j0 k y0 y1 y2 y3) (quietuslaw25_PadsAgreeAsSpecified.j0 (k + 1) y0 y1 y2 y3))
  | 0 => fun _ _ _ _ r h => by simp [quietuslaw25_PadsAgreeAsSpecified.j0] at h
  | k + 1 => by
    have ih0 := quietuslaw25_PadsAgreeAsSpecified.mono_l k
    · intro y0 y1 y2 y3
      unfold quietuslaw25_PadsAgreeAsSpecified.j0
      repeat' first
      | (with_reducible exact ih0 _ _ _ _)
      | (with_reducible exact pad_Agree.mono _ _ _ _)
      | (with_reducible exact quietuslaw25_sanity.mono _)
      | (with_reducible exact quietusref25_Agree.mono _ _ _ _)
      | (with_reducible exact LeO.refl _)
      | (with_reducible exact LeO.none _)
      | (with_reducible refine LeO.ite ?_ ?_)
      | (with_reducible refine LeO.bind ?_ (fun _ => ?_))
      | exact ih0 _ _ _ _
      | exact pad_Agree.mono _ _ _ _
      | exact quietuslaw25_sanity.mono _
      | exact quietusref25_Agree.mono _ _ _ _
      | exact LeO.none _
      | refine LeO.ite ?_ ?_
      | refine LeO.bind ?_ (fun _ => ?_)
theorem quietuslaw25_PadsAgreeAsSpecified.mono : ∀ a0 a1 a2 k, LeO (quietuslaw25_PadsAgreeAsSpecified.f k a0 a1 a2) (quietuslaw25_PadsAgreeAsSpecified.f (k + 1) a0 a1 a2) := by
  intro a0 a1 a2 k
  have ih0 := quietuslaw25_PadsAgreeAsSpecified.mono_l k
  unfold quietuslaw25_PadsAgreeAsSpecified.f
  repeat' first
      | (with_reducible exact ih0 _ _ _ _)
      | (with_reducible exact pad_Agree.mono _ _ _ _)
      | (with_reducible exact quietuslaw25_sanity.mono _)
      | (with_reducible exact quietusref25_Agree.mono _ _ _ _)
      | (with_reducible exact LeO.refl _)
      | (with_reducible exact LeO.none _)
      | (with_reducible refine LeO.ite ?_ ?_)
      | (with_reducible refine LeO.bind ?_ (fun _ => ?_))
      | exact ih0 _ _ _ _
      | exact pad_Agree.mono _ _ _ _
      | exact quietuslaw25_sanity.mono _
      | exact quietusref25_Agree.mono _ _ _ _
      | exact LeO.none _
      | refine LeO.ite ?_ ?_
      | refine LeO.bind ?_ (fun _ => ?_)
set_option maxHeartbeats 8000000 in
set_option maxRecDepth 100000 in
theorem quietuslaw25_PadsAgreeAsSpecified.calls (k : Nat) (A0 : Option Addr) (c0 : Nat) (l0 : List ByteArray) (A1 : Option Addr) (c1 : Nat) (l1 : List ByteArray) (A2 : Option Addr) (c2 : Nat) (l2 : List Int) (r : Bool) (w : World) (hr0 : Kd.C Kd.string w A0 l0.length l0) (hc0 : l0.length ≤ c0) (hr1 : Kd.C Kd.string w A1 l1.length l1) (hc1 : l1.length ≤ c1) (hr2 : Kd.C (Kd.int .i64) w A2 l2.length l2) (hc2 : l2.length ≤ c2) (h : quietuslaw25_PadsAgreeAsSpecified.f k l0 l1 l2 = some r) :
    Calls Try.prog 4 #[.slice A0 l0.length c0, .slice A1 l1.length c1, .slice A2 l2.length c2] w fun e w' => e = .returned (.bool r) ∧ Below w.heap.size w w' := by
  have hu47 := Try.underlying47
  have HR0 := Aside0.mk hr0
  have HC0 := Aside0.mk hc0
  clear hr0 hc0
  have HR1 := Aside0.mk hr1
  have HC1 := Aside0.mk hc1
  clear hr1 hc1
  have HR2 := Aside0.mk hr2
  have HC2 := Aside0.mk hc2
  clear hr2 hc2
  have HB := Aside0.mk (Below.refl w.heap.size w)
  have H : (if (l0.length : Int) > 5 then (quietuslaw25_PadsAgreeAsSpecified.j0 k l0 l1 l2 true) else (if (l1.length : Int) > 5 then (quietuslaw25_PadsAgreeAsSpecified.j0 k l0 l1 l2 true) else (quietuslaw25_PadsAgreeAsSpecified.j0 k l0 l1 l2 (decide ((l2.length : Int) > 12))))) = some r := h
  clear h
  have HC4 := Aside0.mk H
  clear H
  go_enter Try.func4, Try.ntmps4
  go_upto_region 1 with (fail)
  go_cut [22] (fun v22 wc => ∃ (kq : Nat) (x22_3 : Bool), v22 = .bool x22_3 ∧ Aside0 (quietuslaw25_PadsAgreeAsSpecified.j0 kq l0 l1 l2 x22_3 = some r) ∧ Aside0 (kq ≤ k) ∧ Aside0 (Below w.heap.size w wc))
  case first =>
    have H := HC4.out
    clear HC4
    by_cases c5 : (l0.length : Int) > 5
    · rw [if_pos c5] at H
      have c5b0 : decide (5 < (l0.length : Int)) = true := decide_eq_true c5
      have c5b1 : decide (5 < l0.length) = true := decide_eq_true (by omega)
      clear c5
      (first | rw [c5b0] | (simp only [i64_w, i32_w]; rw [c5b0]) | rw [c5b1] | skip)
      have H' := Aside0.mk H
      clear H
      go_wp2
      go_meet
      case rel => exact ⟨_, (true), (by first | rfl | (simp; done) | (simp [*]; done)), H', ⟨by first | omega | exact Nat.le_refl _⟩, ⟨by repeat (first | (with_reducible first | exact HB.out | apply below_alloc | apply pw_below_drewN | apply below_drew1) | exact HB.out)⟩⟩
    · rw [if_neg c5] at H
      have c5b0 : decide (5 < (l0.length : Int)) = false := decide_eq_false c5
      have c5b1 : decide (5 < l0.length) = false := decide_eq_false (by omega)
      clear c5
      (first | rw [c5b0] | (simp only [i64_w, i32_w]; rw [c5b0]) | rw [c5b1] | skip)
      by_cases c6 : (l1.length : Int) > 5
      · rw [if_pos c6] at H
        have c6b0 : decide (5 < (l1.length : Int)) = true := decide_eq_true c6
        have c6b1 : decide (5 < l1.length) = true := decide_eq_true (by omega)
        clear c6
        have H' := Aside0.mk H
        clear H
        go_wp2
        go_meet
        case rel => exact ⟨_, (true), (by first | rfl | (simp; done) | (simp [*]; done)), H', ⟨by first | omega | exact Nat.le_refl _⟩, ⟨by repeat (first | (with_reducible first | exact HB.out | apply below_alloc | apply pw_below_drewN | apply below_drew1) | exact HB.out)⟩⟩
      · rw [if_neg c6] at H
        have c6b0 : decide (5 < (l1.length : Int)) = false := decide_eq_false c6
        have c6b1 : decide (5 < l1.length) = false := decide_eq_false (by omega)
        clear c6
        have H' := Aside0.mk H
        clear H
        go_wp2
        go_meet
        case rel => exact ⟨_, (decide ((l2.length : Int) > 12)), (by first | rfl | (simp; done) | (simp [*]; done)), H', ⟨by first | omega | exact Nat.le_refl _⟩, ⟨by repeat (first | (with_reducible first | exact HB.out | apply below_alloc | apply pw_below_drewN | apply below_drew1) | exact HB.out)⟩⟩
  case rest =>
    clear HC4
    try clear c1
    try clear c2
    try clear p2
    try clear c4
    try clear c5
    try clear c5b0
    try clear c5b1
    try clear c6
    try clear c6b0
    try clear c6b1
    obtain ⟨kq, x22_3, rfl, HA, HJ3, HB⟩ := hcut
    cases kq with
    | zero => exact absurd HA.out (by simp [quietuslaw25_PadsAgreeAsSpecified.j0])
    | succ kj3 =>
      have H := HA.out
      clear HA
      simp only [quietuslaw25_PadsAgreeAsSpecified.j0] at H
      by_cases c7 : x22_3 = true
      · subst c7
        have H1 : ((quietuslaw25_sanity.f kj3).bind fun t376 => (some t376)) = some r := by rw [if_pos rfl] at H; exact H
        clear H
        have H := H1
        clear H1
        replace H := Option.bind_eq_some_iff.mp H
        obtain ⟨t376, A80, H⟩ := H
        replace H : (some t376) = some r := H
        have A8 := Aside0.mk A80
        clear A80
        obtain rfl := Option.some.inj H
        go_wp2_with (first | ((with_reducible refine gate_callee (f := 9) rfl ?_); refine goesL_ (some 23) rfl rfl Try.func9 (by kernel_rfl) rfl #[] rfl (by (try simp only [List.map_toArray, List.map_cons, List.map_nil]); first | done | rfl | (simp only [List.length_drop, List.length_take]; rfl)) ?_; (with_reducible refine (quietuslaw25_sanity.calls kj3  t376 _ A8.out).mono ?_); rintro e w9 ⟨rfl, hb⟩; refine ⟨_, rfl, ?_⟩; have n0_ := Aside0.mk (below_step (by repeat (first | (with_reducible first | exact HB.out | apply below_alloc | apply pw_below_drewN | apply below_drew1) | exact HB.out)) hb); clear HB; have HB := n0_; clear n0_; (try clear hb); (try clear hb2); (try clear hk); (try clear hi)))
        go_ret
        exact ⟨by first | rfl | (simp [errW_none, errW_some] <;> rfl) | (simp [*, errW_none, errW_some] <;> rfl), by repeat (first | (with_reducible first | exact HB.out | apply below_alloc | apply pw_below_drewN | apply below_drew1) | exact HB.out)⟩
      · replace c7 := Bool.eq_false_iff.mpr c7
        subst c7
        have H1 : ((pad_Agree.f kj3 l0 l1 l2).bind fun bt377 => ((quietusref25_Agree.f kj3 l0 l1 l2).bind fun bt379 => ((quietuslaw25_sanity.f kj3).bind fun t382 => (if t382 = true then (if bt377.1 = bt379.1 then (some (bt377.2 == bt379.2)) else (none)) else (none))))) = some r := by rw [if_neg (show ¬ (false = true) by decide)] at H; exact H
        clear H
        have H := H1
        clear H1
        replace H := Option.bind_eq_some_iff.mp H
        obtain ⟨⟨t377, t378⟩, A100, H⟩ := H
        replace H : ((quietusref25_Agree.f kj3 l0 l1 l2).bind fun bt379 => ((quietuslaw25_sanity.f kj3).bind fun t382 => (if t382 = true then (if t377 = bt379.1 then (some (t378 == bt379.2)) else (none)) else (none)))) = some r := H
        have A10 := Aside0.mk A100
        clear A100
        replace H := Option.bind_eq_some_iff.mp H
        obtain ⟨⟨t379, t380⟩, A110, H⟩ := H
        replace H : ((quietuslaw25_sanity.f kj3).bind fun t382 => (if t382 = true then (if t377 = t379 then (some (t378 == t380)) else (none)) else (none))) = some r := H
        have A11 := Aside0.mk A110
        clear A110
        replace H := Option.bind_eq_some_iff.mp H
        obtain ⟨t382, A120, H⟩ := H
        replace H : (if t382 = true then (if t377 = t379 then (some (t378 == t380)) else (none)) else (none)) = some r := H
        have A12 := Aside0.mk A120
        clear A120
        by_cases c13 : t382 = true
        · subst c13
          have H1 : (if t377 = t379 then (some (t378 == t380)) else (none)) = some r := by rw [if_pos rfl] at H; exact H
          clear H
          have H := H1
          clear H1
          by_cases c14 : t377 = t379
          · rw [if_pos c14] at H
            have c14b0 : (t377 == t379) = true := beq_iff_eq.mpr c14
            have c14b1 : (t377 != t379) = false := bne_eq_false_iff_eq.mpr c14
            clear c14
            obtain rfl := Option.some.inj H
            go_wp2_with (first | ((with_reducible refine gate_callee (f := 19) rfl ?_); refine goesL_ (some 28) rfl rfl Try.func19 (by kernel_rfl) rfl #[.slice A0 l0.length c0, .slice A1 l1.length c1, .slice A2 l2.length c2] rfl (by (try simp only [List.map_toArray, List.map_cons, List.map_nil]); first | done | rfl | (simp only [List.length_drop, List.length_take]; rfl)) ?_; (with_reducible refine (pad_Agree.calls kj3 _ _ l0 _ _ l1 _ _ l2 t377 t378 _ ?side1 ?side2 ?side3 ?side4 ?side5 ?side6 A10.out).mono ?_); (case side1 => repeat (first | exact (Kd.C_below HR0.out HB.out) | (with_reducible refine Kd.C_alloc ?_ _) | (with_reducible refine Kd.C_drewN ?_ _) | (with_reducible refine Kd.C_drew ?_))); (case side2 => exact HC0.out); (case side3 => repeat (first | exact (Kd.C_below HR1.out HB.out) | (with_reducible refine Kd.C_alloc ?_ _) | (with_reducible refine Kd.C_drewN ?_ _) | (with_reducible refine Kd.C_drew ?_))); (case side4 => exact HC1.out); (case side5 => repeat (first | exact (Kd.C_below HR2.out HB.out) | (with_reducible refine Kd.C_alloc ?_ _) | (with_reducible refine Kd.C_drewN ?_ _) | (with_reducible refine Kd.C_drew ?_))); (case side6 => exact HC2.out); rintro e w' ⟨rfl, ⟨nd, rfl⟩⟩; refine ⟨_, rfl, ?_⟩; (try (rw [drewN_self wc]; generalize hq_ : World.drewN wc _ = wc; have n0_ : Aside0 (Below w.heap.size w wc) := ⟨by rw [← hq_]; exact (by repeat (first | (with_reducible first | exact HB.out | apply below_alloc | apply pw_below_drewN | apply below_drew1) | exact HB.out))⟩; clear HB hq_; have HB := n0_; clear n0_))) | ((with_reducible refine gate_callee (f := 20) rfl ?_); refine goesL_ (some 34) rfl rfl Try.func20 (by kernel_rfl) rfl #[.slice A0 l0.length c0, .slice A1 l1.length c1, .slice A2 l2.length c2] rfl (by (try simp only [List.map_toArray, List.map_cons, List.map_nil]); first | done | rfl | (simp only [List.length_drop, List.length_take]; rfl)) ?_; (with_reducible refine (quietusref25_Agree.calls kj3 _ _ l0 _ _ l1 _ _ l2 t379 t380 _ ?side1 ?side2 ?side3 ?side4 ?side5 ?side6 A11.out).mono ?_); (case side1 => repeat (first | exact (Kd.C_below HR0.out HB.out) | (with_reducible refine Kd.C_alloc ?_ _) | (with_reducible refine Kd.C_drewN ?_ _) | (with_reducible refine Kd.C_drew ?_))); (case side2 => exact HC0.out); (case side3 => repeat (first | exact (Kd.C_below HR1.out HB.out) | (with_reducible refine Kd.C_alloc ?_ _) | (with_reducible refine Kd.C_drewN ?_ _) | (with_reducible refine Kd.C_drew ?_))); (case side4 => exact HC1.out); (case side5 => repeat (first | exact (Kd.C_below HR2.out HB.out) | (with_reducible refine Kd.C_alloc ?_ _) | (with_reducible refine Kd.C_drewN ?_ _) | (with_reducible refine Kd.C_drew ?_))); (case side6 => exact HC2.out); rintro e w15 ⟨rfl, hb⟩; refine ⟨_, rfl, ?_⟩; have n0_ := Aside0.mk (below_step (by repeat (first | (with_reducible first | exact HB.out | apply below_alloc | apply pw_below_drewN | apply below_drew1) | exact HB.out)) hb); clear HB; have HB := n0_; clear n0_; (try clear hb); (try clear hb2); (try clear hk); (try clear hi)) | ((with_reducible refine gate_dst (N := 9) rfl ?_); (try (refine gate_guard (by rfl) ?_; dsimp only)); refine box_event ?hg (N := 9) ?hd (cs := #[.int .i64 0, .bool false]) (t := 47) ?hr ?_; (case hd => rfl); (case hg => rfl); (case hr => first | (go_simp; done) | (go_simp; rfl)); intro gb381 hg w16 hbox hb; have n0_ := Aside0.mk (below_step (by repeat (first | (with_reducible first | exact HB.out | apply below_alloc | apply pw_below_drewN | apply below_drew1) | exact HB.out)) hb); have n1_ := Aside0.mk (hbox); have n2_ := Aside0.mk ((by rw [hg]; exact (below_size (by repeat (first | (with_reducible first | exact HB.out | apply below_alloc | apply pw_below_drewN | apply below_drew1) | exact HB.out))) : w.heap.size ≤ gb381)); have n3_ := Aside0.mk ((by rw [hg]; exact (below_size (by repeat (first | (with_reducible first | exact HB.out | apply below_alloc | apply pw_below_drewN | apply below_drew1) | exact HB.out))) : w.heap.size ≤ gb381)); clear HB; have HB := n0_; have BK381 := n1_; have GW381 := n2_; have GE381 := n3_; clear n0_ n1_ n2_ n3_; clear hb hbox hg; have hcz17_0 : w16.cell? ⟨gb381, 0, none⟩ = some (.int .i64 0) := (blk_cell BK381.out 0).trans rfl; have hcz17_1 : w16.cell? ⟨gb381, 1, none⟩ = some (.bool false) := (blk_cell BK381.out 1).trans rfl; have hfz17_0 := blk_frozen BK381.out 0; have hfz17_1 := blk_frozen BK381.out 1) | ((with_reducible refine gate_callee (f := 9) rfl ?_); refine goesL_ (some 35) rfl rfl Try.func9 (by kernel_rfl) rfl #[] rfl (by (try simp only [List.map_toArray, List.map_cons, List.map_nil]); first | done | rfl | (simp only [List.length_drop, List.length_take]; rfl)) ?_; (with_reducible refine (quietuslaw25_sanity.calls kj3  true _ A12.out).mono ?_); rintro e w18 ⟨rfl, hb⟩; refine ⟨_, rfl, ?_⟩; have n0_ := Aside0.mk (blk_below (g := gb381) (o := .cells #[.int .i64 t379, .bool t380] 47 (0, 0)) (by (with_reducible repeat (first | refine blk_drewN ?_ _ | refine blk_drew ?_ | refine blk_alloc ?_ _)); refine blk_put (cs := #[.int .i64 t379, .bool false]) ?_ 1 _ rfl; (with_reducible repeat (first | refine blk_drewN ?_ _ | refine blk_drew ?_ | refine blk_alloc ?_ _)); refine blk_put (cs := #[.int .i64 0, .bool false]) ?_ 0 _ rfl; (with_reducible repeat (first | refine blk_drewN ?_ _ | refine blk_drew ?_ | refine blk_alloc ?_ _)); exact BK381.out) hb); have n1_ := Aside0.mk (below_step (by repeat (first | (with_reducible first | exact HB.out | apply below_alloc | apply pw_below_drewN | apply below_drew1 | refine below_set ?_ GE381.out) | exact HB.out)) hb); clear BK381; clear HB; have BK381 := n0_; have HB := n1_; clear n0_ n1_; (try clear hb); (try clear hb2); (try clear hk); (try clear hi); have hcz19_0 : w18.cell? ⟨gb381, 0, none⟩ = some (.int .i64 t379) := (blk_cell BK381.out 0).trans rfl; have hcz19_1 : w18.cell? ⟨gb381, 1, none⟩ = some (.bool t380) := (blk_cell BK381.out 1).trans rfl; have hfz19_0 := blk_frozen BK381.out 0; have hfz19_1 := blk_frozen BK381.out 1))
            go_ret
            exact ⟨by first | rfl | (simp [errW_none, errW_some] <;> rfl) | (simp [*, errW_none, errW_some] <;> rfl), by repeat (first | (with_reducible first | exact HB.out | apply below_alloc | apply pw_below_drewN | apply below_drew1 | refine below_set ?_ GE381.out) | exact HB.out)⟩
          · rw [if_neg c14] at H
            exact absurd H (by simp)
        · replace c13 := Bool.eq_false_iff.mpr c13
          subst c13
          have H1 : (none) = some r := by rw [if_neg (show ¬ (false = true) by decide)] at H; exact H
          clear H
          have H := H1
          clear H1
          exact absurd H (by simp)

open Go.Proofs.YtgfnllaajaoljaaW.PrintWords.Kd renaming R_alloc → za_, R_drewN → zb_, R_drew → zc_, R_mono → zd_, R_far → ze_, R_lower → zg_, R_new' → zh_, R_lt → zi_, R_elder' → zj_, R_base → zk_, R_reads' → zl_
open Go.Proofs.YtgfnllaajaoljaaW.PrintWords renaming below_set → zr_, below_alloc → zs_, pw_below_drewN → zt_, below_drew1 → zu_, below_step → zv_, below_size → zw_
/-! ### quietuslaw25_PadsHide: function 5 -/
mutual
def quietuslaw25_PadsHide.j0 : Nat → ByteArray → ByteArray → ByteArray → Bool → Option (Bool)
  | 0, _, _, _, _ => none
  | k + 1, x0, x1, x2, x38 => if x38 = true then ((quietuslaw25_sanity.f k).bind fun t383 => (some t383)) else (if 0 ≤ (x0.size : Int) then (if ((x0.size : Int) : Int).toNat ≤ 35184372088832 then ((some (List.replicate ((x0.size : Int) : Int).toNat 0 : List Int)).bind fun y384 => ((gf_Sum.f x0 x1).bind fun t390 => (if (t390.size : Int) = (x0.size : Int) then (quietuslaw25_PadsHide.l0 k x0 x1 x2 y384 (List.replicate ((x0.size : Int) : Int).toNat 0) t390 (y384.length : Int) 0) else (none)))) else (none)) else (none))
def quietuslaw25_PadsHide.l0 : Nat → ByteArray → ByteArray → ByteArray → List Int → List Int → ByteArray → Int → Int → Option (Bool)
  | 0, _, _, _, _, _, _, _, _ => none
  | k + 1, x0, x1, x2, x7, x8, x9, x55, x56 => if x56 < x55 then (if 0 ≤ x56 then (if x56 < (x9.size : Int) then (if x56 < (x7.length : Int) then (if x56 < (x8.length : Int) then (quietuslaw25_PadsHide.l0 k x0 x1 x2 (x7.set (x56 : Int).toNat (-1)) (x8.set (x56 : Int).toNat (wrap64 (bt x9 x56))) x9 x55 (wrap64 (x56 + 1))) else (none)) else (none)) else (none)) else (none)) else ((pad_Agree.f k (([x0] : List ByteArray)) (([x1] : List ByteArray)) x7).bind fun bt399 => ((pad_Agree.f k (([x0] : List ByteArray)) (([x2] : List ByteArray)) x7).bind fun bt407 => ((pad_Agree.f k (([x0] : List ByteArray)) (([x1] : List ByteArray)) x8).bind fun bt415 => ((pad_Cover.f x1 x9).bind fun bt417 => ((pad_Agree.f k (([x0, x2] : List ByteArray)) (([x1, x0] : List ByteArray)) x7).bind fun bt425 => ((gf_Sum.f x0 x2).bind fun t427 => ((gf_Sum.f x1 x0).bind fun t428 => ((quietuslaw25_sanity.f k).bind fun t429 => (if t429 = true then (if bt399.1 = 0 then (if bt399.2 = true then (if bt407.1 = 0 then (if bt407.2 = true then (if bt415.1 = 0 then (if bt415.2 = true then (if bt417.2 = 0 then (if bt417.1.toList = x0.toList then (if bt425.1 = 0 then (some (bt425.2 == (t427.toList == t428.toList))) else (none)) else (none)) else (none)) else (none)) else (none)) else (none)) else (none)) else (none)) else (none)) else (none))))))))))
end
def quietuslaw25_PadsHide.f (k : Nat) (a0 : ByteArray) (a1 : ByteArray) (a2 : ByteArray) : Option (Bool) := if (a0.size : Int) > 100 then (quietuslaw25_PadsHide.j0 k a0 a1 a2 true) else (if (a1.size : Int) = (a0.size : Int) then (quietuslaw25_PadsHide.j0 k a0 a1 a2 ((a2.size : Int) != (a0.size : Int))) else (quietuslaw25_PadsHide.j0 k a0 a1 a2 true))
theorem quietuslaw25_PadsHide.mono_l : ∀ k, (∀ y0 y1 y2 y3, LeO (quietuslaw25_PadsHide.j0 k y0 y1 y2 y3) (quietuslaw25_PadsHide.j0 (k + 1) y0 y1 y2 y3)) ∧ (∀ y0 y1 y2 y3 y4 y5 y6 y7, LeO (quietuslaw25_PadsHide.l0 k y0 y1 y2 y3 y4 y5 y6 y7) (quietuslaw25_PadsHide.l0 (k + 1) y0 y1 y2 y3 y4 y5 y6 y7))
  | 0 => ⟨fun _ _ _ _ r h => by simp [quietuslaw25_PadsHide.j0] at h, fun _ _ _ _ _ _ _ _ r h => by simp [quietuslaw25_PadsHide.l0] at h⟩
  | k + 1 => by
    obtain ⟨ih0, ih1⟩ := quietuslaw25_PadsHide.mono_l k
    refine ⟨?_, ?_⟩
    · intro y0 y1 y2 y3
      unfold quietuslaw25_PadsHide.j0
      repeat' first
      | (with_reducible exact ih0 _ _ _ _)
      | (with_reducible exact ih1 _ _ _ _ _ _ _ _)
      | (with_reducible exact pad_Agree.mono _ _ _ _)
      | (with_reducible exact quietuslaw25_sanity.mono _)
      | (with_reducible exact LeO.refl _)
      | (with_reducible exact LeO.none _)
      | (with_reducible refine LeO.ite ?_ ?_)
      | (with_reducible refine LeO.bind ?_ (fun _ => ?_))
      | exact ih0 _ _ _ _
      | exact ih1 _ _ _ _ _ _ _ _
      | exact pad_Agree.mono _ _ _ _
      | exact quietuslaw25_sanity.mono _
      | exact LeO.none _
      | refine LeO.ite ?_ ?_
      | refine LeO.bind ?_ (fun _ => ?_)
    · intro y0 y1 y2 y3 y4 y5 y6 y7
      unfold quietuslaw25_PadsHide.l0
      repeat' first
      | (with_reducible exact ih0 _ _ _ _)
      | (with_reducible exact ih1 _ _ _ _ _ _ _ _)
      | (with_reducible exact pad_Agree.mono _ _ _ _)
      | (with_reducible exact quietuslaw25_sanity.mono _)
      | (with_reducible exact LeO.refl _)
      | (with_reducible exact LeO.none _)
      | (with_reducible refine LeO.ite ?_ ?_)
      | (with_reducible refine LeO.bind ?_ (fun _ => ?_))
      | exact ih0 _ _ _ _
      | exact ih1 _ _ _ _ _ _ _ _
      | exact pad_Agree.mono _ _ _ _
      | exact quietuslaw25_sanity.mono _
      | exact LeO.none _
      | refine LeO.ite ?_ ?_
      | refine LeO.bind ?_ (fun _ => ?_)
theorem quietuslaw25_PadsHide.mono : ∀ a0 a1 a2 k, LeO (quietuslaw25_PadsHide.f k a0 a1 a2) (quietuslaw25_PadsHide.f (k + 1) a0 a1 a2) := by
  intro a0 a1 a2 k
  obtain ⟨ih0, ih1⟩ := quietuslaw25_PadsHide.mono_l k
  unfold quietuslaw25_PadsHide.f
  repeat' first
      | (with_reducible exact ih0 _ _ _ _)
      | (with_reducible exact ih1 _ _ _ _ _ _ _ _)
      | (with_reducible exact pad_Agree.mono _ _ _ _)
      | (with_reducible exact quietuslaw25_sanity.mono _)
      | (with_reducible exact LeO.refl _)
      | (with_reducible exact LeO.none _)
      | (with_reducible refine LeO.ite ?_ ?_)
      | (with_reducible refine LeO.bind ?_ (fun _ => ?_))
      | exact ih0 _ _ _ _
      | exact ih1 _ _ _ _ _ _ _ _
      | exact pad_Agree.mono _ _ _ _
      | exact quietuslaw25_sanity.mono _
      | exact LeO.none _
      | refine LeO.ite ?_ ?_
      | refine LeO.bind ?_ (fun _ => ?_)
def quietuslaw25_PadsHide.T11 : Bool × List (List Nat × List Nat) := (true, [([], []), ([], []), ([], []), ([], []), ([], []), ([], []), ([4, 5], [4, 5]), ([6], [6]), ([0, 1, 0, 1], [0, 1]), ([8, 0, 1], [8]), ([2, 3, 0, 1, 2, 3, 4, 5, 6, 7, 8, 9], [2, 3]), ([10, 7, 9, 0, 1, 2, 3, 4, 5, 6, 7, 8, 9], [7, 10])])
def quietuslaw25_PadsHide.B11 : List Nat := [0, 0, 0, 0, 0, 0, 48, 112, 3, 259, 1023, 2047]
theorem quietuslaw25_PadsHide.tab11 : rtab .any (opsOf Try.f5 11) = quietuslaw25_PadsHide.T11 := by kernel_rfl
theorem quietuslaw25_PadsHide.bits11 : waitsOk quietuslaw25_PadsHide.T11.2 quietuslaw25_PadsHide.B11 = true := by kernel_rfl
set_option maxHeartbeats 8000000 in
set_option maxRecDepth 100000 in
theorem quietuslaw25_PadsHide.calls (k : Nat) (a0 : ByteArray) (a1 : ByteArray) (a2 : ByteArray) (r : Bool) (w : World) (h : quietuslaw25_PadsHide.f k a0 a1 a2 = some r) :
    Calls Try.prog 5 #[.string a0, .string a1, .string a2] w fun e w' => e = .returned (.bool r) ∧ Below w.heap.size w w' := by
  have HB := Aside0.mk (Below.refl w.heap.size w)
  have H : (if (a0.size : Int) > 100 then (quietuslaw25_PadsHide.j0 k a0 a1 a2 true) else (if (a1.size : Int) = (a0.size : Int) then (quietuslaw25_PadsHide.j0 k a0 a1 a2 ((a2.size : Int) != (a0.size : Int))) else (quietuslaw25_PadsHide.j0 k a0 a1 a2 true))) = some r := h
  clear h
  have HC4 := Aside0.mk H
  clear H
  go_enter Try.func5, Try.ntmps5
  go_upto_region 1 with (fail)
  go_cut [38] (fun v38 wc => ∃ (kq : Nat) (x38_3 : Bool), v38 = .bool x38_3 ∧ Aside0 (quietuslaw25_PadsHide.j0 kq a0 a1 a2 x38_3 = some r) ∧ Aside0 (kq ≤ k) ∧ Aside0 (Below w.heap.size w wc))
  case first =>
    have H := HC4.out
    clear HC4
    by_cases c5 : (a0.size : Int) > 100
    · rw [if_pos c5] at H
      have c5b0 : decide (100 < (a0.size : Int)) = true := decide_eq_true c5
      have c5b1 : decide (100 < a0.size) = true := decide_eq_true (by omega)
      clear c5
      (first | rw [c5b0] | (simp only [i64_w, i32_w]; rw [c5b0]) | rw [c5b1] | skip)
      have H' := Aside0.mk H
      clear H
      go_wp2
      go_meet
      case rel => exact ⟨_, (true), (by first | rfl | (simp; done) | (simp [*]; done)), H', ⟨by first | omega | exact Nat.le_refl _⟩, ⟨by repeat (first | (with_reducible first | exact HB.out | apply zs_ | apply zt_ | apply zu_) | exact HB.out)⟩⟩
    · rw [if_neg c5] at H
      have c5b0 : decide (100 < (a0.size : Int)) = false := decide_eq_false c5
      have c5b1 : decide (100 < a0.size) = false := decide_eq_false (by omega)
      clear c5
      (first | rw [c5b0] | (simp only [i64_w, i32_w]; rw [c5b0]) | rw [c5b1] | skip)
      by_cases c6 : (a1.size : Int) = (a0.size : Int)
      · rw [if_pos c6] at H
        have c6b0 : ((a1.size : Int) == (a0.size : Int)) = true := beq_iff_eq.mpr c6
        have c6b1 : ((a1.size : Int) != (a0.size : Int)) = false := bne_eq_false_iff_eq.mpr c6
        have c6b2 : (a1.size == a0.size) = true := by first | simpa using c6 | (simp at c6 ⊢; omega)
        clear c6
        have H' := Aside0.mk H
        clear H
        go_wp2
        go_meet
        case rel => exact ⟨_, (((a2.size : Int) != (a0.size : Int))), (by first | rfl | (simp; done) | (simp [*]; done)), H', ⟨by first | omega | exact Nat.le_refl _⟩, ⟨by repeat (first | (with_reducible first | exact HB.out | apply zs_ | apply zt_ | apply zu_) | exact HB.out)⟩⟩
      · rw [if_neg c6] at H
        have c6b0 : ((a1.size : Int) == (a0.size : Int)) = false := beq_eq_false_iff_ne.mpr c6
        have c6b1 : ((a1.size : Int) != (a0.size : Int)) = true := bne_iff_ne.mpr c6
        have c6b2 : (a1.size == a0.size) = false := by first | simpa using c6 | (simp at c6 ⊢; omega)
        have H' := Aside0.mk H
        clear H
        go_wp2
        go_meet
        case rel => exact ⟨_, (true), (by first | rfl | (simp; done) | (simp [*]; done)), H', ⟨by first | omega | exact Nat.le_refl _⟩, ⟨by repeat (first | (with_reducible first | exact HB.out | apply zs_ | apply zt_ | apply zu_) | exact HB.out)⟩⟩
  case rest =>
    clear HC4
    try clear p2
    try clear c5
    try clear c5b0
    try clear c5b1
    try clear c6
    try clear c6b0
    try clear c6b1
    try clear c6b2
    obtain ⟨kq, x38_3, rfl, HA, HJ3, HB⟩ := hcut
    cases kq with
    | zero => exact absurd HA.out (by simp [quietuslaw25_PadsHide.j0])
    | succ kj3 =>
      have H := HA.out
      clear HA
      simp only [quietuslaw25_PadsHide.j0] at H
      by_cases c7 : x38_3 = true
      · subst c7
        have H1 : ((quietuslaw25_sanity.f kj3).bind fun t383 => (some t383)) = some r := by rw [if_pos rfl] at H; exact H
        clear H
        have H := H1
        clear H1
        replace H := Option.bind_eq_some_iff.mp H
        obtain ⟨t383, A80, H⟩ := H
        replace H : (some t383) = some r := H
        have A8 := Aside0.mk A80
        clear A80
        obtain rfl := Option.some.inj H
        go_wp2_with (first | ((with_reducible refine gate_callee (f := 9) rfl ?_); refine goesL_ (some 39) rfl rfl Try.func9 (by kernel_rfl) rfl #[] rfl (by (try simp only [List.map_toArray, List.map_cons, List.map_nil]); first | done | rfl | (simp only [List.length_drop, List.length_take]; rfl)) ?_; (with_reducible refine (quietuslaw25_sanity.calls kj3  t383 _ A8.out).mono ?_); rintro e w9 ⟨rfl, hb⟩; refine ⟨_, rfl, ?_⟩; have n0_ := Aside0.mk (zv_ (by repeat (first | (with_reducible first | exact HB.out | apply zs_ | apply zt_ | apply zu_) | exact HB.out)) hb); clear HB; have HB := n0_; clear n0_; (try clear hb); (try clear hb2); (try clear hk); (try clear hi)))
        go_ret
        exact ⟨by first | rfl | (simp [errW_none, errW_some] <;> rfl) | (simp [*, errW_none, errW_some] <;> rfl), by repeat (first | (with_reducible first | exact HB.out | apply zs_ | apply zt_ | apply zu_) | exact HB.out)⟩
      · replace c7 := Bool.eq_false_iff.mpr c7
        subst c7
        have H1 : (if 0 ≤ (a0.size : Int) then (if ((a0.size : Int) : Int).toNat ≤ 35184372088832 then ((some (List.replicate ((a0.size : Int) : Int).toNat 0 : List Int)).bind fun y384 => ((gf_Sum.f a0 a1).bind fun t390 => (if (t390.size : Int) = (a0.size : Int) then (quietuslaw25_PadsHide.l0 kj3 a0 a1 a2 y384 (List.replicate ((a0.size : Int) : Int).toNat 0) t390 (y384.length : Int) 0) else (none)))) else (none)) else (none)) = some r := by rw [if_neg (show ¬ (false = true) by decide)] at H; exact H
        clear H
        have H := H1
        clear H1
        by_cases c10 : 0 ≤ (a0.size : Int)
        · rw [if_pos c10] at H
          have c10b0 := eq_true c10
          have c10b1 : decide (0 ≤ (a0.size : Int)) = true := decide_eq_true c10
          clear c10
          by_cases c11 : ((a0.size : Int) : Int).toNat ≤ 35184372088832
          · rw [if_pos c11] at H
            have c11b0 := eq_true c11
            have c11b1 : decide (((a0.size : Int) : Int).toNat ≤ 35184372088832) = true := decide_eq_true c11
            clear c11
            obtain ⟨y384, hy384⟩ : ∃ y_ : List Int, y_ = (List.replicate ((a0.size : Int) : Int).toNat 0) := ⟨_, rfl⟩
            replace H : ((gf_Sum.f a0 a1).bind fun t390 => (if (t390.size : Int) = (a0.size : Int) then (quietuslaw25_PadsHide.l0 kj3 a0 a1 a2 y384 (List.replicate ((a0.size : Int) : Int).toNat 0) t390 (y384.length : Int) 0) else (none))) = some r := by first | (rw [hy384]; with_reducible exact H) | (have H2_ := (Option.bind_some _ _).symm.trans H; rw [hy384]; with_reducible exact H2_) | (have H2_ := (Option.bind_some _ _).symm.trans H; with_reducible exact H2_) | with_reducible exact H | (rw [hy384]; exact H) | exact H
            have Ny384 := Aside0.mk hy384
            clear hy384
            obtain ⟨y387, hy387⟩ : ∃ y_ : List Int, y_ = (List.replicate ((a0.size : Int) : Int).toNat 0) := ⟨_, rfl⟩
            replace H : ((gf_Sum.f a0 a1).bind fun t390 => (if (t390.size : Int) = (a0.size : Int) then (quietuslaw25_PadsHide.l0 kj3 a0 a1 a2 y384 y387 t390 (y384.length : Int) 0) else (none))) = some r := by first | (rw [hy387]; with_reducible exact H) | (have H2_ := (Option.bind_some _ _).symm.trans H; rw [hy387]; with_reducible exact H2_) | (have H2_ := (Option.bind_some _ _).symm.trans H; with_reducible exact H2_) | with_reducible exact H | (rw [hy387]; exact H) | exact H
            have Ny387 := Aside0.mk hy387
            clear hy387
            replace H := Option.bind_eq_some_iff.mp H
            obtain ⟨t390, A120, H⟩ := H
            replace H : (if (t390.size : Int) = (a0.size : Int) then (quietuslaw25_PadsHide.l0 kj3 a0 a1 a2 y384 y387 t390 (y384.length : Int) 0) else (none)) = some r := H
            have A12 := Aside0.mk A120
            clear A120
            by_cases c13 : (t390.size : Int) = (a0.size : Int)
            · rw [if_pos c13] at H
              have c13b0 : ((t390.size : Int) == (a0.size : Int)) = true := beq_iff_eq.mpr c13
              have c13b1 : ((t390.size : Int) != (a0.size : Int)) = false := bne_eq_false_iff_eq.mpr c13
              have c13b2 : (t390.size == a0.size) = true := by first | simpa using c13 | (simp at c13 ⊢; omega)
              clear c13
              have H' := Aside0.mk H
              clear H
              go_wp2_with (first | ((with_reducible refine gate_dst (N := 42) rfl ?_); (try (refine gate_guard (by rfl) ?_; dsimp only)); refine Kd.R_make (Kd.int .i64) _ 3 rfl (N := 42) rfl 43 _ _ rfl (a0.size : Int) rfl rfl Try.underlying43 (.int .i64 0) 8 info3 rfl (by decide) (by omega) 0 (ok := fun _ => True) (okp := fun _ => True) rfl (fun _ hk => hk) trivial (of_decide_eq_true (by first | (with_reducible assumption) | assumption)) (Nat.le_trans (Nat.mul_le_mul_right _ (of_decide_eq_true (by first | (with_reducible assumption) | assumption) : (a0.size : Int).toNat ≤ 35184372088832)) (by omega)) (Below.refl _ _) (Nat.le_refl _) ?_; intro v385 w14 ho15 hb hg_ hnew_; clear hg_ hnew_; (first | rw [← Ny384.out] at ho15 | (simp only [Int.reduceToNat] at ho15; rw [← Ny384.out] at ho15)); have n0_ := Aside0.mk (zg_ ho15 (zw_ (by repeat (first | (with_reducible first | exact HB.out | apply zs_ | apply zt_ | apply zu_) | exact HB.out)))); have n1_ := Aside0.mk (zv_ (by repeat (first | (with_reducible first | exact HB.out | apply zs_ | apply zt_ | apply zu_) | exact HB.out)) hb); clear HB; have HO386 := n0_; have HB := n1_; clear n0_ n1_; clear hb ho15) | ((with_reducible refine gate_dst (N := 45) rfl ?_); (try (refine gate_guard (by rfl) ?_; dsimp only)); refine Kd.R_make (Kd.int .i64) _ 3 rfl (N := 45) rfl 43 _ _ rfl (a0.size : Int) rfl rfl Try.underlying43 (.int .i64 0) 8 info3 rfl (by decide) (by omega) 0 (ok := fun _ => True) (okp := fun _ => True) rfl (fun _ hk => hk) trivial (of_decide_eq_true (by first | (with_reducible assumption) | assumption)) (Nat.le_trans (Nat.mul_le_mul_right _ (of_decide_eq_true (by first | (with_reducible assumption) | assumption) : (a0.size : Int).toNat ≤ 35184372088832)) (by omega)) (Below.refl _ _) (Nat.le_refl _) ?_; intro v388 w16 ho17 hb hg_ hnew_; clear hg_ hnew_; (first | rw [← Ny387.out] at ho17 | (simp only [Int.reduceToNat] at ho17; rw [← Ny387.out] at ho17)); have n0_ := Aside0.mk (zj_ (by (with_reducible repeat (first | apply za_ | apply zb_ | apply zc_)); exact HO386.out) (zk_ ho17) hb); have n1_ := Aside0.mk (zg_ (zh_ ho17 (zi_ (by (with_reducible repeat (first | apply za_ | apply zb_ | apply zc_)); exact HO386.out))) (zw_ (by repeat (first | (with_reducible first | exact HB.out | apply zs_ | apply zt_ | apply zu_) | exact HB.out)))); have n2_ := Aside0.mk (zv_ (by repeat (first | (with_reducible first | exact HB.out | apply zs_ | apply zt_ | apply zu_) | exact HB.out)) hb); clear HO386; clear HB; have HO386 := n0_; have HO389 := n1_; have HB := n2_; clear n0_ n1_ n2_; clear hb ho17) | ((with_reducible refine gate_callee (f := 18) rfl ?_); refine goesL_ (some 48) rfl rfl Try.func18 (by kernel_rfl) rfl #[.string a0, .string a1] rfl (by (try simp only [List.map_toArray, List.map_cons, List.map_nil]); first | done | rfl | (simp only [List.length_drop, List.length_take]; rfl)) ?_; (with_reducible refine (gf_Sum.calls a0 a1 t390 _ A12.out).mono ?_); rintro e w18 ⟨rfl, hb⟩; refine ⟨_, rfl, ?_⟩; have n0_ := Aside0.mk (Kd.R_below (by (with_reducible repeat (first | apply za_ | apply zb_ | apply zc_)); exact HO386.out) hb); have n1_ := Aside0.mk (Kd.R_below (by (with_reducible repeat (first | apply za_ | apply zb_ | apply zc_)); exact HO389.out) hb); have n2_ := Aside0.mk (zv_ (by repeat (first | (with_reducible first | exact HB.out | apply zs_ | apply zt_ | apply zu_) | exact HB.out)) hb); clear HO386; clear HO389; clear HB; have HO386 := n0_; have HO389 := n1_; have HB := n2_; clear n0_ n1_ n2_; (try clear hb); (try clear hb2); (try clear hk); (try clear hi); obtain ⟨Ao19, co19, eo19⟩ := Kd.R_slice HO386.out; subst eo19))
              go_loopg [56] kj3 (fun kq v56 w' => ∃ (x7_2 : List Int) (x8_2 : List Int) (x56_2 : Int), v56 = .int .i64 x56_2 ∧ Aside0 (quietuslaw25_PadsHide.l0 kq a0 a1 a2 x7_2 x8_2 t390 (y384.length : Int) x56_2 = some r) ∧ Aside0 (kq ≤ kj3) ∧ Aside0 (Kd.R (Kd.int .i64) 3 w' w.heap.size (fun k_ => some k_ ≠ (v388 : Value).ownBlock) (.slice Ao19 y384.length co19) x7_2) ∧ Aside0 (Kd.R (Kd.int .i64) 3 w' w.heap.size (fun k_ => some k_ ≠ ((.slice Ao19 y384.length co19) : Value).ownBlock) v388 x8_2) ∧ Aside0 (Below w.heap.size w w'))
              case atStart => exact ⟨(y384), (y387), (0), (by first | rfl | (simp; done) | (simp [*]; done)), H', ⟨Nat.le_refl _⟩, ⟨by (with_reducible repeat (first | apply za_ | apply zb_ | apply zc_)); exact zd_ HO386.out (fun _ hk => hk.2)⟩, ⟨by (with_reducible repeat (first | apply za_ | apply zb_ | apply zc_)); exact zd_ HO389.out (fun _ hk => hk.2)⟩, ⟨by repeat (first | (with_reducible first | exact HB.out | apply zs_ | apply zt_ | apply zu_) | exact HB.out)⟩⟩
              case round =>
                clear H'
                try clear c1
                try clear p2
                try clear c5
                try clear c5b0
                try clear c5b1
                try clear c6
                try clear c6b0
                try clear c6b1
                try clear c6b2
                try clear c7
                try clear c9
                try clear c10
                try clear c10b0
                try clear c10b1
                try clear c11
                try clear c11b0
                try clear c11b1
                try clear c13
                try clear c13b0
                try clear c13b1
                try clear c13b2
                try clear c18
                try clear p2
                obtain ⟨x7_2, x8_2, x56_2, rfl, HA, HK2, HO_7, HO_8, HB⟩ := hrel
                have hl7_2 := (zl_ HO_7.out).1
                rw [hl7_2] at HO_7
                (try simp only [hl7_2])
                (try simp only [hl7_2] at HO_8)
                cases gk with
                | zero => exact absurd HA.out (by simp [quietuslaw25_PadsHide.l0])
                | succ k2 =>
                  have H := HA.out
                  clear HA
                  simp only [quietuslaw25_PadsHide.l0] at H
                  by_cases c20 : x56_2 < (y384.length : Int)
                  · rw [if_pos c20] at H
                    have c20b0 : decide (x56_2 < (y384.length : Int)) = true := decide_eq_true c20
                    have c20b3 := c20b0
                    try rw [hl7_2] at c20b3
                    clear c20
                    by_cases c21 : 0 ≤ x56_2
                    · rw [if_pos c21] at H
                      have c21b0 : decide (0 ≤ x56_2) = true := decide_eq_true c21
                      clear c21
                      by_cases c22 : x56_2 < (t390.size : Int)
                      · rw [if_pos c22] at H
                        have c22b0 : decide (x56_2 < (t390.size : Int)) = true := decide_eq_true c22
                        clear c22
                        by_cases c24 : x56_2 < (x7_2.length : Int)
                        · rw [if_pos c24] at H
                          have c24b0 : decide (x56_2 < (x7_2.length : Int)) = true := decide_eq_true c24
                          clear c24
                          obtain ⟨y391, hy391⟩ : ∃ y_ : List Int, y_ = (x7_2.set (x56_2 : Int).toNat (-1)) := ⟨_, rfl⟩
                          replace H : (if x56_2 < (x8_2.length : Int) then (quietuslaw25_PadsHide.l0 k2 a0 a1 a2 y391 (x8_2.set (x56_2 : Int).toNat (wrap64 (bt t390 x56_2))) t390 (y384.length : Int) (wrap64 (x56_2 + 1))) else (none)) = some r := by first | (rw [hy391]; with_reducible exact H) | (have H2_ := (Option.bind_some _ _).symm.trans H; rw [hy391]; with_reducible exact H2_) | (have H2_ := (Option.bind_some _ _).symm.trans H; with_reducible exact H2_) | with_reducible exact H | (rw [hy391]; exact H) | exact H
                          have Ny391 := Aside0.mk hy391
                          clear hy391
                          by_cases c26 : x56_2 < (x8_2.length : Int)
                          · rw [if_pos c26] at H
                            have c26b0 : decide (x56_2 < (x8_2.length : Int)) = true := decide_eq_true c26
                            clear c26
                            obtain ⟨y392, hy392⟩ : ∃ y_ : List Int, y_ = (x8_2.set (x56_2 : Int).toNat (wrap64 (bt t390 x56_2))) := ⟨_, rfl⟩
                            replace H : (quietuslaw25_PadsHide.l0 k2 a0 a1 a2 y391 y392 t390 (y384.length : Int) (wrap64 (x56_2 + 1))) = some r := by first | (rw [hy392]; with_reducible exact H) | (have H2_ := (Option.bind_some _ _).symm.trans H; rw [hy392]; with_reducible exact H2_) | (have H2_ := (Option.bind_some _ _).symm.trans H; with_reducible exact H2_) | with_reducible exact H | (rw [hy392]; exact H) | exact H
                            have Ny392 := Aside0.mk hy392
                            clear hy392
                            have H' := Aside0.mk H
                            clear H
                            try go_wp2
                            have n0_ := Aside0.mk (zc_ HO_7.out)
                            have n1_ := Aside0.mk (zc_ HO_8.out)
                            have n2_ := Aside0.mk (zu_ HB.out)
                            clear HO_7
                            clear HO_8
                            clear HB
                            have HO_7 := n0_
                            have HO_8 := n1_
                            have HB := n2_
                            clear n0_ n1_ n2_
                            have p23 : 0 ≤ (x56_2 : Int) := of_decide_eq_true (by first | (with_reducible assumption) | assumption)
                            have q23 : x56_2 < (t390.size : Int) := of_decide_eq_true (by first | (with_reducible assumption) | assumption)
                            have hx23 := bt_at t390 x56_2
                            replace p23 := eq_true p23
                            replace q23 := eq_true q23
                            have p25 : 0 ≤ (x56_2 : Int) := of_decide_eq_true (by first | (with_reducible assumption) | assumption)
                            have q25 : (x56_2 : Int) < ((x7_2.length : Int) : Int) := of_decide_eq_true (by first | (with_reducible assumption) | assumption)
                            obtain ⟨go25, co25, eo25, gb25, gl25, cl25, HG25⟩ := Kd.R_form HO_7.out (by omega)
                            (first | cases eo25 | (injection eo25 with ea_ en_ ec_; (first | subst ea_ | (injection ea_ with ea_; subst ea_)); subst ec_; clear en_))
                            have GB25 := Aside0.mk gb25
                            have GG25 := Aside0.mk HG25
                            clear gb25 gl25 HG25
                            obtain ⟨hx25_0, hf25_0⟩ := Kd.R_celln 0 HO_7.out (x56_2 : Int) p25 q25
                            replace p25 := eq_true p25
                            replace q25 := eq_true q25
                            have HP29 := Kd.R_putn HO_7.out (x56_2 : Int) (-1)
                            rw [← Ny391.out] at HP29
                            have HQ29 := Aside0.mk HP29
                            clear HP29
                            have p27 : 0 ≤ (x56_2 : Int) := of_decide_eq_true (by first | (with_reducible assumption) | assumption)
                            have q27 : (x56_2 : Int) < ((x8_2.length : Int) : Int) := of_decide_eq_true (by first | (with_reducible assumption) | assumption)
                            obtain ⟨go27, co27, eo27, gb27, gl27, cl27, HG27⟩ := Kd.R_form HO_8.out (by omega)
                            (first | cases eo27 | (injection eo27 with ea_ en_ ec_; (first | subst ea_ | (injection ea_ with ea_; subst ea_)); subst ec_; clear en_))
                            have GB27 := Aside0.mk gb27
                            have GG27 := Aside0.mk HG27
                            clear gb27 gl27 HG27
                            obtain ⟨hx27_0, hf27_0⟩ := Kd.R_celln 0 (ze_ (p := ⟨go25, (x56_2 : Int).toNat, none⟩) (zd_ HO_8.out (fun k_ hk => (⟨hk, fun e_ => hk (by rw [e_]; rfl)⟩ : _ ∧ k_ ≠ go25))) (fun _ hk => hk.2) (.int .i64 (-1))) (x56_2 : Int) p27 q27
                            replace p27 := eq_true p27
                            replace q27 := eq_true q27
                            have HP30 := Kd.R_putn (ze_ (p := ⟨go25, (x56_2 : Int).toNat, none⟩) (zd_ HO_8.out (fun k_ hk => (⟨hk, fun e_ => hk (by rw [e_]; rfl)⟩ : _ ∧ k_ ≠ go25))) (fun _ hk => hk.2) (.int .i64 (-1))) (x56_2 : Int) (wrap64 (bt t390 x56_2))
                            rw [← Ny392.out] at HP30
                            have HQ30 := Aside0.mk HP30
                            clear HP30
                            refine start_ (n := 12) (S := fun w' => True) (ds := [9, 11]) #[false, false, false, false, false, false, false, false, false, false, false, false] (by kernel_rfl) rfl rfl trivial (fun hHeld => ?_); refine with_tabW quietuslaw25_PadsHide.tab11 quietuslaw25_PadsHide.bits11 (fun HT_ HW_ => ?_)
                            generalize wr.drew = w28 at HO_7 HO_8 HB GG25 GG27 HQ29 HQ30 hf25_0 hf27_0 hx25_0 hx27_0 hHeld ⊢
                            refine pure_ (i := 0) (N := some 59) (v := ?_) (a' := ?_) #[true, false, false, false, false, false, false, false, false, false, false, false] rfl rfl (any_of HT_.out (by kernel_rfl)) (fun _ _ _ h => h) (Or.inl ⟨by rfl, ?_⟩) ?_ ?_
                            rotate_left
                            · intro w'
                              go_simp
                              with_reducible rfl
                            rotate_left
                            · simp only [Act.put, List.setIfInBounds_toArray, List.set_cons_zero, List.set_cons_succ, i64_w, i32_w]
                              rfl
                            refine pure_ (i := 1) (N := some 60) (v := ?_) (a' := ?_) #[true, true, false, false, false, false, false, false, false, false, false, false] rfl rfl (any_of HT_.out (by kernel_rfl)) (fun _ _ _ h => h) (Or.inl ⟨by rfl, ?_⟩) ?_ ?_
                            rotate_left
                            · intro w'
                              go_simp
                              with_reducible rfl
                            rotate_left
                            · simp only [Act.put, List.setIfInBounds_toArray, List.set_cons_zero, List.set_cons_succ, i64_w, i32_w]
                              rfl
                            refine pure_ (i := 2) (N := some 61) (v := ?_) (a' := ?_) #[true, true, true, false, false, false, false, false, false, false, false, false] rfl rfl (any_of HT_.out (by kernel_rfl)) (fun _ _ _ h => h) (Or.inl ⟨by rfl, ?_⟩) ?_ ?_
                            rotate_left
                            · intro w'
                              go_simp
                              with_reducible rfl
                            rotate_left
                            · simp only [Act.put, List.setIfInBounds_toArray, List.set_cons_zero, List.set_cons_succ, i64_w, i32_w]
                              rfl
                            refine pure_ (i := 3) (N := some 62) (v := ?_) (a' := ?_) #[true, true, true, true, false, false, false, false, false, false, false, false] rfl rfl (any_of HT_.out (by kernel_rfl)) (fun _ _ _ h => h) (Or.inl ⟨by rfl, ?_⟩) ?_ ?_
                            rotate_left
                            · intro w'
                              go_simp
                              with_reducible rfl
                            rotate_left
                            · simp only [Act.put, List.setIfInBounds_toArray, List.set_cons_zero, List.set_cons_succ, i64_w, i32_w]
                              rfl
                            refine pure_ (i := 4) (N := some 63) (v := ?_) (a' := ?_) #[true, true, true, true, true, false, false, false, false, false, false, false] rfl rfl (any_of HT_.out (by kernel_rfl)) (fun _ _ _ h => h) (Or.inl ⟨by rfl, ?_⟩) ?_ ?_
                            rotate_left
                            · intro w'
                              go_simp
                              with_reducible rfl
                            rotate_left
                            · simp only [Act.put, List.setIfInBounds_toArray, List.set_cons_zero, List.set_cons_succ, i64_w, i32_w]
                              rfl
                            refine pure_ (i := 5) (N := some 64) (v := ?_) (a' := ?_) #[true, true, true, true, true, true, false, false, false, false, false, false] rfl rfl (any_of HT_.out (by kernel_rfl)) (fun _ _ _ h => h) (Or.inl ⟨by rfl, ?_⟩) ?_ ?_
                            rotate_left
                            · intro w'
                              go_simp
                              with_reducible rfl
                            rotate_left
                            · simp only [Act.put, List.setIfInBounds_toArray, List.set_cons_zero, List.set_cons_succ, i64_w, i32_w]
                              rfl
                            refine pure_ (i := 6) (N := some 65) (v := ?_) (a' := ?_) #[true, true, true, true, true, true, true, false, false, false, false, false] rfl rfl (any_of HT_.out (by kernel_rfl)) (fun _ _ _ h => h) (Or.inl ⟨by rfl, ?_⟩) ?_ ?_
                            rotate_left
                            · intro w'
                              go_simp
                              with_reducible rfl
                            rotate_left
                            · simp only [Act.put, List.setIfInBounds_toArray, List.set_cons_zero, List.set_cons_succ, i64_w, i32_w]
                              rfl
                            refine pure_ (i := 7) (N := some 66) (v := ?_) (a' := ?_) #[true, true, true, true, true, true, true, true, false, false, false, false] rfl rfl (any_of HT_.out (by kernel_rfl)) (fun _ _ _ h => h) (Or.inl ⟨by rfl, ?_⟩) ?_ ?_
                            rotate_left
                            · intro w'
                              go_simp
                              with_reducible rfl
                            rotate_left
                            · simp only [Act.put, List.setIfInBounds_toArray, List.set_cons_zero, List.set_cons_succ, i64_w, i32_w]
                              rfl
                            refine pure_ (i := 8) (N := some 67) (v := ?_) (a' := ?_) #[true, true, true, true, true, true, true, true, true, false, false, false] rfl rfl (any_of HT_.out (by kernel_rfl)) (fun _ _ _ h => h) (Or.inl ⟨by rfl, ?_⟩) ?_ ?_
                            rotate_left
                            · intro w'
                              go_simp
                              with_reducible rfl
                            rotate_left
                            · simp only [Act.put, List.setIfInBounds_toArray, List.set_cons_zero, List.set_cons_succ, i64_w, i32_w]
                              rfl
                            refine last_ (i := 9) (N := none) #[true, true, true, true, true, true, true, true, true, true, false, false] rfl rfl (one_of HT_.out (by kernel_rfl)) (by decide) (fun K hK => ?_)
                            refine skip_ (w1 := ?_) (by rfl) rfl ?_ ?_
                            rotate_left
                            · go_simp
                              rfl
                            refine hK.out _ _ ?_
                            clear hK K
                            refine pure_ (i := 10) (N := some 68) (v := ?_) (a' := ?_) #[true, true, true, true, true, true, true, true, true, true, true, false] rfl rfl (any_of HT_.out (by kernel_rfl)) (fun _ _ _ h => h) (Or.inl ⟨by rfl, ?_⟩) ?_ ?_
                            rotate_left
                            · intro w'
                              go_simp
                              with_reducible rfl
                            rotate_left
                            · simp only [Act.put, List.setIfInBounds_toArray, List.set_cons_zero, List.set_cons_succ, i64_w, i32_w]
                              rfl
                            refine last_ (i := 11) (N := none) #[true, true, true, true, true, true, true, true, true, true, true, true] rfl rfl (one_of HT_.out (by kernel_rfl)) (by decide) (fun K hK => ?_)
                            refine skip_ (w1 := ?_) (by rfl) rfl ?_ ?_
                            rotate_left
                            · go_simp
                              rfl
                            refine hK.out _ _ ?_
                            clear hK K
                            refine done_ (done_of HT_.out (by kernel_rfl)) ?_
                            try go_wp2
                            (try simp only [← hl7_2])
                            go_roundg k2
                            case measure => have := HJ3.out; have := HK2.out; omega
                            case rel => exact ⟨(y391), (y392), (wrap64 (x56_2 + 1)), (by first | rfl | (simp; done) | (simp [*]; done)), H', ⟨by have := HJ3.out; have := HK2.out; omega⟩, ⟨by (try simp only [hl7_2]); (with_reducible repeat (first | apply za_ | apply zb_ | apply zc_)); exact zd_ (ze_ (p := ⟨go27, (x56_2 : Int).toNat, none⟩) (zd_ HQ29.out (fun k_ hk => (⟨hk, fun e_ => hk (by rw [e_]; rfl)⟩ : _ ∧ k_ ≠ go27))) (fun _ hk => hk.2) (.int .i64 (wrap64 (bt t390 x56_2)))) (fun _ hk => hk.1)⟩, ⟨by (try simp only [hl7_2]); (with_reducible repeat (first | apply za_ | apply zb_ | apply zc_)); exact zd_ HQ30.out (fun _ hk => hk.1)⟩, ⟨by repeat (first | (with_reducible first | exact HB.out | apply zs_ | apply zt_ | apply zu_ | refine zr_ ?_ GB25.out | refine zr_ ?_ GB27.out) | exact HB.out)⟩⟩
                          · rw [if_neg c26] at H
                            exact absurd H (by simp)
                        · rw [if_neg c24] at H
                          exact absurd H (by simp)
                      · rw [if_neg c22] at H
                        exact absurd H (by simp)
                    · rw [if_neg c21] at H
                      exact absurd H (by simp)
                  · rw [if_neg c20] at H
                    have c20b0 : decide (x56_2 < (y384.length : Int)) = false := decide_eq_false c20
                    have c20b3 := c20b0
                    try rw [hl7_2] at c20b3
                    clear c20
                    obtain ⟨y393, hy393⟩ : ∃ y_ : List ByteArray, y_ = (([a0] : List ByteArray)) := ⟨_, rfl⟩
                    replace H : ((pad_Agree.f k2 y393 (([a1] : List ByteArray)) x7_2).bind fun bt399 => ((pad_Agree.f k2 (([a0] : List ByteArray)) (([a2] : List ByteArray)) x7_2).bind fun bt407 => ((pad_Agree.f k2 (([a0] : List ByteArray)) (([a1] : List ByteArray)) x8_2).bind fun bt415 => ((pad_Cover.f a1 t390).bind fun bt417 => ((pad_Agree.f k2 (([a0, a2] : List ByteArray)) (([a1, a0] : List ByteArray)) x7_2).bind fun bt425 => ((gf_Sum.f a0 a2).bind fun t427 => ((gf_Sum.f a1 a0).bind fun t428 => ((quietuslaw25_sanity.f k2).bind fun t429 => (if t429 = true then (if bt399.1 = 0 then (if bt399.2 = true then (if bt407.1 = 0 then (if bt407.2 = true then (if bt415.1 = 0 then (if bt415.2 = true then (if bt417.2 = 0 then (if bt417.1.toList = a0.toList then (if bt425.1 = 0 then (some (bt425.2 == (t427.toList == t428.toList))) else (none)) else (none)) else (none)) else (none)) else (none)) else (none)) else (none)) else (none)) else (none)) else (none)))))))))) = some r := by first | (rw [hy393]; with_reducible exact H) | (have H2_ := (Option.bind_some _ _).symm.trans H; rw [hy393]; with_reducible exact H2_) | (have H2_ := (Option.bind_some _ _).symm.trans H; with_reducible exact H2_) | with_reducible exact H | (rw [hy393]; exact H) | exact H
                    have Ny393 := Aside0.mk hy393
                    clear hy393
                    obtain ⟨y396, hy396⟩ : ∃ y_ : List ByteArray, y_ = (([a1] : List ByteArray)) := ⟨_, rfl⟩
                    replace H : ((pad_Agree.f k2 y393 y396 x7_2).bind fun bt399 => ((pad_Agree.f k2 (([a0] : List ByteArray)) (([a2] : List ByteArray)) x7_2).bind fun bt407 => ((pad_Agree.f k2 (([a0] : List ByteArray)) (([a1] : List ByteArray)) x8_2).bind fun bt415 => ((pad_Cover.f a1 t390).bind fun bt417 => ((pad_Agree.f k2 (([a0, a2] : List ByteArray)) (([a1, a0] : List ByteArray)) x7_2).bind fun bt425 => ((gf_Sum.f a0 a2).bind fun t427 => ((gf_Sum.f a1 a0).bind fun t428 => ((quietuslaw25_sanity.f k2).bind fun t429 => (if t429 = true then (if bt399.1 = 0 then (if bt399.2 = true then (if bt407.1 = 0 then (if bt407.2 = true then (if bt415.1 = 0 then (if bt415.2 = true then (if bt417.2 = 0 then (if bt417.1.toList = a0.toList then (if bt425.1 = 0 then (some (bt425.2 == (t427.toList == t428.toList))) else (none)) else (none)) else (none)) else (none)) else (none)) else (none)) else (none)) else (none)) else (none)) else (none)))))))))) = some r := by first | (rw [hy396]; with_reducible exact H) | (have H2_ := (Option.bind_some _ _).symm.trans H; rw [hy396]; with_reducible exact H2_) | (have H2_ := (Option.bind_some _ _).symm.trans H; with_reducible exact H2_) | with_reducible exact H | (rw [hy396]; exact H) | exact H
                    have Ny396 := Aside0.mk hy396
                    clear hy396
                    replace H := Option.bind_eq_some_iff.mp H
                    obtain ⟨⟨t399, t400⟩, A310, H⟩ := H
                    replace H : ((pad_Agree.f k2 (([a0] : List ByteArray)) (([a2] : List ByteArray)) x7_2).bind fun bt407 => ((pad_Agree.f k2 (([a0] : List ByteArray)) (([a1] : List ByteArray)) x8_2).bind fun bt415 => ((pad_Cover.f a1 t390).bind fun bt417 => ((pad_Agree.f k2 (([a0, a2] : List ByteArray)) (([a1, a0] : List ByteArray)) x7_2).bind fun bt425 => ((gf_Sum.f a0 a2).bind fun t427 => ((gf_Sum.f a1 a0).bind fun t428 => ((quietuslaw25_sanity.f k2).bind fun t429 => (if t429 = true then (if t399 = 0 then (if t400 = true then (if bt407.1 = 0 then (if bt407.2 = true then (if bt415.1 = 0 then (if bt415.2 = true then (if bt417.2 = 0 then (if bt417.1.toList = a0.toList then (if bt425.1 = 0 then (some (bt425.2 == (t427.toList == t428.toList))) else (none)) else (none)) else (none)) else (none)) else (none)) else (none)) else (none)) else (none)) else (none)) else (none))))))))) = some r := H
                    have A31 := Aside0.mk A310
                    clear A310
                    obtain ⟨y401, hy401⟩ : ∃ y_ : List ByteArray, y_ = (([a0] : List ByteArray)) := ⟨_, rfl⟩
                    replace H : ((pad_Agree.f k2 y401 (([a2] : List ByteArray)) x7_2).bind fun bt407 => ((pad_Agree.f k2 (([a0] : List ByteArray)) (([a1] : List ByteArray)) x8_2).bind fun bt415 => ((pad_Cover.f a1 t390).bind fun bt417 => ((pad_Agree.f k2 (([a0, a2] : List ByteArray)) (([a1, a0] : List ByteArray)) x7_2).bind fun bt425 => ((gf_Sum.f a0 a2).bind fun t427 => ((gf_Sum.f a1 a0).bind fun t428 => ((quietuslaw25_sanity.f k2).bind fun t429 => (if t429 = true then (if t399 = 0 then (if t400 = true then (if bt407.1 = 0 then (if bt407.2 = true then (if bt415.1 = 0 then (if bt415.2 = true then (if bt417.2 = 0 then (if bt417.1.toList = a0.toList then (if bt425.1 = 0 then (some (bt425.2 == (t427.toList == t428.toList))) else (none)) else (none)) else (none)) else (none)) else (none)) else (none)) else (none)) else (none)) else (none)) else (none))))))))) = some r := by first | (rw [hy401]; with_reducible exact H) | (have H2_ := (Option.bind_some _ _).symm.trans H; rw [hy401]; with_reducible exact H2_) | (have H2_ := (Option.bind_some _ _).symm.trans H; with_reducible exact H2_) | with_reducible exact H | (rw [hy401]; exact H) | exact H
                    have Ny401 := Aside0.mk hy401
                    clear hy401
                    obtain ⟨y404, hy404⟩ : ∃ y_ : List ByteArray, y_ = (([a2] : List ByteArray)) := ⟨_, rfl⟩
                    replace H : ((pad_Agree.f k2 y401 y404 x7_2).bind fun bt407 => ((pad_Agree.f k2 (([a0] : List ByteArray)) (([a1] : List ByteArray)) x8_2).bind fun bt415 => ((pad_Cover.f a1 t390).bind fun bt417 => ((pad_Agree.f k2 (([a0, a2] : List ByteArray)) (([a1, a0] : List ByteArray)) x7_2).bind fun bt425 => ((gf_Sum.f a0 a2).bind fun t427 => ((gf_Sum.f a1 a0).bind fun t428 => ((quietuslaw25_sanity.f k2).bind fun t429 => (if t429 = true then (if t399 = 0 then (if t400 = true then (if bt407.1 = 0 then (if bt407.2 = true then (if bt415.1 = 0 then (if bt415.2 = true then (if bt417.2 = 0 then (if bt417.1.toList = a0.toList then (if bt425.1 = 0 then (some (bt425.2 == (t427.toList == t428.toList))) else (none)) else (none)) else (none)) else (none)) else (none)) else (none)) else (none)) else (none)) else (none)) else (none))))))))) = some r := by first | (rw [hy404]; with_reducible exact H) | (have H2_ := (Option.bind_some _ _).symm.trans H; rw [hy404]; with_reducible exact H2_) | (have H2_ := (Option.bind_some _ _).symm.trans H; with_reducible exact H2_) | with_reducible exact H | (rw [hy404]; exact H) | exact H
                    have Ny404 := Aside0.mk hy404
                    clear hy404
                    replace H := Option.bind_eq_some_iff.mp H
                    obtain ⟨⟨t407, t408⟩, A320, H⟩ := H
                    replace H : ((pad_Agree.f k2 (([a0] : List ByteArray)) (([a1] : List ByteArray)) x8_2).bind fun bt415 => ((pad_Cover.f a1 t390).bind fun bt417 => ((pad_Agree.f k2 (([a0, a2] : List ByteArray)) (([a1, a0] : List ByteArray)) x7_2).bind fun bt425 => ((gf_Sum.f a0 a2).bind fun t427 => ((gf_Sum.f a1 a0).bind fun t428 => ((quietuslaw25_sanity.f k2).bind fun t429 => (if t429 = true then (if t399 = 0 then (if t400 = true then (if t407 = 0 then (if t408 = true then (if bt415.1 = 0 then (if bt415.2 = true then (if bt417.2 = 0 then (if bt417.1.toList = a0.toList then (if bt425.1 = 0 then (some (bt425.2 == (t427.toList == t428.toList))) else (none)) else (none)) else (none)) else (none)) else (none)) else (none)) else (none)) else (none)) else (none)) else (none)))))))) = some r := H
                    have A32 := Aside0.mk A320
                    clear A320
                    obtain ⟨y409, hy409⟩ : ∃ y_ : List ByteArray, y_ = (([a0] : List ByteArray)) := ⟨_, rfl⟩
                    replace H : ((pad_Agree.f k2 y409 (([a1] : List ByteArray)) x8_2).bind fun bt415 => ((pad_Cover.f a1 t390).bind fun bt417 => ((pad_Agree.f k2 (([a0, a2] : List ByteArray)) (([a1, a0] : List ByteArray)) x7_2).bind fun bt425 => ((gf_Sum.f a0 a2).bind fun t427 => ((gf_Sum.f a1 a0).bind fun t428 => ((quietuslaw25_sanity.f k2).bind fun t429 => (if t429 = true then (if t399 = 0 then (if t400 = true then (if t407 = 0 then (if t408 = true then (if bt415.1 = 0 then (if bt415.2 = true then (if bt417.2 = 0 then (if bt417.1.toList = a0.toList then (if bt425.1 = 0 then (some (bt425.2 == (t427.toList == t428.toList))) else (none)) else (none)) else (none)) else (none)) else (none)) else (none)) else (none)) else (none)) else (none)) else (none)))))))) = some r := by first | (rw [hy409]; with_reducible exact H) | (have H2_ := (Option.bind_some _ _).symm.trans H; rw [hy409]; with_reducible exact H2_) | (have H2_ := (Option.bind_some _ _).symm.trans H; with_reducible exact H2_) | with_reducible exact H | (rw [hy409]; exact H) | exact H
                    have Ny409 := Aside0.mk hy409
                    clear hy409
                    obtain ⟨y412, hy412⟩ : ∃ y_ : List ByteArray, y_ = (([a1] : List ByteArray)) := ⟨_, rfl⟩
                    replace H : ((pad_Agree.f k2 y409 y412 x8_2).bind fun bt415 => ((pad_Cover.f a1 t390).bind fun bt417 => ((pad_Agree.f k2 (([a0, a2] : List ByteArray)) (([a1, a0] : List ByteArray)) x7_2).bind fun bt425 => ((gf_Sum.f a0 a2).bind fun t427 => ((gf_Sum.f a1 a0).bind fun t428 => ((quietuslaw25_sanity.f k2).bind fun t429 => (if t429 = true then (if t399 = 0 then (if t400 = true then (if t407 = 0 then (if t408 = true then (if bt415.1 = 0 then (if bt415.2 = true then (if bt417.2 = 0 then (if bt417.1.toList = a0.toList then (if bt425.1 = 0 then (some (bt425.2 == (t427.toList == t428.toList))) else (none)) else (none)) else (none)) else (none)) else (none)) else (none)) else (none)) else (none)) else (none)) else (none)))))))) = some r := by first | (rw [hy412]; with_reducible exact H) | (have H2_ := (Option.bind_some _ _).symm.trans H; rw [hy412]; with_reducible exact H2_) | (have H2_ := (Option.bind_some _ _).symm.trans H; with_reducible exact H2_) | with_reducible exact H | (rw [hy412]; exact H) | exact H
                    have Ny412 := Aside0.mk hy412
                    clear hy412
                    replace H := Option.bind_eq_some_iff.mp H
                    obtain ⟨⟨t415, t416⟩, A330, H⟩ := H
                    replace H : ((pad_Cover.f a1 t390).bind fun bt417 => ((pad_Agree.f k2 (([a0, a2] : List ByteArray)) (([a1, a0] : List ByteArray)) x7_2).bind fun bt425 => ((gf_Sum.f a0 a2).bind fun t427 => ((gf_Sum.f a1 a0).bind fun t428 => ((quietuslaw25_sanity.f k2).bind fun t429 => (if t429 = true then (if t399 = 0 then (if t400 = true then (if t407 = 0 then (if t408 = true then (if t415 = 0 then (if t416 = true then (if bt417.2 = 0 then (if bt417.1.toList = a0.toList then (if bt425.1 = 0 then (some (bt425.2 == (t427.toList == t428.toList))) else (none)) else (none)) else (none)) else (none)) else (none)) else (none)) else (none)) else (none)) else (none)) else (none))))))) = some r := H
                    have A33 := Aside0.mk A330
                    clear A330
                    replace H := Option.bind_eq_some_iff.mp H
                    obtain ⟨⟨t417, t418⟩, A340, H⟩ := H
                    replace H : ((pad_Agree.f k2 (([a0, a2] : List ByteArray)) (([a1, a0] : List ByteArray)) x7_2).bind fun bt425 => ((gf_Sum.f a0 a2).bind fun t427 => ((gf_Sum.f a1 a0).bind fun t428 => ((quietuslaw25_sanity.f k2).bind fun t429 => (if t429 = true then (if t399 = 0 then (if t400 = true then (if t407 = 0 then (if t408 = true then (if t415 = 0 then (if t416 = true then (if t418 = 0 then (if t417.toList = a0.toList then (if bt425.1 = 0 then (some (bt425.2 == (t427.toList == t428.toList))) else (none)) else (none)) else (none)) else (none)) else (none)) else (none)) else (none)) else (none)) else (none)) else (none)))))) = some r := H
                    have A34 := Aside0.mk A340
                    clear A340
                    obtain ⟨y419, hy419⟩ : ∃ y_ : List ByteArray, y_ = (([a0, a2] : List ByteArray)) := ⟨_, rfl⟩
                    replace H : ((pad_Agree.f k2 y419 (([a1, a0] : List ByteArray)) x7_2).bind fun bt425 => ((gf_Sum.f a0 a2).bind fun t427 => ((gf_Sum.f a1 a0).bind fun t428 => ((quietuslaw25_sanity.f k2).bind fun t429 => (if t429 = true then (if t399 = 0 then (if t400 = true then (if t407 = 0 then (if t408 = true then (if t415 = 0 then (if t416 = true then (if t418 = 0 then (if t417.toList = a0.toList then (if bt425.1 = 0 then (some (bt425.2 == (t427.toList == t428.toList))) else (none)) else (none)) else (none)) else (none)) else (none)) else (none)) else (none)) else (none)) else (none)) else (none)))))) = some r := by first | (rw [hy419]; with_reducible exact H) | (have H2_ := (Option.bind_some _ _).symm.trans H; rw [hy419]; with_reducible exact H2_) | (have H2_ := (Option.bind_some _ _).symm.trans H; with_reducible exact H2_) | with_reducible exact H | (rw [hy419]; exact H) | exact H
                    have Ny419 := Aside0.mk hy419
                    clear hy419
                    obtain ⟨y422, hy422⟩ : ∃ y_ : List ByteArray, y_ = (([a1, a0] : List ByteArray)) := ⟨_, rfl⟩
                    replace H : ((pad_Agree.f k2 y419 y422 x7_2).bind fun bt425 => ((gf_Sum.f a0 a2).bind fun t427 => ((gf_Sum.f a1 a0).bind fun t428 => ((quietuslaw25_sanity.f k2).bind fun t429 => (if t429 = true then (if t399 = 0 then (if t400 = true then (if t407 = 0 then (if t408 = true then (if t415 = 0 then (if t416 = true then (if t418 = 0 then (if t417.toList = a0.toList then (if bt425.1 = 0 then (some (bt425.2 == (t427.toList == t428.toList))) else (none)) else (none)) else (none)) else (none)) else (none)) else (none)) else (none)) else (none)) else (none)) else (none)))))) = some r := by first | (rw [hy422]; with_reducible exact H) | (have H2_ := (Option.bind_some _ _).symm.trans H; rw [hy422]; with_reducible exact H2_) | (have H2_ := (Option.bind_some _ _).symm.trans H; with_reducible exact H2_) | with_reducible exact H | (rw [hy422]; exact H) | exact H
                    have Ny422 := Aside0.mk hy422
                    clear hy422
                    replace H := Option.bind_eq_some_iff.mp H
                    obtain ⟨⟨t425, t426⟩, A350, H⟩ := H
                    replace H : ((gf_Sum.f a0 a2).bind fun t427 => ((gf_Sum.f a1 a0).bind fun t428 => ((quietuslaw25_sanity.f k2).bind fun t429 => (if t429 = true then (if t399 = 0 then (if t400 = true then (if t407 = 0 then (if t408 = true then (if t415 = 0 then (if t416 = true then (if t418 = 0 then (if t417.toList = a0.toList then (if t425 = 0 then (some (t426 == (t427.toList == t428.toList))) else (none)) else (none)) else (none)) else (none)) else (none)) else (none)) else (none)) else (none)) else (none)) else (none))))) = some r := H
                    have A35 := Aside0.mk A350
                    clear A350
                    replace H := Option.bind_eq_some_iff.mp H
                    obtain ⟨t427, A360, H⟩ := H
                    replace H : ((gf_Sum.f a1 a0).bind fun t428 => ((quietuslaw25_sanity.f k2).bind fun t429 => (if t429 = true then (if t399 = 0 then (if t400 = true then (if t407 = 0 then (if t408 = true then (if t415 = 0 then (if t416 = true then (if t418 = 0 then (if t417.toList = a0.toList then (if t425 = 0 then (some (t426 == (t427.toList == t428.toList))) else (none)) else (none)) else (none)) else (none)) else (none)) else (none)) else (none)) else (none)) else (none)) else (none)))) = some r := H
                    have A36 := Aside0.mk A360
                    clear A360
                    replace H := Option.bind_eq_some_iff.mp H
                    obtain ⟨t428, A370, H⟩ := H
                    replace H : ((quietuslaw25_sanity.f k2).bind fun t429 => (if t429 = true then (if t399 = 0 then (if t400 = true then (if t407 = 0 then (if t408 = true then (if t415 = 0 then (if t416 = true then (if t418 = 0 then (if t417.toList = a0.toList then (if t425 = 0 then (some (t426 == (t427.toList == t428.toList))) else (none)) else (none)) else (none)) else (none)) else (none)) else (none)) else (none)) else (none)) else (none)) else (none))) = some r := H
                    have A37 := Aside0.mk A370
                    clear A370
                    replace H := Option.bind_eq_some_iff.mp H
                    obtain ⟨t429, A380, H⟩ := H
                    replace H : (if t429 = true then (if t399 = 0 then (if t400 = true then (if t407 = 0 then (if t408 = true then (if t415 = 0 then (if t416 = true then (if t418 = 0 then (if t417.toList = a0.toList then (if t425 = 0 then (some (t426 == (t427.toList == t428.toList))) else (none)) else (none)) else (none)) else (none)) else (none)) else (none)) else (none)) else (none)) else (none)) else (none)) = some r := H
                    have A38 := Aside0.mk A380
                    clear A380
                    by_cases c39 : t429 = true
                    · subst c39
                      have H1 : (if t399 = 0 then (if t400 = true then (if t407 = 0 then (if t408 = true then (if t415 = 0 then (if t416 = true then (if t418 = 0 then (if t417.toList = a0.toList then (if t425 = 0 then (some (t426 == (t427.toList == t428.toList))) else (none)) else (none)) else (none)) else (none)) else (none)) else (none)) else (none)) else (none)) else (none)) = some r := by rw [if_pos rfl] at H; exact H
                      clear H
                      have H := H1
                      clear H1
                      by_cases c40 : t399 = 0
                      · rw [if_pos c40] at H
                        have c40b0 : (t399 == 0) = true := beq_iff_eq.mpr c40
                        have c40b1 : (t399 != 0) = false := bne_eq_false_iff_eq.mpr c40
                        clear c40
                        by_cases c41 : t400 = true
                        · subst c41
                          have H1 : (if t407 = 0 then (if t408 = true then (if t415 = 0 then (if t416 = true then (if t418 = 0 then (if t417.toList = a0.toList then (if t425 = 0 then (some (t426 == (t427.toList == t428.toList))) else (none)) else (none)) else (none)) else (none)) else (none)) else (none)) else (none)) = some r := by rw [if_pos rfl] at H; exact H
                          clear H
                          have H := H1
                          clear H1
                          by_cases c42 : t407 = 0
                          · rw [if_pos c42] at H
                            have c42b0 : (t407 == 0) = true := beq_iff_eq.mpr c42
                            have c42b1 : (t407 != 0) = false := bne_eq_false_iff_eq.mpr c42
                            clear c42
                            by_cases c43 : t408 = true
                            · subst c43
                              have H1 : (if t415 = 0 then (if t416 = true then (if t418 = 0 then (if t417.toList = a0.toList then (if t425 = 0 then (some (t426 == (t427.toList == t428.toList))) else (none)) else (none)) else (none)) else (none)) else (none)) = some r := by rw [if_pos rfl] at H; exact H
                              clear H
                              have H := H1
                              clear H1
                              by_cases c44 : t415 = 0
                              · rw [if_pos c44] at H
                                have c44b0 : (t415 == 0) = true := beq_iff_eq.mpr c44
                                have c44b1 : (t415 != 0) = false := bne_eq_false_iff_eq.mpr c44
                                clear c44
                                by_cases c45 : t416 = true
                                · subst c45
                                  have H1 : (if t418 = 0 then (if t417.toList = a0.toList then (if t425 = 0 then (some (t426 == (t427.toList == t428.toList))) else (none)) else (none)) else (none)) = some r := by rw [if_pos rfl] at H; exact H
                                  clear H
                                  have H := H1
                                  clear H1
                                  by_cases c46 : t418 = 0
                                  · rw [if_pos c46] at H
                                    have c46b0 : (t418 == 0) = true := beq_iff_eq.mpr c46
                                    have c46b1 : (t418 != 0) = false := bne_eq_false_iff_eq.mpr c46
                                    clear c46
                                    by_cases c47 : t417.toList = a0.toList
                                    · rw [if_pos c47] at H
                                      have c47b0 : (t417.toList == a0.toList) = true := beq_iff_eq.mpr c47
                                      have c47b1 : (t417.toList != a0.toList) = false := bne_eq_false_iff_eq.mpr c47
                                      clear c47
                                      by_cases c48 : t425 = 0
                                      · rw [if_pos c48] at H
                                        have c48b0 : (t425 == 0) = true := beq_iff_eq.mpr c48
                                        have c48b1 : (t425 != 0) = false := bne_eq_false_iff_eq.mpr c48
                                        clear c48
                                        obtain rfl := Option.some.inj H
                                        go_wp2_with (first | ((with_reducible refine gate_dst (N := 72) rfl ?_); (try (refine gate_guard (by rfl) ?_; dsimp only)); refine Kd.R_lit Kd.string _ 9 ?hg (N := 72) ?hd (xs := ([a0] : List ByteArray)) (inner := [.string a0]) (ok := fun _ => True) (okp := fun _ => True) ?hr ?hp (fun _ hk => hk) trivial (Below.refl _ _) (Nat.le_refl _) (by simp) ?_; (case hd => rfl); (case hg => rfl); (case hr => first | (go_simp; done) | (go_simp; rfl)); (case hp => exact (Reps.one (show Kd.M Kd.string _ _ _ a0 [.string a0] from rfl) (Reps.none _ _))); intro v394 w49 ho50 hb hg_ hnew_; clear hg_ hnew_; (first | rw [← Ny393.out] at ho50 | (simp only [Int.reduceToNat] at ho50; rw [← Ny393.out] at ho50)); have n0_ := Aside0.mk (Kd.R_below (by (with_reducible repeat (first | apply za_ | apply zb_ | apply zc_)); exact HO_7.out) hb); have n1_ := Aside0.mk (Kd.R_below (by (with_reducible repeat (first | apply za_ | apply zb_ | apply zc_)); exact HO_8.out) hb); have n2_ := Aside0.mk (zg_ ho50 (zw_ (by repeat (first | (with_reducible first | exact HB.out | apply zs_ | apply zt_ | apply zu_) | exact HB.out)))); have n3_ := Aside0.mk (zv_ (by repeat (first | (with_reducible first | exact HB.out | apply zs_ | apply zt_ | apply zu_) | exact HB.out)) hb); clear HO_7; clear HO_8; clear HB; have HO_7 := n0_; have HO_8 := n1_; have HO395 := n2_; have HB := n3_; clear n0_ n1_ n2_ n3_; clear hb ho50) | ((with_reducible refine gate_dst (N := 74) rfl ?_); (try (refine gate_guard (by rfl) ?_; dsimp only)); refine Kd.R_lit Kd.string _ 9 ?hg (N := 74) ?hd (xs := ([a1] : List ByteArray)) (inner := [.string a1]) (ok := fun _ => True) (okp := fun _ => True) ?hr ?hp (fun _ hk => hk) trivial (Below.refl _ _) (Nat.le_refl _) (by simp) ?_; (case hd => rfl); (case hg => rfl); (case hr => first | (go_simp; done) | (go_simp; rfl)); (case hp => exact (Reps.one (show Kd.M Kd.string _ _ _ a1 [.string a1] from rfl) (Reps.none _ _))); intro v397 w51 ho52 hb hg_ hnew_; clear hg_ hnew_; (first | rw [← Ny396.out] at ho52 | (simp only [Int.reduceToNat] at ho52; rw [← Ny396.out] at ho52)); have n0_ := Aside0.mk (Kd.R_below (by (with_reducible repeat (first | apply za_ | apply zb_ | apply zc_)); exact HO_7.out) hb); have n1_ := Aside0.mk (Kd.R_below (by (with_reducible repeat (first | apply za_ | apply zb_ | apply zc_)); exact HO_8.out) hb); have n2_ := Aside0.mk (zj_ (by (with_reducible repeat (first | apply za_ | apply zb_ | apply zc_)); exact HO395.out) (zk_ ho52) hb); have n3_ := Aside0.mk (zg_ (zh_ ho52 (zi_ (by (with_reducible repeat (first | apply za_ | apply zb_ | apply zc_)); exact HO395.out))) (zw_ (by repeat (first | (with_reducible first | exact HB.out | apply zs_ | apply zt_ | apply zu_) | exact HB.out)))); have n4_ := Aside0.mk (zv_ (by repeat (first | (with_reducible first | exact HB.out | apply zs_ | apply zt_ | apply zu_) | exact HB.out)) hb); clear HO_7; clear HO_8; clear HO395; clear HB; have HO_7 := n0_; have HO_8 := n1_; have HO395 := n2_; have HO398 := n3_; have HB := n4_; clear n0_ n1_ n2_ n3_ n4_; clear hb ho52; obtain ⟨Ao53, co53, eo53⟩ := Kd.R_slice HO395.out; subst eo53; obtain ⟨Ao54, co54, eo54⟩ := Kd.R_slice HO398.out; subst eo54) | ((with_reducible refine gate_callee (f := 19) rfl ?_); refine goesL_ (some 76) rfl rfl Try.func19 (by kernel_rfl) rfl #[.slice Ao53 y393.length co53, .slice Ao54 y396.length co54, .slice Ao19 x7_2.length co19] rfl (by (try simp only [List.map_toArray, List.map_cons, List.map_nil]); first | done | rfl | (simp only [List.length_drop, List.length_take]; rfl)) ?_; (with_reducible refine (pad_Agree.calls k2 _ _ y393 _ _ y396 _ _ x7_2 t399 true _ ?side1 ?side2 ?side3 ?side4 ?side5 ?side6 A31.out).mono ?_); (case side1 => repeat (first | exact (zl_ HO395.out).2.2 | (with_reducible refine Kd.C_alloc ?_ _) | (with_reducible refine Kd.C_drewN ?_ _) | (with_reducible refine Kd.C_drew ?_))); (case side2 => exact (zl_ HO395.out).2.1); (case side3 => repeat (first | exact (zl_ HO398.out).2.2 | (with_reducible refine Kd.C_alloc ?_ _) | (with_reducible refine Kd.C_drewN ?_ _) | (with_reducible refine Kd.C_drew ?_))); (case side4 => exact (zl_ HO398.out).2.1); (case side5 => repeat (first | exact (zl_ HO_7.out).2.2 | (with_reducible refine Kd.C_alloc ?_ _) | (with_reducible refine Kd.C_drewN ?_ _) | (with_reducible refine Kd.C_drew ?_))); (case side6 => exact (zl_ HO_7.out).2.1); rintro e w' ⟨rfl, ⟨nd, rfl⟩⟩; refine ⟨_, rfl, ?_⟩) | ((with_reducible refine gate_dst (N := 81) rfl ?_); (try (refine gate_guard (by rfl) ?_; dsimp only)); refine Kd.R_lit Kd.string _ 9 ?hg (N := 81) ?hd (xs := ([a0] : List ByteArray)) (inner := [.string a0]) (ok := fun _ => True) (okp := fun _ => True) ?hr ?hp (fun _ hk => hk) trivial (Below.refl _ _) (Nat.le_refl _) (by simp) ?_; (case hd => rfl); (case hg => rfl); (case hr => first | (go_simp; done) | (go_simp; rfl)); (case hp => exact (Reps.one (show Kd.M Kd.string _ _ _ a0 [.string a0] from rfl) (Reps.none _ _))); intro v402 w55 ho56 hb hg_ hnew_; clear hg_ hnew_; (first | rw [← Ny401.out] at ho56 | (simp only [Int.reduceToNat] at ho56; rw [← Ny401.out] at ho56)); have n0_ := Aside0.mk (Kd.R_below (by (with_reducible repeat (first | apply za_ | apply zb_ | apply zc_)); exact HO_7.out) hb); have n1_ := Aside0.mk (Kd.R_below (by (with_reducible repeat (first | apply za_ | apply zb_ | apply zc_)); exact HO_8.out) hb); have n2_ := Aside0.mk (zj_ (by (with_reducible repeat (first | apply za_ | apply zb_ | apply zc_)); exact HO395.out) (zk_ ho56) hb); have n3_ := Aside0.mk (zj_ (by (with_reducible repeat (first | apply za_ | apply zb_ | apply zc_)); exact HO398.out) (zk_ ho56) hb); have n4_ := Aside0.mk (zg_ (zh_ (zh_ ho56 (zi_ (by (with_reducible repeat (first | apply za_ | apply zb_ | apply zc_)); exact HO395.out))) (zi_ (by (with_reducible repeat (first | apply za_ | apply zb_ | apply zc_)); exact HO398.out))) (zw_ (by repeat (first | (with_reducible first | exact HB.out | apply zs_ | apply zt_ | apply zu_) | exact HB.out)))); have n5_ := Aside0.mk (zv_ (by repeat (first | (with_reducible first | exact HB.out | apply zs_ | apply zt_ | apply zu_) | exact HB.out)) hb); clear HO_7; clear HO_8; clear HO395; clear HO398; clear HB; have HO_7 := n0_; have HO_8 := n1_; have HO395 := n2_; have HO398 := n3_; have HO403 := n4_; have HB := n5_; clear n0_ n1_ n2_ n3_ n4_ n5_; clear hb ho56) | ((with_reducible refine gate_dst (N := 83) rfl ?_); (try (refine gate_guard (by rfl) ?_; dsimp only)); refine Kd.R_lit Kd.string _ 9 ?hg (N := 83) ?hd (xs := ([a2] : List ByteArray)) (inner := [.string a2]) (ok := fun _ => True) (okp := fun _ => True) ?hr ?hp (fun _ hk => hk) trivial (Below.refl _ _) (Nat.le_refl _) (by simp) ?_; (case hd => rfl); (case hg => rfl); (case hr => first | (go_simp; done) | (go_simp; rfl)); (case hp => exact (Reps.one (show Kd.M Kd.string _ _ _ a2 [.string a2] from rfl) (Reps.none _ _))); intro v405 w57 ho58 hb hg_ hnew_; clear hg_ hnew_; (first | rw [← Ny404.out] at ho58 | (simp only [Int.reduceToNat] at ho58; rw [← Ny404.out] at ho58)); have n0_ := Aside0.mk (Kd.R_below (by (with_reducible repeat (first | apply za_ | apply zb_ | apply zc_)); exact HO_7.out) hb); have n1_ := Aside0.mk (Kd.R_below (by (with_reducible repeat (first | apply za_ | apply zb_ | apply zc_)); exact HO_8.out) hb); have n2_ := Aside0.mk (zj_ (by (with_reducible repeat (first | apply za_ | apply zb_ | apply zc_)); exact HO395.out) (zk_ ho58) hb); have n3_ := Aside0.mk (zj_ (by (with_reducible repeat (first | apply za_ | apply zb_ | apply zc_)); exact HO398.out) (zk_ ho58) hb); have n4_ := Aside0.mk (zj_ (by (with_reducible repeat (first | apply za_ | apply zb_ | apply zc_)); exact HO403.out) (zk_ ho58) hb); have n5_ := Aside0.mk (zg_ (zh_ (zh_ (zh_ ho58 (zi_ (by (with_reducible repeat (first | apply za_ | apply zb_ | apply zc_)); exact HO395.out))) (zi_ (by (with_reducible repeat (first | apply za_ | apply zb_ | apply zc_)); exact HO398.out))) (zi_ (by (with_reducible repeat (first | apply za_ | apply zb_ | apply zc_)); exact HO403.out))) (zw_ (by repeat (first | (with_reducible first | exact HB.out | apply zs_ | apply zt_ | apply zu_) | exact HB.out)))); have n6_ := Aside0.mk (zv_ (by repeat (first | (with_reducible first | exact HB.out | apply zs_ | apply zt_ | apply zu_) | exact HB.out)) hb); clear HO_7; clear HO_8; clear HO395; clear HO398; clear HO403; clear HB; have HO_7 := n0_; have HO_8 := n1_; have HO395 := n2_; have HO398 := n3_; have HO403 := n4_; have HO406 := n5_; have HB := n6_; clear n0_ n1_ n2_ n3_ n4_ n5_ n6_; clear hb ho58; obtain ⟨Ao59, co59, eo59⟩ := Kd.R_slice HO403.out; subst eo59; obtain ⟨Ao60, co60, eo60⟩ := Kd.R_slice HO406.out; subst eo60) | ((with_reducible refine gate_callee (f := 19) rfl ?_); refine goesL_ (some 85) rfl rfl Try.func19 (by kernel_rfl) rfl #[.slice Ao59 y401.length co59, .slice Ao60 y404.length co60, .slice Ao19 x7_2.length co19] rfl (by (try simp only [List.map_toArray, List.map_cons, List.map_nil]); first | done | rfl | (simp only [List.length_drop, List.length_take]; rfl)) ?_; (with_reducible refine (pad_Agree.calls k2 _ _ y401 _ _ y404 _ _ x7_2 t407 true _ ?side1 ?side2 ?side3 ?side4 ?side5 ?side6 A32.out).mono ?_); (case side1 => repeat (first | exact (zl_ HO403.out).2.2 | (with_reducible refine Kd.C_alloc ?_ _) | (with_reducible refine Kd.C_drewN ?_ _) | (with_reducible refine Kd.C_drew ?_))); (case side2 => exact (zl_ HO403.out).2.1); (case side3 => repeat (first | exact (zl_ HO406.out).2.2 | (with_reducible refine Kd.C_alloc ?_ _) | (with_reducible refine Kd.C_drewN ?_ _) | (with_reducible refine Kd.C_drew ?_))); (case side4 => exact (zl_ HO406.out).2.1); (case side5 => repeat (first | exact (zl_ HO_7.out).2.2 | (with_reducible refine Kd.C_alloc ?_ _) | (with_reducible refine Kd.C_drewN ?_ _) | (with_reducible refine Kd.C_drew ?_))); (case side6 => exact (zl_ HO_7.out).2.1); rintro e w' ⟨rfl, ⟨nd, rfl⟩⟩; refine ⟨_, rfl, ?_⟩) | ((with_reducible refine gate_dst (N := 90) rfl ?_); (try (refine gate_guard (by rfl) ?_; dsimp only)); refine Kd.R_lit Kd.string _ 9 ?hg (N := 90) ?hd (xs := ([a0] : List ByteArray)) (inner := [.string a0]) (ok := fun _ => True) (okp := fun _ => True) ?hr ?hp (fun _ hk => hk) trivial (Below.refl _ _) (Nat.le_refl _) (by simp) ?_; (case hd => rfl); (case hg => rfl); (case hr => first | (go_simp; done) | (go_simp; rfl)); (case hp => exact (Reps.one (show Kd.M Kd.string _ _ _ a0 [.string a0] from rfl) (Reps.none _ _))); intro v410 w61 ho62 hb hg_ hnew_; clear hg_ hnew_; (first | rw [← Ny409.out] at ho62 | (simp only [Int.reduceToNat] at ho62; rw [← Ny409.out] at ho62)); have n0_ := Aside0.mk (Kd.R_below (by (with_reducible repeat (first | apply za_ | apply zb_ | apply zc_)); exact HO_7.out) hb); have n1_ := Aside0.mk (Kd.R_below (by (with_reducible repeat (first | apply za_ | apply zb_ | apply zc_)); exact HO_8.out) hb); have n2_ := Aside0.mk (zj_ (by (with_reducible repeat (first | apply za_ | apply zb_ | apply zc_)); exact HO395.out) (zk_ ho62) hb); have n3_ := Aside0.mk (zj_ (by (with_reducible repeat (first | apply za_ | apply zb_ | apply zc_)); exact HO398.out) (zk_ ho62) hb); have n4_ := Aside0.mk (zj_ (by (with_reducible repeat (first | apply za_ | apply zb_ | apply zc_)); exact HO403.out) (zk_ ho62) hb); have n5_ := Aside0.mk (zj_ (by (with_reducible repeat (first | apply za_ | apply zb_ | apply zc_)); exact HO406.out) (zk_ ho62) hb); have n6_ := Aside0.mk (zg_ (zh_ (zh_ (zh_ (zh_ ho62 (zi_ (by (with_reducible repeat (first | apply za_ | apply zb_ | apply zc_)); exact HO395.out))) (zi_ (by (with_reducible repeat (first | apply za_ | apply zb_ | apply zc_)); exact HO398.out))) (zi_ (by (with_reducible repeat (first | apply za_ | apply zb_ | apply zc_)); exact HO403.out))) (zi_ (by (with_reducible repeat (first | apply za_ | apply zb_ | apply zc_)); exact HO406.out))) (zw_ (by repeat (first | (with_reducible first | exact HB.out | apply zs_ | apply zt_ | apply zu_) | exact HB.out)))); have n7_ := Aside0.mk (zv_ (by repeat (first | (with_reducible first | exact HB.out | apply zs_ | apply zt_ | apply zu_) | exact HB.out)) hb); clear HO_7; clear HO_8; clear HO395; clear HO398; clear HO403; clear HO406; clear HB; have HO_7 := n0_; have HO_8 := n1_; have HO395 := n2_; have HO398 := n3_; have HO403 := n4_; have HO406 := n5_; have HO411 := n6_; have HB := n7_; clear n0_ n1_ n2_ n3_ n4_ n5_ n6_ n7_; clear hb ho62) | ((with_reducible refine gate_dst (N := 92) rfl ?_); (try (refine gate_guard (by rfl) ?_; dsimp only)); refine Kd.R_lit Kd.string _ 9 ?hg (N := 92) ?hd (xs := ([a1] : List ByteArray)) (inner := [.string a1]) (ok := fun _ => True) (okp := fun _ => True) ?hr ?hp (fun _ hk => hk) trivial (Below.refl _ _) (Nat.le_refl _) (by simp) ?_; (case hd => rfl); (case hg => rfl); (case hr => first | (go_simp; done) | (go_simp; rfl)); (case hp => exact (Reps.one (show Kd.M Kd.string _ _ _ a1 [.string a1] from rfl) (Reps.none _ _))); intro v413 w63 ho64 hb hg_ hnew_; clear hg_ hnew_; (first | rw [← Ny412.out] at ho64 | (simp only [Int.reduceToNat] at ho64; rw [← Ny412.out] at ho64)); have n0_ := Aside0.mk (Kd.R_below (by (with_reducible repeat (first | apply za_ | apply zb_ | apply zc_)); exact HO_7.out) hb); have n1_ := Aside0.mk (Kd.R_below (by (with_reducible repeat (first | apply za_ | apply zb_ | apply zc_)); exact HO_8.out) hb); have n2_ := Aside0.mk (zj_ (by (with_reducible repeat (first | apply za_ | apply zb_ | apply zc_)); exact HO395.out) (zk_ ho64) hb); have n3_ := Aside0.mk (zj_ (by (with_reducible repeat (first | apply za_ | apply zb_ | apply zc_)); exact HO398.out) (zk_ ho64) hb); have n4_ := Aside0.mk (zj_ (by (with_reducible repeat (first | apply za_ | apply zb_ | apply zc_)); exact HO403.out) (zk_ ho64) hb); have n5_ := Aside0.mk (zj_ (by (with_reducible repeat (first | apply za_ | apply zb_ | apply zc_)); exact HO406.out) (zk_ ho64) hb); have n6_ := Aside0.mk (zj_ (by (with_reducible repeat (first | apply za_ | apply zb_ | apply zc_)); exact HO411.out) (zk_ ho64) hb); have n7_ := Aside0.mk (zg_ (zh_ (zh_ (zh_ (zh_ (zh_ ho64 (zi_ (by (with_reducible repeat (first | apply za_ | apply zb_ | apply zc_)); exact HO395.out))) (zi_ (by (with_reducible repeat (first | apply za_ | apply zb_ | apply zc_)); exact HO398.out))) (zi_ (by (with_reducible repeat (first | apply za_ | apply zb_ | apply zc_)); exact HO403.out))) (zi_ (by (with_reducible repeat (first | apply za_ | apply zb_ | apply zc_)); exact HO406.out))) (zi_ (by (with_reducible repeat (first | apply za_ | apply zb_ | apply zc_)); exact HO411.out))) (zw_ (by repeat (first | (with_reducible first | exact HB.out | apply zs_ | apply zt_ | apply zu_) | exact HB.out)))); have n8_ := Aside0.mk (zv_ (by repeat (first | (with_reducible first | exact HB.out | apply zs_ | apply zt_ | apply zu_) | exact HB.out)) hb); clear HO_7; clear HO_8; clear HO395; clear HO398; clear HO403; clear HO406; clear HO411; clear HB; have HO_7 := n0_; have HO_8 := n1_; have HO395 := n2_; have HO398 := n3_; have HO403 := n4_; have HO406 := n5_; have HO411 := n6_; have HO414 := n7_; have HB := n8_; clear n0_ n1_ n2_ n3_ n4_ n5_ n6_ n7_ n8_; clear hb ho64; obtain ⟨Ao65, co65, eo65⟩ := Kd.R_slice HO411.out; subst eo65; obtain ⟨Ao66, co66, eo66⟩ := Kd.R_slice HO414.out; subst eo66; obtain ⟨Ao67, co67, eo67⟩ := Kd.R_slice HO_8.out; subst eo67) | ((with_reducible refine gate_callee (f := 19) rfl ?_); refine goesL_ (some 94) rfl rfl Try.func19 (by kernel_rfl) rfl #[.slice Ao65 y409.length co65, .slice Ao66 y412.length co66, .slice Ao67 x8_2.length co67] rfl (by (try simp only [List.map_toArray, List.map_cons, List.map_nil]); first | done | rfl | (simp only [List.length_drop, List.length_take]; rfl)) ?_; (with_reducible refine (pad_Agree.calls k2 _ _ y409 _ _ y412 _ _ x8_2 t415 true _ ?side1 ?side2 ?side3 ?side4 ?side5 ?side6 A33.out).mono ?_); (case side1 => repeat (first | exact (zl_ HO411.out).2.2 | (with_reducible refine Kd.C_alloc ?_ _) | (with_reducible refine Kd.C_drewN ?_ _) | (with_reducible refine Kd.C_drew ?_))); (case side2 => exact (zl_ HO411.out).2.1); (case side3 => repeat (first | exact (zl_ HO414.out).2.2 | (with_reducible refine Kd.C_alloc ?_ _) | (with_reducible refine Kd.C_drewN ?_ _) | (with_reducible refine Kd.C_drew ?_))); (case side4 => exact (zl_ HO414.out).2.1); (case side5 => repeat (first | exact (zl_ HO_8.out).2.2 | (with_reducible refine Kd.C_alloc ?_ _) | (with_reducible refine Kd.C_drewN ?_ _) | (with_reducible refine Kd.C_drew ?_))); (case side6 => exact (zl_ HO_8.out).2.1); rintro e w' ⟨rfl, ⟨nd, rfl⟩⟩; refine ⟨_, rfl, ?_⟩) | ((with_reducible refine gate_callee (f := 17) rfl ?_); refine goesL_ (some 100) rfl rfl Try.func17 (by kernel_rfl) rfl #[.string a1, .string t390] rfl (by (try simp only [List.map_toArray, List.map_cons, List.map_nil]); first | done | rfl | (simp only [List.length_drop, List.length_take]; rfl)) ?_; (with_reducible refine (pad_Cover.calls a1 t390 t417 t418 _ A34.out).mono ?_); rintro e w68 ⟨rfl, hb⟩; refine ⟨_, rfl, ?_⟩; have n0_ := Aside0.mk (Kd.R_below (by (with_reducible repeat (first | apply za_ | apply zb_ | apply zc_)); exact HO_7.out) hb); have n1_ := Aside0.mk (Kd.R_below (by (with_reducible repeat (first | apply za_ | apply zb_ | apply zc_)); exact HO_8.out) hb); have n2_ := Aside0.mk (Kd.R_below (by (with_reducible repeat (first | apply za_ | apply zb_ | apply zc_)); exact HO395.out) hb); have n3_ := Aside0.mk (Kd.R_below (by (with_reducible repeat (first | apply za_ | apply zb_ | apply zc_)); exact HO398.out) hb); have n4_ := Aside0.mk (Kd.R_below (by (with_reducible repeat (first | apply za_ | apply zb_ | apply zc_)); exact HO403.out) hb); have n5_ := Aside0.mk (Kd.R_below (by (with_reducible repeat (first | apply za_ | apply zb_ | apply zc_)); exact HO406.out) hb); have n6_ := Aside0.mk (Kd.R_below (by (with_reducible repeat (first | apply za_ | apply zb_ | apply zc_)); exact HO411.out) hb); have n7_ := Aside0.mk (Kd.R_below (by (with_reducible repeat (first | apply za_ | apply zb_ | apply zc_)); exact HO414.out) hb); have n8_ := Aside0.mk (zv_ (by repeat (first | (with_reducible first | exact HB.out | apply zs_ | apply zt_ | apply zu_) | exact HB.out)) hb); clear HO_7; clear HO_8; clear HO395; clear HO398; clear HO403; clear HO406; clear HO411; clear HO414; clear HB; have HO_7 := n0_; have HO_8 := n1_; have HO395 := n2_; have HO398 := n3_; have HO403 := n4_; have HO406 := n5_; have HO411 := n6_; have HO414 := n7_; have HB := n8_; clear n0_ n1_ n2_ n3_ n4_ n5_ n6_ n7_ n8_; (try clear hb); (try clear hb2); (try clear hk); (try clear hi)) | ((with_reducible refine gate_dst (N := 106) rfl ?_); (try (refine gate_guard (by rfl) ?_; dsimp only)); refine Kd.R_lit Kd.string _ 9 ?hg (N := 106) ?hd (xs := ([a0, a2] : List ByteArray)) (inner := [.string a0, .string a2]) (ok := fun _ => True) (okp := fun _ => True) ?hr ?hp (fun _ hk => hk) trivial (Below.refl _ _) (Nat.le_refl _) (by simp) ?_; (case hd => rfl); (case hg => rfl); (case hr => first | (go_simp; done) | (go_simp; rfl)); (case hp => exact (Reps.one (show Kd.M Kd.string _ _ _ a0 [.string a0] from rfl) (Reps.one (show Kd.M Kd.string _ _ _ a2 [.string a2] from rfl) (Reps.none _ _)))); intro v420 w69 ho70 hb hg_ hnew_; clear hg_ hnew_; (first | rw [← Ny419.out] at ho70 | (simp only [Int.reduceToNat] at ho70; rw [← Ny419.out] at ho70)); have n0_ := Aside0.mk (Kd.R_below (by (with_reducible repeat (first | apply za_ | apply zb_ | apply zc_)); exact HO_7.out) hb); have n1_ := Aside0.mk (Kd.R_below (by (with_reducible repeat (first | apply za_ | apply zb_ | apply zc_)); exact HO_8.out) hb); have n2_ := Aside0.mk (zj_ (by (with_reducible repeat (first | apply za_ | apply zb_ | apply zc_)); exact HO395.out) (zk_ ho70) hb); have n3_ := Aside0.mk (zj_ (by (with_reducible repeat (first | apply za_ | apply zb_ | apply zc_)); exact HO398.out) (zk_ ho70) hb); have n4_ := Aside0.mk (zj_ (by (with_reducible repeat (first | apply za_ | apply zb_ | apply zc_)); exact HO403.out) (zk_ ho70) hb); have n5_ := Aside0.mk (zj_ (by (with_reducible repeat (first | apply za_ | apply zb_ | apply zc_)); exact HO406.out) (zk_ ho70) hb); have n6_ := Aside0.mk (zj_ (by (with_reducible repeat (first | apply za_ | apply zb_ | apply zc_)); exact HO411.out) (zk_ ho70) hb); have n7_ := Aside0.mk (zj_ (by (with_reducible repeat (first | apply za_ | apply zb_ | apply zc_)); exact HO414.out) (zk_ ho70) hb); have n8_ := Aside0.mk (zg_ (zh_ (zh_ (zh_ (zh_ (zh_ (zh_ ho70 (zi_ (by (with_reducible repeat (first | apply za_ | apply zb_ | apply zc_)); exact HO395.out))) (zi_ (by (with_reducible repeat (first | apply za_ | apply zb_ | apply zc_)); exact HO398.out))) (zi_ (by (with_reducible repeat (first | apply za_ | apply zb_ | apply zc_)); exact HO403.out))) (zi_ (by (with_reducible repeat (first | apply za_ | apply zb_ | apply zc_)); exact HO406.out))) (zi_ (by (with_reducible repeat (first | apply za_ | apply zb_ | apply zc_)); exact HO411.out))) (zi_ (by (with_reducible repeat (first | apply za_ | apply zb_ | apply zc_)); exact HO414.out))) (zw_ (by repeat (first | (with_reducible first | exact HB.out | apply zs_ | apply zt_ | apply zu_) | exact HB.out)))); have n9_ := Aside0.mk (zv_ (by repeat (first | (with_reducible first | exact HB.out | apply zs_ | apply zt_ | apply zu_) | exact HB.out)) hb); clear HO_7; clear HO_8; clear HO395; clear HO398; clear HO403; clear HO406; clear HO411; clear HO414; clear HB; have HO_7 := n0_; have HO_8 := n1_; have HO395 := n2_; have HO398 := n3_; have HO403 := n4_; have HO406 := n5_; have HO411 := n6_; have HO414 := n7_; have HO421 := n8_; have HB := n9_; clear n0_ n1_ n2_ n3_ n4_ n5_ n6_ n7_ n8_ n9_; clear hb ho70) | ((with_reducible refine gate_dst (N := 109) rfl ?_); (try (refine gate_guard (by rfl) ?_; dsimp only)); refine Kd.R_lit Kd.string _ 9 ?hg (N := 109) ?hd (xs := ([a1, a0] : List ByteArray)) (inner := [.string a1, .string a0]) (ok := fun _ => True) (okp := fun _ => True) ?hr ?hp (fun _ hk => hk) trivial (Below.refl _ _) (Nat.le_refl _) (by simp) ?_; (case hd => rfl); (case hg => rfl); (case hr => first | (go_simp; done) | (go_simp; rfl)); (case hp => exact (Reps.one (show Kd.M Kd.string _ _ _ a1 [.string a1] from rfl) (Reps.one (show Kd.M Kd.string _ _ _ a0 [.string a0] from rfl) (Reps.none _ _)))); intro v423 w71 ho72 hb hg_ hnew_; clear hg_ hnew_; (first | rw [← Ny422.out] at ho72 | (simp only [Int.reduceToNat] at ho72; rw [← Ny422.out] at ho72)); have n0_ := Aside0.mk (Kd.R_below (by (with_reducible repeat (first | apply za_ | apply zb_ | apply zc_)); exact HO_7.out) hb); have n1_ := Aside0.mk (Kd.R_below (by (with_reducible repeat (first | apply za_ | apply zb_ | apply zc_)); exact HO_8.out) hb); have n2_ := Aside0.mk (zj_ (by (with_reducible repeat (first | apply za_ | apply zb_ | apply zc_)); exact HO395.out) (zk_ ho72) hb); have n3_ := Aside0.mk (zj_ (by (with_reducible repeat (first | apply za_ | apply zb_ | apply zc_)); exact HO398.out) (zk_ ho72) hb); have n4_ := Aside0.mk (zj_ (by (with_reducible repeat (first | apply za_ | apply zb_ | apply zc_)); exact HO403.out) (zk_ ho72) hb); have n5_ := Aside0.mk (zj_ (by (with_reducible repeat (first | apply za_ | apply zb_ | apply zc_)); exact HO406.out) (zk_ ho72) hb); have n6_ := Aside0.mk (zj_ (by (with_reducible repeat (first | apply za_ | apply zb_ | apply zc_)); exact HO411.out) (zk_ ho72) hb); have n7_ := Aside0.mk (zj_ (by (with_reducible repeat (first | apply za_ | apply zb_ | apply zc_)); exact HO414.out) (zk_ ho72) hb); have n8_ := Aside0.mk (zj_ (by (with_reducible repeat (first | apply za_ | apply zb_ | apply zc_)); exact HO421.out) (zk_ ho72) hb); have n9_ := Aside0.mk (zg_ (zh_ (zh_ (zh_ (zh_ (zh_ (zh_ (zh_ ho72 (zi_ (by (with_reducible repeat (first | apply za_ | apply zb_ | apply zc_)); exact HO395.out))) (zi_ (by (with_reducible repeat (first | apply za_ | apply zb_ | apply zc_)); exact HO398.out))) (zi_ (by (with_reducible repeat (first | apply za_ | apply zb_ | apply zc_)); exact HO403.out))) (zi_ (by (with_reducible repeat (first | apply za_ | apply zb_ | apply zc_)); exact HO406.out))) (zi_ (by (with_reducible repeat (first | apply za_ | apply zb_ | apply zc_)); exact HO411.out))) (zi_ (by (with_reducible repeat (first | apply za_ | apply zb_ | apply zc_)); exact HO414.out))) (zi_ (by (with_reducible repeat (first | apply za_ | apply zb_ | apply zc_)); exact HO421.out))) (zw_ (by repeat (first | (with_reducible first | exact HB.out | apply zs_ | apply zt_ | apply zu_) | exact HB.out)))); have n10_ := Aside0.mk (zv_ (by repeat (first | (with_reducible first | exact HB.out | apply zs_ | apply zt_ | apply zu_) | exact HB.out)) hb); clear HO_7; clear HO_8; clear HO395; clear HO398; clear HO403; clear HO406; clear HO411; clear HO414; clear HO421; clear HB; have HO_7 := n0_; have HO_8 := n1_; have HO395 := n2_; have HO398 := n3_; have HO403 := n4_; have HO406 := n5_; have HO411 := n6_; have HO414 := n7_; have HO421 := n8_; have HO424 := n9_; have HB := n10_; clear n0_ n1_ n2_ n3_ n4_ n5_ n6_ n7_ n8_ n9_ n10_; clear hb ho72; obtain ⟨Ao73, co73, eo73⟩ := Kd.R_slice HO421.out; subst eo73; obtain ⟨Ao74, co74, eo74⟩ := Kd.R_slice HO424.out; subst eo74) | ((with_reducible refine gate_callee (f := 19) rfl ?_); refine goesL_ (some 111) rfl rfl Try.func19 (by kernel_rfl) rfl #[.slice Ao73 y419.length co73, .slice Ao74 y422.length co74, .slice Ao19 x7_2.length co19] rfl (by (try simp only [List.map_toArray, List.map_cons, List.map_nil]); first | done | rfl | (simp only [List.length_drop, List.length_take]; rfl)) ?_; (with_reducible refine (pad_Agree.calls k2 _ _ y419 _ _ y422 _ _ x7_2 t425 t426 _ ?side1 ?side2 ?side3 ?side4 ?side5 ?side6 A35.out).mono ?_); (case side1 => repeat (first | exact (zl_ HO421.out).2.2 | (with_reducible refine Kd.C_alloc ?_ _) | (with_reducible refine Kd.C_drewN ?_ _) | (with_reducible refine Kd.C_drew ?_))); (case side2 => exact (zl_ HO421.out).2.1); (case side3 => repeat (first | exact (zl_ HO424.out).2.2 | (with_reducible refine Kd.C_alloc ?_ _) | (with_reducible refine Kd.C_drewN ?_ _) | (with_reducible refine Kd.C_drew ?_))); (case side4 => exact (zl_ HO424.out).2.1); (case side5 => repeat (first | exact (zl_ HO_7.out).2.2 | (with_reducible refine Kd.C_alloc ?_ _) | (with_reducible refine Kd.C_drewN ?_ _) | (with_reducible refine Kd.C_drew ?_))); (case side6 => exact (zl_ HO_7.out).2.1); rintro e w' ⟨rfl, ⟨nd, rfl⟩⟩; refine ⟨_, rfl, ?_⟩) | ((with_reducible refine gate_callee (f := 18) rfl ?_); refine goesL_ (some 116) rfl rfl Try.func18 (by kernel_rfl) rfl #[.string a0, .string a2] rfl (by (try simp only [List.map_toArray, List.map_cons, List.map_nil]); first | done | rfl | (simp only [List.length_drop, List.length_take]; rfl)) ?_; (with_reducible refine (gf_Sum.calls a0 a2 t427 _ A36.out).mono ?_); rintro e w75 ⟨rfl, hb⟩; refine ⟨_, rfl, ?_⟩; have n0_ := Aside0.mk (Kd.R_below (by (with_reducible repeat (first | apply za_ | apply zb_ | apply zc_)); exact HO_7.out) hb); have n1_ := Aside0.mk (Kd.R_below (by (with_reducible repeat (first | apply za_ | apply zb_ | apply zc_)); exact HO_8.out) hb); have n2_ := Aside0.mk (Kd.R_below (by (with_reducible repeat (first | apply za_ | apply zb_ | apply zc_)); exact HO395.out) hb); have n3_ := Aside0.mk (Kd.R_below (by (with_reducible repeat (first | apply za_ | apply zb_ | apply zc_)); exact HO398.out) hb); have n4_ := Aside0.mk (Kd.R_below (by (with_reducible repeat (first | apply za_ | apply zb_ | apply zc_)); exact HO403.out) hb); have n5_ := Aside0.mk (Kd.R_below (by (with_reducible repeat (first | apply za_ | apply zb_ | apply zc_)); exact HO406.out) hb); have n6_ := Aside0.mk (Kd.R_below (by (with_reducible repeat (first | apply za_ | apply zb_ | apply zc_)); exact HO411.out) hb); have n7_ := Aside0.mk (Kd.R_below (by (with_reducible repeat (first | apply za_ | apply zb_ | apply zc_)); exact HO414.out) hb); have n8_ := Aside0.mk (Kd.R_below (by (with_reducible repeat (first | apply za_ | apply zb_ | apply zc_)); exact HO421.out) hb); have n9_ := Aside0.mk (Kd.R_below (by (with_reducible repeat (first | apply za_ | apply zb_ | apply zc_)); exact HO424.out) hb); have n10_ := Aside0.mk (zv_ (by repeat (first | (with_reducible first | exact HB.out | apply zs_ | apply zt_ | apply zu_) | exact HB.out)) hb); clear HO_7; clear HO_8; clear HO395; clear HO398; clear HO403; clear HO406; clear HO411; clear HO414; clear HO421; clear HO424; clear HB; have HO_7 := n0_; have HO_8 := n1_; have HO395 := n2_; have HO398 := n3_; have HO403 := n4_; have HO406 := n5_; have HO411 := n6_; have HO414 := n7_; have HO421 := n8_; have HO424 := n9_; have HB := n10_; clear n0_ n1_ n2_ n3_ n4_ n5_ n6_ n7_ n8_ n9_ n10_; (try clear hb); (try clear hb2); (try clear hk); (try clear hi)) | ((with_reducible refine gate_callee (f := 18) rfl ?_); refine goesL_ (some 119) rfl rfl Try.func18 (by kernel_rfl) rfl #[.string a1, .string a0] rfl (by (try simp only [List.map_toArray, List.map_cons, List.map_nil]); first | done | rfl | (simp only [List.length_drop, List.length_take]; rfl)) ?_; (with_reducible refine (gf_Sum.calls a1 a0 t428 _ A37.out).mono ?_); rintro e w76 ⟨rfl, hb⟩; refine ⟨_, rfl, ?_⟩; have n0_ := Aside0.mk (Kd.R_below (by (with_reducible repeat (first | apply za_ | apply zb_ | apply zc_)); exact HO_7.out) hb); have n1_ := Aside0.mk (Kd.R_below (by (with_reducible repeat (first | apply za_ | apply zb_ | apply zc_)); exact HO_8.out) hb); have n2_ := Aside0.mk (Kd.R_below (by (with_reducible repeat (first | apply za_ | apply zb_ | apply zc_)); exact HO395.out) hb); have n3_ := Aside0.mk (Kd.R_below (by (with_reducible repeat (first | apply za_ | apply zb_ | apply zc_)); exact HO398.out) hb); have n4_ := Aside0.mk (Kd.R_below (by (with_reducible repeat (first | apply za_ | apply zb_ | apply zc_)); exact HO403.out) hb); have n5_ := Aside0.mk (Kd.R_below (by (with_reducible repeat (first | apply za_ | apply zb_ | apply zc_)); exact HO406.out) hb); have n6_ := Aside0.mk (Kd.R_below (by (with_reducible repeat (first | apply za_ | apply zb_ | apply zc_)); exact HO411.out) hb); have n7_ := Aside0.mk (Kd.R_below (by (with_reducible repeat (first | apply za_ | apply zb_ | apply zc_)); exact HO414.out) hb); have n8_ := Aside0.mk (Kd.R_below (by (with_reducible repeat (first | apply za_ | apply zb_ | apply zc_)); exact HO421.out) hb); have n9_ := Aside0.mk (Kd.R_below (by (with_reducible repeat (first | apply za_ | apply zb_ | apply zc_)); exact HO424.out) hb); have n10_ := Aside0.mk (zv_ (by repeat (first | (with_reducible first | exact HB.out | apply zs_ | apply zt_ | apply zu_) | exact HB.out)) hb); clear HO_7; clear HO_8; clear HO395; clear HO398; clear HO403; clear HO406; clear HO411; clear HO414; clear HO421; clear HO424; clear HB; have HO_7 := n0_; have HO_8 := n1_; have HO395 := n2_; have HO398 := n3_; have HO403 := n4_; have HO406 := n5_; have HO411 := n6_; have HO414 := n7_; have HO421 := n8_; have HO424 := n9_; have HB := n10_; clear n0_ n1_ n2_ n3_ n4_ n5_ n6_ n7_ n8_ n9_ n10_; (try clear hb); (try clear hb2); (try clear hk); (try clear hi)) | ((with_reducible refine gate_callee (f := 9) rfl ?_); refine goesL_ (some 121) rfl rfl Try.func9 (by kernel_rfl) rfl #[] rfl (by (try simp only [List.map_toArray, List.map_cons, List.map_nil]); first | done | rfl | (simp only [List.length_drop, List.length_take]; rfl)) ?_; (with_reducible refine (quietuslaw25_sanity.calls k2  true _ A38.out).mono ?_); rintro e w77 ⟨rfl, hb⟩; refine ⟨_, rfl, ?_⟩; have n0_ := Aside0.mk (Kd.R_below (by (with_reducible repeat (first | apply za_ | apply zb_ | apply zc_)); exact HO_7.out) hb); have n1_ := Aside0.mk (Kd.R_below (by (with_reducible repeat (first | apply za_ | apply zb_ | apply zc_)); exact HO_8.out) hb); have n2_ := Aside0.mk (Kd.R_below (by (with_reducible repeat (first | apply za_ | apply zb_ | apply zc_)); exact HO395.out) hb); have n3_ := Aside0.mk (Kd.R_below (by (with_reducible repeat (first | apply za_ | apply zb_ | apply zc_)); exact HO398.out) hb); have n4_ := Aside0.mk (Kd.R_below (by (with_reducible repeat (first | apply za_ | apply zb_ | apply zc_)); exact HO403.out) hb); have n5_ := Aside0.mk (Kd.R_below (by (with_reducible repeat (first | apply za_ | apply zb_ | apply zc_)); exact HO406.out) hb); have n6_ := Aside0.mk (Kd.R_below (by (with_reducible repeat (first | apply za_ | apply zb_ | apply zc_)); exact HO411.out) hb); have n7_ := Aside0.mk (Kd.R_below (by (with_reducible repeat (first | apply za_ | apply zb_ | apply zc_)); exact HO414.out) hb); have n8_ := Aside0.mk (Kd.R_below (by (with_reducible repeat (first | apply za_ | apply zb_ | apply zc_)); exact HO421.out) hb); have n9_ := Aside0.mk (Kd.R_below (by (with_reducible repeat (first | apply za_ | apply zb_ | apply zc_)); exact HO424.out) hb); have n10_ := Aside0.mk (zv_ (by repeat (first | (with_reducible first | exact HB.out | apply zs_ | apply zt_ | apply zu_) | exact HB.out)) hb); clear HO_7; clear HO_8; clear HO395; clear HO398; clear HO403; clear HO406; clear HO411; clear HO414; clear HO421; clear HO424; clear HB; have HO_7 := n0_; have HO_8 := n1_; have HO395 := n2_; have HO398 := n3_; have HO403 := n4_; have HO406 := n5_; have HO411 := n6_; have HO414 := n7_; have HO421 := n8_; have HO424 := n9_; have HB := n10_; clear n0_ n1_ n2_ n3_ n4_ n5_ n6_ n7_ n8_ n9_ n10_; (try clear hb); (try clear hb2); (try clear hk); (try clear hi)))
                                        go_ret
                                        exact ⟨by first | rfl | (simp [errW_none, errW_some] <;> rfl) | (simp [*, errW_none, errW_some] <;> rfl), by repeat (first | (with_reducible first | exact HB.out | apply zs_ | apply zt_ | apply zu_) | exact HB.out)⟩
                                      · rw [if_neg c48] at H
                                        exact absurd H (by simp)
                                    · rw [if_neg c47] at H
                                      exact absurd H (by simp)
                                  · rw [if_neg c46] at H
                                    exact absurd H (by simp)
                                · replace c45 := Bool.eq_false_iff.mpr c45
                                  subst c45
                                  have H1 : (none) = some r := by rw [if_neg (show ¬ (false = true) by decide)] at H; exact H
                                  clear H
                                  have H := H1
                                  clear H1
                                  exact absurd H (by simp)
                              · rw [if_neg c44] at H
                                exact absurd H (by simp)
                            · replace c43 := Bool.eq_false_iff.mpr c43
                              subst c43
                              have H1 : (none) = some r := by rw [if_neg (show ¬ (false = true) by decide)] at H; exact H
                              clear H
                              have H := H1
                              clear H1
                              exact absurd H (by simp)
                          · rw [if_neg c42] at H
                            exact absurd H (by simp)
                        · replace c41 := Bool.eq_false_iff.mpr c41
                          subst c41
                          have H1 : (none) = some r := by rw [if_neg (show ¬ (false = true) by decide)] at H; exact H
                          clear H
                          have H := H1
                          clear H1
                          exact absurd H (by simp)
                      · rw [if_neg c40] at H
                        exact absurd H (by simp)
                    · replace c39 := Bool.eq_false_iff.mpr c39
                      subst c39
                      have H1 : (none) = some r := by rw [if_neg (show ¬ (false = true) by decide)] at H; exact H
                      clear H
                      have H := H1
                      clear H1
                      exact absurd H (by simp)
            · rw [if_neg c13] at H
              exact absurd H (by simp)
          · rw [if_neg c11] at H
            exact absurd H (by simp)
        · rw [if_neg c10] at H
          exact absurd H (by simp)

-- NOT PRINTED: function 6 (quietuslaw25_PadsAreUsedOnce)

end Go.Proofs.Ytgfnllaajaoljaa.QA
