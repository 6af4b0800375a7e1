-- WRITTEN BY qprint.py, a program of this session (the kit's print, driven with contracts proved by hand): Lean checks it.
import Derived.Test.YtgfnllaajaoljaaDoorQA0
import Derived.Test.YtgfnllaajaoljaaDoorQA2
import Derived.Test.YtgfnllaajaoljaaDoorQA4
namespace Go.Proofs.YtgfnllaajaoljaaDoor.QA
open Go.RowKit Go.Proofs.YtgfnllaajaoljaaDoorW.PrintWords Go.Proofs.YtgfnllaajaoljaaDoorW.PrintLast Go.Proofs.YtgfnllaajaoljaaDoorW.PrintMore
attribute [local go_sem] max2_int min2_int max_two min_two max_three min_three max_four min_four   -- for this text's walks alone
set_option linter.unusedVariables false
set_option linter.unusedSimpArgs false

/-! ### quietuslaw04_FieldIsAField: function 4 -/
mutual
def quietuslaw04_FieldIsAField.j0 : Nat → Int → Int → Int → Bool → Option (Bool)
  | 0, _, _, _, _ => none
  | k + 1, x0, x1, x2, x9 => (gf_MulW.f x0 x1).bind fun t169 => (if x0 = 0 then (quietuslaw04_FieldIsAField.j1 k x0 x1 x2 x9 ((t169 == 0) == true)) else (quietuslaw04_FieldIsAField.j1 k x0 x1 x2 x9 ((t169 == 0) == (x1 == 0))))
def quietuslaw04_FieldIsAField.j1 : Nat → Int → Int → Int → Bool → Bool → Option (Bool)
  | 0, _, _, _, _, _ => none
  | k + 1, x0, x1, x2, x9, x10 => (gf_MulW.f x0 x1).bind fun t170 => ((gf_MulW.f x1 x0).bind fun t171 => (if t170 = t171 then ((gf_MulW.f x0 x1).bind fun t172 => ((gf_MulW.f t172 x2).bind fun t173 => ((gf_MulW.f x1 x2).bind fun t174 => ((gf_MulW.f x0 t174).bind fun t175 => (if t173 = t175 then ((gf_MulW.f x0 (Go.bits .xor .u8 x1 x2)).bind fun t176 => ((gf_MulW.f x0 x1).bind fun t177 => ((gf_MulW.f x0 x2).bind fun t178 => ((quietuslaw04_sanity.f k).bind fun t179 => (if t179 = true then (if x9 = true then (if x10 = true then (if t176 = (Go.bits .xor .u8 t177 t178) then ((gf_MulW.f x0 1).bind fun t180 => (some (t180 == x0))) else (some false)) else (some false)) else (some false)) else (some false)))))) else ((quietuslaw04_sanity.f k).bind fun t181 => (if t181 = true then (if x9 = true then (if x10 = true then (some false) else (some false)) else (some false)) else (some false)))))))) else ((quietuslaw04_sanity.f k).bind fun t182 => (if t182 = true then (if x9 = true then (if x10 = true then (some false) else (some false)) else (some false)) else (some false)))))
end
def quietuslaw04_FieldIsAField.f (k : Nat) (a0 : Int) (a1 : Int) (a2 : Int) : Option (Bool) := (gf_Inv.f k a0).bind fun bt166 => (if a0 = 0 then (if bt166.2 = 1 then (quietuslaw04_FieldIsAField.j0 k a0 a1 a2 true) else (quietuslaw04_FieldIsAField.j0 k a0 a1 a2 false)) else (if bt166.2 = 0 then ((gf_MulW.f a0 bt166.1).bind fun t168 => (quietuslaw04_FieldIsAField.j0 k a0 a1 a2 (t168 == 1))) else (quietuslaw04_FieldIsAField.j0 k a0 a1 a2 false)))
theorem quietuslaw04_FieldIsAField.mono_l : ∀ k, (∀ y0 y1 y2 y3, LeO (quietuslaw04_FieldIsAField.j0 k y0 y1 y2 y3) (quietuslaw04_FieldIsAField.j0 (k + 1) y0 y1 y2 y3)) ∧ (∀ y0 y1 y2 y3 y4, LeO (quietuslaw04_FieldIsAField.j1 k y0 y1 y2 y3 y4) (quietuslaw04_FieldIsAField.j1 (k + 1) y0 y1 y2 y3 y4))
  | 0 => ⟨fun _ _ _ _ r h => by simp [quietuslaw04_FieldIsAField.j0] at h, fun _ _ _ _ _ r h => by simp [quietuslaw04_FieldIsAField.j1] at h⟩
  | k + 1 => by
    obtain ⟨ih0, ih1⟩ := quietuslaw04_FieldIsAField.mono_l k
    refine ⟨?_, ?_⟩
    · intro y0 y1 y2 y3
      unfold quietuslaw04_FieldIsAField.j0
      repeat' first
      | (with_reducible exact ih0 _ _ _ _)
      | (with_reducible exact ih1 _ _ _ _ _)
      | (with_reducible exact gf_Inv.mono _ _)
      | (with_reducible exact quietuslaw04_sanity.mono _)
      | (with_reducible exact LeO.refl _)
      | (with_reducible exact LeO.none _)
      | (with_reducible refine LeO.ite ?_ ?_)
      | (with_reducible refine LeO.bind ?_ (fun _ => ?_))
      | exact ih0 _ _ _ _
      | exact ih1 _ _ _ _ _
      | exact gf_Inv.mono _ _
      | exact quietuslaw04_sanity.mono _
      | exact LeO.none _
      | refine LeO.ite ?_ ?_
      | refine LeO.bind ?_ (fun _ => ?_)
    · intro y0 y1 y2 y3 y4
      unfold quietuslaw04_FieldIsAField.j1
      repeat' first
      | (with_reducible exact ih0 _ _ _ _)
      | (with_reducible exact ih1 _ _ _ _ _)
      | (with_reducible exact gf_Inv.mono _ _)
      | (with_reducible exact quietuslaw04_sanity.mono _)
      | (with_reducible exact LeO.refl _)
      | (with_reducible exact LeO.none _)
      | (with_reducible refine LeO.ite ?_ ?_)
      | (with_reducible refine LeO.bind ?_ (fun _ => ?_))
      | exact ih0 _ _ _ _
      | exact ih1 _ _ _ _ _
      | exact gf_Inv.mono _ _
      | exact quietuslaw04_sanity.mono _
      | exact LeO.none _
      | refine LeO.ite ?_ ?_
      | refine LeO.bind ?_ (fun _ => ?_)
theorem quietuslaw04_FieldIsAField.mono : ∀ a0 a1 a2 k, LeO (quietuslaw04_FieldIsAField.f k a0 a1 a2) (quietuslaw04_FieldIsAField.f (k + 1) a0 a1 a2) := by
  intro a0 a1 a2 k
  obtain ⟨ih0, ih1⟩ := quietuslaw04_FieldIsAField.mono_l k
  unfold quietuslaw04_FieldIsAField.f
  repeat' first
      | (with_reducible exact ih0 _ _ _ _)
      | (with_reducible exact ih1 _ _ _ _ _)
      | (with_reducible exact gf_Inv.mono _ _)
      | (with_reducible exact quietuslaw04_sanity.mono _)
      | (with_reducible exact LeO.refl _)
      | (with_reducible exact LeO.none _)
      | (with_reducible refine LeO.ite ?_ ?_)
      | (with_reducible refine LeO.bind ?_ (fun _ => ?_))
      | exact ih0 _ _ _ _
      | exact ih1 _ _ _ _ _
      | exact gf_Inv.mono _ _
      | exact quietuslaw04_sanity.mono _
      | exact LeO.none _
      | refine LeO.ite ?_ ?_
      | refine LeO.bind ?_ (fun _ => ?_)
set_option maxHeartbeats 8000000 in
set_option maxRecDepth 100000 in
theorem quietuslaw04_FieldIsAField.calls (k : Nat) (a0 : Int) (a1 : Int) (a2 : Int) (r : Bool) (w : World) (hrG : Kd.C (Kd.int .u8) w (some ⟨0, 0, none⟩) 16 highTbl) (h : quietuslaw04_FieldIsAField.f k a0 a1 a2 = some r) :
    Calls Tryd.prog 4 #[.int .u8 a0, .int .u8 a1, .int .u8 a2] w fun e w' => e = .returned (.bool r) ∧ Below w.heap.size w w' := by
  have HRG := Aside0.mk hrG
  clear hrG
  have HB := Aside0.mk (Below.refl w.heap.size w)
  have H : ((gf_Inv.f k a0).bind fun bt166 => (if a0 = 0 then (if bt166.2 = 1 then (quietuslaw04_FieldIsAField.j0 k a0 a1 a2 true) else (quietuslaw04_FieldIsAField.j0 k a0 a1 a2 false)) else (if bt166.2 = 0 then ((gf_MulW.f a0 bt166.1).bind fun t168 => (quietuslaw04_FieldIsAField.j0 k a0 a1 a2 (t168 == 1))) else (quietuslaw04_FieldIsAField.j0 k a0 a1 a2 false)))) = some r := h
  clear h
  replace H := Option.bind_eq_some_iff.mp H
  obtain ⟨⟨t166, t167⟩, A40, H⟩ := H
  replace H : (if a0 = 0 then (if t167 = 1 then (quietuslaw04_FieldIsAField.j0 k a0 a1 a2 true) else (quietuslaw04_FieldIsAField.j0 k a0 a1 a2 false)) else (if t167 = 0 then ((gf_MulW.f a0 t166).bind fun t168 => (quietuslaw04_FieldIsAField.j0 k a0 a1 a2 (t168 == 1))) else (quietuslaw04_FieldIsAField.j0 k a0 a1 a2 false))) = some r := H
  have A4 := Aside0.mk A40
  clear A40
  have HC5 := Aside0.mk H
  clear H
  go_enter Tryd.func4, Tryd.ntmps4
  go_upto_region 2 with (first | ((with_reducible refine gate_callee (f := 13) rfl ?_); refine goesL_ (some 14) rfl rfl Tryd.func13 (by kernel_rfl) rfl #[.int .u8 a0] rfl (by (try simp only [List.map_toArray, List.map_cons, List.map_nil]); first | done | rfl | (simp only [List.length_drop, List.length_take]; rfl)) ?_; (with_reducible refine (gf_Inv.calls k a0 t166 t167 _ ?sideG A4.out).mono ?_); (case sideG => repeat (first | exact (Kd.C_below HRG.out HB.out) | exact HRG.out | (with_reducible refine Kd.C_alloc ?_ _) | (with_reducible refine Kd.C_drewN ?_ _) | (with_reducible refine Kd.C_drew ?_))); rintro e w' ⟨rfl, ⟨nd, rfl⟩⟩; refine ⟨_, rfl, ?_⟩))
  (try simp only [Act.put, List.setIfInBounds_toArray, List.set_cons_zero, List.set_cons_succ])
  go_cut [9] (fun v9 wc => ∃ (kq : Nat) (x9_4 : Bool), v9 = .bool x9_4 ∧ Aside0 (quietuslaw04_FieldIsAField.j0 kq a0 a1 a2 x9_4 = some r) ∧ Aside0 (kq ≤ k) ∧ Aside0 (Below w.heap.size w wc))
  case first =>
    have H := HC5.out
    clear HC5
    by_cases c6 : a0 = 0
    · rw [if_pos c6] at H
      have c6b0 : (a0 == 0) = true := beq_iff_eq.mpr c6
      have c6b1 : (a0 != 0) = false := bne_eq_false_iff_eq.mpr c6
      clear c6
      (first | rw [c6b0] | (simp only [i64_w, i32_w]; rw [c6b0]) | rw [c6b1] | skip)
      by_cases c7 : t167 = 1
      · rw [if_pos c7] at H
        have c7b0 : (t167 == 1) = true := beq_iff_eq.mpr c7
        have c7b1 : (t167 != 1) = false := bne_eq_false_iff_eq.mpr c7
        clear c7
        have H' := Aside0.mk H
        clear H
        go_wp2
        go_meet
        case rel => exact ⟨_, (true), (by first | rfl | (simp; done) | (simp [*]; done)), H', ⟨by first | omega | exact Nat.le_refl _⟩, ⟨by repeat (first | (with_reducible first | exact HB.out | apply below_alloc | apply pw_below_drewN | apply below_drew1) | exact HB.out)⟩⟩
      · rw [if_neg c7] at H
        have c7b0 : (t167 == 1) = false := beq_eq_false_iff_ne.mpr c7
        have c7b1 : (t167 != 1) = true := bne_iff_ne.mpr c7
        have H' := Aside0.mk H
        clear H
        go_wp2
        go_meet
        case rel => exact ⟨_, (false), (by first | rfl | (simp; done) | (simp [*]; done)), H', ⟨by first | omega | exact Nat.le_refl _⟩, ⟨by repeat (first | (with_reducible first | exact HB.out | apply below_alloc | apply pw_below_drewN | apply below_drew1) | exact HB.out)⟩⟩
    · rw [if_neg c6] at H
      have c6b0 : (a0 == 0) = false := beq_eq_false_iff_ne.mpr c6
      have c6b1 : (a0 != 0) = true := bne_iff_ne.mpr c6
      (first | rw [c6b0] | (simp only [i64_w, i32_w]; rw [c6b0]) | rw [c6b1] | skip)
      by_cases c8 : t167 = 0
      · rw [if_pos c8] at H
        have c8b0 : (t167 == 0) = true := beq_iff_eq.mpr c8
        have c8b1 : (t167 != 0) = false := bne_eq_false_iff_eq.mpr c8
        clear c8
        replace H := Option.bind_eq_some_iff.mp H
        obtain ⟨t168, A90, H⟩ := H
        replace H : (quietuslaw04_FieldIsAField.j0 k a0 a1 a2 (t168 == 1)) = some r := H
        have A9 := Aside0.mk A90
        clear A90
        have H' := Aside0.mk H
        clear H
        go_wp2_with (first | (go_at_call 16; (with_reducible refine (gf_MulW.calls a0 t166 t168 _ ?sideG A9.out).mono ?_); (case sideG => repeat (first | exact (Kd.C_below HRG.out HB.out) | exact HRG.out | (with_reducible refine Kd.C_alloc ?_ _) | (with_reducible refine Kd.C_drewN ?_ _) | (with_reducible refine Kd.C_drew ?_))); rintro e w' ⟨rfl, ⟨nd, rfl⟩⟩))
        go_meet
        case rel => exact ⟨_, ((t168 == 1)), (by first | rfl | (simp; done) | (simp [*]; done)), H', ⟨by first | omega | exact Nat.le_refl _⟩, ⟨by repeat (first | (with_reducible first | exact HB.out | apply below_alloc | apply pw_below_drewN | apply below_drew1) | exact HB.out)⟩⟩
      · rw [if_neg c8] at H
        have c8b0 : (t167 == 0) = false := beq_eq_false_iff_ne.mpr c8
        have c8b1 : (t167 != 0) = true := bne_iff_ne.mpr c8
        have H' := Aside0.mk H
        clear H
        go_wp2
        go_meet
        case rel => exact ⟨_, (false), (by first | rfl | (simp; done) | (simp [*]; done)), H', ⟨by first | omega | exact Nat.le_refl _⟩, ⟨by repeat (first | (with_reducible first | exact HB.out | apply below_alloc | apply pw_below_drewN | apply below_drew1) | exact HB.out)⟩⟩
  case rest =>
    clear HC5
    try clear c1
    try clear p2
    try clear c4
    try clear c6
    try clear c6b0
    try clear c6b1
    try clear c7
    try clear c7b0
    try clear c7b1
    try clear c8
    try clear c8b0
    try clear c8b1
    obtain ⟨kq, x9_4, rfl, HA, HJ4, HB⟩ := hcut
    cases kq with
    | zero => exact absurd HA.out (by simp [quietuslaw04_FieldIsAField.j0])
    | succ kj4 =>
      have H := HA.out
      clear HA
      simp only [quietuslaw04_FieldIsAField.j0] at H
      have HC10 := Aside0.mk H
      clear H
      go_upto_region 3 with (fail)
      go_cut [10] (fun v10 wc => ∃ (kq : Nat) (x10_9 : Bool), v10 = .bool x10_9 ∧ Aside0 (quietuslaw04_FieldIsAField.j1 kq a0 a1 a2 x9_4 x10_9 = some r) ∧ Aside0 (kq ≤ kj4) ∧ Aside0 (Below w.heap.size w wc))
      case first =>
        have H := HC10.out
        clear HC10
        replace H := Option.bind_eq_some_iff.mp H
        obtain ⟨t169, A110, H⟩ := H
        replace H : (if a0 = 0 then (quietuslaw04_FieldIsAField.j1 kj4 a0 a1 a2 x9_4 ((t169 == 0) == true)) else (quietuslaw04_FieldIsAField.j1 kj4 a0 a1 a2 x9_4 ((t169 == 0) == (a1 == 0)))) = some r := H
        have A11 := Aside0.mk A110
        clear A110
        by_cases c12 : a0 = 0
        · rw [if_pos c12] at H
          have c12b0 : (a0 == 0) = true := beq_iff_eq.mpr c12
          have c12b1 : (a0 != 0) = false := bne_eq_false_iff_eq.mpr c12
          clear c12
          (first | rw [c12b0] | (simp only [i64_w, i32_w]; rw [c12b0]) | rw [c12b1] | skip)
          have H' := Aside0.mk H
          clear H
          go_wp2_with (first | ((with_reducible refine gate_callee (f := 16) rfl ?_); refine goesL_ (some 39) rfl rfl Tryd.func16 (by kernel_rfl) rfl #[.int .u8 a0, .int .u8 a1] rfl (by (try simp only [List.map_toArray, List.map_cons, List.map_nil]); first | done | rfl | (simp only [List.length_drop, List.length_take]; rfl)) ?_; (with_reducible refine (gf_MulW.calls a0 a1 t169 _ ?sideG A11.out).mono ?_); (case sideG => repeat (first | exact (Kd.C_below HRG.out HB.out) | exact HRG.out | (with_reducible refine Kd.C_alloc ?_ _) | (with_reducible refine Kd.C_drewN ?_ _) | (with_reducible refine Kd.C_drew ?_))); rintro e w' ⟨rfl, ⟨nd, rfl⟩⟩; refine ⟨_, rfl, ?_⟩))
          go_meet
          case rel => exact ⟨_, (((t169 == 0) == true)), (by first | rfl | (simp; done) | (simp [*]; done)), H', ⟨by have := HJ4.out; first | omega | exact Nat.le_refl _⟩, ⟨by repeat (first | (with_reducible first | exact HB.out | apply below_alloc | apply pw_below_drewN | apply below_drew1) | exact HB.out)⟩⟩
        · rw [if_neg c12] at H
          have c12b0 : (a0 == 0) = false := beq_eq_false_iff_ne.mpr c12
          have c12b1 : (a0 != 0) = true := bne_iff_ne.mpr c12
          (first | rw [c12b0] | (simp only [i64_w, i32_w]; rw [c12b0]) | rw [c12b1] | skip)
          have H' := Aside0.mk H
          clear H
          go_wp2_with (first | ((with_reducible refine gate_callee (f := 16) rfl ?_); refine goesL_ (some 39) rfl rfl Tryd.func16 (by kernel_rfl) rfl #[.int .u8 a0, .int .u8 a1] rfl (by (try simp only [List.map_toArray, List.map_cons, List.map_nil]); first | done | rfl | (simp only [List.length_drop, List.length_take]; rfl)) ?_; (with_reducible refine (gf_MulW.calls a0 a1 t169 _ ?sideG A11.out).mono ?_); (case sideG => repeat (first | exact (Kd.C_below HRG.out HB.out) | exact HRG.out | (with_reducible refine Kd.C_alloc ?_ _) | (with_reducible refine Kd.C_drewN ?_ _) | (with_reducible refine Kd.C_drew ?_))); rintro e w' ⟨rfl, ⟨nd, rfl⟩⟩; refine ⟨_, rfl, ?_⟩))
          go_meet
          case rel => exact ⟨_, (((t169 == 0) == (a1 == 0))), (by first | rfl | (simp; done) | (simp [*]; done)), H', ⟨by have := HJ4.out; first | omega | exact Nat.le_refl _⟩, ⟨by repeat (first | (with_reducible first | exact HB.out | apply below_alloc | apply pw_below_drewN | apply below_drew1) | exact HB.out)⟩⟩
      case rest =>
        clear HC10
        try clear c1
        try clear p2
        try clear c4
        try clear c6
        try clear c6b0
        try clear c6b1
        try clear c7
        try clear c7b0
        try clear c7b1
        try clear c8
        try clear c8b0
        try clear c8b1
        try clear c12
        try clear c12b0
        try clear c12b1
        try clear p2
        obtain ⟨kq, x10_9, rfl, HA, HJ9, HB⟩ := hcut
        cases kq with
        | zero => exact absurd HA.out (by simp [quietuslaw04_FieldIsAField.j1])
        | succ kj9 =>
          have H := HA.out
          clear HA
          simp only [quietuslaw04_FieldIsAField.j1] at H
          replace H := Option.bind_eq_some_iff.mp H
          obtain ⟨t170, A130, H⟩ := H
          replace H : ((gf_MulW.f a1 a0).bind fun t171 => (if t170 = t171 then ((gf_MulW.f a0 a1).bind fun t172 => ((gf_MulW.f t172 a2).bind fun t173 => ((gf_MulW.f a1 a2).bind fun t174 => ((gf_MulW.f a0 t174).bind fun t175 => (if t173 = t175 then ((gf_MulW.f a0 (Go.bits .xor .u8 a1 a2)).bind fun t176 => ((gf_MulW.f a0 a1).bind fun t177 => ((gf_MulW.f a0 a2).bind fun t178 => ((quietuslaw04_sanity.f kj9).bind fun t179 => (if t179 = true then (if x9_4 = true then (if x10_9 = true then (if t176 = (Go.bits .xor .u8 t177 t178) then ((gf_MulW.f a0 1).bind fun t180 => (some (t180 == a0))) else (some false)) else (some false)) else (some false)) else (some false)))))) else ((quietuslaw04_sanity.f kj9).bind fun t181 => (if t181 = true then (if x9_4 = true then (if x10_9 = true then (some false) else (some false)) else (some false)) else (some false)))))))) else ((quietuslaw04_sanity.f kj9).bind fun t182 => (if t182 = true then (if x9_4 = true then (if x10_9 = true then (some false) else (some false)) else (some false)) else (some false))))) = some r := H
          have A13 := Aside0.mk A130
          clear A130
          replace H := Option.bind_eq_some_iff.mp H
          obtain ⟨t171, A140, H⟩ := H
          replace H : (if t170 = t171 then ((gf_MulW.f a0 a1).bind fun t172 => ((gf_MulW.f t172 a2).bind fun t173 => ((gf_MulW.f a1 a2).bind fun t174 => ((gf_MulW.f a0 t174).bind fun t175 => (if t173 = t175 then ((gf_MulW.f a0 (Go.bits .xor .u8 a1 a2)).bind fun t176 => ((gf_MulW.f a0 a1).bind fun t177 => ((gf_MulW.f a0 a2).bind fun t178 => ((quietuslaw04_sanity.f kj9).bind fun t179 => (if t179 = true then (if x9_4 = true then (if x10_9 = true then (if t176 = (Go.bits .xor .u8 t177 t178) then ((gf_MulW.f a0 1).bind fun t180 => (some (t180 == a0))) else (some false)) else (some false)) else (some false)) else (some false)))))) else ((quietuslaw04_sanity.f kj9).bind fun t181 => (if t181 = true then (if x9_4 = true then (if x10_9 = true then (some false) else (some false)) else (some false)) else (some false)))))))) else ((quietuslaw04_sanity.f kj9).bind fun t182 => (if t182 = true then (if x9_4 = true then (if x10_9 = true then (some false) else (some false)) else (some false)) else (some false)))) = some r := H
          have A14 := Aside0.mk A140
          clear A140
          by_cases c15 : t170 = t171
          · rw [if_pos c15] at H
            have c15b0 : (t170 == t171) = true := beq_iff_eq.mpr c15
            have c15b1 : (t170 != t171) = false := bne_eq_false_iff_eq.mpr c15
            clear c15
            replace H := Option.bind_eq_some_iff.mp H
            obtain ⟨t172, A160, H⟩ := H
            replace H : ((gf_MulW.f t172 a2).bind fun t173 => ((gf_MulW.f a1 a2).bind fun t174 => ((gf_MulW.f a0 t174).bind fun t175 => (if t173 = t175 then ((gf_MulW.f a0 (Go.bits .xor .u8 a1 a2)).bind fun t176 => ((gf_MulW.f a0 a1).bind fun t177 => ((gf_MulW.f a0 a2).bind fun t178 => ((quietuslaw04_sanity.f kj9).bind fun t179 => (if t179 = true then (if x9_4 = true then (if x10_9 = true then (if t176 = (Go.bits .xor .u8 t177 t178) then ((gf_MulW.f a0 1).bind fun t180 => (some (t180 == a0))) else (some false)) else (some false)) else (some false)) else (some false)))))) else ((quietuslaw04_sanity.f kj9).bind fun t181 => (if t181 = true then (if x9_4 = true then (if x10_9 = true then (some false) else (some false)) else (some false)) else (some false))))))) = some r := H
            have A16 := Aside0.mk A160
            clear A160
            replace H := Option.bind_eq_some_iff.mp H
            obtain ⟨t173, A170, H⟩ := H
            replace H : ((gf_MulW.f a1 a2).bind fun t174 => ((gf_MulW.f a0 t174).bind fun t175 => (if t173 = t175 then ((gf_MulW.f a0 (Go.bits .xor .u8 a1 a2)).bind fun t176 => ((gf_MulW.f a0 a1).bind fun t177 => ((gf_MulW.f a0 a2).bind fun t178 => ((quietuslaw04_sanity.f kj9).bind fun t179 => (if t179 = true then (if x9_4 = true then (if x10_9 = true then (if t176 = (Go.bits .xor .u8 t177 t178) then ((gf_MulW.f a0 1).bind fun t180 => (some (t180 == a0))) else (some false)) else (some false)) else (some false)) else (some false)))))) else ((quietuslaw04_sanity.f kj9).bind fun t181 => (if t181 = true then (if x9_4 = true then (if x10_9 = true then (some false) else (some false)) else (some false)) else (some false)))))) = some r := H
            have A17 := Aside0.mk A170
            clear A170
            replace H := Option.bind_eq_some_iff.mp H
            obtain ⟨t174, A180, H⟩ := H
            replace H : ((gf_MulW.f a0 t174).bind fun t175 => (if t173 = t175 then ((gf_MulW.f a0 (Go.bits .xor .u8 a1 a2)).bind fun t176 => ((gf_MulW.f a0 a1).bind fun t177 => ((gf_MulW.f a0 a2).bind fun t178 => ((quietuslaw04_sanity.f kj9).bind fun t179 => (if t179 = true then (if x9_4 = true then (if x10_9 = true then (if t176 = (Go.bits .xor .u8 t177 t178) then ((gf_MulW.f a0 1).bind fun t180 => (some (t180 == a0))) else (some false)) else (some false)) else (some false)) else (some false)))))) else ((quietuslaw04_sanity.f kj9).bind fun t181 => (if t181 = true then (if x9_4 = true then (if x10_9 = true then (some false) else (some false)) else (some false)) else (some false))))) = some r := H
            have A18 := Aside0.mk A180
            clear A180
            replace H := Option.bind_eq_some_iff.mp H
            obtain ⟨t175, A190, H⟩ := H
            replace H : (if t173 = t175 then ((gf_MulW.f a0 (Go.bits .xor .u8 a1 a2)).bind fun t176 => ((gf_MulW.f a0 a1).bind fun t177 => ((gf_MulW.f a0 a2).bind fun t178 => ((quietuslaw04_sanity.f kj9).bind fun t179 => (if t179 = true then (if x9_4 = true then (if x10_9 = true then (if t176 = (Go.bits .xor .u8 t177 t178) then ((gf_MulW.f a0 1).bind fun t180 => (some (t180 == a0))) else (some false)) else (some false)) else (some false)) else (some false)))))) else ((quietuslaw04_sanity.f kj9).bind fun t181 => (if t181 = true then (if x9_4 = true then (if x10_9 = true then (some false) else (some false)) else (some false)) else (some false)))) = some r := H
            have A19 := Aside0.mk A190
            clear A190
            by_cases c20 : t173 = t175
            · rw [if_pos c20] at H
              have c20b0 : (t173 == t175) = true := beq_iff_eq.mpr c20
              have c20b1 : (t173 != t175) = false := bne_eq_false_iff_eq.mpr c20
              clear c20
              replace H := Option.bind_eq_some_iff.mp H
              obtain ⟨t176, A210, H⟩ := H
              replace H : ((gf_MulW.f a0 a1).bind fun t177 => ((gf_MulW.f a0 a2).bind fun t178 => ((quietuslaw04_sanity.f kj9).bind fun t179 => (if t179 = true then (if x9_4 = true then (if x10_9 = true then (if t176 = (Go.bits .xor .u8 t177 t178) then ((gf_MulW.f a0 1).bind fun t180 => (some (t180 == a0))) else (some false)) else (some false)) else (some false)) else (some false))))) = some r := H
              have A21 := Aside0.mk A210
              clear A210
              replace H := Option.bind_eq_some_iff.mp H
              obtain ⟨t177, A220, H⟩ := H
              replace H : ((gf_MulW.f a0 a2).bind fun t178 => ((quietuslaw04_sanity.f kj9).bind fun t179 => (if t179 = true then (if x9_4 = true then (if x10_9 = true then (if t176 = (Go.bits .xor .u8 t177 t178) then ((gf_MulW.f a0 1).bind fun t180 => (some (t180 == a0))) else (some false)) else (some false)) else (some false)) else (some false)))) = some r := H
              have A22 := Aside0.mk A220
              clear A220
              replace H := Option.bind_eq_some_iff.mp H
              obtain ⟨t178, A230, H⟩ := H
              replace H : ((quietuslaw04_sanity.f kj9).bind fun t179 => (if t179 = true then (if x9_4 = true then (if x10_9 = true then (if t176 = (Go.bits .xor .u8 t177 t178) then ((gf_MulW.f a0 1).bind fun t180 => (some (t180 == a0))) else (some false)) else (some false)) else (some false)) else (some false))) = some r := H
              have A23 := Aside0.mk A230
              clear A230
              replace H := Option.bind_eq_some_iff.mp H
              obtain ⟨t179, A240, H⟩ := H
              replace H : (if t179 = true then (if x9_4 = true then (if x10_9 = true then (if t176 = (Go.bits .xor .u8 t177 t178) then ((gf_MulW.f a0 1).bind fun t180 => (some (t180 == a0))) else (some false)) else (some false)) else (some false)) else (some false)) = some r := H
              have A24 := Aside0.mk A240
              clear A240
              by_cases c25 : t179 = true
              · subst c25
                have H1 : (if x9_4 = true then (if x10_9 = true then (if t176 = (Go.bits .xor .u8 t177 t178) then ((gf_MulW.f a0 1).bind fun t180 => (some (t180 == a0))) else (some false)) else (some false)) else (some false)) = some r := by rw [if_pos rfl] at H; exact H
                clear H
                have H := H1
                clear H1
                by_cases c26 : x9_4 = true
                · subst c26
                  have H1 : (if x10_9 = true then (if t176 = (Go.bits .xor .u8 t177 t178) then ((gf_MulW.f a0 1).bind fun t180 => (some (t180 == a0))) else (some false)) else (some false)) = some r := by rw [if_pos rfl] at H; exact H
                  clear H
                  have H := H1
                  clear H1
                  by_cases c27 : x10_9 = true
                  · subst c27
                    have H1 : (if t176 = (Go.bits .xor .u8 t177 t178) then ((gf_MulW.f a0 1).bind fun t180 => (some (t180 == a0))) else (some false)) = some r := by rw [if_pos rfl] at H; exact H
                    clear H
                    have H := H1
                    clear H1
                    by_cases c28 : t176 = (Go.bits .xor .u8 t177 t178)
                    · rw [if_pos c28] at H
                      have c28b0 : (t176 == (Go.bits .xor .u8 t177 t178)) = true := beq_iff_eq.mpr c28
                      have c28b1 : (t176 != (Go.bits .xor .u8 t177 t178)) = false := bne_eq_false_iff_eq.mpr c28
                      clear c28
                      replace H := Option.bind_eq_some_iff.mp H
                      obtain ⟨t180, A290, H⟩ := H
                      replace H : (some (t180 == a0)) = some r := H
                      have A29 := Aside0.mk A290
                      clear A290
                      obtain rfl := Option.some.inj H
                      go_wp2_with (first | ((with_reducible refine gate_callee (f := 16) rfl ?_); refine goesL_ (some 50) rfl rfl Tryd.func16 (by kernel_rfl) rfl #[.int .u8 a0, .int .u8 a1] rfl (by (try simp only [List.map_toArray, List.map_cons, List.map_nil]); first | done | rfl | (simp only [List.length_drop, List.length_take]; rfl)) ?_; (with_reducible refine (gf_MulW.calls a0 a1 t170 _ ?sideG A13.out).mono ?_); (case sideG => repeat (first | exact (Kd.C_below HRG.out HB.out) | exact HRG.out | (with_reducible refine Kd.C_alloc ?_ _) | (with_reducible refine Kd.C_drewN ?_ _) | (with_reducible refine Kd.C_drew ?_))); rintro e w' ⟨rfl, ⟨nd, rfl⟩⟩; refine ⟨_, rfl, ?_⟩) | ((with_reducible refine gate_callee (f := 16) rfl ?_); refine goesL_ (some 53) rfl rfl Tryd.func16 (by kernel_rfl) rfl #[.int .u8 a1, .int .u8 a0] rfl (by (try simp only [List.map_toArray, List.map_cons, List.map_nil]); first | done | rfl | (simp only [List.length_drop, List.length_take]; rfl)) ?_; (with_reducible refine (gf_MulW.calls a1 a0 t171 _ ?sideG A14.out).mono ?_); (case sideG => repeat (first | exact (Kd.C_below HRG.out HB.out) | exact HRG.out | (with_reducible refine Kd.C_alloc ?_ _) | (with_reducible refine Kd.C_drewN ?_ _) | (with_reducible refine Kd.C_drew ?_))); rintro e w' ⟨rfl, ⟨nd, rfl⟩⟩; refine ⟨_, rfl, ?_⟩) | (go_at_call 16; (with_reducible refine (gf_MulW.calls a0 a1 t172 _ ?sideG A16.out).mono ?_); (case sideG => repeat (first | exact (Kd.C_below HRG.out HB.out) | exact HRG.out | (with_reducible refine Kd.C_alloc ?_ _) | (with_reducible refine Kd.C_drewN ?_ _) | (with_reducible refine Kd.C_drew ?_))); rintro e w' ⟨rfl, ⟨nd, rfl⟩⟩; clear A16) | (go_at_call 16; (with_reducible refine (gf_MulW.calls t172 a2 t173 _ ?sideG A17.out).mono ?_); (case sideG => repeat (first | exact (Kd.C_below HRG.out HB.out) | exact HRG.out | (with_reducible refine Kd.C_alloc ?_ _) | (with_reducible refine Kd.C_drewN ?_ _) | (with_reducible refine Kd.C_drew ?_))); rintro e w' ⟨rfl, ⟨nd, rfl⟩⟩) | (go_at_call 16; (with_reducible refine (gf_MulW.calls a1 a2 t174 _ ?sideG A18.out).mono ?_); (case sideG => repeat (first | exact (Kd.C_below HRG.out HB.out) | exact HRG.out | (with_reducible refine Kd.C_alloc ?_ _) | (with_reducible refine Kd.C_drewN ?_ _) | (with_reducible refine Kd.C_drew ?_))); rintro e w' ⟨rfl, ⟨nd, rfl⟩⟩) | (go_at_call 16; (with_reducible refine (gf_MulW.calls a0 t174 t175 _ ?sideG A19.out).mono ?_); (case sideG => repeat (first | exact (Kd.C_below HRG.out HB.out) | exact HRG.out | (with_reducible refine Kd.C_alloc ?_ _) | (with_reducible refine Kd.C_drewN ?_ _) | (with_reducible refine Kd.C_drew ?_))); rintro e w' ⟨rfl, ⟨nd, rfl⟩⟩) | (go_at_call 16; (with_reducible refine (gf_MulW.calls a0 (Go.bits .xor .u8 a1 a2) t176 _ ?sideG A21.out).mono ?_); (case sideG => repeat (first | exact (Kd.C_below HRG.out HB.out) | exact HRG.out | (with_reducible refine Kd.C_alloc ?_ _) | (with_reducible refine Kd.C_drewN ?_ _) | (with_reducible refine Kd.C_drew ?_))); rintro e w' ⟨rfl, ⟨nd, rfl⟩⟩) | (go_at_call 16; (with_reducible refine (gf_MulW.calls a0 a1 t177 _ ?sideG A22.out).mono ?_); (case sideG => repeat (first | exact (Kd.C_below HRG.out HB.out) | exact HRG.out | (with_reducible refine Kd.C_alloc ?_ _) | (with_reducible refine Kd.C_drewN ?_ _) | (with_reducible refine Kd.C_drew ?_))); rintro e w' ⟨rfl, ⟨nd, rfl⟩⟩; clear A22) | (go_at_call 16; (with_reducible refine (gf_MulW.calls a0 a2 t178 _ ?sideG A23.out).mono ?_); (case sideG => repeat (first | exact (Kd.C_below HRG.out HB.out) | exact HRG.out | (with_reducible refine Kd.C_alloc ?_ _) | (with_reducible refine Kd.C_drewN ?_ _) | (with_reducible refine Kd.C_drew ?_))); rintro e w' ⟨rfl, ⟨nd, rfl⟩⟩) | ((with_reducible refine gate_callee (f := 15) rfl ?_); refine goesL_ (some 83) rfl rfl Tryd.func15 (by kernel_rfl) rfl #[] rfl (by (try simp only [List.map_toArray, List.map_cons, List.map_nil]); first | done | rfl | (simp only [List.length_drop, List.length_take]; rfl)) ?_; (with_reducible refine (quietuslaw04_sanity.calls kj9  true _ ?sideG A24.out).mono ?_); (case sideG => repeat (first | exact (Kd.C_below HRG.out HB.out) | exact HRG.out | (with_reducible refine Kd.C_alloc ?_ _) | (with_reducible refine Kd.C_drewN ?_ _) | (with_reducible refine Kd.C_drew ?_))); rintro e w30 ⟨rfl, hb⟩; refine ⟨_, rfl, ?_⟩; have n0_ := Aside0.mk (below_step (by repeat (first | (with_reducible first | exact HB.out | apply below_alloc | apply pw_below_drewN | apply below_drew1) | exact HB.out)) hb); clear HB; have HB := n0_; clear n0_; (try clear hb); (try clear hb2); (try clear hk); (try clear hi)) | (go_at_call 16; (with_reducible refine (gf_MulW.calls a0 1 t180 _ ?sideG A29.out).mono ?_); (case sideG => repeat (first | exact (Kd.C_below HRG.out HB.out) | exact HRG.out | (with_reducible refine Kd.C_alloc ?_ _) | (with_reducible refine Kd.C_drewN ?_ _) | (with_reducible refine Kd.C_drew ?_))); rintro e w' ⟨rfl, ⟨nd, rfl⟩⟩))
                      go_ret
                      exact ⟨by first | rfl | (simp [errW_none, errW_some] <;> rfl) | (simp [*, errW_none, errW_some] <;> rfl), by repeat (first | (with_reducible first | exact HB.out | apply below_alloc | apply pw_below_drewN | apply below_drew1) | exact HB.out)⟩
                    · rw [if_neg c28] at H
                      have c28b0 : (t176 == (Go.bits .xor .u8 t177 t178)) = false := beq_eq_false_iff_ne.mpr c28
                      have c28b1 : (t176 != (Go.bits .xor .u8 t177 t178)) = true := bne_iff_ne.mpr c28
                      obtain rfl := Option.some.inj H
                      go_wp2_with (first | ((with_reducible refine gate_callee (f := 16) rfl ?_); refine goesL_ (some 50) rfl rfl Tryd.func16 (by kernel_rfl) rfl #[.int .u8 a0, .int .u8 a1] rfl (by (try simp only [List.map_toArray, List.map_cons, List.map_nil]); first | done | rfl | (simp only [List.length_drop, List.length_take]; rfl)) ?_; (with_reducible refine (gf_MulW.calls a0 a1 t170 _ ?sideG A13.out).mono ?_); (case sideG => repeat (first | exact (Kd.C_below HRG.out HB.out) | exact HRG.out | (with_reducible refine Kd.C_alloc ?_ _) | (with_reducible refine Kd.C_drewN ?_ _) | (with_reducible refine Kd.C_drew ?_))); rintro e w' ⟨rfl, ⟨nd, rfl⟩⟩; refine ⟨_, rfl, ?_⟩) | ((with_reducible refine gate_callee (f := 16) rfl ?_); refine goesL_ (some 53) rfl rfl Tryd.func16 (by kernel_rfl) rfl #[.int .u8 a1, .int .u8 a0] rfl (by (try simp only [List.map_toArray, List.map_cons, List.map_nil]); first | done | rfl | (simp only [List.length_drop, List.length_take]; rfl)) ?_; (with_reducible refine (gf_MulW.calls a1 a0 t171 _ ?sideG A14.out).mono ?_); (case sideG => repeat (first | exact (Kd.C_below HRG.out HB.out) | exact HRG.out | (with_reducible refine Kd.C_alloc ?_ _) | (with_reducible refine Kd.C_drewN ?_ _) | (with_reducible refine Kd.C_drew ?_))); rintro e w' ⟨rfl, ⟨nd, rfl⟩⟩; refine ⟨_, rfl, ?_⟩) | (go_at_call 16; (with_reducible refine (gf_MulW.calls a0 a1 t172 _ ?sideG A16.out).mono ?_); (case sideG => repeat (first | exact (Kd.C_below HRG.out HB.out) | exact HRG.out | (with_reducible refine Kd.C_alloc ?_ _) | (with_reducible refine Kd.C_drewN ?_ _) | (with_reducible refine Kd.C_drew ?_))); rintro e w' ⟨rfl, ⟨nd, rfl⟩⟩; clear A16) | (go_at_call 16; (with_reducible refine (gf_MulW.calls t172 a2 t173 _ ?sideG A17.out).mono ?_); (case sideG => repeat (first | exact (Kd.C_below HRG.out HB.out) | exact HRG.out | (with_reducible refine Kd.C_alloc ?_ _) | (with_reducible refine Kd.C_drewN ?_ _) | (with_reducible refine Kd.C_drew ?_))); rintro e w' ⟨rfl, ⟨nd, rfl⟩⟩) | (go_at_call 16; (with_reducible refine (gf_MulW.calls a1 a2 t174 _ ?sideG A18.out).mono ?_); (case sideG => repeat (first | exact (Kd.C_below HRG.out HB.out) | exact HRG.out | (with_reducible refine Kd.C_alloc ?_ _) | (with_reducible refine Kd.C_drewN ?_ _) | (with_reducible refine Kd.C_drew ?_))); rintro e w' ⟨rfl, ⟨nd, rfl⟩⟩) | (go_at_call 16; (with_reducible refine (gf_MulW.calls a0 t174 t175 _ ?sideG A19.out).mono ?_); (case sideG => repeat (first | exact (Kd.C_below HRG.out HB.out) | exact HRG.out | (with_reducible refine Kd.C_alloc ?_ _) | (with_reducible refine Kd.C_drewN ?_ _) | (with_reducible refine Kd.C_drew ?_))); rintro e w' ⟨rfl, ⟨nd, rfl⟩⟩) | (go_at_call 16; (with_reducible refine (gf_MulW.calls a0 (Go.bits .xor .u8 a1 a2) t176 _ ?sideG A21.out).mono ?_); (case sideG => repeat (first | exact (Kd.C_below HRG.out HB.out) | exact HRG.out | (with_reducible refine Kd.C_alloc ?_ _) | (with_reducible refine Kd.C_drewN ?_ _) | (with_reducible refine Kd.C_drew ?_))); rintro e w' ⟨rfl, ⟨nd, rfl⟩⟩) | (go_at_call 16; (with_reducible refine (gf_MulW.calls a0 a1 t177 _ ?sideG A22.out).mono ?_); (case sideG => repeat (first | exact (Kd.C_below HRG.out HB.out) | exact HRG.out | (with_reducible refine Kd.C_alloc ?_ _) | (with_reducible refine Kd.C_drewN ?_ _) | (with_reducible refine Kd.C_drew ?_))); rintro e w' ⟨rfl, ⟨nd, rfl⟩⟩; clear A22) | (go_at_call 16; (with_reducible refine (gf_MulW.calls a0 a2 t178 _ ?sideG A23.out).mono ?_); (case sideG => repeat (first | exact (Kd.C_below HRG.out HB.out) | exact HRG.out | (with_reducible refine Kd.C_alloc ?_ _) | (with_reducible refine Kd.C_drewN ?_ _) | (with_reducible refine Kd.C_drew ?_))); rintro e w' ⟨rfl, ⟨nd, rfl⟩⟩) | ((with_reducible refine gate_callee (f := 15) rfl ?_); refine goesL_ (some 83) rfl rfl Tryd.func15 (by kernel_rfl) rfl #[] rfl (by (try simp only [List.map_toArray, List.map_cons, List.map_nil]); first | done | rfl | (simp only [List.length_drop, List.length_take]; rfl)) ?_; (with_reducible refine (quietuslaw04_sanity.calls kj9  true _ ?sideG A24.out).mono ?_); (case sideG => repeat (first | exact (Kd.C_below HRG.out HB.out) | exact HRG.out | (with_reducible refine Kd.C_alloc ?_ _) | (with_reducible refine Kd.C_drewN ?_ _) | (with_reducible refine Kd.C_drew ?_))); rintro e w31 ⟨rfl, hb⟩; refine ⟨_, rfl, ?_⟩; have n0_ := Aside0.mk (below_step (by repeat (first | (with_reducible first | exact HB.out | apply below_alloc | apply pw_below_drewN | apply below_drew1) | exact HB.out)) hb); clear HB; have HB := n0_; clear n0_; (try clear hb); (try clear hb2); (try clear hk); (try clear hi)))
                      go_ret
                      exact ⟨by first | rfl | (simp [errW_none, errW_some] <;> rfl) | (simp [*, errW_none, errW_some] <;> rfl), by repeat (first | (with_reducible first | exact HB.out | apply below_alloc | apply pw_below_drewN | apply below_drew1) | exact HB.out)⟩
                  · replace c27 := Bool.eq_false_iff.mpr c27
                    subst c27
                    have H1 : (some false) = some r := by rw [if_neg (show ¬ (false = true) by decide)] at H; exact H
                    clear H
                    have H := H1
                    clear H1
                    obtain rfl := Option.some.inj H
                    go_wp2_with (first | ((with_reducible refine gate_callee (f := 16) rfl ?_); refine goesL_ (some 50) rfl rfl Tryd.func16 (by kernel_rfl) rfl #[.int .u8 a0, .int .u8 a1] rfl (by (try simp only [List.map_toArray, List.map_cons, List.map_nil]); first | done | rfl | (simp only [List.length_drop, List.length_take]; rfl)) ?_; (with_reducible refine (gf_MulW.calls a0 a1 t170 _ ?sideG A13.out).mono ?_); (case sideG => repeat (first | exact (Kd.C_below HRG.out HB.out) | exact HRG.out | (with_reducible refine Kd.C_alloc ?_ _) | (with_reducible refine Kd.C_drewN ?_ _) | (with_reducible refine Kd.C_drew ?_))); rintro e w' ⟨rfl, ⟨nd, rfl⟩⟩; refine ⟨_, rfl, ?_⟩) | ((with_reducible refine gate_callee (f := 16) rfl ?_); refine goesL_ (some 53) rfl rfl Tryd.func16 (by kernel_rfl) rfl #[.int .u8 a1, .int .u8 a0] rfl (by (try simp only [List.map_toArray, List.map_cons, List.map_nil]); first | done | rfl | (simp only [List.length_drop, List.length_take]; rfl)) ?_; (with_reducible refine (gf_MulW.calls a1 a0 t171 _ ?sideG A14.out).mono ?_); (case sideG => repeat (first | exact (Kd.C_below HRG.out HB.out) | exact HRG.out | (with_reducible refine Kd.C_alloc ?_ _) | (with_reducible refine Kd.C_drewN ?_ _) | (with_reducible refine Kd.C_drew ?_))); rintro e w' ⟨rfl, ⟨nd, rfl⟩⟩; refine ⟨_, rfl, ?_⟩) | (go_at_call 16; (with_reducible refine (gf_MulW.calls a0 a1 t172 _ ?sideG A16.out).mono ?_); (case sideG => repeat (first | exact (Kd.C_below HRG.out HB.out) | exact HRG.out | (with_reducible refine Kd.C_alloc ?_ _) | (with_reducible refine Kd.C_drewN ?_ _) | (with_reducible refine Kd.C_drew ?_))); rintro e w' ⟨rfl, ⟨nd, rfl⟩⟩; clear A16) | (go_at_call 16; (with_reducible refine (gf_MulW.calls t172 a2 t173 _ ?sideG A17.out).mono ?_); (case sideG => repeat (first | exact (Kd.C_below HRG.out HB.out) | exact HRG.out | (with_reducible refine Kd.C_alloc ?_ _) | (with_reducible refine Kd.C_drewN ?_ _) | (with_reducible refine Kd.C_drew ?_))); rintro e w' ⟨rfl, ⟨nd, rfl⟩⟩) | (go_at_call 16; (with_reducible refine (gf_MulW.calls a1 a2 t174 _ ?sideG A18.out).mono ?_); (case sideG => repeat (first | exact (Kd.C_below HRG.out HB.out) | exact HRG.out | (with_reducible refine Kd.C_alloc ?_ _) | (with_reducible refine Kd.C_drewN ?_ _) | (with_reducible refine Kd.C_drew ?_))); rintro e w' ⟨rfl, ⟨nd, rfl⟩⟩) | (go_at_call 16; (with_reducible refine (gf_MulW.calls a0 t174 t175 _ ?sideG A19.out).mono ?_); (case sideG => repeat (first | exact (Kd.C_below HRG.out HB.out) | exact HRG.out | (with_reducible refine Kd.C_alloc ?_ _) | (with_reducible refine Kd.C_drewN ?_ _) | (with_reducible refine Kd.C_drew ?_))); rintro e w' ⟨rfl, ⟨nd, rfl⟩⟩) | (go_at_call 16; (with_reducible refine (gf_MulW.calls a0 (Go.bits .xor .u8 a1 a2) t176 _ ?sideG A21.out).mono ?_); (case sideG => repeat (first | exact (Kd.C_below HRG.out HB.out) | exact HRG.out | (with_reducible refine Kd.C_alloc ?_ _) | (with_reducible refine Kd.C_drewN ?_ _) | (with_reducible refine Kd.C_drew ?_))); rintro e w' ⟨rfl, ⟨nd, rfl⟩⟩) | (go_at_call 16; (with_reducible refine (gf_MulW.calls a0 a1 t177 _ ?sideG A22.out).mono ?_); (case sideG => repeat (first | exact (Kd.C_below HRG.out HB.out) | exact HRG.out | (with_reducible refine Kd.C_alloc ?_ _) | (with_reducible refine Kd.C_drewN ?_ _) | (with_reducible refine Kd.C_drew ?_))); rintro e w' ⟨rfl, ⟨nd, rfl⟩⟩; clear A22) | (go_at_call 16; (with_reducible refine (gf_MulW.calls a0 a2 t178 _ ?sideG A23.out).mono ?_); (case sideG => repeat (first | exact (Kd.C_below HRG.out HB.out) | exact HRG.out | (with_reducible refine Kd.C_alloc ?_ _) | (with_reducible refine Kd.C_drewN ?_ _) | (with_reducible refine Kd.C_drew ?_))); rintro e w' ⟨rfl, ⟨nd, rfl⟩⟩) | ((with_reducible refine gate_callee (f := 15) rfl ?_); refine goesL_ (some 83) rfl rfl Tryd.func15 (by kernel_rfl) rfl #[] rfl (by (try simp only [List.map_toArray, List.map_cons, List.map_nil]); first | done | rfl | (simp only [List.length_drop, List.length_take]; rfl)) ?_; (with_reducible refine (quietuslaw04_sanity.calls kj9  true _ ?sideG A24.out).mono ?_); (case sideG => repeat (first | exact (Kd.C_below HRG.out HB.out) | exact HRG.out | (with_reducible refine Kd.C_alloc ?_ _) | (with_reducible refine Kd.C_drewN ?_ _) | (with_reducible refine Kd.C_drew ?_))); rintro e w32 ⟨rfl, hb⟩; refine ⟨_, rfl, ?_⟩; have n0_ := Aside0.mk (below_step (by repeat (first | (with_reducible first | exact HB.out | apply below_alloc | apply pw_below_drewN | apply below_drew1) | exact HB.out)) hb); clear HB; have HB := n0_; clear n0_; (try clear hb); (try clear hb2); (try clear hk); (try clear hi)))
                    go_ret
                    exact ⟨by first | rfl | (simp [errW_none, errW_some] <;> rfl) | (simp [*, errW_none, errW_some] <;> rfl), by repeat (first | (with_reducible first | exact HB.out | apply below_alloc | apply pw_below_drewN | apply below_drew1) | exact HB.out)⟩
                · replace c26 := Bool.eq_false_iff.mpr c26
                  subst c26
                  have H1 : (some false) = some r := by rw [if_neg (show ¬ (false = true) by decide)] at H; exact H
                  clear H
                  have H := H1
                  clear H1
                  obtain rfl := Option.some.inj H
                  go_wp2_with (first | ((with_reducible refine gate_callee (f := 16) rfl ?_); refine goesL_ (some 50) rfl rfl Tryd.func16 (by kernel_rfl) rfl #[.int .u8 a0, .int .u8 a1] rfl (by (try simp only [List.map_toArray, List.map_cons, List.map_nil]); first | done | rfl | (simp only [List.length_drop, List.length_take]; rfl)) ?_; (with_reducible refine (gf_MulW.calls a0 a1 t170 _ ?sideG A13.out).mono ?_); (case sideG => repeat (first | exact (Kd.C_below HRG.out HB.out) | exact HRG.out | (with_reducible refine Kd.C_alloc ?_ _) | (with_reducible refine Kd.C_drewN ?_ _) | (with_reducible refine Kd.C_drew ?_))); rintro e w' ⟨rfl, ⟨nd, rfl⟩⟩; refine ⟨_, rfl, ?_⟩) | ((with_reducible refine gate_callee (f := 16) rfl ?_); refine goesL_ (some 53) rfl rfl Tryd.func16 (by kernel_rfl) rfl #[.int .u8 a1, .int .u8 a0] rfl (by (try simp only [List.map_toArray, List.map_cons, List.map_nil]); first | done | rfl | (simp only [List.length_drop, List.length_take]; rfl)) ?_; (with_reducible refine (gf_MulW.calls a1 a0 t171 _ ?sideG A14.out).mono ?_); (case sideG => repeat (first | exact (Kd.C_below HRG.out HB.out) | exact HRG.out | (with_reducible refine Kd.C_alloc ?_ _) | (with_reducible refine Kd.C_drewN ?_ _) | (with_reducible refine Kd.C_drew ?_))); rintro e w' ⟨rfl, ⟨nd, rfl⟩⟩; refine ⟨_, rfl, ?_⟩) | (go_at_call 16; (with_reducible refine (gf_MulW.calls a0 a1 t172 _ ?sideG A16.out).mono ?_); (case sideG => repeat (first | exact (Kd.C_below HRG.out HB.out) | exact HRG.out | (with_reducible refine Kd.C_alloc ?_ _) | (with_reducible refine Kd.C_drewN ?_ _) | (with_reducible refine Kd.C_drew ?_))); rintro e w' ⟨rfl, ⟨nd, rfl⟩⟩; clear A16) | (go_at_call 16; (with_reducible refine (gf_MulW.calls t172 a2 t173 _ ?sideG A17.out).mono ?_); (case sideG => repeat (first | exact (Kd.C_below HRG.out HB.out) | exact HRG.out | (with_reducible refine Kd.C_alloc ?_ _) | (with_reducible refine Kd.C_drewN ?_ _) | (with_reducible refine Kd.C_drew ?_))); rintro e w' ⟨rfl, ⟨nd, rfl⟩⟩) | (go_at_call 16; (with_reducible refine (gf_MulW.calls a1 a2 t174 _ ?sideG A18.out).mono ?_); (case sideG => repeat (first | exact (Kd.C_below HRG.out HB.out) | exact HRG.out | (with_reducible refine Kd.C_alloc ?_ _) | (with_reducible refine Kd.C_drewN ?_ _) | (with_reducible refine Kd.C_drew ?_))); rintro e w' ⟨rfl, ⟨nd, rfl⟩⟩) | (go_at_call 16; (with_reducible refine (gf_MulW.calls a0 t174 t175 _ ?sideG A19.out).mono ?_); (case sideG => repeat (first | exact (Kd.C_below HRG.out HB.out) | exact HRG.out | (with_reducible refine Kd.C_alloc ?_ _) | (with_reducible refine Kd.C_drewN ?_ _) | (with_reducible refine Kd.C_drew ?_))); rintro e w' ⟨rfl, ⟨nd, rfl⟩⟩) | (go_at_call 16; (with_reducible refine (gf_MulW.calls a0 (Go.bits .xor .u8 a1 a2) t176 _ ?sideG A21.out).mono ?_); (case sideG => repeat (first | exact (Kd.C_below HRG.out HB.out) | exact HRG.out | (with_reducible refine Kd.C_alloc ?_ _) | (with_reducible refine Kd.C_drewN ?_ _) | (with_reducible refine Kd.C_drew ?_))); rintro e w' ⟨rfl, ⟨nd, rfl⟩⟩) | (go_at_call 16; (with_reducible refine (gf_MulW.calls a0 a1 t177 _ ?sideG A22.out).mono ?_); (case sideG => repeat (first | exact (Kd.C_below HRG.out HB.out) | exact HRG.out | (with_reducible refine Kd.C_alloc ?_ _) | (with_reducible refine Kd.C_drewN ?_ _) | (with_reducible refine Kd.C_drew ?_))); rintro e w' ⟨rfl, ⟨nd, rfl⟩⟩; clear A22) | (go_at_call 16; (with_reducible refine (gf_MulW.calls a0 a2 t178 _ ?sideG A23.out).mono ?_); (case sideG => repeat (first | exact (Kd.C_below HRG.out HB.out) | exact HRG.out | (with_reducible refine Kd.C_alloc ?_ _) | (with_reducible refine Kd.C_drewN ?_ _) | (with_reducible refine Kd.C_drew ?_))); rintro e w' ⟨rfl, ⟨nd, rfl⟩⟩) | ((with_reducible refine gate_callee (f := 15) rfl ?_); refine goesL_ (some 83) rfl rfl Tryd.func15 (by kernel_rfl) rfl #[] rfl (by (try simp only [List.map_toArray, List.map_cons, List.map_nil]); first | done | rfl | (simp only [List.length_drop, List.length_take]; rfl)) ?_; (with_reducible refine (quietuslaw04_sanity.calls kj9  true _ ?sideG A24.out).mono ?_); (case sideG => repeat (first | exact (Kd.C_below HRG.out HB.out) | exact HRG.out | (with_reducible refine Kd.C_alloc ?_ _) | (with_reducible refine Kd.C_drewN ?_ _) | (with_reducible refine Kd.C_drew ?_))); rintro e w33 ⟨rfl, hb⟩; refine ⟨_, rfl, ?_⟩; have n0_ := Aside0.mk (below_step (by repeat (first | (with_reducible first | exact HB.out | apply below_alloc | apply pw_below_drewN | apply below_drew1) | exact HB.out)) hb); clear HB; have HB := n0_; clear n0_; (try clear hb); (try clear hb2); (try clear hk); (try clear hi)))
                  go_ret
                  exact ⟨by first | rfl | (simp [errW_none, errW_some] <;> rfl) | (simp [*, errW_none, errW_some] <;> rfl), by repeat (first | (with_reducible first | exact HB.out | apply below_alloc | apply pw_below_drewN | apply below_drew1) | exact HB.out)⟩
              · replace c25 := Bool.eq_false_iff.mpr c25
                subst c25
                have H1 : (some false) = some r := by rw [if_neg (show ¬ (false = true) by decide)] at H; exact H
                clear H
                have H := H1
                clear H1
                obtain rfl := Option.some.inj H
                go_wp2_with (first | ((with_reducible refine gate_callee (f := 16) rfl ?_); refine goesL_ (some 50) rfl rfl Tryd.func16 (by kernel_rfl) rfl #[.int .u8 a0, .int .u8 a1] rfl (by (try simp only [List.map_toArray, List.map_cons, List.map_nil]); first | done | rfl | (simp only [List.length_drop, List.length_take]; rfl)) ?_; (with_reducible refine (gf_MulW.calls a0 a1 t170 _ ?sideG A13.out).mono ?_); (case sideG => repeat (first | exact (Kd.C_below HRG.out HB.out) | exact HRG.out | (with_reducible refine Kd.C_alloc ?_ _) | (with_reducible refine Kd.C_drewN ?_ _) | (with_reducible refine Kd.C_drew ?_))); rintro e w' ⟨rfl, ⟨nd, rfl⟩⟩; refine ⟨_, rfl, ?_⟩) | ((with_reducible refine gate_callee (f := 16) rfl ?_); refine goesL_ (some 53) rfl rfl Tryd.func16 (by kernel_rfl) rfl #[.int .u8 a1, .int .u8 a0] rfl (by (try simp only [List.map_toArray, List.map_cons, List.map_nil]); first | done | rfl | (simp only [List.length_drop, List.length_take]; rfl)) ?_; (with_reducible refine (gf_MulW.calls a1 a0 t171 _ ?sideG A14.out).mono ?_); (case sideG => repeat (first | exact (Kd.C_below HRG.out HB.out) | exact HRG.out | (with_reducible refine Kd.C_alloc ?_ _) | (with_reducible refine Kd.C_drewN ?_ _) | (with_reducible refine Kd.C_drew ?_))); rintro e w' ⟨rfl, ⟨nd, rfl⟩⟩; refine ⟨_, rfl, ?_⟩) | (go_at_call 16; (with_reducible refine (gf_MulW.calls a0 a1 t172 _ ?sideG A16.out).mono ?_); (case sideG => repeat (first | exact (Kd.C_below HRG.out HB.out) | exact HRG.out | (with_reducible refine Kd.C_alloc ?_ _) | (with_reducible refine Kd.C_drewN ?_ _) | (with_reducible refine Kd.C_drew ?_))); rintro e w' ⟨rfl, ⟨nd, rfl⟩⟩; clear A16) | (go_at_call 16; (with_reducible refine (gf_MulW.calls t172 a2 t173 _ ?sideG A17.out).mono ?_); (case sideG => repeat (first | exact (Kd.C_below HRG.out HB.out) | exact HRG.out | (with_reducible refine Kd.C_alloc ?_ _) | (with_reducible refine Kd.C_drewN ?_ _) | (with_reducible refine Kd.C_drew ?_))); rintro e w' ⟨rfl, ⟨nd, rfl⟩⟩) | (go_at_call 16; (with_reducible refine (gf_MulW.calls a1 a2 t174 _ ?sideG A18.out).mono ?_); (case sideG => repeat (first | exact (Kd.C_below HRG.out HB.out) | exact HRG.out | (with_reducible refine Kd.C_alloc ?_ _) | (with_reducible refine Kd.C_drewN ?_ _) | (with_reducible refine Kd.C_drew ?_))); rintro e w' ⟨rfl, ⟨nd, rfl⟩⟩) | (go_at_call 16; (with_reducible refine (gf_MulW.calls a0 t174 t175 _ ?sideG A19.out).mono ?_); (case sideG => repeat (first | exact (Kd.C_below HRG.out HB.out) | exact HRG.out | (with_reducible refine Kd.C_alloc ?_ _) | (with_reducible refine Kd.C_drewN ?_ _) | (with_reducible refine Kd.C_drew ?_))); rintro e w' ⟨rfl, ⟨nd, rfl⟩⟩) | (go_at_call 16; (with_reducible refine (gf_MulW.calls a0 (Go.bits .xor .u8 a1 a2) t176 _ ?sideG A21.out).mono ?_); (case sideG => repeat (first | exact (Kd.C_below HRG.out HB.out) | exact HRG.out | (with_reducible refine Kd.C_alloc ?_ _) | (with_reducible refine Kd.C_drewN ?_ _) | (with_reducible refine Kd.C_drew ?_))); rintro e w' ⟨rfl, ⟨nd, rfl⟩⟩) | (go_at_call 16; (with_reducible refine (gf_MulW.calls a0 a1 t177 _ ?sideG A22.out).mono ?_); (case sideG => repeat (first | exact (Kd.C_below HRG.out HB.out) | exact HRG.out | (with_reducible refine Kd.C_alloc ?_ _) | (with_reducible refine Kd.C_drewN ?_ _) | (with_reducible refine Kd.C_drew ?_))); rintro e w' ⟨rfl, ⟨nd, rfl⟩⟩; clear A22) | (go_at_call 16; (with_reducible refine (gf_MulW.calls a0 a2 t178 _ ?sideG A23.out).mono ?_); (case sideG => repeat (first | exact (Kd.C_below HRG.out HB.out) | exact HRG.out | (with_reducible refine Kd.C_alloc ?_ _) | (with_reducible refine Kd.C_drewN ?_ _) | (with_reducible refine Kd.C_drew ?_))); rintro e w' ⟨rfl, ⟨nd, rfl⟩⟩) | ((with_reducible refine gate_callee (f := 15) rfl ?_); refine goesL_ (some 83) rfl rfl Tryd.func15 (by kernel_rfl) rfl #[] rfl (by (try simp only [List.map_toArray, List.map_cons, List.map_nil]); first | done | rfl | (simp only [List.length_drop, List.length_take]; rfl)) ?_; (with_reducible refine (quietuslaw04_sanity.calls kj9  false _ ?sideG A24.out).mono ?_); (case sideG => repeat (first | exact (Kd.C_below HRG.out HB.out) | exact HRG.out | (with_reducible refine Kd.C_alloc ?_ _) | (with_reducible refine Kd.C_drewN ?_ _) | (with_reducible refine Kd.C_drew ?_))); rintro e w34 ⟨rfl, hb⟩; refine ⟨_, rfl, ?_⟩; have n0_ := Aside0.mk (below_step (by repeat (first | (with_reducible first | exact HB.out | apply below_alloc | apply pw_below_drewN | apply below_drew1) | exact HB.out)) hb); clear HB; have HB := n0_; clear n0_; (try clear hb); (try clear hb2); (try clear hk); (try clear hi)))
                go_ret
                exact ⟨by first | rfl | (simp [errW_none, errW_some] <;> rfl) | (simp [*, errW_none, errW_some] <;> rfl), by repeat (first | (with_reducible first | exact HB.out | apply below_alloc | apply pw_below_drewN | apply below_drew1) | exact HB.out)⟩
            · rw [if_neg c20] at H
              have c20b0 : (t173 == t175) = false := beq_eq_false_iff_ne.mpr c20
              have c20b1 : (t173 != t175) = true := bne_iff_ne.mpr c20
              replace H := Option.bind_eq_some_iff.mp H
              obtain ⟨t181, A350, H⟩ := H
              replace H : (if t181 = true then (if x9_4 = true then (if x10_9 = true then (some false) else (some false)) else (some false)) else (some false)) = some r := H
              have A35 := Aside0.mk A350
              clear A350
              by_cases c36 : t181 = true
              · subst c36
                have H1 : (if x9_4 = true then (if x10_9 = true then (some false) else (some false)) else (some false)) = some r := by rw [if_pos rfl] at H; exact H
                clear H
                have H := H1
                clear H1
                by_cases c37 : x9_4 = true
                · subst c37
                  have H1 : (if x10_9 = true then (some false) else (some false)) = some r := by rw [if_pos rfl] at H; exact H
                  clear H
                  have H := H1
                  clear H1
                  by_cases c38 : x10_9 = true
                  · subst c38
                    have H1 : (some false) = some r := by rw [if_pos rfl] at H; exact H
                    clear H
                    have H := H1
                    clear H1
                    obtain rfl := Option.some.inj H
                    go_wp2_with (first | ((with_reducible refine gate_callee (f := 16) rfl ?_); refine goesL_ (some 50) rfl rfl Tryd.func16 (by kernel_rfl) rfl #[.int .u8 a0, .int .u8 a1] rfl (by (try simp only [List.map_toArray, List.map_cons, List.map_nil]); first | done | rfl | (simp only [List.length_drop, List.length_take]; rfl)) ?_; (with_reducible refine (gf_MulW.calls a0 a1 t170 _ ?sideG A13.out).mono ?_); (case sideG => repeat (first | exact (Kd.C_below HRG.out HB.out) | exact HRG.out | (with_reducible refine Kd.C_alloc ?_ _) | (with_reducible refine Kd.C_drewN ?_ _) | (with_reducible refine Kd.C_drew ?_))); rintro e w' ⟨rfl, ⟨nd, rfl⟩⟩; refine ⟨_, rfl, ?_⟩) | ((with_reducible refine gate_callee (f := 16) rfl ?_); refine goesL_ (some 53) rfl rfl Tryd.func16 (by kernel_rfl) rfl #[.int .u8 a1, .int .u8 a0] rfl (by (try simp only [List.map_toArray, List.map_cons, List.map_nil]); first | done | rfl | (simp only [List.length_drop, List.length_take]; rfl)) ?_; (with_reducible refine (gf_MulW.calls a1 a0 t171 _ ?sideG A14.out).mono ?_); (case sideG => repeat (first | exact (Kd.C_below HRG.out HB.out) | exact HRG.out | (with_reducible refine Kd.C_alloc ?_ _) | (with_reducible refine Kd.C_drewN ?_ _) | (with_reducible refine Kd.C_drew ?_))); rintro e w' ⟨rfl, ⟨nd, rfl⟩⟩; refine ⟨_, rfl, ?_⟩) | (go_at_call 16; (with_reducible refine (gf_MulW.calls a0 a1 t172 _ ?sideG A16.out).mono ?_); (case sideG => repeat (first | exact (Kd.C_below HRG.out HB.out) | exact HRG.out | (with_reducible refine Kd.C_alloc ?_ _) | (with_reducible refine Kd.C_drewN ?_ _) | (with_reducible refine Kd.C_drew ?_))); rintro e w' ⟨rfl, ⟨nd, rfl⟩⟩) | (go_at_call 16; (with_reducible refine (gf_MulW.calls t172 a2 t173 _ ?sideG A17.out).mono ?_); (case sideG => repeat (first | exact (Kd.C_below HRG.out HB.out) | exact HRG.out | (with_reducible refine Kd.C_alloc ?_ _) | (with_reducible refine Kd.C_drewN ?_ _) | (with_reducible refine Kd.C_drew ?_))); rintro e w' ⟨rfl, ⟨nd, rfl⟩⟩) | (go_at_call 16; (with_reducible refine (gf_MulW.calls a1 a2 t174 _ ?sideG A18.out).mono ?_); (case sideG => repeat (first | exact (Kd.C_below HRG.out HB.out) | exact HRG.out | (with_reducible refine Kd.C_alloc ?_ _) | (with_reducible refine Kd.C_drewN ?_ _) | (with_reducible refine Kd.C_drew ?_))); rintro e w' ⟨rfl, ⟨nd, rfl⟩⟩) | (go_at_call 16; (with_reducible refine (gf_MulW.calls a0 t174 t175 _ ?sideG A19.out).mono ?_); (case sideG => repeat (first | exact (Kd.C_below HRG.out HB.out) | exact HRG.out | (with_reducible refine Kd.C_alloc ?_ _) | (with_reducible refine Kd.C_drewN ?_ _) | (with_reducible refine Kd.C_drew ?_))); rintro e w' ⟨rfl, ⟨nd, rfl⟩⟩) | ((with_reducible refine gate_callee (f := 15) rfl ?_); refine goesL_ (some 83) rfl rfl Tryd.func15 (by kernel_rfl) rfl #[] rfl (by (try simp only [List.map_toArray, List.map_cons, List.map_nil]); first | done | rfl | (simp only [List.length_drop, List.length_take]; rfl)) ?_; (with_reducible refine (quietuslaw04_sanity.calls kj9  true _ ?sideG A35.out).mono ?_); (case sideG => repeat (first | exact (Kd.C_below HRG.out HB.out) | exact HRG.out | (with_reducible refine Kd.C_alloc ?_ _) | (with_reducible refine Kd.C_drewN ?_ _) | (with_reducible refine Kd.C_drew ?_))); rintro e w39 ⟨rfl, hb⟩; refine ⟨_, rfl, ?_⟩; have n0_ := Aside0.mk (below_step (by repeat (first | (with_reducible first | exact HB.out | apply below_alloc | apply pw_below_drewN | apply below_drew1) | exact HB.out)) hb); clear HB; have HB := n0_; clear n0_; (try clear hb); (try clear hb2); (try clear hk); (try clear hi)))
                    go_ret
                    exact ⟨by first | rfl | (simp [errW_none, errW_some] <;> rfl) | (simp [*, errW_none, errW_some] <;> rfl), by repeat (first | (with_reducible first | exact HB.out | apply below_alloc | apply pw_below_drewN | apply below_drew1) | exact HB.out)⟩
                  · replace c38 := Bool.eq_false_iff.mpr c38
                    subst c38
                    have H1 : (some false) = some r := by rw [if_neg (show ¬ (false = true) by decide)] at H; exact H
                    clear H
                    have H := H1
                    clear H1
                    obtain rfl := Option.some.inj H
                    go_wp2_with (first | ((with_reducible refine gate_callee (f := 16) rfl ?_); refine goesL_ (some 50) rfl rfl Tryd.func16 (by kernel_rfl) rfl #[.int .u8 a0, .int .u8 a1] rfl (by (try simp only [List.map_toArray, List.map_cons, List.map_nil]); first | done | rfl | (simp only [List.length_drop, List.length_take]; rfl)) ?_; (with_reducible refine (gf_MulW.calls a0 a1 t170 _ ?sideG A13.out).mono ?_); (case sideG => repeat (first | exact (Kd.C_below HRG.out HB.out) | exact HRG.out | (with_reducible refine Kd.C_alloc ?_ _) | (with_reducible refine Kd.C_drewN ?_ _) | (with_reducible refine Kd.C_drew ?_))); rintro e w' ⟨rfl, ⟨nd, rfl⟩⟩; refine ⟨_, rfl, ?_⟩) | ((with_reducible refine gate_callee (f := 16) rfl ?_); refine goesL_ (some 53) rfl rfl Tryd.func16 (by kernel_rfl) rfl #[.int .u8 a1, .int .u8 a0] rfl (by (try simp only [List.map_toArray, List.map_cons, List.map_nil]); first | done | rfl | (simp only [List.length_drop, List.length_take]; rfl)) ?_; (with_reducible refine (gf_MulW.calls a1 a0 t171 _ ?sideG A14.out).mono ?_); (case sideG => repeat (first | exact (Kd.C_below HRG.out HB.out) | exact HRG.out | (with_reducible refine Kd.C_alloc ?_ _) | (with_reducible refine Kd.C_drewN ?_ _) | (with_reducible refine Kd.C_drew ?_))); rintro e w' ⟨rfl, ⟨nd, rfl⟩⟩; refine ⟨_, rfl, ?_⟩) | (go_at_call 16; (with_reducible refine (gf_MulW.calls a0 a1 t172 _ ?sideG A16.out).mono ?_); (case sideG => repeat (first | exact (Kd.C_below HRG.out HB.out) | exact HRG.out | (with_reducible refine Kd.C_alloc ?_ _) | (with_reducible refine Kd.C_drewN ?_ _) | (with_reducible refine Kd.C_drew ?_))); rintro e w' ⟨rfl, ⟨nd, rfl⟩⟩) | (go_at_call 16; (with_reducible refine (gf_MulW.calls t172 a2 t173 _ ?sideG A17.out).mono ?_); (case sideG => repeat (first | exact (Kd.C_below HRG.out HB.out) | exact HRG.out | (with_reducible refine Kd.C_alloc ?_ _) | (with_reducible refine Kd.C_drewN ?_ _) | (with_reducible refine Kd.C_drew ?_))); rintro e w' ⟨rfl, ⟨nd, rfl⟩⟩) | (go_at_call 16; (with_reducible refine (gf_MulW.calls a1 a2 t174 _ ?sideG A18.out).mono ?_); (case sideG => repeat (first | exact (Kd.C_below HRG.out HB.out) | exact HRG.out | (with_reducible refine Kd.C_alloc ?_ _) | (with_reducible refine Kd.C_drewN ?_ _) | (with_reducible refine Kd.C_drew ?_))); rintro e w' ⟨rfl, ⟨nd, rfl⟩⟩) | (go_at_call 16; (with_reducible refine (gf_MulW.calls a0 t174 t175 _ ?sideG A19.out).mono ?_); (case sideG => repeat (first | exact (Kd.C_below HRG.out HB.out) | exact HRG.out | (with_reducible refine Kd.C_alloc ?_ _) | (with_reducible refine Kd.C_drewN ?_ _) | (with_reducible refine Kd.C_drew ?_))); rintro e w' ⟨rfl, ⟨nd, rfl⟩⟩) | ((with_reducible refine gate_callee (f := 15) rfl ?_); refine goesL_ (some 83) rfl rfl Tryd.func15 (by kernel_rfl) rfl #[] rfl (by (try simp only [List.map_toArray, List.map_cons, List.map_nil]); first | done | rfl | (simp only [List.length_drop, List.length_take]; rfl)) ?_; (with_reducible refine (quietuslaw04_sanity.calls kj9  true _ ?sideG A35.out).mono ?_); (case sideG => repeat (first | exact (Kd.C_below HRG.out HB.out) | exact HRG.out | (with_reducible refine Kd.C_alloc ?_ _) | (with_reducible refine Kd.C_drewN ?_ _) | (with_reducible refine Kd.C_drew ?_))); rintro e w40 ⟨rfl, hb⟩; refine ⟨_, rfl, ?_⟩; have n0_ := Aside0.mk (below_step (by repeat (first | (with_reducible first | exact HB.out | apply below_alloc | apply pw_below_drewN | apply below_drew1) | exact HB.out)) hb); clear HB; have HB := n0_; clear n0_; (try clear hb); (try clear hb2); (try clear hk); (try clear hi)))
                    go_ret
                    exact ⟨by first | rfl | (simp [errW_none, errW_some] <;> rfl) | (simp [*, errW_none, errW_some] <;> rfl), by repeat (first | (with_reducible first | exact HB.out | apply below_alloc | apply pw_below_drewN | apply below_drew1) | exact HB.out)⟩
                · replace c37 := Bool.eq_false_iff.mpr c37
                  subst c37
                  have H1 : (some false) = some r := by rw [if_neg (show ¬ (false = true) by decide)] at H; exact H
                  clear H
                  have H := H1
                  clear H1
                  obtain rfl := Option.some.inj H
                  go_wp2_with (first | ((with_reducible refine gate_callee (f := 16) rfl ?_); refine goesL_ (some 50) rfl rfl Tryd.func16 (by kernel_rfl) rfl #[.int .u8 a0, .int .u8 a1] rfl (by (try simp only [List.map_toArray, List.map_cons, List.map_nil]); first | done | rfl | (simp only [List.length_drop, List.length_take]; rfl)) ?_; (with_reducible refine (gf_MulW.calls a0 a1 t170 _ ?sideG A13.out).mono ?_); (case sideG => repeat (first | exact (Kd.C_below HRG.out HB.out) | exact HRG.out | (with_reducible refine Kd.C_alloc ?_ _) | (with_reducible refine Kd.C_drewN ?_ _) | (with_reducible refine Kd.C_drew ?_))); rintro e w' ⟨rfl, ⟨nd, rfl⟩⟩; refine ⟨_, rfl, ?_⟩) | ((with_reducible refine gate_callee (f := 16) rfl ?_); refine goesL_ (some 53) rfl rfl Tryd.func16 (by kernel_rfl) rfl #[.int .u8 a1, .int .u8 a0] rfl (by (try simp only [List.map_toArray, List.map_cons, List.map_nil]); first | done | rfl | (simp only [List.length_drop, List.length_take]; rfl)) ?_; (with_reducible refine (gf_MulW.calls a1 a0 t171 _ ?sideG A14.out).mono ?_); (case sideG => repeat (first | exact (Kd.C_below HRG.out HB.out) | exact HRG.out | (with_reducible refine Kd.C_alloc ?_ _) | (with_reducible refine Kd.C_drewN ?_ _) | (with_reducible refine Kd.C_drew ?_))); rintro e w' ⟨rfl, ⟨nd, rfl⟩⟩; refine ⟨_, rfl, ?_⟩) | (go_at_call 16; (with_reducible refine (gf_MulW.calls a0 a1 t172 _ ?sideG A16.out).mono ?_); (case sideG => repeat (first | exact (Kd.C_below HRG.out HB.out) | exact HRG.out | (with_reducible refine Kd.C_alloc ?_ _) | (with_reducible refine Kd.C_drewN ?_ _) | (with_reducible refine Kd.C_drew ?_))); rintro e w' ⟨rfl, ⟨nd, rfl⟩⟩) | (go_at_call 16; (with_reducible refine (gf_MulW.calls t172 a2 t173 _ ?sideG A17.out).mono ?_); (case sideG => repeat (first | exact (Kd.C_below HRG.out HB.out) | exact HRG.out | (with_reducible refine Kd.C_alloc ?_ _) | (with_reducible refine Kd.C_drewN ?_ _) | (with_reducible refine Kd.C_drew ?_))); rintro e w' ⟨rfl, ⟨nd, rfl⟩⟩) | (go_at_call 16; (with_reducible refine (gf_MulW.calls a1 a2 t174 _ ?sideG A18.out).mono ?_); (case sideG => repeat (first | exact (Kd.C_below HRG.out HB.out) | exact HRG.out | (with_reducible refine Kd.C_alloc ?_ _) | (with_reducible refine Kd.C_drewN ?_ _) | (with_reducible refine Kd.C_drew ?_))); rintro e w' ⟨rfl, ⟨nd, rfl⟩⟩) | (go_at_call 16; (with_reducible refine (gf_MulW.calls a0 t174 t175 _ ?sideG A19.out).mono ?_); (case sideG => repeat (first | exact (Kd.C_below HRG.out HB.out) | exact HRG.out | (with_reducible refine Kd.C_alloc ?_ _) | (with_reducible refine Kd.C_drewN ?_ _) | (with_reducible refine Kd.C_drew ?_))); rintro e w' ⟨rfl, ⟨nd, rfl⟩⟩) | ((with_reducible refine gate_callee (f := 15) rfl ?_); refine goesL_ (some 83) rfl rfl Tryd.func15 (by kernel_rfl) rfl #[] rfl (by (try simp only [List.map_toArray, List.map_cons, List.map_nil]); first | done | rfl | (simp only [List.length_drop, List.length_take]; rfl)) ?_; (with_reducible refine (quietuslaw04_sanity.calls kj9  true _ ?sideG A35.out).mono ?_); (case sideG => repeat (first | exact (Kd.C_below HRG.out HB.out) | exact HRG.out | (with_reducible refine Kd.C_alloc ?_ _) | (with_reducible refine Kd.C_drewN ?_ _) | (with_reducible refine Kd.C_drew ?_))); rintro e w41 ⟨rfl, hb⟩; refine ⟨_, rfl, ?_⟩; have n0_ := Aside0.mk (below_step (by repeat (first | (with_reducible first | exact HB.out | apply below_alloc | apply pw_below_drewN | apply below_drew1) | exact HB.out)) hb); clear HB; have HB := n0_; clear n0_; (try clear hb); (try clear hb2); (try clear hk); (try clear hi)))
                  go_ret
                  exact ⟨by first | rfl | (simp [errW_none, errW_some] <;> rfl) | (simp [*, errW_none, errW_some] <;> rfl), by repeat (first | (with_reducible first | exact HB.out | apply below_alloc | apply pw_below_drewN | apply below_drew1) | exact HB.out)⟩
              · replace c36 := Bool.eq_false_iff.mpr c36
                subst c36
                have H1 : (some false) = some r := by rw [if_neg (show ¬ (false = true) by decide)] at H; exact H
                clear H
                have H := H1
                clear H1
                obtain rfl := Option.some.inj H
                go_wp2_with (first | ((with_reducible refine gate_callee (f := 16) rfl ?_); refine goesL_ (some 50) rfl rfl Tryd.func16 (by kernel_rfl) rfl #[.int .u8 a0, .int .u8 a1] rfl (by (try simp only [List.map_toArray, List.map_cons, List.map_nil]); first | done | rfl | (simp only [List.length_drop, List.length_take]; rfl)) ?_; (with_reducible refine (gf_MulW.calls a0 a1 t170 _ ?sideG A13.out).mono ?_); (case sideG => repeat (first | exact (Kd.C_below HRG.out HB.out) | exact HRG.out | (with_reducible refine Kd.C_alloc ?_ _) | (with_reducible refine Kd.C_drewN ?_ _) | (with_reducible refine Kd.C_drew ?_))); rintro e w' ⟨rfl, ⟨nd, rfl⟩⟩; refine ⟨_, rfl, ?_⟩) | ((with_reducible refine gate_callee (f := 16) rfl ?_); refine goesL_ (some 53) rfl rfl Tryd.func16 (by kernel_rfl) rfl #[.int .u8 a1, .int .u8 a0] rfl (by (try simp only [List.map_toArray, List.map_cons, List.map_nil]); first | done | rfl | (simp only [List.length_drop, List.length_take]; rfl)) ?_; (with_reducible refine (gf_MulW.calls a1 a0 t171 _ ?sideG A14.out).mono ?_); (case sideG => repeat (first | exact (Kd.C_below HRG.out HB.out) | exact HRG.out | (with_reducible refine Kd.C_alloc ?_ _) | (with_reducible refine Kd.C_drewN ?_ _) | (with_reducible refine Kd.C_drew ?_))); rintro e w' ⟨rfl, ⟨nd, rfl⟩⟩; refine ⟨_, rfl, ?_⟩) | (go_at_call 16; (with_reducible refine (gf_MulW.calls a0 a1 t172 _ ?sideG A16.out).mono ?_); (case sideG => repeat (first | exact (Kd.C_below HRG.out HB.out) | exact HRG.out | (with_reducible refine Kd.C_alloc ?_ _) | (with_reducible refine Kd.C_drewN ?_ _) | (with_reducible refine Kd.C_drew ?_))); rintro e w' ⟨rfl, ⟨nd, rfl⟩⟩) | (go_at_call 16; (with_reducible refine (gf_MulW.calls t172 a2 t173 _ ?sideG A17.out).mono ?_); (case sideG => repeat (first | exact (Kd.C_below HRG.out HB.out) | exact HRG.out | (with_reducible refine Kd.C_alloc ?_ _) | (with_reducible refine Kd.C_drewN ?_ _) | (with_reducible refine Kd.C_drew ?_))); rintro e w' ⟨rfl, ⟨nd, rfl⟩⟩) | (go_at_call 16; (with_reducible refine (gf_MulW.calls a1 a2 t174 _ ?sideG A18.out).mono ?_); (case sideG => repeat (first | exact (Kd.C_below HRG.out HB.out) | exact HRG.out | (with_reducible refine Kd.C_alloc ?_ _) | (with_reducible refine Kd.C_drewN ?_ _) | (with_reducible refine Kd.C_drew ?_))); rintro e w' ⟨rfl, ⟨nd, rfl⟩⟩) | (go_at_call 16; (with_reducible refine (gf_MulW.calls a0 t174 t175 _ ?sideG A19.out).mono ?_); (case sideG => repeat (first | exact (Kd.C_below HRG.out HB.out) | exact HRG.out | (with_reducible refine Kd.C_alloc ?_ _) | (with_reducible refine Kd.C_drewN ?_ _) | (with_reducible refine Kd.C_drew ?_))); rintro e w' ⟨rfl, ⟨nd, rfl⟩⟩) | ((with_reducible refine gate_callee (f := 15) rfl ?_); refine goesL_ (some 83) rfl rfl Tryd.func15 (by kernel_rfl) rfl #[] rfl (by (try simp only [List.map_toArray, List.map_cons, List.map_nil]); first | done | rfl | (simp only [List.length_drop, List.length_take]; rfl)) ?_; (with_reducible refine (quietuslaw04_sanity.calls kj9  false _ ?sideG A35.out).mono ?_); (case sideG => repeat (first | exact (Kd.C_below HRG.out HB.out) | exact HRG.out | (with_reducible refine Kd.C_alloc ?_ _) | (with_reducible refine Kd.C_drewN ?_ _) | (with_reducible refine Kd.C_drew ?_))); rintro e w42 ⟨rfl, hb⟩; refine ⟨_, rfl, ?_⟩; have n0_ := Aside0.mk (below_step (by repeat (first | (with_reducible first | exact HB.out | apply below_alloc | apply pw_below_drewN | apply below_drew1) | exact HB.out)) hb); clear HB; have HB := n0_; clear n0_; (try clear hb); (try clear hb2); (try clear hk); (try clear hi)))
                go_ret
                exact ⟨by first | rfl | (simp [errW_none, errW_some] <;> rfl) | (simp [*, errW_none, errW_some] <;> rfl), by repeat (first | (with_reducible first | exact HB.out | apply below_alloc | apply pw_below_drewN | apply below_drew1) | exact HB.out)⟩
          · rw [if_neg c15] at H
            have c15b0 : (t170 == t171) = false := beq_eq_false_iff_ne.mpr c15
            have c15b1 : (t170 != t171) = true := bne_iff_ne.mpr c15
            replace H := Option.bind_eq_some_iff.mp H
            obtain ⟨t182, A430, H⟩ := H
            replace H : (if t182 = true then (if x9_4 = true then (if x10_9 = true then (some false) else (some false)) else (some false)) else (some false)) = some r := H
            have A43 := Aside0.mk A430
            clear A430
            by_cases c44 : t182 = true
            · subst c44
              have H1 : (if x9_4 = true then (if x10_9 = true then (some false) else (some false)) else (some false)) = some r := by rw [if_pos rfl] at H; exact H
              clear H
              have H := H1
              clear H1
              by_cases c45 : x9_4 = true
              · subst c45
                have H1 : (if x10_9 = true then (some false) else (some false)) = some r := by rw [if_pos rfl] at H; exact H
                clear H
                have H := H1
                clear H1
                by_cases c46 : x10_9 = true
                · subst c46
                  have H1 : (some false) = some r := by rw [if_pos rfl] at H; exact H
                  clear H
                  have H := H1
                  clear H1
                  obtain rfl := Option.some.inj H
                  go_wp2_with (first | ((with_reducible refine gate_callee (f := 16) rfl ?_); refine goesL_ (some 50) rfl rfl Tryd.func16 (by kernel_rfl) rfl #[.int .u8 a0, .int .u8 a1] rfl (by (try simp only [List.map_toArray, List.map_cons, List.map_nil]); first | done | rfl | (simp only [List.length_drop, List.length_take]; rfl)) ?_; (with_reducible refine (gf_MulW.calls a0 a1 t170 _ ?sideG A13.out).mono ?_); (case sideG => repeat (first | exact (Kd.C_below HRG.out HB.out) | exact HRG.out | (with_reducible refine Kd.C_alloc ?_ _) | (with_reducible refine Kd.C_drewN ?_ _) | (with_reducible refine Kd.C_drew ?_))); rintro e w' ⟨rfl, ⟨nd, rfl⟩⟩; refine ⟨_, rfl, ?_⟩) | ((with_reducible refine gate_callee (f := 16) rfl ?_); refine goesL_ (some 53) rfl rfl Tryd.func16 (by kernel_rfl) rfl #[.int .u8 a1, .int .u8 a0] rfl (by (try simp only [List.map_toArray, List.map_cons, List.map_nil]); first | done | rfl | (simp only [List.length_drop, List.length_take]; rfl)) ?_; (with_reducible refine (gf_MulW.calls a1 a0 t171 _ ?sideG A14.out).mono ?_); (case sideG => repeat (first | exact (Kd.C_below HRG.out HB.out) | exact HRG.out | (with_reducible refine Kd.C_alloc ?_ _) | (with_reducible refine Kd.C_drewN ?_ _) | (with_reducible refine Kd.C_drew ?_))); rintro e w' ⟨rfl, ⟨nd, rfl⟩⟩; refine ⟨_, rfl, ?_⟩) | ((with_reducible refine gate_callee (f := 15) rfl ?_); refine goesL_ (some 83) rfl rfl Tryd.func15 (by kernel_rfl) rfl #[] rfl (by (try simp only [List.map_toArray, List.map_cons, List.map_nil]); first | done | rfl | (simp only [List.length_drop, List.length_take]; rfl)) ?_; (with_reducible refine (quietuslaw04_sanity.calls kj9  true _ ?sideG A43.out).mono ?_); (case sideG => repeat (first | exact (Kd.C_below HRG.out HB.out) | exact HRG.out | (with_reducible refine Kd.C_alloc ?_ _) | (with_reducible refine Kd.C_drewN ?_ _) | (with_reducible refine Kd.C_drew ?_))); rintro e w47 ⟨rfl, hb⟩; refine ⟨_, rfl, ?_⟩; have n0_ := Aside0.mk (below_step (by repeat (first | (with_reducible first | exact HB.out | apply below_alloc | apply pw_below_drewN | apply below_drew1) | exact HB.out)) hb); clear HB; have HB := n0_; clear n0_; (try clear hb); (try clear hb2); (try clear hk); (try clear hi)))
                  go_ret
                  exact ⟨by first | rfl | (simp [errW_none, errW_some] <;> rfl) | (simp [*, errW_none, errW_some] <;> rfl), by repeat (first | (with_reducible first | exact HB.out | apply below_alloc | apply pw_below_drewN | apply below_drew1) | exact HB.out)⟩
                · replace c46 := Bool.eq_false_iff.mpr c46
                  subst c46
                  have H1 : (some false) = some r := by rw [if_neg (show ¬ (false = true) by decide)] at H; exact H
                  clear H
                  have H := H1
                  clear H1
                  obtain rfl := Option.some.inj H
                  go_wp2_with (first | ((with_reducible refine gate_callee (f := 16) rfl ?_); refine goesL_ (some 50) rfl rfl Tryd.func16 (by kernel_rfl) rfl #[.int .u8 a0, .int .u8 a1] rfl (by (try simp only [List.map_toArray, List.map_cons, List.map_nil]); first | done | rfl | (simp only [List.length_drop, List.length_take]; rfl)) ?_; (with_reducible refine (gf_MulW.calls a0 a1 t170 _ ?sideG A13.out).mono ?_); (case sideG => repeat (first | exact (Kd.C_below HRG.out HB.out) | exact HRG.out | (with_reducible refine Kd.C_alloc ?_ _) | (with_reducible refine Kd.C_drewN ?_ _) | (with_reducible refine Kd.C_drew ?_))); rintro e w' ⟨rfl, ⟨nd, rfl⟩⟩; refine ⟨_, rfl, ?_⟩) | ((with_reducible refine gate_callee (f := 16) rfl ?_); refine goesL_ (some 53) rfl rfl Tryd.func16 (by kernel_rfl) rfl #[.int .u8 a1, .int .u8 a0] rfl (by (try simp only [List.map_toArray, List.map_cons, List.map_nil]); first | done | rfl | (simp only [List.length_drop, List.length_take]; rfl)) ?_; (with_reducible refine (gf_MulW.calls a1 a0 t171 _ ?sideG A14.out).mono ?_); (case sideG => repeat (first | exact (Kd.C_below HRG.out HB.out) | exact HRG.out | (with_reducible refine Kd.C_alloc ?_ _) | (with_reducible refine Kd.C_drewN ?_ _) | (with_reducible refine Kd.C_drew ?_))); rintro e w' ⟨rfl, ⟨nd, rfl⟩⟩; refine ⟨_, rfl, ?_⟩) | ((with_reducible refine gate_callee (f := 15) rfl ?_); refine goesL_ (some 83) rfl rfl Tryd.func15 (by kernel_rfl) rfl #[] rfl (by (try simp only [List.map_toArray, List.map_cons, List.map_nil]); first | done | rfl | (simp only [List.length_drop, List.length_take]; rfl)) ?_; (with_reducible refine (quietuslaw04_sanity.calls kj9  true _ ?sideG A43.out).mono ?_); (case sideG => repeat (first | exact (Kd.C_below HRG.out HB.out) | exact HRG.out | (with_reducible refine Kd.C_alloc ?_ _) | (with_reducible refine Kd.C_drewN ?_ _) | (with_reducible refine Kd.C_drew ?_))); rintro e w48 ⟨rfl, hb⟩; refine ⟨_, rfl, ?_⟩; have n0_ := Aside0.mk (below_step (by repeat (first | (with_reducible first | exact HB.out | apply below_alloc | apply pw_below_drewN | apply below_drew1) | exact HB.out)) hb); clear HB; have HB := n0_; clear n0_; (try clear hb); (try clear hb2); (try clear hk); (try clear hi)))
                  go_ret
                  exact ⟨by first | rfl | (simp [errW_none, errW_some] <;> rfl) | (simp [*, errW_none, errW_some] <;> rfl), by repeat (first | (with_reducible first | exact HB.out | apply below_alloc | apply pw_below_drewN | apply below_drew1) | exact HB.out)⟩
              · replace c45 := Bool.eq_false_iff.mpr c45
                subst c45
                have H1 : (some false) = some r := by rw [if_neg (show ¬ (false = true) by decide)] at H; exact H
                clear H
                have H := H1
                clear H1
                obtain rfl := Option.some.inj H
                go_wp2_with (first | ((with_reducible refine gate_callee (f := 16) rfl ?_); refine goesL_ (some 50) rfl rfl Tryd.func16 (by kernel_rfl) rfl #[.int .u8 a0, .int .u8 a1] rfl (by (try simp only [List.map_toArray, List.map_cons, List.map_nil]); first | done | rfl | (simp only [List.length_drop, List.length_take]; rfl)) ?_; (with_reducible refine (gf_MulW.calls a0 a1 t170 _ ?sideG A13.out).mono ?_); (case sideG => repeat (first | exact (Kd.C_below HRG.out HB.out) | exact HRG.out | (with_reducible refine Kd.C_alloc ?_ _) | (with_reducible refine Kd.C_drewN ?_ _) | (with_reducible refine Kd.C_drew ?_))); rintro e w' ⟨rfl, ⟨nd, rfl⟩⟩; refine ⟨_, rfl, ?_⟩) | ((with_reducible refine gate_callee (f := 16) rfl ?_); refine goesL_ (some 53) rfl rfl Tryd.func16 (by kernel_rfl) rfl #[.int .u8 a1, .int .u8 a0] rfl (by (try simp only [List.map_toArray, List.map_cons, List.map_nil]); first | done | rfl | (simp only [List.length_drop, List.length_take]; rfl)) ?_; (with_reducible refine (gf_MulW.calls a1 a0 t171 _ ?sideG A14.out).mono ?_); (case sideG => repeat (first | exact (Kd.C_below HRG.out HB.out) | exact HRG.out | (with_reducible refine Kd.C_alloc ?_ _) | (with_reducible refine Kd.C_drewN ?_ _) | (with_reducible refine Kd.C_drew ?_))); rintro e w' ⟨rfl, ⟨nd, rfl⟩⟩; refine ⟨_, rfl, ?_⟩) | ((with_reducible refine gate_callee (f := 15) rfl ?_); refine goesL_ (some 83) rfl rfl Tryd.func15 (by kernel_rfl) rfl #[] rfl (by (try simp only [List.map_toArray, List.map_cons, List.map_nil]); first | done | rfl | (simp only [List.length_drop, List.length_take]; rfl)) ?_; (with_reducible refine (quietuslaw04_sanity.calls kj9  true _ ?sideG A43.out).mono ?_); (case sideG => repeat (first | exact (Kd.C_below HRG.out HB.out) | exact HRG.out | (with_reducible refine Kd.C_alloc ?_ _) | (with_reducible refine Kd.C_drewN ?_ _) | (with_reducible refine Kd.C_drew ?_))); rintro e w49 ⟨rfl, hb⟩; refine ⟨_, rfl, ?_⟩; have n0_ := Aside0.mk (below_step (by repeat (first | (with_reducible first | exact HB.out | apply below_alloc | apply pw_below_drewN | apply below_drew1) | exact HB.out)) hb); clear HB; have HB := n0_; clear n0_; (try clear hb); (try clear hb2); (try clear hk); (try clear hi)))
                go_ret
                exact ⟨by first | rfl | (simp [errW_none, errW_some] <;> rfl) | (simp [*, errW_none, errW_some] <;> rfl), by repeat (first | (with_reducible first | exact HB.out | apply below_alloc | apply pw_below_drewN | apply below_drew1) | exact HB.out)⟩
            · replace c44 := Bool.eq_false_iff.mpr c44
              subst c44
              have H1 : (some false) = some r := by rw [if_neg (show ¬ (false = true) by decide)] at H; exact H
              clear H
              have H := H1
              clear H1
              obtain rfl := Option.some.inj H
              go_wp2_with (first | ((with_reducible refine gate_callee (f := 16) rfl ?_); refine goesL_ (some 50) rfl rfl Tryd.func16 (by kernel_rfl) rfl #[.int .u8 a0, .int .u8 a1] rfl (by (try simp only [List.map_toArray, List.map_cons, List.map_nil]); first | done | rfl | (simp only [List.length_drop, List.length_take]; rfl)) ?_; (with_reducible refine (gf_MulW.calls a0 a1 t170 _ ?sideG A13.out).mono ?_); (case sideG => repeat (first | exact (Kd.C_below HRG.out HB.out) | exact HRG.out | (with_reducible refine Kd.C_alloc ?_ _) | (with_reducible refine Kd.C_drewN ?_ _) | (with_reducible refine Kd.C_drew ?_))); rintro e w' ⟨rfl, ⟨nd, rfl⟩⟩; refine ⟨_, rfl, ?_⟩) | ((with_reducible refine gate_callee (f := 16) rfl ?_); refine goesL_ (some 53) rfl rfl Tryd.func16 (by kernel_rfl) rfl #[.int .u8 a1, .int .u8 a0] rfl (by (try simp only [List.map_toArray, List.map_cons, List.map_nil]); first | done | rfl | (simp only [List.length_drop, List.length_take]; rfl)) ?_; (with_reducible refine (gf_MulW.calls a1 a0 t171 _ ?sideG A14.out).mono ?_); (case sideG => repeat (first | exact (Kd.C_below HRG.out HB.out) | exact HRG.out | (with_reducible refine Kd.C_alloc ?_ _) | (with_reducible refine Kd.C_drewN ?_ _) | (with_reducible refine Kd.C_drew ?_))); rintro e w' ⟨rfl, ⟨nd, rfl⟩⟩; refine ⟨_, rfl, ?_⟩) | ((with_reducible refine gate_callee (f := 15) rfl ?_); refine goesL_ (some 83) rfl rfl Tryd.func15 (by kernel_rfl) rfl #[] rfl (by (try simp only [List.map_toArray, List.map_cons, List.map_nil]); first | done | rfl | (simp only [List.length_drop, List.length_take]; rfl)) ?_; (with_reducible refine (quietuslaw04_sanity.calls kj9  false _ ?sideG A43.out).mono ?_); (case sideG => repeat (first | exact (Kd.C_below HRG.out HB.out) | exact HRG.out | (with_reducible refine Kd.C_alloc ?_ _) | (with_reducible refine Kd.C_drewN ?_ _) | (with_reducible refine Kd.C_drew ?_))); rintro e w50 ⟨rfl, hb⟩; refine ⟨_, rfl, ?_⟩; have n0_ := Aside0.mk (below_step (by repeat (first | (with_reducible first | exact HB.out | apply below_alloc | apply pw_below_drewN | apply below_drew1) | exact HB.out)) hb); clear HB; have HB := n0_; clear n0_; (try clear hb); (try clear hb2); (try clear hk); (try clear hi)))
              go_ret
              exact ⟨by first | rfl | (simp [errW_none, errW_some] <;> rfl) | (simp [*, errW_none, errW_some] <;> rfl), by repeat (first | (with_reducible first | exact HB.out | apply below_alloc | apply pw_below_drewN | apply below_drew1) | exact HB.out)⟩

end Go.Proofs.YtgfnllaajaoljaaDoor.QA
