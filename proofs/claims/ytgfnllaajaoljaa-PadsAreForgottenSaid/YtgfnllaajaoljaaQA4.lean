-- WRITTEN BY qprint.py, a program of this session (the kit's print, driven with contracts proved by hand): Lean checks it.
import Derived.Test.YtgfnllaajaoljaaQA0
namespace Go.Proofs.Ytgfnllaajaoljaa.QA
open Go.RowKit Go.Proofs.YtgfnllaajaoljaaW.PrintWords Go.Proofs.YtgfnllaajaoljaaW.PrintLast Go.Proofs.YtgfnllaajaoljaaW.PrintMore
attribute [local go_sem] max2_int min2_int max_two min_two max_three min_three max_four min_four   -- for this text's walks alone
set_option linter.unusedVariables false
set_option linter.unusedSimpArgs false

/-! ### pad_Agree: function 19 -/
mutual
def pad_Agree.l0 : Nat → List ByteArray → List ByteArray → List Int → List ByteArray → Int → Int → Option (Int × Bool)
  | 0, _, _, _, _, _, _ => none
  | k + 1, x0, x1, x2, x22, x23, x24 => if x24 < x23 then (if 0 ≤ x24 then (if x24 < (x22.length : Int) then (if ((rdOf ByteArray.empty x22 x24).size : Int) = (x2.length : Int) then (if x24 < (x1.length : Int) then (if ((rdOf ByteArray.empty x1 x24).size : Int) = (x2.length : Int) then (pad_Agree.l0 k x0 x1 x2 x22 x23 (wrap64 (x24 + 1))) else (some (0, false))) else (none)) else (some (0, false))) else (none)) else (none)) else (pad_Agree.l1 k x0 x1 0 true x2 (x2.length : Int) 0)
def pad_Agree.l1 : Nat → List ByteArray → List ByteArray → Int → Bool → List Int → Int → Int → Option (Int × Bool)
  | 0, _, _, _, _, _, _, _ => none
  | k + 1, x0, x1, x10, x11, x45, x46, x47 => if x47 < x46 then (if 0 ≤ x47 then (if x47 < (x45.length : Int) then (if (rd x45 x47) < (-1) then (pad_Agree.j2 k x0 x1 x10 x11 x47 (rd x45 x47) x45 x46 x47 true) else (pad_Agree.j2 k x0 x1 x10 x11 x47 (rd x45 x47) x45 x46 x47 (decide ((rd x45 x47) > 255)))) else (none)) else (none)) else (if x11 = true then (some (x10, true)) else (some (0, false)))
def pad_Agree.j2 : Nat → List ByteArray → List ByteArray → Int → Bool → Int → Int → List Int → Int → Int → Bool → Option (Int × Bool)
  | 0, _, _, _, _, _, _, _, _, _, _ => none
  | k + 1, x0, x1, x10, x11, x12, x13, x45, x46, x47, x57 => if x57 = true then (some (0, false)) else (pad_Agree.l2 k x0 x1 x10 x11 x12 x13 x45 x46 x47 x0 (x0.length : Int) 0)
def pad_Agree.l2 : Nat → List ByteArray → List ByteArray → Int → Bool → Int → Int → List Int → Int → Int → List ByteArray → Int → Int → Option (Int × Bool)
  | 0, _, _, _, _, _, _, _, _, _, _, _, _ => none
  | k + 1, x0, x1, x10, x11, x12, x13, x45, x46, x47, x58, x59, x60 => if x60 < x59 then (if 0 ≤ x60 then (if x60 < (x58.length : Int) then (if 0 ≤ x12 then (if x12 < ((rdOf ByteArray.empty x58 x60).size : Int) then (if x60 < (x1.length : Int) then (if x12 < ((rdOf ByteArray.empty x1 x60).size : Int) then (if x13 ≥ 0 then (if x13 = (wrap64 (Go.bits .xor .u8 (bt (rdOf ByteArray.empty x58 x60) x12) (bt (rdOf ByteArray.empty x1 x60) x12))) then (pad_Agree.l2 k x0 x1 x10 x11 x12 (wrap64 (Go.bits .xor .u8 (bt (rdOf ByteArray.empty x58 x60) x12) (bt (rdOf ByteArray.empty x1 x60) x12))) x45 x46 x47 x58 x59 (wrap64 (x60 + 1))) else (some (0, false))) else (pad_Agree.l2 k x0 x1 x10 x11 x12 (wrap64 (Go.bits .xor .u8 (bt (rdOf ByteArray.empty x58 x60) x12) (bt (rdOf ByteArray.empty x1 x60) x12))) x45 x46 x47 x58 x59 (wrap64 (x60 + 1)))) else (none)) else (none)) else (none)) else (none)) else (none)) else (none)) else (if x13 < 0 then (pad_Agree.l1 k x0 x1 (wrap64 (x10 + 1)) x11 x45 x46 (wrap64 (x47 + 1))) else (pad_Agree.l1 k x0 x1 x10 x11 x45 x46 (wrap64 (x47 + 1))))
end
def pad_Agree.f (k : Nat) (l0 : List ByteArray) (l1 : List ByteArray) (l2 : List Int) : Option (Int × Bool) := if (l0.length : Int) = (l1.length : Int) then (pad_Agree.l0 k l0 l1 l2 l0 (l0.length : Int) 0) else (some (0, false))
theorem pad_Agree.mono_l : ∀ k, (∀ y0 y1 y2 y3 y4 y5, LeO (pad_Agree.l0 k y0 y1 y2 y3 y4 y5) (pad_Agree.l0 (k + 1) y0 y1 y2 y3 y4 y5)) ∧ (∀ y0 y1 y2 y3 y4 y5 y6, LeO (pad_Agree.l1 k y0 y1 y2 y3 y4 y5 y6) (pad_Agree.l1 (k + 1) y0 y1 y2 y3 y4 y5 y6)) ∧ (∀ y0 y1 y2 y3 y4 y5 y6 y7 y8 y9, LeO (pad_Agree.j2 k y0 y1 y2 y3 y4 y5 y6 y7 y8 y9) (pad_Agree.j2 (k + 1) y0 y1 y2 y3 y4 y5 y6 y7 y8 y9)) ∧ (∀ y0 y1 y2 y3 y4 y5 y6 y7 y8 y9 y10 y11, LeO (pad_Agree.l2 k y0 y1 y2 y3 y4 y5 y6 y7 y8 y9 y10 y11) (pad_Agree.l2 (k + 1) y0 y1 y2 y3 y4 y5 y6 y7 y8 y9 y10 y11))
  | 0 => ⟨fun _ _ _ _ _ _ r h => by simp [pad_Agree.l0] at h, fun _ _ _ _ _ _ _ r h => by simp [pad_Agree.l1] at h, fun _ _ _ _ _ _ _ _ _ _ r h => by simp [pad_Agree.j2] at h, fun _ _ _ _ _ _ _ _ _ _ _ _ r h => by simp [pad_Agree.l2] at h⟩
  | k + 1 => by
    obtain ⟨ih0, ih1, ih2, ih3⟩ := pad_Agree.mono_l k
    refine ⟨?_, ?_, ?_, ?_⟩
    · intro y0 y1 y2 y3 y4 y5
      unfold pad_Agree.l0
      repeat' first
      | (with_reducible exact ih0 _ _ _ _ _ _)
      | (with_reducible exact ih1 _ _ _ _ _ _ _)
      | (with_reducible exact ih2 _ _ _ _ _ _ _ _ _ _)
      | (with_reducible exact ih3 _ _ _ _ _ _ _ _ _ _ _ _)
      | (with_reducible exact LeO.refl _)
      | (with_reducible exact LeO.none _)
      | (with_reducible refine LeO.ite ?_ ?_)
      | (with_reducible refine LeO.bind ?_ (fun _ => ?_))
      | exact ih0 _ _ _ _ _ _
      | exact ih1 _ _ _ _ _ _ _
      | exact ih2 _ _ _ _ _ _ _ _ _ _
      | exact ih3 _ _ _ _ _ _ _ _ _ _ _ _
      | exact LeO.none _
      | refine LeO.ite ?_ ?_
      | refine LeO.bind ?_ (fun _ => ?_)
    · intro y0 y1 y2 y3 y4 y5 y6
      unfold pad_Agree.l1
      repeat' first
      | (with_reducible exact ih0 _ _ _ _ _ _)
      | (with_reducible exact ih1 _ _ _ _ _ _ _)
      | (with_reducible exact ih2 _ _ _ _ _ _ _ _ _ _)
      | (with_reducible exact ih3 _ _ _ _ _ _ _ _ _ _ _ _)
      | (with_reducible exact LeO.refl _)
      | (with_reducible exact LeO.none _)
      | (with_reducible refine LeO.ite ?_ ?_)
      | (with_reducible refine LeO.bind ?_ (fun _ => ?_))
      | exact ih0 _ _ _ _ _ _
      | exact ih1 _ _ _ _ _ _ _
      | exact ih2 _ _ _ _ _ _ _ _ _ _
      | exact ih3 _ _ _ _ _ _ _ _ _ _ _ _
      | exact LeO.none _
      | refine LeO.ite ?_ ?_
      | refine LeO.bind ?_ (fun _ => ?_)
    · intro y0 y1 y2 y3 y4 y5 y6 y7 y8 y9
      unfold pad_Agree.j2
      repeat' first
      | (with_reducible exact ih0 _ _ _ _ _ _)
      | (with_reducible exact ih1 _ _ _ _ _ _ _)
      | (with_reducible exact ih2 _ _ _ _ _ _ _ _ _ _)
      | (with_reducible exact ih3 _ _ _ _ _ _ _ _ _ _ _ _)
      | (with_reducible exact LeO.refl _)
      | (with_reducible exact LeO.none _)
      | (with_reducible refine LeO.ite ?_ ?_)
      | (with_reducible refine LeO.bind ?_ (fun _ => ?_))
      | exact ih0 _ _ _ _ _ _
      | exact ih1 _ _ _ _ _ _ _
      | exact ih2 _ _ _ _ _ _ _ _ _ _
      | exact ih3 _ _ _ _ _ _ _ _ _ _ _ _
      | exact LeO.none _
      | refine LeO.ite ?_ ?_
      | refine LeO.bind ?_ (fun _ => ?_)
    · intro y0 y1 y2 y3 y4 y5 y6 y7 y8 y9 y10 y11
      unfold pad_Agree.l2
      repeat' first
      | (with_reducible exact ih0 _ _ _ _ _ _)
      | (with_reducible exact ih1 _ _ _ _ _ _ _)
      | (with_reducible exact ih2 _ _ _ _ _ _ _ _ _ _)
      | (with_reducible exact ih3 _ _ _ _ _ _ _ _ _ _ _ _)
      | (with_reducible exact LeO.refl _)
      | (with_reducible exact LeO.none _)
      | (with_reducible refine LeO.ite ?_ ?_)
      | (with_reducible refine LeO.bind ?_ (fun _ => ?_))
      | exact ih0 _ _ _ _ _ _
      | exact ih1 _ _ _ _ _ _ _
      | exact ih2 _ _ _ _ _ _ _ _ _ _
      | exact ih3 _ _ _ _ _ _ _ _ _ _ _ _
      | exact LeO.none _
      | refine LeO.ite ?_ ?_
      | refine LeO.bind ?_ (fun _ => ?_)
theorem pad_Agree.mono : ∀ a0 a1 a2 k, LeO (pad_Agree.f k a0 a1 a2) (pad_Agree.f (k + 1) a0 a1 a2) := by
  intro a0 a1 a2 k
  obtain ⟨ih0, ih1, ih2, ih3⟩ := pad_Agree.mono_l k
  unfold pad_Agree.f
  repeat' first
      | (with_reducible exact ih0 _ _ _ _ _ _)
      | (with_reducible exact ih1 _ _ _ _ _ _ _)
      | (with_reducible exact ih2 _ _ _ _ _ _ _ _ _ _)
      | (with_reducible exact ih3 _ _ _ _ _ _ _ _ _ _ _ _)
      | (with_reducible exact LeO.refl _)
      | (with_reducible exact LeO.none _)
      | (with_reducible refine LeO.ite ?_ ?_)
      | (with_reducible refine LeO.bind ?_ (fun _ => ?_))
      | exact ih0 _ _ _ _ _ _
      | exact ih1 _ _ _ _ _ _ _
      | exact ih2 _ _ _ _ _ _ _ _ _ _
      | exact ih3 _ _ _ _ _ _ _ _ _ _ _ _
      | exact LeO.none _
      | refine LeO.ite ?_ ?_
      | refine LeO.bind ?_ (fun _ => ?_)
set_option maxHeartbeats 8000000 in
set_option maxRecDepth 100000 in
theorem pad_Agree.calls (k : Nat) (A0 : Option Addr) (c0 : Nat) (l0 : List ByteArray) (A1 : Option Addr) (c1 : Nat) (l1 : List ByteArray) (A2 : Option Addr) (c2 : Nat) (l2 : List Int) (r1 : Int) (r2 : Bool) (w : World) (hr0 : Kd.C Kd.string w A0 l0.length l0) (hc0 : l0.length ≤ c0) (hr1 : Kd.C Kd.string w A1 l1.length l1) (hc1 : l1.length ≤ c1) (hr2 : Kd.C (Kd.int .i64) w A2 l2.length l2) (hc2 : l2.length ≤ c2) (h : pad_Agree.f k l0 l1 l2 = some (r1, r2)) :
    Calls Try.prog 19 #[.slice A0 l0.length c0, .slice A1 l1.length c1, .slice A2 l2.length c2] w fun e w' => e = .returned (.tuple #[.int .i64 r1, .bool r2]) ∧ Drawn0 w w' := by
  have HR0 := Aside0.mk hr0
  have HC0 := Aside0.mk hc0
  clear hr0 hc0
  have HR1 := Aside0.mk hr1
  have HC1 := Aside0.mk hc1
  clear hr1 hc1
  have HR2 := Aside0.mk hr2
  have HC2 := Aside0.mk hc2
  clear hr2 hc2
  have H : (if (l0.length : Int) = (l1.length : Int) then (pad_Agree.l0 k l0 l1 l2 l0 (l0.length : Int) 0) else (some (0, false))) = some (r1, r2) := h
  clear h
  by_cases c4 : (l0.length : Int) = (l1.length : Int)
  · rw [if_pos c4] at H
    have c4b0 : ((l0.length : Int) == (l1.length : Int)) = true := beq_iff_eq.mpr c4
    have c4b1 : ((l0.length : Int) != (l1.length : Int)) = false := bne_eq_false_iff_eq.mpr c4
    have c4b2 : (l0.length == l1.length) = true := by first | simpa using c4 | (simp at c4 ⊢; omega)
    clear c4
    have H' := Aside0.mk H
    clear H
    go_enter Try.func19, Try.ntmps19
    go_wp2
    repeat (go_quiet (fail); try go_wp2)
    try go_step3
    try go_wp2
    try go_step3
    try go_wp2
    go_loopg [24] k (fun kq v24 w' => ∃ (x24_1 : Int), v24 = .int .i64 x24_1 ∧ Aside0 (pad_Agree.l0 kq l0 l1 l2 l0 (l0.length : Int) x24_1 = some (r1, r2)) ∧ Aside0 (kq ≤ k) ∧ Drawn0 w w')
    case atStart => exact ⟨(0), (by first | rfl | (simp; done) | (simp [*]; done)), H', ⟨Nat.le_refl _⟩, by repeat (first | exact Drawn0.refl _ | apply Drawn0.step)⟩
    case round =>
      clear H'
      try clear c1
      try clear c2
      try clear p2
      try clear c4
      try clear c4b0
      try clear c4b1
      try clear c4b2
      obtain ⟨x24_1, rfl, HA, HK1, ⟨m1, rfl⟩⟩ := hrel
      cases gk with
      | zero => exact absurd HA.out (by simp [pad_Agree.l0])
      | succ k1 =>
        have H := HA.out
        clear HA
        simp only [pad_Agree.l0] at H
        by_cases c5 : x24_1 < (l0.length : Int)
        · rw [if_pos c5] at H
          have c5b0 : decide (x24_1 < (l0.length : Int)) = true := decide_eq_true c5
          clear c5
          by_cases c6 : 0 ≤ x24_1
          · rw [if_pos c6] at H
            have c6b0 : decide (0 ≤ x24_1) = true := decide_eq_true c6
            clear c6
            by_cases c7 : x24_1 < (l0.length : Int)
            · rw [if_pos c7] at H
              have c7b0 : decide (x24_1 < (l0.length : Int)) = true := decide_eq_true c7
              clear c7
              by_cases c8 : ((rdOf ByteArray.empty l0 x24_1).size : Int) = (l2.length : Int)
              · rw [if_pos c8] at H
                have c8b0 : (((rdOf ByteArray.empty l0 x24_1).size : Int) == (l2.length : Int)) = true := beq_iff_eq.mpr c8
                have c8b1 : (((rdOf ByteArray.empty l0 x24_1).size : Int) != (l2.length : Int)) = false := bne_eq_false_iff_eq.mpr c8
                have c8b2 : ((rdOf ByteArray.empty l0 x24_1).size == l2.length) = true := by first | simpa using c8 | (simp at c8 ⊢; omega)
                clear c8
                by_cases c9 : x24_1 < (l1.length : Int)
                · rw [if_pos c9] at H
                  have c9b0 : decide (x24_1 < (l1.length : Int)) = true := decide_eq_true c9
                  clear c9
                  by_cases c10 : ((rdOf ByteArray.empty l1 x24_1).size : Int) = (l2.length : Int)
                  · rw [if_pos c10] at H
                    have c10b0 : (((rdOf ByteArray.empty l1 x24_1).size : Int) == (l2.length : Int)) = true := beq_iff_eq.mpr c10
                    have c10b1 : (((rdOf ByteArray.empty l1 x24_1).size : Int) != (l2.length : Int)) = false := bne_eq_false_iff_eq.mpr c10
                    have c10b2 : ((rdOf ByteArray.empty l1 x24_1).size == l2.length) = true := by first | simpa using c10 | (simp at c10 ⊢; omega)
                    clear c10
                    have H' := Aside0.mk H
                    clear H
                    have p172 : 0 ≤ (x24_1 : Int) := of_decide_eq_true (by first | (with_reducible assumption) | assumption)
                    have q172 : x24_1 < (l0.length : Int) := of_decide_eq_true (by first | (with_reducible assumption) | assumption)
                    obtain ⟨ad172, e172, hx172_0⟩ := Kd.at_string HR0.out x24_1 p172 q172
                    cases e172
                    replace p172 := eq_true p172
                    replace q172 := eq_true q172
                    have p173 : 0 ≤ (x24_1 : Int) := of_decide_eq_true (by first | (with_reducible assumption) | assumption)
                    have q173 : x24_1 < (l1.length : Int) := of_decide_eq_true (by first | (with_reducible assumption) | assumption)
                    obtain ⟨ad173, e173, hx173_0⟩ := Kd.at_string HR1.out x24_1 p173 q173
                    cases e173
                    replace p173 := eq_true p173
                    replace q173 := eq_true q173
                    go_wp2
                    repeat (go_quiet (fail); try go_wp2)
                    go_roundg k1
                    case measure => have := HK1.out; omega
                    case rel => exact ⟨(wrap64 (x24_1 + 1)), (by first | rfl | (simp; done) | (simp [*]; done)), H', ⟨by have := HK1.out; omega⟩, by repeat (first | exact Drawn0.refl _ | apply Drawn0.step)⟩
                  · rw [if_neg c10] at H
                    have c10b0 : (((rdOf ByteArray.empty l1 x24_1).size : Int) == (l2.length : Int)) = false := beq_eq_false_iff_ne.mpr c10
                    have c10b1 : (((rdOf ByteArray.empty l1 x24_1).size : Int) != (l2.length : Int)) = true := bne_iff_ne.mpr c10
                    have c10b2 : ((rdOf ByteArray.empty l1 x24_1).size == l2.length) = false := by first | simpa using c10 | (simp at c10 ⊢; omega)
                    simp only [Option.some.injEq, Prod.mk.injEq] at H
                    obtain ⟨rfl, rfl⟩ := H
                    have p172 : 0 ≤ (x24_1 : Int) := of_decide_eq_true (by first | (with_reducible assumption) | assumption)
                    have q172 : x24_1 < (l0.length : Int) := of_decide_eq_true (by first | (with_reducible assumption) | assumption)
                    obtain ⟨ad172, e172, hx172_0⟩ := Kd.at_string HR0.out x24_1 p172 q172
                    cases e172
                    replace p172 := eq_true p172
                    replace q172 := eq_true q172
                    have p173 : 0 ≤ (x24_1 : Int) := of_decide_eq_true (by first | (with_reducible assumption) | assumption)
                    have q173 : x24_1 < (l1.length : Int) := of_decide_eq_true (by first | (with_reducible assumption) | assumption)
                    obtain ⟨ad173, e173, hx173_0⟩ := Kd.at_string HR1.out x24_1 p173 q173
                    cases e173
                    replace p173 := eq_true p173
                    replace q173 := eq_true q173
                    go_wp2
                    repeat (go_quiet (fail); try go_wp2)
                    try go_step3
                    try go_wp2
                    try rw [Exit.noGoto_ret]
                    go_ret2
                    exact ⟨by first | rfl | (simp; done) | (simp [*]; done), by repeat (first | exact Drawn0.refl _ | apply Drawn0.step)⟩
                · rw [if_neg c9] at H
                  exact absurd H (by simp)
              · rw [if_neg c8] at H
                have c8b0 : (((rdOf ByteArray.empty l0 x24_1).size : Int) == (l2.length : Int)) = false := beq_eq_false_iff_ne.mpr c8
                have c8b1 : (((rdOf ByteArray.empty l0 x24_1).size : Int) != (l2.length : Int)) = true := bne_iff_ne.mpr c8
                have c8b2 : ((rdOf ByteArray.empty l0 x24_1).size == l2.length) = false := by first | simpa using c8 | (simp at c8 ⊢; omega)
                simp only [Option.some.injEq, Prod.mk.injEq] at H
                obtain ⟨rfl, rfl⟩ := H
                have p172 : 0 ≤ (x24_1 : Int) := of_decide_eq_true (by first | (with_reducible assumption) | assumption)
                have q172 : x24_1 < (l0.length : Int) := of_decide_eq_true (by first | (with_reducible assumption) | assumption)
                obtain ⟨ad172, e172, hx172_0⟩ := Kd.at_string HR0.out x24_1 p172 q172
                cases e172
                replace p172 := eq_true p172
                replace q172 := eq_true q172
                go_wp2
                repeat (go_quiet (fail); try go_wp2)
                try go_step3
                try go_wp2
                try rw [Exit.noGoto_ret]
                go_ret2
                exact ⟨by first | rfl | (simp; done) | (simp [*]; done), by repeat (first | exact Drawn0.refl _ | apply Drawn0.step)⟩
            · rw [if_neg c7] at H
              exact absurd H (by simp)
          · rw [if_neg c6] at H
            exact absurd H (by simp)
        · rw [if_neg c5] at H
          have c5b0 : decide (x24_1 < (l0.length : Int)) = false := decide_eq_false c5
          clear c5
          have H' := Aside0.mk H
          clear H
          go_wp2
          repeat (go_quiet (fail); try go_wp2)
          try go_step3
          try go_wp2
          try go_step3
          try go_wp2
          go_loopg [10, 11, 47] k1 (fun kq v10 v11 v47 w' => ∃ (x10_2 : Int) (x11_2 : Bool) (x47_2 : Int), v10 = .int .i64 x10_2 ∧ v11 = .bool x11_2 ∧ v47 = .int .i64 x47_2 ∧ Aside0 (pad_Agree.l1 kq l0 l1 x10_2 x11_2 l2 (l2.length : Int) x47_2 = some (r1, r2)) ∧ Aside0 (kq ≤ k1) ∧ Drawn0 w w')
          case atStart => exact ⟨(0), (true), (0), (by first | rfl | (simp; done) | (simp [*]; done)), (by first | rfl | (simp; done) | (simp [*]; done)), (by first | rfl | (simp; done) | (simp [*]; done)), H', ⟨Nat.le_refl _⟩, by repeat (first | exact Drawn0.refl _ | apply Drawn0.step)⟩
          case round =>
            clear H'
            try clear c1
            try clear p1
            try clear q1
            try clear hx1
            try clear c2
            try clear p2
            try clear c4
            try clear c4b0
            try clear c4b1
            try clear c4b2
            try clear c5
            try clear c5b0
            try clear c6
            try clear c6b0
            try clear p6
            try clear c7
            try clear c7b0
            try clear c8
            try clear c8b0
            try clear c8b1
            try clear c8b2
            try clear c9
            try clear c9b0
            try clear c10
            try clear c10b0
            try clear c10b1
            try clear c10b2
            try clear hx172_0
            try clear hx173_0
            try clear p172
            try clear p173
            try clear p2
            try clear q172
            try clear q173
            obtain ⟨x10_2, x11_2, x47_2, rfl, rfl, rfl, HA, HK2, ⟨m2, rfl⟩⟩ := hrel
            cases gk with
            | zero => exact absurd HA.out (by simp [pad_Agree.l1])
            | succ k2 =>
              have H := HA.out
              clear HA
              simp only [pad_Agree.l1] at H
              by_cases c11 : x47_2 < (l2.length : Int)
              · rw [if_pos c11] at H
                have c11b0 : decide (x47_2 < (l2.length : Int)) = true := decide_eq_true c11
                clear c11
                by_cases c12 : 0 ≤ x47_2
                · rw [if_pos c12] at H
                  have c12b0 : decide (0 ≤ x47_2) = true := decide_eq_true c12
                  clear c12
                  by_cases c13 : x47_2 < (l2.length : Int)
                  · rw [if_pos c13] at H
                    have c13b0 : decide (x47_2 < (l2.length : Int)) = true := decide_eq_true c13
                    clear c13
                    have HC14 := Aside0.mk H
                    clear H
                    have p174 : 0 ≤ (x47_2 : Int) := of_decide_eq_true (by first | (with_reducible assumption) | assumption)
                    have q174 : x47_2 < (l2.length : Int) := of_decide_eq_true (by first | (with_reducible assumption) | assumption)
                    obtain ⟨ad174, e174, hx174_0⟩ := Kd.at_int HR2.out x47_2 p174 q174
                    cases e174
                    replace p174 := eq_true p174
                    replace q174 := eq_true q174
                    go_upto_region 13 with (fail)
                    repeat (go_quiet (fail); go_upto_region 13 with (fail))
                    go_cut [57] (fun v57 wc => ∃ (kq : Nat) (x57_13 : Bool), v57 = .bool x57_13 ∧ Aside0 (pad_Agree.j2 kq l0 l1 x10_2 x11_2 x47_2 (rd l2 x47_2) l2 (l2.length : Int) x47_2 x57_13 = some (r1, r2)) ∧ Aside0 (kq ≤ k2) ∧ Drawn0 w wc)
                    case first =>
                      have H := HC14.out
                      clear HC14
                      by_cases c15 : (rd l2 x47_2) < (-1)
                      · rw [if_pos c15] at H
                        have c15b0 : decide ((rd l2 x47_2) < (-1)) = true := decide_eq_true c15
                        clear c15
                        (first | rw [c15b0] | (simp only [i64_w, i32_w]; rw [c15b0]) | rw [c15b1] | skip)
                        have H' := Aside0.mk H
                        clear H
                        go_wp2
                        repeat (go_quiet (fail); try go_wp2)
                        go_meet
                        case rel => exact ⟨_, (true), (by first | rfl | (simp; done) | (simp [*]; done)), H', ⟨by have := HK1.out; have := HK2.out; first | omega | exact Nat.le_refl _⟩, by repeat (first | exact Drawn0.refl _ | apply Drawn0.step)⟩
                      · rw [if_neg c15] at H
                        have c15b0 : decide ((rd l2 x47_2) < (-1)) = false := decide_eq_false c15
                        clear c15
                        (first | rw [c15b0] | (simp only [i64_w, i32_w]; rw [c15b0]) | rw [c15b1] | skip)
                        have H' := Aside0.mk H
                        clear H
                        go_wp2
                        repeat (go_quiet (fail); try go_wp2)
                        go_meet
                        case rel => exact ⟨_, (decide ((rd l2 x47_2) > 255)), (by first | rfl | (simp; done) | (simp [*]; done)), H', ⟨by have := HK1.out; have := HK2.out; first | omega | exact Nat.le_refl _⟩, by repeat (first | exact Drawn0.refl _ | apply Drawn0.step)⟩
                    case rest =>
                      clear HC14
                      try clear c1
                      try clear p1
                      try clear q1
                      try clear hx1
                      try clear c2
                      try clear p2
                      try clear c4
                      try clear c4b0
                      try clear c4b1
                      try clear c4b2
                      try clear c5
                      try clear c5b0
                      try clear c6
                      try clear c6b0
                      try clear p6
                      try clear c7
                      try clear c7b0
                      try clear c8
                      try clear c8b0
                      try clear c8b1
                      try clear c8b2
                      try clear c9
                      try clear c9b0
                      try clear c10
                      try clear c10b0
                      try clear c10b1
                      try clear c10b2
                      try clear c11
                      try clear c11b0
                      try clear c12
                      try clear c12b0
                      try clear c13
                      try clear c13b0
                      try clear c15
                      try clear c15b0
                      try clear hx172_0
                      try clear hx173_0
                      try clear hx174_0
                      try clear p1
                      try clear p172
                      try clear p173
                      try clear p174
                      try clear p2
                      try clear p6
                      try clear q1
                      try clear q172
                      try clear q173
                      try clear q174
                      obtain ⟨kq, x57_13, rfl, HA, HJ13, ⟨mc13, rfl⟩⟩ := hcut
                      cases kq with
                      | zero => exact absurd HA.out (by simp [pad_Agree.j2])
                      | succ kj13 =>
                        have H := HA.out
                        clear HA
                        simp only [pad_Agree.j2] at H
                        by_cases c16 : x57_13 = true
                        · subst c16
                          have H1 : (some (0, false)) = some (r1, r2) := by rw [if_pos rfl] at H; exact H
                          clear H
                          have H := H1
                          clear H1
                          simp only [Option.some.injEq, Prod.mk.injEq] at H
                          obtain ⟨rfl, rfl⟩ := H
                          go_wp2
                          repeat (go_quiet (fail); try go_wp2)
                          try go_step3
                          try go_wp2
                          try rw [Exit.noGoto_ret]
                          go_ret2
                          exact ⟨by first | rfl | (simp; done) | (simp [*]; done), by repeat (first | exact Drawn0.refl _ | apply Drawn0.step)⟩
                        · replace c16 := Bool.eq_false_iff.mpr c16
                          subst c16
                          have H1 : (pad_Agree.l2 kj13 l0 l1 x10_2 x11_2 x47_2 (rd l2 x47_2) l2 (l2.length : Int) x47_2 l0 (l0.length : Int) 0) = some (r1, r2) := by rw [if_neg (show ¬ (false = true) by decide)] at H; exact H
                          clear H
                          have H := H1
                          clear H1
                          have H' := Aside0.mk H
                          clear H
                          go_wp2
                          repeat (go_quiet (fail); try go_wp2)
                          try go_step3
                          try go_wp2
                          try go_step3
                          try go_wp2
                          go_loopg [11, 13, 60] kj13 (fun kq v11 v13 v60 w' => ∃ (x11_4 : Bool) (x13_4 : Int) (x60_4 : Int), v11 = .bool x11_4 ∧ v13 = .int .i64 x13_4 ∧ v60 = .int .i64 x60_4 ∧ Aside0 (pad_Agree.l2 kq l0 l1 x10_2 x11_4 x47_2 x13_4 l2 (l2.length : Int) x47_2 l0 (l0.length : Int) x60_4 = some (r1, r2)) ∧ Aside0 (kq ≤ kj13) ∧ Drawn0 w w')
                          case atStart => exact ⟨(x11_2), ((rd l2 x47_2)), (0), (by first | rfl | (simp; done) | (simp [*]; done)), (by first | rfl | (simp; done) | (simp [*]; done)), (by first | rfl | (simp; done) | (simp [*]; done)), H', ⟨Nat.le_refl _⟩, by repeat (first | exact Drawn0.refl _ | apply Drawn0.step)⟩
                          case round =>
                            clear H'
                            try clear c1
                            try clear p1
                            try clear q1
                            try clear hx1
                            try clear c2
                            try clear p2
                            try clear c4
                            try clear c4b0
                            try clear c4b1
                            try clear c4b2
                            try clear c5
                            try clear c5b0
                            try clear c6
                            try clear c6b0
                            try clear p6
                            try clear c7
                            try clear c7b0
                            try clear c8
                            try clear c8b0
                            try clear c8b1
                            try clear c8b2
                            try clear c9
                            try clear c9b0
                            try clear c10
                            try clear c10b0
                            try clear c10b1
                            try clear c10b2
                            try clear c11
                            try clear c11b0
                            try clear c12
                            try clear c12b0
                            try clear c13
                            try clear c13b0
                            try clear c15
                            try clear c15b0
                            try clear c16
                            try clear hx172_0
                            try clear hx173_0
                            try clear hx174_0
                            try clear p1
                            try clear p172
                            try clear p173
                            try clear p174
                            try clear p2
                            try clear p6
                            try clear q1
                            try clear q172
                            try clear q173
                            try clear q174
                            obtain ⟨x11_4, x13_4, x60_4, rfl, rfl, rfl, HA, HK4, ⟨m4, rfl⟩⟩ := hrel
                            cases gk with
                            | zero => exact absurd HA.out (by simp [pad_Agree.l2])
                            | succ k4 =>
                              have H := HA.out
                              clear HA
                              simp only [pad_Agree.l2] at H
                              by_cases c17 : x60_4 < (l0.length : Int)
                              · rw [if_pos c17] at H
                                have c17b0 : decide (x60_4 < (l0.length : Int)) = true := decide_eq_true c17
                                clear c17
                                by_cases c18 : 0 ≤ x60_4
                                · rw [if_pos c18] at H
                                  have c18b0 : decide (0 ≤ x60_4) = true := decide_eq_true c18
                                  clear c18
                                  by_cases c19 : x60_4 < (l0.length : Int)
                                  · rw [if_pos c19] at H
                                    have c19b0 : decide (x60_4 < (l0.length : Int)) = true := decide_eq_true c19
                                    clear c19
                                    by_cases c20 : 0 ≤ x47_2
                                    · rw [if_pos c20] at H
                                      have c20b0 : decide (0 ≤ x47_2) = true := decide_eq_true c20
                                      clear c20
                                      by_cases c21 : x47_2 < ((rdOf ByteArray.empty l0 x60_4).size : Int)
                                      · rw [if_pos c21] at H
                                        have c21b0 : decide (x47_2 < ((rdOf ByteArray.empty l0 x60_4).size : Int)) = true := decide_eq_true c21
                                        clear c21
                                        by_cases c23 : x60_4 < (l1.length : Int)
                                        · rw [if_pos c23] at H
                                          have c23b0 : decide (x60_4 < (l1.length : Int)) = true := decide_eq_true c23
                                          clear c23
                                          by_cases c24 : x47_2 < ((rdOf ByteArray.empty l1 x60_4).size : Int)
                                          · rw [if_pos c24] at H
                                            have c24b0 : decide (x47_2 < ((rdOf ByteArray.empty l1 x60_4).size : Int)) = true := decide_eq_true c24
                                            clear c24
                                            by_cases c26 : x13_4 ≥ 0
                                            · rw [if_pos c26] at H
                                              have c26b0 : decide (0 ≤ x13_4) = true := decide_eq_true c26
                                              clear c26
                                              by_cases c27 : x13_4 = (wrap64 (Go.bits .xor .u8 (bt (rdOf ByteArray.empty l0 x60_4) x47_2) (bt (rdOf ByteArray.empty l1 x60_4) x47_2)))
                                              · rw [if_pos c27] at H
                                                have c27b0 : (x13_4 == (wrap64 (Go.bits .xor .u8 (bt (rdOf ByteArray.empty l0 x60_4) x47_2) (bt (rdOf ByteArray.empty l1 x60_4) x47_2)))) = true := beq_iff_eq.mpr c27
                                                have c27b1 : (x13_4 != (wrap64 (Go.bits .xor .u8 (bt (rdOf ByteArray.empty l0 x60_4) x47_2) (bt (rdOf ByteArray.empty l1 x60_4) x47_2)))) = false := bne_eq_false_iff_eq.mpr c27
                                                clear c27
                                                have H' := Aside0.mk H
                                                clear H
                                                have p175 : 0 ≤ (x60_4 : Int) := of_decide_eq_true (by first | (with_reducible assumption) | assumption)
                                                have q175 : x60_4 < (l0.length : Int) := of_decide_eq_true (by first | (with_reducible assumption) | assumption)
                                                obtain ⟨ad175, e175, hx175_0⟩ := Kd.at_string HR0.out x60_4 p175 q175
                                                cases e175
                                                replace p175 := eq_true p175
                                                replace q175 := eq_true q175
                                                have p22 : 0 ≤ (x47_2 : Int) := of_decide_eq_true (by first | (with_reducible assumption) | assumption)
                                                have q22 : x47_2 < ((rdOf ByteArray.empty l0 x60_4).size : Int) := of_decide_eq_true (by first | (with_reducible assumption) | assumption)
                                                have hx22 := bt_at (rdOf ByteArray.empty l0 x60_4) x47_2
                                                replace p22 := eq_true p22
                                                replace q22 := eq_true q22
                                                have p176 : 0 ≤ (x60_4 : Int) := of_decide_eq_true (by first | (with_reducible assumption) | assumption)
                                                have q176 : x60_4 < (l1.length : Int) := of_decide_eq_true (by first | (with_reducible assumption) | assumption)
                                                obtain ⟨ad176, e176, hx176_0⟩ := Kd.at_string HR1.out x60_4 p176 q176
                                                cases e176
                                                replace p176 := eq_true p176
                                                replace q176 := eq_true q176
                                                have p25 : 0 ≤ (x47_2 : Int) := of_decide_eq_true (by first | (with_reducible assumption) | assumption)
                                                have q25 : x47_2 < ((rdOf ByteArray.empty l1 x60_4).size : Int) := of_decide_eq_true (by first | (with_reducible assumption) | assumption)
                                                have hx25 := bt_at (rdOf ByteArray.empty l1 x60_4) x47_2
                                                replace p25 := eq_true p25
                                                replace q25 := eq_true q25
                                                go_wp2
                                                repeat (go_quiet (fail); try go_wp2)
                                                go_roundg k4
                                                case measure => have := HK1.out; have := HK2.out; have := HJ13.out; have := HK4.out; omega
                                                case rel => exact ⟨(x11_4), (wrap64 (Go.bits .xor .u8 (bt (rdOf ByteArray.empty l0 x60_4) x47_2) (bt (rdOf ByteArray.empty l1 x60_4) x47_2))), (wrap64 (x60_4 + 1)), (by first | rfl | (simp; done) | (simp [*]; done)), (by first | rfl | (simp; done) | (simp [*]; done)), (by first | rfl | (simp; done) | (simp [*]; done)), H', ⟨by have := HK1.out; have := HK2.out; have := HJ13.out; have := HK4.out; omega⟩, by repeat (first | exact Drawn0.refl _ | apply Drawn0.step)⟩
                                              · rw [if_neg c27] at H
                                                have c27b0 : (x13_4 == (wrap64 (Go.bits .xor .u8 (bt (rdOf ByteArray.empty l0 x60_4) x47_2) (bt (rdOf ByteArray.empty l1 x60_4) x47_2)))) = false := beq_eq_false_iff_ne.mpr c27
                                                have c27b1 : (x13_4 != (wrap64 (Go.bits .xor .u8 (bt (rdOf ByteArray.empty l0 x60_4) x47_2) (bt (rdOf ByteArray.empty l1 x60_4) x47_2)))) = true := bne_iff_ne.mpr c27
                                                simp only [Option.some.injEq, Prod.mk.injEq] at H
                                                obtain ⟨rfl, rfl⟩ := H
                                                have p175 : 0 ≤ (x60_4 : Int) := of_decide_eq_true (by first | (with_reducible assumption) | assumption)
                                                have q175 : x60_4 < (l0.length : Int) := of_decide_eq_true (by first | (with_reducible assumption) | assumption)
                                                obtain ⟨ad175, e175, hx175_0⟩ := Kd.at_string HR0.out x60_4 p175 q175
                                                cases e175
                                                replace p175 := eq_true p175
                                                replace q175 := eq_true q175
                                                have p22 : 0 ≤ (x47_2 : Int) := of_decide_eq_true (by first | (with_reducible assumption) | assumption)
                                                have q22 : x47_2 < ((rdOf ByteArray.empty l0 x60_4).size : Int) := of_decide_eq_true (by first | (with_reducible assumption) | assumption)
                                                have hx22 := bt_at (rdOf ByteArray.empty l0 x60_4) x47_2
                                                replace p22 := eq_true p22
                                                replace q22 := eq_true q22
                                                have p176 : 0 ≤ (x60_4 : Int) := of_decide_eq_true (by first | (with_reducible assumption) | assumption)
                                                have q176 : x60_4 < (l1.length : Int) := of_decide_eq_true (by first | (with_reducible assumption) | assumption)
                                                obtain ⟨ad176, e176, hx176_0⟩ := Kd.at_string HR1.out x60_4 p176 q176
                                                cases e176
                                                replace p176 := eq_true p176
                                                replace q176 := eq_true q176
                                                have p25 : 0 ≤ (x47_2 : Int) := of_decide_eq_true (by first | (with_reducible assumption) | assumption)
                                                have q25 : x47_2 < ((rdOf ByteArray.empty l1 x60_4).size : Int) := of_decide_eq_true (by first | (with_reducible assumption) | assumption)
                                                have hx25 := bt_at (rdOf ByteArray.empty l1 x60_4) x47_2
                                                replace p25 := eq_true p25
                                                replace q25 := eq_true q25
                                                go_wp2
                                                repeat (go_quiet (fail); try go_wp2)
                                                try go_step3
                                                try go_wp2
                                                try rw [Exit.noGoto_ret]
                                                go_ret2
                                                exact ⟨by first | rfl | (simp; done) | (simp [*]; done), by repeat (first | exact Drawn0.refl _ | apply Drawn0.step)⟩
                                            · rw [if_neg c26] at H
                                              have c26b0 : decide (0 ≤ x13_4) = false := decide_eq_false c26
                                              clear c26
                                              have H' := Aside0.mk H
                                              clear H
                                              have p175 : 0 ≤ (x60_4 : Int) := of_decide_eq_true (by first | (with_reducible assumption) | assumption)
                                              have q175 : x60_4 < (l0.length : Int) := of_decide_eq_true (by first | (with_reducible assumption) | assumption)
                                              obtain ⟨ad175, e175, hx175_0⟩ := Kd.at_string HR0.out x60_4 p175 q175
                                              cases e175
                                              replace p175 := eq_true p175
                                              replace q175 := eq_true q175
                                              have p22 : 0 ≤ (x47_2 : Int) := of_decide_eq_true (by first | (with_reducible assumption) | assumption)
                                              have q22 : x47_2 < ((rdOf ByteArray.empty l0 x60_4).size : Int) := of_decide_eq_true (by first | (with_reducible assumption) | assumption)
                                              have hx22 := bt_at (rdOf ByteArray.empty l0 x60_4) x47_2
                                              replace p22 := eq_true p22
                                              replace q22 := eq_true q22
                                              have p176 : 0 ≤ (x60_4 : Int) := of_decide_eq_true (by first | (with_reducible assumption) | assumption)
                                              have q176 : x60_4 < (l1.length : Int) := of_decide_eq_true (by first | (with_reducible assumption) | assumption)
                                              obtain ⟨ad176, e176, hx176_0⟩ := Kd.at_string HR1.out x60_4 p176 q176
                                              cases e176
                                              replace p176 := eq_true p176
                                              replace q176 := eq_true q176
                                              have p25 : 0 ≤ (x47_2 : Int) := of_decide_eq_true (by first | (with_reducible assumption) | assumption)
                                              have q25 : x47_2 < ((rdOf ByteArray.empty l1 x60_4).size : Int) := of_decide_eq_true (by first | (with_reducible assumption) | assumption)
                                              have hx25 := bt_at (rdOf ByteArray.empty l1 x60_4) x47_2
                                              replace p25 := eq_true p25
                                              replace q25 := eq_true q25
                                              go_wp2
                                              repeat (go_quiet (fail); try go_wp2)
                                              go_roundg k4
                                              case measure => have := HK1.out; have := HK2.out; have := HJ13.out; have := HK4.out; omega
                                              case rel => exact ⟨(x11_4), (wrap64 (Go.bits .xor .u8 (bt (rdOf ByteArray.empty l0 x60_4) x47_2) (bt (rdOf ByteArray.empty l1 x60_4) x47_2))), (wrap64 (x60_4 + 1)), (by first | rfl | (simp; done) | (simp [*]; done)), (by first | rfl | (simp; done) | (simp [*]; done)), (by first | rfl | (simp; done) | (simp [*]; done)), H', ⟨by have := HK1.out; have := HK2.out; have := HJ13.out; have := HK4.out; omega⟩, by repeat (first | exact Drawn0.refl _ | apply Drawn0.step)⟩
                                          · rw [if_neg c24] at H
                                            exact absurd H (by simp)
                                        · rw [if_neg c23] at H
                                          exact absurd H (by simp)
                                      · rw [if_neg c21] at H
                                        exact absurd H (by simp)
                                    · rw [if_neg c20] at H
                                      exact absurd H (by simp)
                                  · rw [if_neg c19] at H
                                    exact absurd H (by simp)
                                · rw [if_neg c18] at H
                                  exact absurd H (by simp)
                              · rw [if_neg c17] at H
                                have c17b0 : decide (x60_4 < (l0.length : Int)) = false := decide_eq_false c17
                                clear c17
                                by_cases c28 : x13_4 < 0
                                · rw [if_pos c28] at H
                                  have c28b0 : decide (x13_4 < 0) = true := decide_eq_true c28
                                  clear c28
                                  have H' := Aside0.mk H
                                  clear H
                                  go_wp2
                                  repeat (go_quiet (fail); try go_wp2)
                                  go_roundg k4
                                  case measure => have := HK1.out; have := HK2.out; have := HJ13.out; have := HK4.out; omega
                                  case rel => exact ⟨(wrap64 (x10_2 + 1)), (x11_4), (wrap64 (x47_2 + 1)), (by first | rfl | (simp; done) | (simp [*]; done)), (by first | rfl | (simp; done) | (simp [*]; done)), (by first | rfl | (simp; done) | (simp [*]; done)), H', ⟨by have := HK1.out; have := HK2.out; have := HJ13.out; have := HK4.out; omega⟩, by repeat (first | exact Drawn0.refl _ | apply Drawn0.step)⟩
                                · rw [if_neg c28] at H
                                  have c28b0 : decide (x13_4 < 0) = false := decide_eq_false c28
                                  clear c28
                                  have H' := Aside0.mk H
                                  clear H
                                  go_wp2
                                  repeat (go_quiet (fail); try go_wp2)
                                  go_roundg k4
                                  case measure => have := HK1.out; have := HK2.out; have := HJ13.out; have := HK4.out; omega
                                  case rel => exact ⟨(x10_2), (x11_4), (wrap64 (x47_2 + 1)), (by first | rfl | (simp; done) | (simp [*]; done)), (by first | rfl | (simp; done) | (simp [*]; done)), (by first | rfl | (simp; done) | (simp [*]; done)), H', ⟨by have := HK1.out; have := HK2.out; have := HJ13.out; have := HK4.out; omega⟩, by repeat (first | exact Drawn0.refl _ | apply Drawn0.step)⟩
                  · rw [if_neg c13] at H
                    exact absurd H (by simp)
                · rw [if_neg c12] at H
                  exact absurd H (by simp)
              · rw [if_neg c11] at H
                have c11b0 : decide (x47_2 < (l2.length : Int)) = false := decide_eq_false c11
                clear c11
                by_cases c29 : x11_2 = true
                · subst c29
                  have H1 : (some (x10_2, true)) = some (r1, r2) := by rw [if_pos rfl] at H; exact H
                  clear H
                  have H := H1
                  clear H1
                  simp only [Option.some.injEq, Prod.mk.injEq] at H
                  obtain ⟨rfl, rfl⟩ := H
                  go_wp2
                  repeat (go_quiet (fail); try go_wp2)
                  try go_step3
                  try go_wp2
                  try rw [Exit.noGoto_ret]
                  go_ret2
                  exact ⟨by first | rfl | (simp; done) | (simp [*]; done), by repeat (first | exact Drawn0.refl _ | apply Drawn0.step)⟩
                · replace c29 := Bool.eq_false_iff.mpr c29
                  subst c29
                  have H1 : (some (0, false)) = some (r1, r2) := by rw [if_neg (show ¬ (false = true) by decide)] at H; exact H
                  clear H
                  have H := H1
                  clear H1
                  simp only [Option.some.injEq, Prod.mk.injEq] at H
                  obtain ⟨rfl, rfl⟩ := H
                  go_wp2
                  repeat (go_quiet (fail); try go_wp2)
                  try go_step3
                  try go_wp2
                  try rw [Exit.noGoto_ret]
                  go_ret2
                  exact ⟨by first | rfl | (simp; done) | (simp [*]; done), by repeat (first | exact Drawn0.refl _ | apply Drawn0.step)⟩
  · rw [if_neg c4] at H
    have c4b0 : ((l0.length : Int) == (l1.length : Int)) = false := beq_eq_false_iff_ne.mpr c4
    have c4b1 : ((l0.length : Int) != (l1.length : Int)) = true := bne_iff_ne.mpr c4
    have c4b2 : (l0.length == l1.length) = false := by first | simpa using c4 | (simp at c4 ⊢; omega)
    simp only [Option.some.injEq, Prod.mk.injEq] at H
    obtain ⟨rfl, rfl⟩ := H
    go_enter Try.func19, Try.ntmps19
    go_wp2
    repeat (go_quiet (fail); try go_wp2)
    try go_step3
    try go_wp2
    try rw [Exit.noGoto_ret]
    go_ret2
    exact ⟨by first | rfl | (simp; done) | (simp [*]; done), by repeat (first | exact Drawn0.refl _ | apply Drawn0.step)⟩

end Go.Proofs.Ytgfnllaajaoljaa.QA
