-- WRITTEN BY qprint.py, a program of this session (the kit's print, driven with contracts proved by hand): Lean checks it.
import Derived.Test.YtgfnllaajaoljaaDoorQA0
import Derived.Test.YtgfnllaajaoljaaDoorQA2
import Derived.Test.YtgfnllaajaoljaaDoorQA4
namespace Go.Proofs.YtgfnllaajaoljaaDoor.QA
open Go.RowKit Go.Proofs.YtgfnllaajaoljaaDoorW.PrintWords Go.Proofs.YtgfnllaajaoljaaDoorW.PrintLast Go.Proofs.YtgfnllaajaoljaaDoorW.PrintMore
attribute [local go_sem] max2_int min2_int max_two min_two max_three min_three max_four min_four   -- for this text's walks alone
set_option linter.unusedVariables false
set_option linter.unusedSimpArgs false

/-! ### quietusref04_Exp: function 20 -/
def quietusref04_Exp.l0 : Nat → Int → Int → Int → Option (Int)
  | 0, _, _, _ => none
  | k + 1, x0, x3, x4 => (quietusref04_exponent.f x0).bind fun t143 => (if x4 < t143 then ((quietusref04_Mul.f k x3 2).bind fun t144 => (quietusref04_Exp.l0 k x0 t144 (wrap64 (x4 + 1)))) else (some x3))
def quietusref04_Exp.f (k : Nat) (a0 : Int) : Option (Int) := quietusref04_Exp.l0 k a0 1 0
theorem quietusref04_Exp.mono_l : ∀ k, (∀ y0 y1 y2, LeO (quietusref04_Exp.l0 k y0 y1 y2) (quietusref04_Exp.l0 (k + 1) y0 y1 y2))
  | 0 => fun _ _ _ r h => by simp [quietusref04_Exp.l0] at h
  | k + 1 => by
    have ih0 := quietusref04_Exp.mono_l k
    · intro y0 y1 y2
      unfold quietusref04_Exp.l0
      repeat' first
      | (with_reducible exact ih0 _ _ _)
      | (with_reducible exact quietusref04_Mul.mono _ _ _)
      | (with_reducible exact LeO.refl _)
      | (with_reducible exact LeO.none _)
      | (with_reducible refine LeO.ite ?_ ?_)
      | (with_reducible refine LeO.bind ?_ (fun _ => ?_))
      | exact ih0 _ _ _
      | exact quietusref04_Mul.mono _ _ _
      | exact LeO.none _
      | refine LeO.ite ?_ ?_
      | refine LeO.bind ?_ (fun _ => ?_)
theorem quietusref04_Exp.mono : ∀ a0 k, LeO (quietusref04_Exp.f k a0) (quietusref04_Exp.f (k + 1) a0) := by
  intro a0 k
  have ih0 := quietusref04_Exp.mono_l k
  unfold quietusref04_Exp.f
  repeat' first
      | (with_reducible exact ih0 _ _ _)
      | (with_reducible exact quietusref04_Mul.mono _ _ _)
      | (with_reducible exact LeO.refl _)
      | (with_reducible exact LeO.none _)
      | (with_reducible refine LeO.ite ?_ ?_)
      | (with_reducible refine LeO.bind ?_ (fun _ => ?_))
      | exact ih0 _ _ _
      | exact quietusref04_Mul.mono _ _ _
      | exact LeO.none _
      | refine LeO.ite ?_ ?_
      | refine LeO.bind ?_ (fun _ => ?_)
set_option maxHeartbeats 8000000 in
set_option maxRecDepth 100000 in
theorem quietusref04_Exp.calls (k : Nat) (a0 : Int) (r : Int) (w : World) (h : quietusref04_Exp.f k a0 = some r) :
    Calls Tryd.prog 20 #[.int .i64 a0] w fun e w' => e = .returned (.int .u8 r) ∧ Drawn0 w w' := by
  have H : (quietusref04_Exp.l0 k a0 1 0) = some r := h
  clear h
  have H' := Aside0.mk H
  clear H
  go_enter Tryd.func20, Tryd.ntmps20
  go_wp2
  go_loopg [3, 4] k (fun kq v3 v4 w' => ∃ (x3_1 : Int) (x4_1 : Int), v3 = .int .u8 x3_1 ∧ v4 = .int .i64 x4_1 ∧ Aside0 (quietusref04_Exp.l0 kq a0 x3_1 x4_1 = some r) ∧ Aside0 (kq ≤ k) ∧ Drawn0 w w')
  case atStart => exact ⟨(1), (0), (by first | rfl | (simp; done) | (simp [*]; done)), (by first | rfl | (simp; done) | (simp [*]; done)), H', ⟨Nat.le_refl _⟩, by repeat (first | exact Drawn0.refl _ | apply Drawn0.step)⟩
  case round =>
    clear H'
    obtain ⟨x3_1, x4_1, rfl, rfl, HA, HK1, ⟨m1, rfl⟩⟩ := hrel
    cases gk with
    | zero => exact absurd HA.out (by simp [quietusref04_Exp.l0])
    | succ k1 =>
      have H := HA.out
      clear HA
      simp only [quietusref04_Exp.l0] at H
      replace H := Option.bind_eq_some_iff.mp H
      obtain ⟨t143, A20, H⟩ := H
      replace H : (if x4_1 < t143 then ((quietusref04_Mul.f k1 x3_1 2).bind fun t144 => (quietusref04_Exp.l0 k1 a0 t144 (wrap64 (x4_1 + 1)))) else (some x3_1)) = some r := H
      have A2 := Aside0.mk A20
      clear A20
      by_cases c3 : x4_1 < t143
      · rw [if_pos c3] at H
        have c3b0 : decide (x4_1 < t143) = true := decide_eq_true c3
        clear c3
        replace H := Option.bind_eq_some_iff.mp H
        obtain ⟨t144, A40, H⟩ := H
        replace H : (quietusref04_Exp.l0 k1 a0 t144 (wrap64 (x4_1 + 1))) = some r := H
        have A4 := Aside0.mk A40
        clear A40
        have H' := Aside0.mk H
        clear H
        go_wp2_with (first | ((with_reducible refine gate_callee (f := 50) rfl ?_); refine goesL_ (some 7) rfl rfl Tryd.func50 (by kernel_rfl) rfl #[.int .i64 a0] rfl (by (try simp only [List.map_toArray, List.map_cons, List.map_nil]); first | done | rfl | (simp only [List.length_drop, List.length_take]; rfl)) ?_; (with_reducible refine (quietusref04_exponent.calls a0 t143 _ A2.out).mono ?_); rintro e w' ⟨rfl, ⟨nd, rfl⟩⟩; refine ⟨_, rfl, ?_⟩) | ((with_reducible refine gate_callee (f := 21) rfl ?_); refine goesL_ (some 12) rfl rfl Tryd.func21 (by kernel_rfl) rfl #[.int .u8 x3_1, .int .u8 2] rfl (by (try simp only [List.map_toArray, List.map_cons, List.map_nil]); first | done | rfl | (simp only [List.length_drop, List.length_take]; rfl)) ?_; (with_reducible refine (quietusref04_Mul.calls k1 x3_1 2 t144 _ A4.out).mono ?_); rintro e w' ⟨rfl, ⟨nd, rfl⟩⟩; refine ⟨_, rfl, ?_⟩))
        go_roundg k1
        case measure => have := HK1.out; omega
        case rel => exact ⟨(t144), (wrap64 (x4_1 + 1)), (by first | rfl | (simp; done) | (simp [*]; done)), (by first | rfl | (simp; done) | (simp [*]; done)), H', ⟨by have := HK1.out; omega⟩, by repeat (first | exact Drawn0.refl _ | apply Drawn0.step)⟩
      · rw [if_neg c3] at H
        have c3b0 : decide (x4_1 < t143) = false := decide_eq_false c3
        clear c3
        obtain rfl := Option.some.inj H
        go_wp2_with (first | ((with_reducible refine gate_callee (f := 50) rfl ?_); refine goesL_ (some 7) rfl rfl Tryd.func50 (by kernel_rfl) rfl #[.int .i64 a0] rfl (by (try simp only [List.map_toArray, List.map_cons, List.map_nil]); first | done | rfl | (simp only [List.length_drop, List.length_take]; rfl)) ?_; (with_reducible refine (quietusref04_exponent.calls a0 t143 _ A2.out).mono ?_); rintro e w' ⟨rfl, ⟨nd, rfl⟩⟩; refine ⟨_, rfl, ?_⟩))
        go_ret
        exact ⟨by first | rfl | (simp; done) | (simp [*]; done), by repeat (first | exact Drawn0.refl _ | apply Drawn0.step)⟩

/-! ### quietusref04_Inv: function 22 -/
def quietusref04_Inv.l0 : Nat → Int → Int → Option (Int)
  | 0, _, _ => none
  | k + 1, x0, x3 => if x3 < 256 then ((quietusref04_Mul.f k x0 ((x3) % 256)).bind fun t145 => (if t145 = 1 then (some ((x3) % 256)) else (quietusref04_Inv.l0 k x0 (wrap64 (x3 + 1))))) else (some 0)
def quietusref04_Inv.f (k : Nat) (a0 : Int) : Option (Int) := quietusref04_Inv.l0 k a0 1
theorem quietusref04_Inv.mono_l : ∀ k, (∀ y0 y1, LeO (quietusref04_Inv.l0 k y0 y1) (quietusref04_Inv.l0 (k + 1) y0 y1))
  | 0 => fun _ _ r h => by simp [quietusref04_Inv.l0] at h
  | k + 1 => by
    have ih0 := quietusref04_Inv.mono_l k
    · intro y0 y1
      unfold quietusref04_Inv.l0
      repeat' first
      | (with_reducible exact ih0 _ _)
      | (with_reducible exact quietusref04_Mul.mono _ _ _)
      | (with_reducible exact LeO.refl _)
      | (with_reducible exact LeO.none _)
      | (with_reducible refine LeO.ite ?_ ?_)
      | (with_reducible refine LeO.bind ?_ (fun _ => ?_))
      | exact ih0 _ _
      | exact quietusref04_Mul.mono _ _ _
      | exact LeO.none _
      | refine LeO.ite ?_ ?_
      | refine LeO.bind ?_ (fun _ => ?_)
theorem quietusref04_Inv.mono : ∀ a0 k, LeO (quietusref04_Inv.f k a0) (quietusref04_Inv.f (k + 1) a0) := by
  intro a0 k
  have ih0 := quietusref04_Inv.mono_l k
  unfold quietusref04_Inv.f
  repeat' first
      | (with_reducible exact ih0 _ _)
      | (with_reducible exact quietusref04_Mul.mono _ _ _)
      | (with_reducible exact LeO.refl _)
      | (with_reducible exact LeO.none _)
      | (with_reducible refine LeO.ite ?_ ?_)
      | (with_reducible refine LeO.bind ?_ (fun _ => ?_))
      | exact ih0 _ _
      | exact quietusref04_Mul.mono _ _ _
      | exact LeO.none _
      | refine LeO.ite ?_ ?_
      | refine LeO.bind ?_ (fun _ => ?_)
set_option maxHeartbeats 8000000 in
set_option maxRecDepth 100000 in
theorem quietusref04_Inv.calls (k : Nat) (a0 : Int) (r : Int) (w : World) (h : quietusref04_Inv.f k a0 = some r) :
    Calls Tryd.prog 22 #[.int .u8 a0] w fun e w' => e = .returned (.int .u8 r) ∧ Drawn0 w w' := by
  have H : (quietusref04_Inv.l0 k a0 1) = some r := h
  clear h
  have H' := Aside0.mk H
  clear H
  go_enter Tryd.func22, Tryd.ntmps22
  go_wp2
  go_loopg [3] k (fun kq v3 w' => ∃ (x3_1 : Int), v3 = .int .i64 x3_1 ∧ Aside0 (quietusref04_Inv.l0 kq a0 x3_1 = some r) ∧ Aside0 (kq ≤ k) ∧ Drawn0 w w')
  case atStart => exact ⟨(1), (by first | rfl | (simp; done) | (simp [*]; done)), H', ⟨Nat.le_refl _⟩, by repeat (first | exact Drawn0.refl _ | apply Drawn0.step)⟩
  case round =>
    clear H'
    obtain ⟨x3_1, rfl, HA, HK1, ⟨m1, rfl⟩⟩ := hrel
    cases gk with
    | zero => exact absurd HA.out (by simp [quietusref04_Inv.l0])
    | succ k1 =>
      have H := HA.out
      clear HA
      simp only [quietusref04_Inv.l0] at H
      by_cases c2 : x3_1 < 256
      · rw [if_pos c2] at H
        have c2b0 : decide (x3_1 < 256) = true := decide_eq_true c2
        clear c2
        replace H := Option.bind_eq_some_iff.mp H
        obtain ⟨t145, A30, H⟩ := H
        replace H : (if t145 = 1 then (some ((x3_1) % 256)) else (quietusref04_Inv.l0 k1 a0 (wrap64 (x3_1 + 1)))) = some r := H
        have A3 := Aside0.mk A30
        clear A30
        by_cases c4 : t145 = 1
        · rw [if_pos c4] at H
          have c4b0 : (t145 == 1) = true := beq_iff_eq.mpr c4
          have c4b1 : (t145 != 1) = false := bne_eq_false_iff_eq.mpr c4
          clear c4
          obtain rfl := Option.some.inj H
          go_wp2_with (first | ((with_reducible refine gate_callee (f := 21) rfl ?_); refine goesL_ (some 11) rfl rfl Tryd.func21 (by kernel_rfl) rfl #[.int .u8 a0, .int .u8 ((x3_1) % 256)] rfl (by (try simp only [List.map_toArray, List.map_cons, List.map_nil]); first | done | rfl | (simp only [List.length_drop, List.length_take]; rfl)) ?_; (with_reducible refine (quietusref04_Mul.calls k1 a0 ((x3_1) % 256) t145 _ A3.out).mono ?_); rintro e w' ⟨rfl, ⟨nd, rfl⟩⟩; refine ⟨_, rfl, ?_⟩))
          go_ret
          exact ⟨by first | rfl | (simp; done) | (simp [*]; done), by repeat (first | exact Drawn0.refl _ | apply Drawn0.step)⟩
        · rw [if_neg c4] at H
          have c4b0 : (t145 == 1) = false := beq_eq_false_iff_ne.mpr c4
          have c4b1 : (t145 != 1) = true := bne_iff_ne.mpr c4
          have H' := Aside0.mk H
          clear H
          go_wp2_with (first | ((with_reducible refine gate_callee (f := 21) rfl ?_); refine goesL_ (some 11) rfl rfl Tryd.func21 (by kernel_rfl) rfl #[.int .u8 a0, .int .u8 ((x3_1) % 256)] rfl (by (try simp only [List.map_toArray, List.map_cons, List.map_nil]); first | done | rfl | (simp only [List.length_drop, List.length_take]; rfl)) ?_; (with_reducible refine (quietusref04_Mul.calls k1 a0 ((x3_1) % 256) t145 _ A3.out).mono ?_); rintro e w' ⟨rfl, ⟨nd, rfl⟩⟩; refine ⟨_, rfl, ?_⟩))
          go_roundg k1
          case measure => have := HK1.out; omega
          case rel => exact ⟨(wrap64 (x3_1 + 1)), (by first | rfl | (simp; done) | (simp [*]; done)), H', ⟨by have := HK1.out; omega⟩, by repeat (first | exact Drawn0.refl _ | apply Drawn0.step)⟩
      · rw [if_neg c2] at H
        have c2b0 : decide (x3_1 < 256) = false := decide_eq_false c2
        clear c2
        obtain rfl := Option.some.inj H
        go_wp2
        go_ret
        exact ⟨by first | rfl | (simp; done) | (simp [*]; done), by repeat (first | exact Drawn0.refl _ | apply Drawn0.step)⟩

/-! ### quietusref04_Log: function 23 -/
def quietusref04_Log.l0 : Nat → Int → Int → Option (Int)
  | 0, _, _ => none
  | k + 1, x0, x3 => if x3 < 255 then ((quietusref04_Exp.f k x3).bind fun t146 => (if t146 = x0 then (some x3) else (quietusref04_Log.l0 k x0 (wrap64 (x3 + 1))))) else (some (-1))
def quietusref04_Log.f (k : Nat) (a0 : Int) : Option (Int) := quietusref04_Log.l0 k a0 0
theorem quietusref04_Log.mono_l : ∀ k, (∀ y0 y1, LeO (quietusref04_Log.l0 k y0 y1) (quietusref04_Log.l0 (k + 1) y0 y1))
  | 0 => fun _ _ r h => by simp [quietusref04_Log.l0] at h
  | k + 1 => by
    have ih0 := quietusref04_Log.mono_l k
    · intro y0 y1
      unfold quietusref04_Log.l0
      repeat' first
      | (with_reducible exact ih0 _ _)
      | (with_reducible exact quietusref04_Exp.mono _ _)
      | (with_reducible exact LeO.refl _)
      | (with_reducible exact LeO.none _)
      | (with_reducible refine LeO.ite ?_ ?_)
      | (with_reducible refine LeO.bind ?_ (fun _ => ?_))
      | exact ih0 _ _
      | exact quietusref04_Exp.mono _ _
      | exact LeO.none _
      | refine LeO.ite ?_ ?_
      | refine LeO.bind ?_ (fun _ => ?_)
theorem quietusref04_Log.mono : ∀ a0 k, LeO (quietusref04_Log.f k a0) (quietusref04_Log.f (k + 1) a0) := by
  intro a0 k
  have ih0 := quietusref04_Log.mono_l k
  unfold quietusref04_Log.f
  repeat' first
      | (with_reducible exact ih0 _ _)
      | (with_reducible exact quietusref04_Exp.mono _ _)
      | (with_reducible exact LeO.refl _)
      | (with_reducible exact LeO.none _)
      | (with_reducible refine LeO.ite ?_ ?_)
      | (with_reducible refine LeO.bind ?_ (fun _ => ?_))
      | exact ih0 _ _
      | exact quietusref04_Exp.mono _ _
      | exact LeO.none _
      | refine LeO.ite ?_ ?_
      | refine LeO.bind ?_ (fun _ => ?_)
set_option maxHeartbeats 8000000 in
set_option maxRecDepth 100000 in
theorem quietusref04_Log.calls (k : Nat) (a0 : Int) (r : Int) (w : World) (h : quietusref04_Log.f k a0 = some r) :
    Calls Tryd.prog 23 #[.int .u8 a0] w fun e w' => e = .returned (.int .i64 r) ∧ Drawn0 w w' := by
  have H : (quietusref04_Log.l0 k a0 0) = some r := h
  clear h
  have H' := Aside0.mk H
  clear H
  go_enter Tryd.func23, Tryd.ntmps23
  go_wp2
  go_loopg [3] k (fun kq v3 w' => ∃ (x3_1 : Int), v3 = .int .i64 x3_1 ∧ Aside0 (quietusref04_Log.l0 kq a0 x3_1 = some r) ∧ Aside0 (kq ≤ k) ∧ Drawn0 w w')
  case atStart => exact ⟨(0), (by first | rfl | (simp; done) | (simp [*]; done)), H', ⟨Nat.le_refl _⟩, by repeat (first | exact Drawn0.refl _ | apply Drawn0.step)⟩
  case round =>
    clear H'
    obtain ⟨x3_1, rfl, HA, HK1, ⟨m1, rfl⟩⟩ := hrel
    cases gk with
    | zero => exact absurd HA.out (by simp [quietusref04_Log.l0])
    | succ k1 =>
      have H := HA.out
      clear HA
      simp only [quietusref04_Log.l0] at H
      by_cases c2 : x3_1 < 255
      · rw [if_pos c2] at H
        have c2b0 : decide (x3_1 < 255) = true := decide_eq_true c2
        clear c2
        replace H := Option.bind_eq_some_iff.mp H
        obtain ⟨t146, A30, H⟩ := H
        replace H : (if t146 = a0 then (some x3_1) else (quietusref04_Log.l0 k1 a0 (wrap64 (x3_1 + 1)))) = some r := H
        have A3 := Aside0.mk A30
        clear A30
        by_cases c4 : t146 = a0
        · rw [if_pos c4] at H
          have c4b0 : (t146 == a0) = true := beq_iff_eq.mpr c4
          have c4b1 : (t146 != a0) = false := bne_eq_false_iff_eq.mpr c4
          clear c4
          obtain rfl := Option.some.inj H
          go_wp2_with (first | ((with_reducible refine gate_callee (f := 20) rfl ?_); refine goesL_ (some 9) rfl rfl Tryd.func20 (by kernel_rfl) rfl #[.int .i64 x3_1] rfl (by (try simp only [List.map_toArray, List.map_cons, List.map_nil]); first | done | rfl | (simp only [List.length_drop, List.length_take]; rfl)) ?_; (with_reducible refine (quietusref04_Exp.calls k1 x3_1 t146 _ A3.out).mono ?_); rintro e w' ⟨rfl, ⟨nd, rfl⟩⟩; refine ⟨_, rfl, ?_⟩))
          go_ret
          exact ⟨by first | rfl | (simp; done) | (simp [*]; done), by repeat (first | exact Drawn0.refl _ | apply Drawn0.step)⟩
        · rw [if_neg c4] at H
          have c4b0 : (t146 == a0) = false := beq_eq_false_iff_ne.mpr c4
          have c4b1 : (t146 != a0) = true := bne_iff_ne.mpr c4
          have H' := Aside0.mk H
          clear H
          go_wp2_with (first | ((with_reducible refine gate_callee (f := 20) rfl ?_); refine goesL_ (some 9) rfl rfl Tryd.func20 (by kernel_rfl) rfl #[.int .i64 x3_1] rfl (by (try simp only [List.map_toArray, List.map_cons, List.map_nil]); first | done | rfl | (simp only [List.length_drop, List.length_take]; rfl)) ?_; (with_reducible refine (quietusref04_Exp.calls k1 x3_1 t146 _ A3.out).mono ?_); rintro e w' ⟨rfl, ⟨nd, rfl⟩⟩; refine ⟨_, rfl, ?_⟩))
          go_roundg k1
          case measure => have := HK1.out; omega
          case rel => exact ⟨(wrap64 (x3_1 + 1)), (by first | rfl | (simp; done) | (simp [*]; done)), H', ⟨by have := HK1.out; omega⟩, by repeat (first | exact Drawn0.refl _ | apply Drawn0.step)⟩
      · rw [if_neg c2] at H
        have c2b0 : decide (x3_1 < 255) = false := decide_eq_false c2
        clear c2
        obtain rfl := Option.some.inj H
        go_wp2
        go_ret
        exact ⟨by first | rfl | (simp; done) | (simp [*]; done), by repeat (first | exact Drawn0.refl _ | apply Drawn0.step)⟩

/-! ### quietuslaw04_FieldMatchesSpec: function 3 -/
def quietuslaw04_FieldMatchesSpec.f (k : Nat) (a0 : Int) (a1 : Int) (a2 : Int) : Option (Bool) := (gf_Inv.f k a0).bind fun bt147 => ((gf_Log.f k a0).bind fun bt149 => (if a0 = 0 then ((quietuslaw04_sanity.f k).bind fun t151 => (if t151 = true then ((gf_MulW.f a0 a1).bind fun t152 => (if t152 = 0 then (if bt147.1 = 0 then (if bt147.2 = 1 then (if bt149.1 = 0 then (if bt149.2 = 1 then ((gf_Pow.f k a0 a2).bind fun t153 => ((quietusref04_Pow.f k a0 a2).bind fun t154 => (if t153 = t154 then ((gf_Exp.f k a2).bind fun t155 => ((quietusref04_Exp.f k a2).bind fun t156 => (some (t155 == t156)))) else (some false)))) else (some false)) else (some false)) else (some false)) else (some false)) else (some false))) else (some false))) else ((quietuslaw04_sanity.f k).bind fun t157 => (if t157 = true then ((gf_MulW.f a0 a1).bind fun t158 => ((quietusref04_Mul.f k a0 a1).bind fun t159 => (if t158 = t159 then ((quietusref04_Inv.f k a0).bind fun t160 => (if bt147.1 = t160 then (if bt147.2 = 0 then ((quietusref04_Log.f k a0).bind fun t161 => (if bt149.1 = t161 then (if bt149.2 = 0 then ((gf_Pow.f k a0 a2).bind fun t162 => ((quietusref04_Pow.f k a0 a2).bind fun t163 => (if t162 = t163 then ((gf_Exp.f k a2).bind fun t164 => ((quietusref04_Exp.f k a2).bind fun t165 => (some (t164 == t165)))) else (some false)))) else (some false)) else (some false))) else (some false)) else (some false))) else (some false)))) else (some false)))))
theorem quietuslaw04_FieldMatchesSpec.mono : ∀ a0 a1 a2 k, LeO (quietuslaw04_FieldMatchesSpec.f k a0 a1 a2) (quietuslaw04_FieldMatchesSpec.f (k + 1) a0 a1 a2) := by
  intro a0 a1 a2 k
  unfold quietuslaw04_FieldMatchesSpec.f
  repeat' first
      | (with_reducible exact gf_Exp.mono _ _)
      | (with_reducible exact gf_Inv.mono _ _)
      | (with_reducible exact gf_Log.mono _ _)
      | (with_reducible exact gf_Pow.mono _ _ _)
      | (with_reducible exact quietuslaw04_sanity.mono _)
      | (with_reducible exact quietusref04_Exp.mono _ _)
      | (with_reducible exact quietusref04_Inv.mono _ _)
      | (with_reducible exact quietusref04_Log.mono _ _)
      | (with_reducible exact quietusref04_Mul.mono _ _ _)
      | (with_reducible exact quietusref04_Pow.mono _ _ _)
      | (with_reducible exact LeO.refl _)
      | (with_reducible exact LeO.none _)
      | (with_reducible refine LeO.ite ?_ ?_)
      | (with_reducible refine LeO.bind ?_ (fun _ => ?_))
      | exact gf_Exp.mono _ _
      | exact gf_Inv.mono _ _
      | exact gf_Log.mono _ _
      | exact gf_Pow.mono _ _ _
      | exact quietuslaw04_sanity.mono _
      | exact quietusref04_Exp.mono _ _
      | exact quietusref04_Inv.mono _ _
      | exact quietusref04_Log.mono _ _
      | exact quietusref04_Mul.mono _ _ _
      | exact quietusref04_Pow.mono _ _ _
      | exact LeO.none _
      | refine LeO.ite ?_ ?_
      | refine LeO.bind ?_ (fun _ => ?_)
set_option maxHeartbeats 8000000 in
set_option maxRecDepth 100000 in
theorem quietuslaw04_FieldMatchesSpec.calls (k : Nat) (a0 : Int) (a1 : Int) (a2 : Int) (r : Bool) (w : World) (hrG : Kd.C (Kd.int .u8) w (some ⟨0, 0, none⟩) 16 highTbl) (h : quietuslaw04_FieldMatchesSpec.f k a0 a1 a2 = some r) :
    Calls Tryd.prog 3 #[.int .u8 a0, .int .u8 a1, .int .i64 a2] w fun e w' => e = .returned (.bool r) ∧ Below w.heap.size w w' := by
  have HRG := Aside0.mk hrG
  clear hrG
  have HB := Aside0.mk (Below.refl w.heap.size w)
  have H : ((gf_Inv.f k a0).bind fun bt147 => ((gf_Log.f k a0).bind fun bt149 => (if a0 = 0 then ((quietuslaw04_sanity.f k).bind fun t151 => (if t151 = true then ((gf_MulW.f a0 a1).bind fun t152 => (if t152 = 0 then (if bt147.1 = 0 then (if bt147.2 = 1 then (if bt149.1 = 0 then (if bt149.2 = 1 then ((gf_Pow.f k a0 a2).bind fun t153 => ((quietusref04_Pow.f k a0 a2).bind fun t154 => (if t153 = t154 then ((gf_Exp.f k a2).bind fun t155 => ((quietusref04_Exp.f k a2).bind fun t156 => (some (t155 == t156)))) else (some false)))) else (some false)) else (some false)) else (some false)) else (some false)) else (some false))) else (some false))) else ((quietuslaw04_sanity.f k).bind fun t157 => (if t157 = true then ((gf_MulW.f a0 a1).bind fun t158 => ((quietusref04_Mul.f k a0 a1).bind fun t159 => (if t158 = t159 then ((quietusref04_Inv.f k a0).bind fun t160 => (if bt147.1 = t160 then (if bt147.2 = 0 then ((quietusref04_Log.f k a0).bind fun t161 => (if bt149.1 = t161 then (if bt149.2 = 0 then ((gf_Pow.f k a0 a2).bind fun t162 => ((quietusref04_Pow.f k a0 a2).bind fun t163 => (if t162 = t163 then ((gf_Exp.f k a2).bind fun t164 => ((quietusref04_Exp.f k a2).bind fun t165 => (some (t164 == t165)))) else (some false)))) else (some false)) else (some false))) else (some false)) else (some false))) else (some false)))) else (some false)))))) = some r := h
  clear h
  replace H := Option.bind_eq_some_iff.mp H
  obtain ⟨⟨t147, t148⟩, A40, H⟩ := H
  replace H : ((gf_Log.f k a0).bind fun bt149 => (if a0 = 0 then ((quietuslaw04_sanity.f k).bind fun t151 => (if t151 = true then ((gf_MulW.f a0 a1).bind fun t152 => (if t152 = 0 then (if t147 = 0 then (if t148 = 1 then (if bt149.1 = 0 then (if bt149.2 = 1 then ((gf_Pow.f k a0 a2).bind fun t153 => ((quietusref04_Pow.f k a0 a2).bind fun t154 => (if t153 = t154 then ((gf_Exp.f k a2).bind fun t155 => ((quietusref04_Exp.f k a2).bind fun t156 => (some (t155 == t156)))) else (some false)))) else (some false)) else (some false)) else (some false)) else (some false)) else (some false))) else (some false))) else ((quietuslaw04_sanity.f k).bind fun t157 => (if t157 = true then ((gf_MulW.f a0 a1).bind fun t158 => ((quietusref04_Mul.f k a0 a1).bind fun t159 => (if t158 = t159 then ((quietusref04_Inv.f k a0).bind fun t160 => (if t147 = t160 then (if t148 = 0 then ((quietusref04_Log.f k a0).bind fun t161 => (if bt149.1 = t161 then (if bt149.2 = 0 then ((gf_Pow.f k a0 a2).bind fun t162 => ((quietusref04_Pow.f k a0 a2).bind fun t163 => (if t162 = t163 then ((gf_Exp.f k a2).bind fun t164 => ((quietusref04_Exp.f k a2).bind fun t165 => (some (t164 == t165)))) else (some false)))) else (some false)) else (some false))) else (some false)) else (some false))) else (some false)))) else (some false))))) = some r := H
  have A4 := Aside0.mk A40
  clear A40
  replace H := Option.bind_eq_some_iff.mp H
  obtain ⟨⟨t149, t150⟩, A50, H⟩ := H
  replace H : (if a0 = 0 then ((quietuslaw04_sanity.f k).bind fun t151 => (if t151 = true then ((gf_MulW.f a0 a1).bind fun t152 => (if t152 = 0 then (if t147 = 0 then (if t148 = 1 then (if t149 = 0 then (if t150 = 1 then ((gf_Pow.f k a0 a2).bind fun t153 => ((quietusref04_Pow.f k a0 a2).bind fun t154 => (if t153 = t154 then ((gf_Exp.f k a2).bind fun t155 => ((quietusref04_Exp.f k a2).bind fun t156 => (some (t155 == t156)))) else (some false)))) else (some false)) else (some false)) else (some false)) else (some false)) else (some false))) else (some false))) else ((quietuslaw04_sanity.f k).bind fun t157 => (if t157 = true then ((gf_MulW.f a0 a1).bind fun t158 => ((quietusref04_Mul.f k a0 a1).bind fun t159 => (if t158 = t159 then ((quietusref04_Inv.f k a0).bind fun t160 => (if t147 = t160 then (if t148 = 0 then ((quietusref04_Log.f k a0).bind fun t161 => (if t149 = t161 then (if t150 = 0 then ((gf_Pow.f k a0 a2).bind fun t162 => ((quietusref04_Pow.f k a0 a2).bind fun t163 => (if t162 = t163 then ((gf_Exp.f k a2).bind fun t164 => ((quietusref04_Exp.f k a2).bind fun t165 => (some (t164 == t165)))) else (some false)))) else (some false)) else (some false))) else (some false)) else (some false))) else (some false)))) else (some false)))) = some r := H
  have A5 := Aside0.mk A50
  clear A50
  by_cases c6 : a0 = 0
  · rw [if_pos c6] at H
    have c6b0 : (a0 == 0) = true := beq_iff_eq.mpr c6
    have c6b1 : (a0 != 0) = false := bne_eq_false_iff_eq.mpr c6
    clear c6
    replace H := Option.bind_eq_some_iff.mp H
    obtain ⟨t151, A70, H⟩ := H
    replace H : (if t151 = true then ((gf_MulW.f a0 a1).bind fun t152 => (if t152 = 0 then (if t147 = 0 then (if t148 = 1 then (if t149 = 0 then (if t150 = 1 then ((gf_Pow.f k a0 a2).bind fun t153 => ((quietusref04_Pow.f k a0 a2).bind fun t154 => (if t153 = t154 then ((gf_Exp.f k a2).bind fun t155 => ((quietusref04_Exp.f k a2).bind fun t156 => (some (t155 == t156)))) else (some false)))) else (some false)) else (some false)) else (some false)) else (some false)) else (some false))) else (some false)) = some r := H
    have A7 := Aside0.mk A70
    clear A70
    by_cases c8 : t151 = true
    · subst c8
      have H1 : ((gf_MulW.f a0 a1).bind fun t152 => (if t152 = 0 then (if t147 = 0 then (if t148 = 1 then (if t149 = 0 then (if t150 = 1 then ((gf_Pow.f k a0 a2).bind fun t153 => ((quietusref04_Pow.f k a0 a2).bind fun t154 => (if t153 = t154 then ((gf_Exp.f k a2).bind fun t155 => ((quietusref04_Exp.f k a2).bind fun t156 => (some (t155 == t156)))) else (some false)))) else (some false)) else (some false)) else (some false)) else (some false)) else (some false))) = some r := by rw [if_pos rfl] at H; exact H
      clear H
      have H := H1
      clear H1
      replace H := Option.bind_eq_some_iff.mp H
      obtain ⟨t152, A90, H⟩ := H
      replace H : (if t152 = 0 then (if t147 = 0 then (if t148 = 1 then (if t149 = 0 then (if t150 = 1 then ((gf_Pow.f k a0 a2).bind fun t153 => ((quietusref04_Pow.f k a0 a2).bind fun t154 => (if t153 = t154 then ((gf_Exp.f k a2).bind fun t155 => ((quietusref04_Exp.f k a2).bind fun t156 => (some (t155 == t156)))) else (some false)))) else (some false)) else (some false)) else (some false)) else (some false)) else (some false)) = some r := H
      have A9 := Aside0.mk A90
      clear A90
      by_cases c10 : t152 = 0
      · rw [if_pos c10] at H
        have c10b0 : (t152 == 0) = true := beq_iff_eq.mpr c10
        have c10b1 : (t152 != 0) = false := bne_eq_false_iff_eq.mpr c10
        clear c10
        by_cases c11 : t147 = 0
        · rw [if_pos c11] at H
          have c11b0 : (t147 == 0) = true := beq_iff_eq.mpr c11
          have c11b1 : (t147 != 0) = false := bne_eq_false_iff_eq.mpr c11
          clear c11
          by_cases c12 : t148 = 1
          · rw [if_pos c12] at H
            have c12b0 : (t148 == 1) = true := beq_iff_eq.mpr c12
            have c12b1 : (t148 != 1) = false := bne_eq_false_iff_eq.mpr c12
            clear c12
            by_cases c13 : t149 = 0
            · rw [if_pos c13] at H
              have c13b0 : (t149 == 0) = true := beq_iff_eq.mpr c13
              have c13b1 : (t149 != 0) = false := bne_eq_false_iff_eq.mpr c13
              clear c13
              by_cases c14 : t150 = 1
              · rw [if_pos c14] at H
                have c14b0 : (t150 == 1) = true := beq_iff_eq.mpr c14
                have c14b1 : (t150 != 1) = false := bne_eq_false_iff_eq.mpr c14
                clear c14
                replace H := Option.bind_eq_some_iff.mp H
                obtain ⟨t153, A150, H⟩ := H
                replace H : ((quietusref04_Pow.f k a0 a2).bind fun t154 => (if t153 = t154 then ((gf_Exp.f k a2).bind fun t155 => ((quietusref04_Exp.f k a2).bind fun t156 => (some (t155 == t156)))) else (some false))) = some r := H
                have A15 := Aside0.mk A150
                clear A150
                replace H := Option.bind_eq_some_iff.mp H
                obtain ⟨t154, A160, H⟩ := H
                replace H : (if t153 = t154 then ((gf_Exp.f k a2).bind fun t155 => ((quietusref04_Exp.f k a2).bind fun t156 => (some (t155 == t156)))) else (some false)) = some r := H
                have A16 := Aside0.mk A160
                clear A160
                by_cases c17 : t153 = t154
                · rw [if_pos c17] at H
                  have c17b0 : (t153 == t154) = true := beq_iff_eq.mpr c17
                  have c17b1 : (t153 != t154) = false := bne_eq_false_iff_eq.mpr c17
                  clear c17
                  replace H := Option.bind_eq_some_iff.mp H
                  obtain ⟨t155, A180, H⟩ := H
                  replace H : ((quietusref04_Exp.f k a2).bind fun t156 => (some (t155 == t156))) = some r := H
                  have A18 := Aside0.mk A180
                  clear A180
                  replace H := Option.bind_eq_some_iff.mp H
                  obtain ⟨t156, A190, H⟩ := H
                  replace H : (some (t155 == t156)) = some r := H
                  have A19 := Aside0.mk A190
                  clear A190
                  obtain rfl := Option.some.inj H
                  go_enter Tryd.func3, Tryd.ntmps3
                  go_wp2_with (first | ((with_reducible refine gate_callee (f := 13) rfl ?_); refine goesL_ (some 13) rfl rfl Tryd.func13 (by kernel_rfl) rfl #[.int .u8 a0] rfl (by (try simp only [List.map_toArray, List.map_cons, List.map_nil]); first | done | rfl | (simp only [List.length_drop, List.length_take]; rfl)) ?_; (with_reducible refine (gf_Inv.calls k a0 t147 t148 _ ?sideG A4.out).mono ?_); (case sideG => repeat (first | exact (Kd.C_below HRG.out HB.out) | exact HRG.out | (with_reducible refine Kd.C_alloc ?_ _) | (with_reducible refine Kd.C_drewN ?_ _) | (with_reducible refine Kd.C_drew ?_))); rintro e w' ⟨rfl, ⟨nd, rfl⟩⟩; refine ⟨_, rfl, ?_⟩) | ((with_reducible refine gate_callee (f := 14) rfl ?_); refine goesL_ (some 18) rfl rfl Tryd.func14 (by kernel_rfl) rfl #[.int .u8 a0] rfl (by (try simp only [List.map_toArray, List.map_cons, List.map_nil]); first | done | rfl | (simp only [List.length_drop, List.length_take]; rfl)) ?_; (with_reducible refine (gf_Log.calls k a0 t149 t150 _ ?sideG A5.out).mono ?_); (case sideG => repeat (first | exact (Kd.C_below HRG.out HB.out) | exact HRG.out | (with_reducible refine Kd.C_alloc ?_ _) | (with_reducible refine Kd.C_drewN ?_ _) | (with_reducible refine Kd.C_drew ?_))); rintro e w' ⟨rfl, ⟨nd, rfl⟩⟩; refine ⟨_, rfl, ?_⟩) | ((with_reducible refine gate_callee (f := 15) rfl ?_); refine goesL_ (some 23) rfl rfl Tryd.func15 (by kernel_rfl) rfl #[] rfl (by (try simp only [List.map_toArray, List.map_cons, List.map_nil]); first | done | rfl | (simp only [List.length_drop, List.length_take]; rfl)) ?_; (with_reducible refine (quietuslaw04_sanity.calls k  true _ ?sideG A7.out).mono ?_); (case sideG => repeat (first | exact (Kd.C_below HRG.out HB.out) | exact HRG.out | (with_reducible refine Kd.C_alloc ?_ _) | (with_reducible refine Kd.C_drewN ?_ _) | (with_reducible refine Kd.C_drew ?_))); rintro e w20 ⟨rfl, hb⟩; refine ⟨_, rfl, ?_⟩; have n0_ := Aside0.mk (below_step (by repeat (first | (with_reducible first | exact HB.out | apply below_alloc | apply pw_below_drewN | apply below_drew1) | exact HB.out)) hb); clear HB; have HB := n0_; clear n0_; (try clear hb); (try clear hb2); (try clear hk); (try clear hi)) | (go_at_call 16; (with_reducible refine (gf_MulW.calls a0 a1 t152 _ ?sideG A9.out).mono ?_); (case sideG => repeat (first | exact (Kd.C_below HRG.out HB.out) | exact HRG.out | (with_reducible refine Kd.C_alloc ?_ _) | (with_reducible refine Kd.C_drewN ?_ _) | (with_reducible refine Kd.C_drew ?_))); rintro e w' ⟨rfl, ⟨nd, rfl⟩⟩) | (go_at_call 17; (with_reducible refine (gf_Pow.calls k a0 a2 t153 _ ?sideG A15.out).mono ?_); (case sideG => repeat (first | exact (Kd.C_below HRG.out HB.out) | exact HRG.out | (with_reducible refine Kd.C_alloc ?_ _) | (with_reducible refine Kd.C_drewN ?_ _) | (with_reducible refine Kd.C_drew ?_))); rintro e w' ⟨rfl, ⟨nd, rfl⟩⟩) | (go_at_call 18; (with_reducible refine (quietusref04_Pow.calls k a0 a2 t154 _ A16.out).mono ?_); rintro e w' ⟨rfl, ⟨nd, rfl⟩⟩) | (go_at_call 19; (with_reducible refine (gf_Exp.calls k a2 t155 _ ?sideG A18.out).mono ?_); (case sideG => repeat (first | exact (Kd.C_below HRG.out HB.out) | exact HRG.out | (with_reducible refine Kd.C_alloc ?_ _) | (with_reducible refine Kd.C_drewN ?_ _) | (with_reducible refine Kd.C_drew ?_))); rintro e w' ⟨rfl, ⟨nd, rfl⟩⟩) | (go_at_call 20; (with_reducible refine (quietusref04_Exp.calls k a2 t156 _ A19.out).mono ?_); rintro e w' ⟨rfl, ⟨nd, rfl⟩⟩))
                  go_ret
                  exact ⟨by first | rfl | (simp [errW_none, errW_some] <;> rfl) | (simp [*, errW_none, errW_some] <;> rfl), by repeat (first | (with_reducible first | exact HB.out | apply below_alloc | apply pw_below_drewN | apply below_drew1) | exact HB.out)⟩
                · rw [if_neg c17] at H
                  have c17b0 : (t153 == t154) = false := beq_eq_false_iff_ne.mpr c17
                  have c17b1 : (t153 != t154) = true := bne_iff_ne.mpr c17
                  obtain rfl := Option.some.inj H
                  go_enter Tryd.func3, Tryd.ntmps3
                  go_wp2_with (first | ((with_reducible refine gate_callee (f := 13) rfl ?_); refine goesL_ (some 13) rfl rfl Tryd.func13 (by kernel_rfl) rfl #[.int .u8 a0] rfl (by (try simp only [List.map_toArray, List.map_cons, List.map_nil]); first | done | rfl | (simp only [List.length_drop, List.length_take]; rfl)) ?_; (with_reducible refine (gf_Inv.calls k a0 t147 t148 _ ?sideG A4.out).mono ?_); (case sideG => repeat (first | exact (Kd.C_below HRG.out HB.out) | exact HRG.out | (with_reducible refine Kd.C_alloc ?_ _) | (with_reducible refine Kd.C_drewN ?_ _) | (with_reducible refine Kd.C_drew ?_))); rintro e w' ⟨rfl, ⟨nd, rfl⟩⟩; refine ⟨_, rfl, ?_⟩) | ((with_reducible refine gate_callee (f := 14) rfl ?_); refine goesL_ (some 18) rfl rfl Tryd.func14 (by kernel_rfl) rfl #[.int .u8 a0] rfl (by (try simp only [List.map_toArray, List.map_cons, List.map_nil]); first | done | rfl | (simp only [List.length_drop, List.length_take]; rfl)) ?_; (with_reducible refine (gf_Log.calls k a0 t149 t150 _ ?sideG A5.out).mono ?_); (case sideG => repeat (first | exact (Kd.C_below HRG.out HB.out) | exact HRG.out | (with_reducible refine Kd.C_alloc ?_ _) | (with_reducible refine Kd.C_drewN ?_ _) | (with_reducible refine Kd.C_drew ?_))); rintro e w' ⟨rfl, ⟨nd, rfl⟩⟩; refine ⟨_, rfl, ?_⟩) | ((with_reducible refine gate_callee (f := 15) rfl ?_); refine goesL_ (some 23) rfl rfl Tryd.func15 (by kernel_rfl) rfl #[] rfl (by (try simp only [List.map_toArray, List.map_cons, List.map_nil]); first | done | rfl | (simp only [List.length_drop, List.length_take]; rfl)) ?_; (with_reducible refine (quietuslaw04_sanity.calls k  true _ ?sideG A7.out).mono ?_); (case sideG => repeat (first | exact (Kd.C_below HRG.out HB.out) | exact HRG.out | (with_reducible refine Kd.C_alloc ?_ _) | (with_reducible refine Kd.C_drewN ?_ _) | (with_reducible refine Kd.C_drew ?_))); rintro e w21 ⟨rfl, hb⟩; refine ⟨_, rfl, ?_⟩; have n0_ := Aside0.mk (below_step (by repeat (first | (with_reducible first | exact HB.out | apply below_alloc | apply pw_below_drewN | apply below_drew1) | exact HB.out)) hb); clear HB; have HB := n0_; clear n0_; (try clear hb); (try clear hb2); (try clear hk); (try clear hi)) | (go_at_call 16; (with_reducible refine (gf_MulW.calls a0 a1 t152 _ ?sideG A9.out).mono ?_); (case sideG => repeat (first | exact (Kd.C_below HRG.out HB.out) | exact HRG.out | (with_reducible refine Kd.C_alloc ?_ _) | (with_reducible refine Kd.C_drewN ?_ _) | (with_reducible refine Kd.C_drew ?_))); rintro e w' ⟨rfl, ⟨nd, rfl⟩⟩) | (go_at_call 17; (with_reducible refine (gf_Pow.calls k a0 a2 t153 _ ?sideG A15.out).mono ?_); (case sideG => repeat (first | exact (Kd.C_below HRG.out HB.out) | exact HRG.out | (with_reducible refine Kd.C_alloc ?_ _) | (with_reducible refine Kd.C_drewN ?_ _) | (with_reducible refine Kd.C_drew ?_))); rintro e w' ⟨rfl, ⟨nd, rfl⟩⟩) | (go_at_call 18; (with_reducible refine (quietusref04_Pow.calls k a0 a2 t154 _ A16.out).mono ?_); rintro e w' ⟨rfl, ⟨nd, rfl⟩⟩))
                  go_ret
                  exact ⟨by first | rfl | (simp [errW_none, errW_some] <;> rfl) | (simp [*, errW_none, errW_some] <;> rfl), by repeat (first | (with_reducible first | exact HB.out | apply below_alloc | apply pw_below_drewN | apply below_drew1) | exact HB.out)⟩
              · rw [if_neg c14] at H
                have c14b0 : (t150 == 1) = false := beq_eq_false_iff_ne.mpr c14
                have c14b1 : (t150 != 1) = true := bne_iff_ne.mpr c14
                obtain rfl := Option.some.inj H
                go_enter Tryd.func3, Tryd.ntmps3
                go_wp2_with (first | ((with_reducible refine gate_callee (f := 13) rfl ?_); refine goesL_ (some 13) rfl rfl Tryd.func13 (by kernel_rfl) rfl #[.int .u8 a0] rfl (by (try simp only [List.map_toArray, List.map_cons, List.map_nil]); first | done | rfl | (simp only [List.length_drop, List.length_take]; rfl)) ?_; (with_reducible refine (gf_Inv.calls k a0 t147 t148 _ ?sideG A4.out).mono ?_); (case sideG => repeat (first | exact (Kd.C_below HRG.out HB.out) | exact HRG.out | (with_reducible refine Kd.C_alloc ?_ _) | (with_reducible refine Kd.C_drewN ?_ _) | (with_reducible refine Kd.C_drew ?_))); rintro e w' ⟨rfl, ⟨nd, rfl⟩⟩; refine ⟨_, rfl, ?_⟩) | ((with_reducible refine gate_callee (f := 14) rfl ?_); refine goesL_ (some 18) rfl rfl Tryd.func14 (by kernel_rfl) rfl #[.int .u8 a0] rfl (by (try simp only [List.map_toArray, List.map_cons, List.map_nil]); first | done | rfl | (simp only [List.length_drop, List.length_take]; rfl)) ?_; (with_reducible refine (gf_Log.calls k a0 t149 t150 _ ?sideG A5.out).mono ?_); (case sideG => repeat (first | exact (Kd.C_below HRG.out HB.out) | exact HRG.out | (with_reducible refine Kd.C_alloc ?_ _) | (with_reducible refine Kd.C_drewN ?_ _) | (with_reducible refine Kd.C_drew ?_))); rintro e w' ⟨rfl, ⟨nd, rfl⟩⟩; refine ⟨_, rfl, ?_⟩) | ((with_reducible refine gate_callee (f := 15) rfl ?_); refine goesL_ (some 23) rfl rfl Tryd.func15 (by kernel_rfl) rfl #[] rfl (by (try simp only [List.map_toArray, List.map_cons, List.map_nil]); first | done | rfl | (simp only [List.length_drop, List.length_take]; rfl)) ?_; (with_reducible refine (quietuslaw04_sanity.calls k  true _ ?sideG A7.out).mono ?_); (case sideG => repeat (first | exact (Kd.C_below HRG.out HB.out) | exact HRG.out | (with_reducible refine Kd.C_alloc ?_ _) | (with_reducible refine Kd.C_drewN ?_ _) | (with_reducible refine Kd.C_drew ?_))); rintro e w22 ⟨rfl, hb⟩; refine ⟨_, rfl, ?_⟩; have n0_ := Aside0.mk (below_step (by repeat (first | (with_reducible first | exact HB.out | apply below_alloc | apply pw_below_drewN | apply below_drew1) | exact HB.out)) hb); clear HB; have HB := n0_; clear n0_; (try clear hb); (try clear hb2); (try clear hk); (try clear hi)) | (go_at_call 16; (with_reducible refine (gf_MulW.calls a0 a1 t152 _ ?sideG A9.out).mono ?_); (case sideG => repeat (first | exact (Kd.C_below HRG.out HB.out) | exact HRG.out | (with_reducible refine Kd.C_alloc ?_ _) | (with_reducible refine Kd.C_drewN ?_ _) | (with_reducible refine Kd.C_drew ?_))); rintro e w' ⟨rfl, ⟨nd, rfl⟩⟩))
                go_ret
                exact ⟨by first | rfl | (simp [errW_none, errW_some] <;> rfl) | (simp [*, errW_none, errW_some] <;> rfl), by repeat (first | (with_reducible first | exact HB.out | apply below_alloc | apply pw_below_drewN | apply below_drew1) | exact HB.out)⟩
            · rw [if_neg c13] at H
              have c13b0 : (t149 == 0) = false := beq_eq_false_iff_ne.mpr c13
              have c13b1 : (t149 != 0) = true := bne_iff_ne.mpr c13
              obtain rfl := Option.some.inj H
              go_enter Tryd.func3, Tryd.ntmps3
              go_wp2_with (first | ((with_reducible refine gate_callee (f := 13) rfl ?_); refine goesL_ (some 13) rfl rfl Tryd.func13 (by kernel_rfl) rfl #[.int .u8 a0] rfl (by (try simp only [List.map_toArray, List.map_cons, List.map_nil]); first | done | rfl | (simp only [List.length_drop, List.length_take]; rfl)) ?_; (with_reducible refine (gf_Inv.calls k a0 t147 t148 _ ?sideG A4.out).mono ?_); (case sideG => repeat (first | exact (Kd.C_below HRG.out HB.out) | exact HRG.out | (with_reducible refine Kd.C_alloc ?_ _) | (with_reducible refine Kd.C_drewN ?_ _) | (with_reducible refine Kd.C_drew ?_))); rintro e w' ⟨rfl, ⟨nd, rfl⟩⟩; refine ⟨_, rfl, ?_⟩) | ((with_reducible refine gate_callee (f := 14) rfl ?_); refine goesL_ (some 18) rfl rfl Tryd.func14 (by kernel_rfl) rfl #[.int .u8 a0] rfl (by (try simp only [List.map_toArray, List.map_cons, List.map_nil]); first | done | rfl | (simp only [List.length_drop, List.length_take]; rfl)) ?_; (with_reducible refine (gf_Log.calls k a0 t149 t150 _ ?sideG A5.out).mono ?_); (case sideG => repeat (first | exact (Kd.C_below HRG.out HB.out) | exact HRG.out | (with_reducible refine Kd.C_alloc ?_ _) | (with_reducible refine Kd.C_drewN ?_ _) | (with_reducible refine Kd.C_drew ?_))); rintro e w' ⟨rfl, ⟨nd, rfl⟩⟩; refine ⟨_, rfl, ?_⟩) | ((with_reducible refine gate_callee (f := 15) rfl ?_); refine goesL_ (some 23) rfl rfl Tryd.func15 (by kernel_rfl) rfl #[] rfl (by (try simp only [List.map_toArray, List.map_cons, List.map_nil]); first | done | rfl | (simp only [List.length_drop, List.length_take]; rfl)) ?_; (with_reducible refine (quietuslaw04_sanity.calls k  true _ ?sideG A7.out).mono ?_); (case sideG => repeat (first | exact (Kd.C_below HRG.out HB.out) | exact HRG.out | (with_reducible refine Kd.C_alloc ?_ _) | (with_reducible refine Kd.C_drewN ?_ _) | (with_reducible refine Kd.C_drew ?_))); rintro e w23 ⟨rfl, hb⟩; refine ⟨_, rfl, ?_⟩; have n0_ := Aside0.mk (below_step (by repeat (first | (with_reducible first | exact HB.out | apply below_alloc | apply pw_below_drewN | apply below_drew1) | exact HB.out)) hb); clear HB; have HB := n0_; clear n0_; (try clear hb); (try clear hb2); (try clear hk); (try clear hi)) | (go_at_call 16; (with_reducible refine (gf_MulW.calls a0 a1 t152 _ ?sideG A9.out).mono ?_); (case sideG => repeat (first | exact (Kd.C_below HRG.out HB.out) | exact HRG.out | (with_reducible refine Kd.C_alloc ?_ _) | (with_reducible refine Kd.C_drewN ?_ _) | (with_reducible refine Kd.C_drew ?_))); rintro e w' ⟨rfl, ⟨nd, rfl⟩⟩))
              go_ret
              exact ⟨by first | rfl | (simp [errW_none, errW_some] <;> rfl) | (simp [*, errW_none, errW_some] <;> rfl), by repeat (first | (with_reducible first | exact HB.out | apply below_alloc | apply pw_below_drewN | apply below_drew1) | exact HB.out)⟩
          · rw [if_neg c12] at H
            have c12b0 : (t148 == 1) = false := beq_eq_false_iff_ne.mpr c12
            have c12b1 : (t148 != 1) = true := bne_iff_ne.mpr c12
            obtain rfl := Option.some.inj H
            go_enter Tryd.func3, Tryd.ntmps3
            go_wp2_with (first | ((with_reducible refine gate_callee (f := 13) rfl ?_); refine goesL_ (some 13) rfl rfl Tryd.func13 (by kernel_rfl) rfl #[.int .u8 a0] rfl (by (try simp only [List.map_toArray, List.map_cons, List.map_nil]); first | done | rfl | (simp only [List.length_drop, List.length_take]; rfl)) ?_; (with_reducible refine (gf_Inv.calls k a0 t147 t148 _ ?sideG A4.out).mono ?_); (case sideG => repeat (first | exact (Kd.C_below HRG.out HB.out) | exact HRG.out | (with_reducible refine Kd.C_alloc ?_ _) | (with_reducible refine Kd.C_drewN ?_ _) | (with_reducible refine Kd.C_drew ?_))); rintro e w' ⟨rfl, ⟨nd, rfl⟩⟩; refine ⟨_, rfl, ?_⟩) | ((with_reducible refine gate_callee (f := 14) rfl ?_); refine goesL_ (some 18) rfl rfl Tryd.func14 (by kernel_rfl) rfl #[.int .u8 a0] rfl (by (try simp only [List.map_toArray, List.map_cons, List.map_nil]); first | done | rfl | (simp only [List.length_drop, List.length_take]; rfl)) ?_; (with_reducible refine (gf_Log.calls k a0 t149 t150 _ ?sideG A5.out).mono ?_); (case sideG => repeat (first | exact (Kd.C_below HRG.out HB.out) | exact HRG.out | (with_reducible refine Kd.C_alloc ?_ _) | (with_reducible refine Kd.C_drewN ?_ _) | (with_reducible refine Kd.C_drew ?_))); rintro e w' ⟨rfl, ⟨nd, rfl⟩⟩; refine ⟨_, rfl, ?_⟩) | ((with_reducible refine gate_callee (f := 15) rfl ?_); refine goesL_ (some 23) rfl rfl Tryd.func15 (by kernel_rfl) rfl #[] rfl (by (try simp only [List.map_toArray, List.map_cons, List.map_nil]); first | done | rfl | (simp only [List.length_drop, List.length_take]; rfl)) ?_; (with_reducible refine (quietuslaw04_sanity.calls k  true _ ?sideG A7.out).mono ?_); (case sideG => repeat (first | exact (Kd.C_below HRG.out HB.out) | exact HRG.out | (with_reducible refine Kd.C_alloc ?_ _) | (with_reducible refine Kd.C_drewN ?_ _) | (with_reducible refine Kd.C_drew ?_))); rintro e w24 ⟨rfl, hb⟩; refine ⟨_, rfl, ?_⟩; have n0_ := Aside0.mk (below_step (by repeat (first | (with_reducible first | exact HB.out | apply below_alloc | apply pw_below_drewN | apply below_drew1) | exact HB.out)) hb); clear HB; have HB := n0_; clear n0_; (try clear hb); (try clear hb2); (try clear hk); (try clear hi)) | (go_at_call 16; (with_reducible refine (gf_MulW.calls a0 a1 t152 _ ?sideG A9.out).mono ?_); (case sideG => repeat (first | exact (Kd.C_below HRG.out HB.out) | exact HRG.out | (with_reducible refine Kd.C_alloc ?_ _) | (with_reducible refine Kd.C_drewN ?_ _) | (with_reducible refine Kd.C_drew ?_))); rintro e w' ⟨rfl, ⟨nd, rfl⟩⟩))
            go_ret
            exact ⟨by first | rfl | (simp [errW_none, errW_some] <;> rfl) | (simp [*, errW_none, errW_some] <;> rfl), by repeat (first | (with_reducible first | exact HB.out | apply below_alloc | apply pw_below_drewN | apply below_drew1) | exact HB.out)⟩
        · rw [if_neg c11] at H
          have c11b0 : (t147 == 0) = false := beq_eq_false_iff_ne.mpr c11
          have c11b1 : (t147 != 0) = true := bne_iff_ne.mpr c11
          obtain rfl := Option.some.inj H
          go_enter Tryd.func3, Tryd.ntmps3
          go_wp2_with (first | ((with_reducible refine gate_callee (f := 13) rfl ?_); refine goesL_ (some 13) rfl rfl Tryd.func13 (by kernel_rfl) rfl #[.int .u8 a0] rfl (by (try simp only [List.map_toArray, List.map_cons, List.map_nil]); first | done | rfl | (simp only [List.length_drop, List.length_take]; rfl)) ?_; (with_reducible refine (gf_Inv.calls k a0 t147 t148 _ ?sideG A4.out).mono ?_); (case sideG => repeat (first | exact (Kd.C_below HRG.out HB.out) | exact HRG.out | (with_reducible refine Kd.C_alloc ?_ _) | (with_reducible refine Kd.C_drewN ?_ _) | (with_reducible refine Kd.C_drew ?_))); rintro e w' ⟨rfl, ⟨nd, rfl⟩⟩; refine ⟨_, rfl, ?_⟩) | ((with_reducible refine gate_callee (f := 14) rfl ?_); refine goesL_ (some 18) rfl rfl Tryd.func14 (by kernel_rfl) rfl #[.int .u8 a0] rfl (by (try simp only [List.map_toArray, List.map_cons, List.map_nil]); first | done | rfl | (simp only [List.length_drop, List.length_take]; rfl)) ?_; (with_reducible refine (gf_Log.calls k a0 t149 t150 _ ?sideG A5.out).mono ?_); (case sideG => repeat (first | exact (Kd.C_below HRG.out HB.out) | exact HRG.out | (with_reducible refine Kd.C_alloc ?_ _) | (with_reducible refine Kd.C_drewN ?_ _) | (with_reducible refine Kd.C_drew ?_))); rintro e w' ⟨rfl, ⟨nd, rfl⟩⟩; refine ⟨_, rfl, ?_⟩) | ((with_reducible refine gate_callee (f := 15) rfl ?_); refine goesL_ (some 23) rfl rfl Tryd.func15 (by kernel_rfl) rfl #[] rfl (by (try simp only [List.map_toArray, List.map_cons, List.map_nil]); first | done | rfl | (simp only [List.length_drop, List.length_take]; rfl)) ?_; (with_reducible refine (quietuslaw04_sanity.calls k  true _ ?sideG A7.out).mono ?_); (case sideG => repeat (first | exact (Kd.C_below HRG.out HB.out) | exact HRG.out | (with_reducible refine Kd.C_alloc ?_ _) | (with_reducible refine Kd.C_drewN ?_ _) | (with_reducible refine Kd.C_drew ?_))); rintro e w25 ⟨rfl, hb⟩; refine ⟨_, rfl, ?_⟩; have n0_ := Aside0.mk (below_step (by repeat (first | (with_reducible first | exact HB.out | apply below_alloc | apply pw_below_drewN | apply below_drew1) | exact HB.out)) hb); clear HB; have HB := n0_; clear n0_; (try clear hb); (try clear hb2); (try clear hk); (try clear hi)) | (go_at_call 16; (with_reducible refine (gf_MulW.calls a0 a1 t152 _ ?sideG A9.out).mono ?_); (case sideG => repeat (first | exact (Kd.C_below HRG.out HB.out) | exact HRG.out | (with_reducible refine Kd.C_alloc ?_ _) | (with_reducible refine Kd.C_drewN ?_ _) | (with_reducible refine Kd.C_drew ?_))); rintro e w' ⟨rfl, ⟨nd, rfl⟩⟩))
          go_ret
          exact ⟨by first | rfl | (simp [errW_none, errW_some] <;> rfl) | (simp [*, errW_none, errW_some] <;> rfl), by repeat (first | (with_reducible first | exact HB.out | apply below_alloc | apply pw_below_drewN | apply below_drew1) | exact HB.out)⟩
      · rw [if_neg c10] at H
        have c10b0 : (t152 == 0) = false := beq_eq_false_iff_ne.mpr c10
        have c10b1 : (t152 != 0) = true := bne_iff_ne.mpr c10
        obtain rfl := Option.some.inj H
        go_enter Tryd.func3, Tryd.ntmps3
        go_wp2_with (first | ((with_reducible refine gate_callee (f := 13) rfl ?_); refine goesL_ (some 13) rfl rfl Tryd.func13 (by kernel_rfl) rfl #[.int .u8 a0] rfl (by (try simp only [List.map_toArray, List.map_cons, List.map_nil]); first | done | rfl | (simp only [List.length_drop, List.length_take]; rfl)) ?_; (with_reducible refine (gf_Inv.calls k a0 t147 t148 _ ?sideG A4.out).mono ?_); (case sideG => repeat (first | exact (Kd.C_below HRG.out HB.out) | exact HRG.out | (with_reducible refine Kd.C_alloc ?_ _) | (with_reducible refine Kd.C_drewN ?_ _) | (with_reducible refine Kd.C_drew ?_))); rintro e w' ⟨rfl, ⟨nd, rfl⟩⟩; refine ⟨_, rfl, ?_⟩) | ((with_reducible refine gate_callee (f := 14) rfl ?_); refine goesL_ (some 18) rfl rfl Tryd.func14 (by kernel_rfl) rfl #[.int .u8 a0] rfl (by (try simp only [List.map_toArray, List.map_cons, List.map_nil]); first | done | rfl | (simp only [List.length_drop, List.length_take]; rfl)) ?_; (with_reducible refine (gf_Log.calls k a0 t149 t150 _ ?sideG A5.out).mono ?_); (case sideG => repeat (first | exact (Kd.C_below HRG.out HB.out) | exact HRG.out | (with_reducible refine Kd.C_alloc ?_ _) | (with_reducible refine Kd.C_drewN ?_ _) | (with_reducible refine Kd.C_drew ?_))); rintro e w' ⟨rfl, ⟨nd, rfl⟩⟩; refine ⟨_, rfl, ?_⟩) | ((with_reducible refine gate_callee (f := 15) rfl ?_); refine goesL_ (some 23) rfl rfl Tryd.func15 (by kernel_rfl) rfl #[] rfl (by (try simp only [List.map_toArray, List.map_cons, List.map_nil]); first | done | rfl | (simp only [List.length_drop, List.length_take]; rfl)) ?_; (with_reducible refine (quietuslaw04_sanity.calls k  true _ ?sideG A7.out).mono ?_); (case sideG => repeat (first | exact (Kd.C_below HRG.out HB.out) | exact HRG.out | (with_reducible refine Kd.C_alloc ?_ _) | (with_reducible refine Kd.C_drewN ?_ _) | (with_reducible refine Kd.C_drew ?_))); rintro e w26 ⟨rfl, hb⟩; refine ⟨_, rfl, ?_⟩; have n0_ := Aside0.mk (below_step (by repeat (first | (with_reducible first | exact HB.out | apply below_alloc | apply pw_below_drewN | apply below_drew1) | exact HB.out)) hb); clear HB; have HB := n0_; clear n0_; (try clear hb); (try clear hb2); (try clear hk); (try clear hi)) | (go_at_call 16; (with_reducible refine (gf_MulW.calls a0 a1 t152 _ ?sideG A9.out).mono ?_); (case sideG => repeat (first | exact (Kd.C_below HRG.out HB.out) | exact HRG.out | (with_reducible refine Kd.C_alloc ?_ _) | (with_reducible refine Kd.C_drewN ?_ _) | (with_reducible refine Kd.C_drew ?_))); rintro e w' ⟨rfl, ⟨nd, rfl⟩⟩))
        go_ret
        exact ⟨by first | rfl | (simp [errW_none, errW_some] <;> rfl) | (simp [*, errW_none, errW_some] <;> rfl), by repeat (first | (with_reducible first | exact HB.out | apply below_alloc | apply pw_below_drewN | apply below_drew1) | exact HB.out)⟩
    · replace c8 := Bool.eq_false_iff.mpr c8
      subst c8
      have H1 : (some false) = some r := by rw [if_neg (show ¬ (false = true) by decide)] at H; exact H
      clear H
      have H := H1
      clear H1
      obtain rfl := Option.some.inj H
      go_enter Tryd.func3, Tryd.ntmps3
      go_wp2_with (first | ((with_reducible refine gate_callee (f := 13) rfl ?_); refine goesL_ (some 13) rfl rfl Tryd.func13 (by kernel_rfl) rfl #[.int .u8 a0] rfl (by (try simp only [List.map_toArray, List.map_cons, List.map_nil]); first | done | rfl | (simp only [List.length_drop, List.length_take]; rfl)) ?_; (with_reducible refine (gf_Inv.calls k a0 t147 t148 _ ?sideG A4.out).mono ?_); (case sideG => repeat (first | exact (Kd.C_below HRG.out HB.out) | exact HRG.out | (with_reducible refine Kd.C_alloc ?_ _) | (with_reducible refine Kd.C_drewN ?_ _) | (with_reducible refine Kd.C_drew ?_))); rintro e w' ⟨rfl, ⟨nd, rfl⟩⟩; refine ⟨_, rfl, ?_⟩) | ((with_reducible refine gate_callee (f := 14) rfl ?_); refine goesL_ (some 18) rfl rfl Tryd.func14 (by kernel_rfl) rfl #[.int .u8 a0] rfl (by (try simp only [List.map_toArray, List.map_cons, List.map_nil]); first | done | rfl | (simp only [List.length_drop, List.length_take]; rfl)) ?_; (with_reducible refine (gf_Log.calls k a0 t149 t150 _ ?sideG A5.out).mono ?_); (case sideG => repeat (first | exact (Kd.C_below HRG.out HB.out) | exact HRG.out | (with_reducible refine Kd.C_alloc ?_ _) | (with_reducible refine Kd.C_drewN ?_ _) | (with_reducible refine Kd.C_drew ?_))); rintro e w' ⟨rfl, ⟨nd, rfl⟩⟩; refine ⟨_, rfl, ?_⟩) | ((with_reducible refine gate_callee (f := 15) rfl ?_); refine goesL_ (some 23) rfl rfl Tryd.func15 (by kernel_rfl) rfl #[] rfl (by (try simp only [List.map_toArray, List.map_cons, List.map_nil]); first | done | rfl | (simp only [List.length_drop, List.length_take]; rfl)) ?_; (with_reducible refine (quietuslaw04_sanity.calls k  false _ ?sideG A7.out).mono ?_); (case sideG => repeat (first | exact (Kd.C_below HRG.out HB.out) | exact HRG.out | (with_reducible refine Kd.C_alloc ?_ _) | (with_reducible refine Kd.C_drewN ?_ _) | (with_reducible refine Kd.C_drew ?_))); rintro e w27 ⟨rfl, hb⟩; refine ⟨_, rfl, ?_⟩; have n0_ := Aside0.mk (below_step (by repeat (first | (with_reducible first | exact HB.out | apply below_alloc | apply pw_below_drewN | apply below_drew1) | exact HB.out)) hb); clear HB; have HB := n0_; clear n0_; (try clear hb); (try clear hb2); (try clear hk); (try clear hi)))
      go_ret
      exact ⟨by first | rfl | (simp [errW_none, errW_some] <;> rfl) | (simp [*, errW_none, errW_some] <;> rfl), by repeat (first | (with_reducible first | exact HB.out | apply below_alloc | apply pw_below_drewN | apply below_drew1) | exact HB.out)⟩
  · rw [if_neg c6] at H
    have c6b0 : (a0 == 0) = false := beq_eq_false_iff_ne.mpr c6
    have c6b1 : (a0 != 0) = true := bne_iff_ne.mpr c6
    replace H := Option.bind_eq_some_iff.mp H
    obtain ⟨t157, A280, H⟩ := H
    replace H : (if t157 = true then ((gf_MulW.f a0 a1).bind fun t158 => ((quietusref04_Mul.f k a0 a1).bind fun t159 => (if t158 = t159 then ((quietusref04_Inv.f k a0).bind fun t160 => (if t147 = t160 then (if t148 = 0 then ((quietusref04_Log.f k a0).bind fun t161 => (if t149 = t161 then (if t150 = 0 then ((gf_Pow.f k a0 a2).bind fun t162 => ((quietusref04_Pow.f k a0 a2).bind fun t163 => (if t162 = t163 then ((gf_Exp.f k a2).bind fun t164 => ((quietusref04_Exp.f k a2).bind fun t165 => (some (t164 == t165)))) else (some false)))) else (some false)) else (some false))) else (some false)) else (some false))) else (some false)))) else (some false)) = some r := H
    have A28 := Aside0.mk A280
    clear A280
    by_cases c29 : t157 = true
    · subst c29
      have H1 : ((gf_MulW.f a0 a1).bind fun t158 => ((quietusref04_Mul.f k a0 a1).bind fun t159 => (if t158 = t159 then ((quietusref04_Inv.f k a0).bind fun t160 => (if t147 = t160 then (if t148 = 0 then ((quietusref04_Log.f k a0).bind fun t161 => (if t149 = t161 then (if t150 = 0 then ((gf_Pow.f k a0 a2).bind fun t162 => ((quietusref04_Pow.f k a0 a2).bind fun t163 => (if t162 = t163 then ((gf_Exp.f k a2).bind fun t164 => ((quietusref04_Exp.f k a2).bind fun t165 => (some (t164 == t165)))) else (some false)))) else (some false)) else (some false))) else (some false)) else (some false))) else (some false)))) = some r := by rw [if_pos rfl] at H; exact H
      clear H
      have H := H1
      clear H1
      replace H := Option.bind_eq_some_iff.mp H
      obtain ⟨t158, A300, H⟩ := H
      replace H : ((quietusref04_Mul.f k a0 a1).bind fun t159 => (if t158 = t159 then ((quietusref04_Inv.f k a0).bind fun t160 => (if t147 = t160 then (if t148 = 0 then ((quietusref04_Log.f k a0).bind fun t161 => (if t149 = t161 then (if t150 = 0 then ((gf_Pow.f k a0 a2).bind fun t162 => ((quietusref04_Pow.f k a0 a2).bind fun t163 => (if t162 = t163 then ((gf_Exp.f k a2).bind fun t164 => ((quietusref04_Exp.f k a2).bind fun t165 => (some (t164 == t165)))) else (some false)))) else (some false)) else (some false))) else (some false)) else (some false))) else (some false))) = some r := H
      have A30 := Aside0.mk A300
      clear A300
      replace H := Option.bind_eq_some_iff.mp H
      obtain ⟨t159, A310, H⟩ := H
      replace H : (if t158 = t159 then ((quietusref04_Inv.f k a0).bind fun t160 => (if t147 = t160 then (if t148 = 0 then ((quietusref04_Log.f k a0).bind fun t161 => (if t149 = t161 then (if t150 = 0 then ((gf_Pow.f k a0 a2).bind fun t162 => ((quietusref04_Pow.f k a0 a2).bind fun t163 => (if t162 = t163 then ((gf_Exp.f k a2).bind fun t164 => ((quietusref04_Exp.f k a2).bind fun t165 => (some (t164 == t165)))) else (some false)))) else (some false)) else (some false))) else (some false)) else (some false))) else (some false)) = some r := H
      have A31 := Aside0.mk A310
      clear A310
      by_cases c32 : t158 = t159
      · rw [if_pos c32] at H
        have c32b0 : (t158 == t159) = true := beq_iff_eq.mpr c32
        have c32b1 : (t158 != t159) = false := bne_eq_false_iff_eq.mpr c32
        clear c32
        replace H := Option.bind_eq_some_iff.mp H
        obtain ⟨t160, A330, H⟩ := H
        replace H : (if t147 = t160 then (if t148 = 0 then ((quietusref04_Log.f k a0).bind fun t161 => (if t149 = t161 then (if t150 = 0 then ((gf_Pow.f k a0 a2).bind fun t162 => ((quietusref04_Pow.f k a0 a2).bind fun t163 => (if t162 = t163 then ((gf_Exp.f k a2).bind fun t164 => ((quietusref04_Exp.f k a2).bind fun t165 => (some (t164 == t165)))) else (some false)))) else (some false)) else (some false))) else (some false)) else (some false)) = some r := H
        have A33 := Aside0.mk A330
        clear A330
        by_cases c34 : t147 = t160
        · rw [if_pos c34] at H
          have c34b0 : (t147 == t160) = true := beq_iff_eq.mpr c34
          have c34b1 : (t147 != t160) = false := bne_eq_false_iff_eq.mpr c34
          clear c34
          by_cases c35 : t148 = 0
          · rw [if_pos c35] at H
            have c35b0 : (t148 == 0) = true := beq_iff_eq.mpr c35
            have c35b1 : (t148 != 0) = false := bne_eq_false_iff_eq.mpr c35
            clear c35
            replace H := Option.bind_eq_some_iff.mp H
            obtain ⟨t161, A360, H⟩ := H
            replace H : (if t149 = t161 then (if t150 = 0 then ((gf_Pow.f k a0 a2).bind fun t162 => ((quietusref04_Pow.f k a0 a2).bind fun t163 => (if t162 = t163 then ((gf_Exp.f k a2).bind fun t164 => ((quietusref04_Exp.f k a2).bind fun t165 => (some (t164 == t165)))) else (some false)))) else (some false)) else (some false)) = some r := H
            have A36 := Aside0.mk A360
            clear A360
            by_cases c37 : t149 = t161
            · rw [if_pos c37] at H
              have c37b0 : (t149 == t161) = true := beq_iff_eq.mpr c37
              have c37b1 : (t149 != t161) = false := bne_eq_false_iff_eq.mpr c37
              clear c37
              by_cases c38 : t150 = 0
              · rw [if_pos c38] at H
                have c38b0 : (t150 == 0) = true := beq_iff_eq.mpr c38
                have c38b1 : (t150 != 0) = false := bne_eq_false_iff_eq.mpr c38
                clear c38
                replace H := Option.bind_eq_some_iff.mp H
                obtain ⟨t162, A390, H⟩ := H
                replace H : ((quietusref04_Pow.f k a0 a2).bind fun t163 => (if t162 = t163 then ((gf_Exp.f k a2).bind fun t164 => ((quietusref04_Exp.f k a2).bind fun t165 => (some (t164 == t165)))) else (some false))) = some r := H
                have A39 := Aside0.mk A390
                clear A390
                replace H := Option.bind_eq_some_iff.mp H
                obtain ⟨t163, A400, H⟩ := H
                replace H : (if t162 = t163 then ((gf_Exp.f k a2).bind fun t164 => ((quietusref04_Exp.f k a2).bind fun t165 => (some (t164 == t165)))) else (some false)) = some r := H
                have A40 := Aside0.mk A400
                clear A400
                by_cases c41 : t162 = t163
                · rw [if_pos c41] at H
                  have c41b0 : (t162 == t163) = true := beq_iff_eq.mpr c41
                  have c41b1 : (t162 != t163) = false := bne_eq_false_iff_eq.mpr c41
                  clear c41
                  replace H := Option.bind_eq_some_iff.mp H
                  obtain ⟨t164, A420, H⟩ := H
                  replace H : ((quietusref04_Exp.f k a2).bind fun t165 => (some (t164 == t165))) = some r := H
                  have A42 := Aside0.mk A420
                  clear A420
                  replace H := Option.bind_eq_some_iff.mp H
                  obtain ⟨t165, A430, H⟩ := H
                  replace H : (some (t164 == t165)) = some r := H
                  have A43 := Aside0.mk A430
                  clear A430
                  obtain rfl := Option.some.inj H
                  go_enter Tryd.func3, Tryd.ntmps3
                  go_wp2_with (first | ((with_reducible refine gate_callee (f := 13) rfl ?_); refine goesL_ (some 13) rfl rfl Tryd.func13 (by kernel_rfl) rfl #[.int .u8 a0] rfl (by (try simp only [List.map_toArray, List.map_cons, List.map_nil]); first | done | rfl | (simp only [List.length_drop, List.length_take]; rfl)) ?_; (with_reducible refine (gf_Inv.calls k a0 t147 t148 _ ?sideG A4.out).mono ?_); (case sideG => repeat (first | exact (Kd.C_below HRG.out HB.out) | exact HRG.out | (with_reducible refine Kd.C_alloc ?_ _) | (with_reducible refine Kd.C_drewN ?_ _) | (with_reducible refine Kd.C_drew ?_))); rintro e w' ⟨rfl, ⟨nd, rfl⟩⟩; refine ⟨_, rfl, ?_⟩) | ((with_reducible refine gate_callee (f := 14) rfl ?_); refine goesL_ (some 18) rfl rfl Tryd.func14 (by kernel_rfl) rfl #[.int .u8 a0] rfl (by (try simp only [List.map_toArray, List.map_cons, List.map_nil]); first | done | rfl | (simp only [List.length_drop, List.length_take]; rfl)) ?_; (with_reducible refine (gf_Log.calls k a0 t149 t150 _ ?sideG A5.out).mono ?_); (case sideG => repeat (first | exact (Kd.C_below HRG.out HB.out) | exact HRG.out | (with_reducible refine Kd.C_alloc ?_ _) | (with_reducible refine Kd.C_drewN ?_ _) | (with_reducible refine Kd.C_drew ?_))); rintro e w' ⟨rfl, ⟨nd, rfl⟩⟩; refine ⟨_, rfl, ?_⟩) | ((with_reducible refine gate_callee (f := 15) rfl ?_); refine goesL_ (some 62) rfl rfl Tryd.func15 (by kernel_rfl) rfl #[] rfl (by (try simp only [List.map_toArray, List.map_cons, List.map_nil]); first | done | rfl | (simp only [List.length_drop, List.length_take]; rfl)) ?_; (with_reducible refine (quietuslaw04_sanity.calls k  true _ ?sideG A28.out).mono ?_); (case sideG => repeat (first | exact (Kd.C_below HRG.out HB.out) | exact HRG.out | (with_reducible refine Kd.C_alloc ?_ _) | (with_reducible refine Kd.C_drewN ?_ _) | (with_reducible refine Kd.C_drew ?_))); rintro e w44 ⟨rfl, hb⟩; refine ⟨_, rfl, ?_⟩; have n0_ := Aside0.mk (below_step (by repeat (first | (with_reducible first | exact HB.out | apply below_alloc | apply pw_below_drewN | apply below_drew1) | exact HB.out)) hb); clear HB; have HB := n0_; clear n0_; (try clear hb); (try clear hb2); (try clear hk); (try clear hi)) | (go_at_call 16; (with_reducible refine (gf_MulW.calls a0 a1 t158 _ ?sideG A30.out).mono ?_); (case sideG => repeat (first | exact (Kd.C_below HRG.out HB.out) | exact HRG.out | (with_reducible refine Kd.C_alloc ?_ _) | (with_reducible refine Kd.C_drewN ?_ _) | (with_reducible refine Kd.C_drew ?_))); rintro e w' ⟨rfl, ⟨nd, rfl⟩⟩) | (go_at_call 21; (with_reducible refine (quietusref04_Mul.calls k a0 a1 t159 _ A31.out).mono ?_); rintro e w' ⟨rfl, ⟨nd, rfl⟩⟩) | (go_at_call 22; (with_reducible refine (quietusref04_Inv.calls k a0 t160 _ A33.out).mono ?_); rintro e w' ⟨rfl, ⟨nd, rfl⟩⟩) | (go_at_call 23; (with_reducible refine (quietusref04_Log.calls k a0 t161 _ A36.out).mono ?_); rintro e w' ⟨rfl, ⟨nd, rfl⟩⟩) | (go_at_call 17; (with_reducible refine (gf_Pow.calls k a0 a2 t162 _ ?sideG A39.out).mono ?_); (case sideG => repeat (first | exact (Kd.C_below HRG.out HB.out) | exact HRG.out | (with_reducible refine Kd.C_alloc ?_ _) | (with_reducible refine Kd.C_drewN ?_ _) | (with_reducible refine Kd.C_drew ?_))); rintro e w' ⟨rfl, ⟨nd, rfl⟩⟩) | (go_at_call 18; (with_reducible refine (quietusref04_Pow.calls k a0 a2 t163 _ A40.out).mono ?_); rintro e w' ⟨rfl, ⟨nd, rfl⟩⟩) | (go_at_call 19; (with_reducible refine (gf_Exp.calls k a2 t164 _ ?sideG A42.out).mono ?_); (case sideG => repeat (first | exact (Kd.C_below HRG.out HB.out) | exact HRG.out | (with_reducible refine Kd.C_alloc ?_ _) | (with_reducible refine Kd.C_drewN ?_ _) | (with_reducible refine Kd.C_drew ?_))); rintro e w' ⟨rfl, ⟨nd, rfl⟩⟩) | (go_at_call 20; (with_reducible refine (quietusref04_Exp.calls k a2 t165 _ A43.out).mono ?_); rintro e w' ⟨rfl, ⟨nd, rfl⟩⟩))
                  go_ret
                  exact ⟨by first | rfl | (simp [errW_none, errW_some] <;> rfl) | (simp [*, errW_none, errW_some] <;> rfl), by repeat (first | (with_reducible first | exact HB.out | apply below_alloc | apply pw_below_drewN | apply below_drew1) | exact HB.out)⟩
                · rw [if_neg c41] at H
                  have c41b0 : (t162 == t163) = false := beq_eq_false_iff_ne.mpr c41
                  have c41b1 : (t162 != t163) = true := bne_iff_ne.mpr c41
                  obtain rfl := Option.some.inj H
                  go_enter Tryd.func3, Tryd.ntmps3
                  go_wp2_with (first | ((with_reducible refine gate_callee (f := 13) rfl ?_); refine goesL_ (some 13) rfl rfl Tryd.func13 (by kernel_rfl) rfl #[.int .u8 a0] rfl (by (try simp only [List.map_toArray, List.map_cons, List.map_nil]); first | done | rfl | (simp only [List.length_drop, List.length_take]; rfl)) ?_; (with_reducible refine (gf_Inv.calls k a0 t147 t148 _ ?sideG A4.out).mono ?_); (case sideG => repeat (first | exact (Kd.C_below HRG.out HB.out) | exact HRG.out | (with_reducible refine Kd.C_alloc ?_ _) | (with_reducible refine Kd.C_drewN ?_ _) | (with_reducible refine Kd.C_drew ?_))); rintro e w' ⟨rfl, ⟨nd, rfl⟩⟩; refine ⟨_, rfl, ?_⟩) | ((with_reducible refine gate_callee (f := 14) rfl ?_); refine goesL_ (some 18) rfl rfl Tryd.func14 (by kernel_rfl) rfl #[.int .u8 a0] rfl (by (try simp only [List.map_toArray, List.map_cons, List.map_nil]); first | done | rfl | (simp only [List.length_drop, List.length_take]; rfl)) ?_; (with_reducible refine (gf_Log.calls k a0 t149 t150 _ ?sideG A5.out).mono ?_); (case sideG => repeat (first | exact (Kd.C_below HRG.out HB.out) | exact HRG.out | (with_reducible refine Kd.C_alloc ?_ _) | (with_reducible refine Kd.C_drewN ?_ _) | (with_reducible refine Kd.C_drew ?_))); rintro e w' ⟨rfl, ⟨nd, rfl⟩⟩; refine ⟨_, rfl, ?_⟩) | ((with_reducible refine gate_callee (f := 15) rfl ?_); refine goesL_ (some 62) rfl rfl Tryd.func15 (by kernel_rfl) rfl #[] rfl (by (try simp only [List.map_toArray, List.map_cons, List.map_nil]); first | done | rfl | (simp only [List.length_drop, List.length_take]; rfl)) ?_; (with_reducible refine (quietuslaw04_sanity.calls k  true _ ?sideG A28.out).mono ?_); (case sideG => repeat (first | exact (Kd.C_below HRG.out HB.out) | exact HRG.out | (with_reducible refine Kd.C_alloc ?_ _) | (with_reducible refine Kd.C_drewN ?_ _) | (with_reducible refine Kd.C_drew ?_))); rintro e w45 ⟨rfl, hb⟩; refine ⟨_, rfl, ?_⟩; have n0_ := Aside0.mk (below_step (by repeat (first | (with_reducible first | exact HB.out | apply below_alloc | apply pw_below_drewN | apply below_drew1) | exact HB.out)) hb); clear HB; have HB := n0_; clear n0_; (try clear hb); (try clear hb2); (try clear hk); (try clear hi)) | (go_at_call 16; (with_reducible refine (gf_MulW.calls a0 a1 t158 _ ?sideG A30.out).mono ?_); (case sideG => repeat (first | exact (Kd.C_below HRG.out HB.out) | exact HRG.out | (with_reducible refine Kd.C_alloc ?_ _) | (with_reducible refine Kd.C_drewN ?_ _) | (with_reducible refine Kd.C_drew ?_))); rintro e w' ⟨rfl, ⟨nd, rfl⟩⟩) | (go_at_call 21; (with_reducible refine (quietusref04_Mul.calls k a0 a1 t159 _ A31.out).mono ?_); rintro e w' ⟨rfl, ⟨nd, rfl⟩⟩) | (go_at_call 22; (with_reducible refine (quietusref04_Inv.calls k a0 t160 _ A33.out).mono ?_); rintro e w' ⟨rfl, ⟨nd, rfl⟩⟩) | (go_at_call 23; (with_reducible refine (quietusref04_Log.calls k a0 t161 _ A36.out).mono ?_); rintro e w' ⟨rfl, ⟨nd, rfl⟩⟩) | (go_at_call 17; (with_reducible refine (gf_Pow.calls k a0 a2 t162 _ ?sideG A39.out).mono ?_); (case sideG => repeat (first | exact (Kd.C_below HRG.out HB.out) | exact HRG.out | (with_reducible refine Kd.C_alloc ?_ _) | (with_reducible refine Kd.C_drewN ?_ _) | (with_reducible refine Kd.C_drew ?_))); rintro e w' ⟨rfl, ⟨nd, rfl⟩⟩) | (go_at_call 18; (with_reducible refine (quietusref04_Pow.calls k a0 a2 t163 _ A40.out).mono ?_); rintro e w' ⟨rfl, ⟨nd, rfl⟩⟩))
                  go_ret
                  exact ⟨by first | rfl | (simp [errW_none, errW_some] <;> rfl) | (simp [*, errW_none, errW_some] <;> rfl), by repeat (first | (with_reducible first | exact HB.out | apply below_alloc | apply pw_below_drewN | apply below_drew1) | exact HB.out)⟩
              · rw [if_neg c38] at H
                have c38b0 : (t150 == 0) = false := beq_eq_false_iff_ne.mpr c38
                have c38b1 : (t150 != 0) = true := bne_iff_ne.mpr c38
                obtain rfl := Option.some.inj H
                go_enter Tryd.func3, Tryd.ntmps3
                go_wp2_with (first | ((with_reducible refine gate_callee (f := 13) rfl ?_); refine goesL_ (some 13) rfl rfl Tryd.func13 (by kernel_rfl) rfl #[.int .u8 a0] rfl (by (try simp only [List.map_toArray, List.map_cons, List.map_nil]); first | done | rfl | (simp only [List.length_drop, List.length_take]; rfl)) ?_; (with_reducible refine (gf_Inv.calls k a0 t147 t148 _ ?sideG A4.out).mono ?_); (case sideG => repeat (first | exact (Kd.C_below HRG.out HB.out) | exact HRG.out | (with_reducible refine Kd.C_alloc ?_ _) | (with_reducible refine Kd.C_drewN ?_ _) | (with_reducible refine Kd.C_drew ?_))); rintro e w' ⟨rfl, ⟨nd, rfl⟩⟩; refine ⟨_, rfl, ?_⟩) | ((with_reducible refine gate_callee (f := 14) rfl ?_); refine goesL_ (some 18) rfl rfl Tryd.func14 (by kernel_rfl) rfl #[.int .u8 a0] rfl (by (try simp only [List.map_toArray, List.map_cons, List.map_nil]); first | done | rfl | (simp only [List.length_drop, List.length_take]; rfl)) ?_; (with_reducible refine (gf_Log.calls k a0 t149 t150 _ ?sideG A5.out).mono ?_); (case sideG => repeat (first | exact (Kd.C_below HRG.out HB.out) | exact HRG.out | (with_reducible refine Kd.C_alloc ?_ _) | (with_reducible refine Kd.C_drewN ?_ _) | (with_reducible refine Kd.C_drew ?_))); rintro e w' ⟨rfl, ⟨nd, rfl⟩⟩; refine ⟨_, rfl, ?_⟩) | ((with_reducible refine gate_callee (f := 15) rfl ?_); refine goesL_ (some 62) rfl rfl Tryd.func15 (by kernel_rfl) rfl #[] rfl (by (try simp only [List.map_toArray, List.map_cons, List.map_nil]); first | done | rfl | (simp only [List.length_drop, List.length_take]; rfl)) ?_; (with_reducible refine (quietuslaw04_sanity.calls k  true _ ?sideG A28.out).mono ?_); (case sideG => repeat (first | exact (Kd.C_below HRG.out HB.out) | exact HRG.out | (with_reducible refine Kd.C_alloc ?_ _) | (with_reducible refine Kd.C_drewN ?_ _) | (with_reducible refine Kd.C_drew ?_))); rintro e w46 ⟨rfl, hb⟩; refine ⟨_, rfl, ?_⟩; have n0_ := Aside0.mk (below_step (by repeat (first | (with_reducible first | exact HB.out | apply below_alloc | apply pw_below_drewN | apply below_drew1) | exact HB.out)) hb); clear HB; have HB := n0_; clear n0_; (try clear hb); (try clear hb2); (try clear hk); (try clear hi)) | (go_at_call 16; (with_reducible refine (gf_MulW.calls a0 a1 t158 _ ?sideG A30.out).mono ?_); (case sideG => repeat (first | exact (Kd.C_below HRG.out HB.out) | exact HRG.out | (with_reducible refine Kd.C_alloc ?_ _) | (with_reducible refine Kd.C_drewN ?_ _) | (with_reducible refine Kd.C_drew ?_))); rintro e w' ⟨rfl, ⟨nd, rfl⟩⟩) | (go_at_call 21; (with_reducible refine (quietusref04_Mul.calls k a0 a1 t159 _ A31.out).mono ?_); rintro e w' ⟨rfl, ⟨nd, rfl⟩⟩) | (go_at_call 22; (with_reducible refine (quietusref04_Inv.calls k a0 t160 _ A33.out).mono ?_); rintro e w' ⟨rfl, ⟨nd, rfl⟩⟩) | (go_at_call 23; (with_reducible refine (quietusref04_Log.calls k a0 t161 _ A36.out).mono ?_); rintro e w' ⟨rfl, ⟨nd, rfl⟩⟩))
                go_ret
                exact ⟨by first | rfl | (simp [errW_none, errW_some] <;> rfl) | (simp [*, errW_none, errW_some] <;> rfl), by repeat (first | (with_reducible first | exact HB.out | apply below_alloc | apply pw_below_drewN | apply below_drew1) | exact HB.out)⟩
            · rw [if_neg c37] at H
              have c37b0 : (t149 == t161) = false := beq_eq_false_iff_ne.mpr c37
              have c37b1 : (t149 != t161) = true := bne_iff_ne.mpr c37
              obtain rfl := Option.some.inj H
              go_enter Tryd.func3, Tryd.ntmps3
              go_wp2_with (first | ((with_reducible refine gate_callee (f := 13) rfl ?_); refine goesL_ (some 13) rfl rfl Tryd.func13 (by kernel_rfl) rfl #[.int .u8 a0] rfl (by (try simp only [List.map_toArray, List.map_cons, List.map_nil]); first | done | rfl | (simp only [List.length_drop, List.length_take]; rfl)) ?_; (with_reducible refine (gf_Inv.calls k a0 t147 t148 _ ?sideG A4.out).mono ?_); (case sideG => repeat (first | exact (Kd.C_below HRG.out HB.out) | exact HRG.out | (with_reducible refine Kd.C_alloc ?_ _) | (with_reducible refine Kd.C_drewN ?_ _) | (with_reducible refine Kd.C_drew ?_))); rintro e w' ⟨rfl, ⟨nd, rfl⟩⟩; refine ⟨_, rfl, ?_⟩) | ((with_reducible refine gate_callee (f := 14) rfl ?_); refine goesL_ (some 18) rfl rfl Tryd.func14 (by kernel_rfl) rfl #[.int .u8 a0] rfl (by (try simp only [List.map_toArray, List.map_cons, List.map_nil]); first | done | rfl | (simp only [List.length_drop, List.length_take]; rfl)) ?_; (with_reducible refine (gf_Log.calls k a0 t149 t150 _ ?sideG A5.out).mono ?_); (case sideG => repeat (first | exact (Kd.C_below HRG.out HB.out) | exact HRG.out | (with_reducible refine Kd.C_alloc ?_ _) | (with_reducible refine Kd.C_drewN ?_ _) | (with_reducible refine Kd.C_drew ?_))); rintro e w' ⟨rfl, ⟨nd, rfl⟩⟩; refine ⟨_, rfl, ?_⟩) | ((with_reducible refine gate_callee (f := 15) rfl ?_); refine goesL_ (some 62) rfl rfl Tryd.func15 (by kernel_rfl) rfl #[] rfl (by (try simp only [List.map_toArray, List.map_cons, List.map_nil]); first | done | rfl | (simp only [List.length_drop, List.length_take]; rfl)) ?_; (with_reducible refine (quietuslaw04_sanity.calls k  true _ ?sideG A28.out).mono ?_); (case sideG => repeat (first | exact (Kd.C_below HRG.out HB.out) | exact HRG.out | (with_reducible refine Kd.C_alloc ?_ _) | (with_reducible refine Kd.C_drewN ?_ _) | (with_reducible refine Kd.C_drew ?_))); rintro e w47 ⟨rfl, hb⟩; refine ⟨_, rfl, ?_⟩; have n0_ := Aside0.mk (below_step (by repeat (first | (with_reducible first | exact HB.out | apply below_alloc | apply pw_below_drewN | apply below_drew1) | exact HB.out)) hb); clear HB; have HB := n0_; clear n0_; (try clear hb); (try clear hb2); (try clear hk); (try clear hi)) | (go_at_call 16; (with_reducible refine (gf_MulW.calls a0 a1 t158 _ ?sideG A30.out).mono ?_); (case sideG => repeat (first | exact (Kd.C_below HRG.out HB.out) | exact HRG.out | (with_reducible refine Kd.C_alloc ?_ _) | (with_reducible refine Kd.C_drewN ?_ _) | (with_reducible refine Kd.C_drew ?_))); rintro e w' ⟨rfl, ⟨nd, rfl⟩⟩) | (go_at_call 21; (with_reducible refine (quietusref04_Mul.calls k a0 a1 t159 _ A31.out).mono ?_); rintro e w' ⟨rfl, ⟨nd, rfl⟩⟩) | (go_at_call 22; (with_reducible refine (quietusref04_Inv.calls k a0 t160 _ A33.out).mono ?_); rintro e w' ⟨rfl, ⟨nd, rfl⟩⟩) | (go_at_call 23; (with_reducible refine (quietusref04_Log.calls k a0 t161 _ A36.out).mono ?_); rintro e w' ⟨rfl, ⟨nd, rfl⟩⟩))
              go_ret
              exact ⟨by first | rfl | (simp [errW_none, errW_some] <;> rfl) | (simp [*, errW_none, errW_some] <;> rfl), by repeat (first | (with_reducible first | exact HB.out | apply below_alloc | apply pw_below_drewN | apply below_drew1) | exact HB.out)⟩
          · rw [if_neg c35] at H
            have c35b0 : (t148 == 0) = false := beq_eq_false_iff_ne.mpr c35
            have c35b1 : (t148 != 0) = true := bne_iff_ne.mpr c35
            obtain rfl := Option.some.inj H
            go_enter Tryd.func3, Tryd.ntmps3
            go_wp2_with (first | ((with_reducible refine gate_callee (f := 13) rfl ?_); refine goesL_ (some 13) rfl rfl Tryd.func13 (by kernel_rfl) rfl #[.int .u8 a0] rfl (by (try simp only [List.map_toArray, List.map_cons, List.map_nil]); first | done | rfl | (simp only [List.length_drop, List.length_take]; rfl)) ?_; (with_reducible refine (gf_Inv.calls k a0 t147 t148 _ ?sideG A4.out).mono ?_); (case sideG => repeat (first | exact (Kd.C_below HRG.out HB.out) | exact HRG.out | (with_reducible refine Kd.C_alloc ?_ _) | (with_reducible refine Kd.C_drewN ?_ _) | (with_reducible refine Kd.C_drew ?_))); rintro e w' ⟨rfl, ⟨nd, rfl⟩⟩; refine ⟨_, rfl, ?_⟩) | ((with_reducible refine gate_callee (f := 14) rfl ?_); refine goesL_ (some 18) rfl rfl Tryd.func14 (by kernel_rfl) rfl #[.int .u8 a0] rfl (by (try simp only [List.map_toArray, List.map_cons, List.map_nil]); first | done | rfl | (simp only [List.length_drop, List.length_take]; rfl)) ?_; (with_reducible refine (gf_Log.calls k a0 t149 t150 _ ?sideG A5.out).mono ?_); (case sideG => repeat (first | exact (Kd.C_below HRG.out HB.out) | exact HRG.out | (with_reducible refine Kd.C_alloc ?_ _) | (with_reducible refine Kd.C_drewN ?_ _) | (with_reducible refine Kd.C_drew ?_))); rintro e w' ⟨rfl, ⟨nd, rfl⟩⟩; refine ⟨_, rfl, ?_⟩) | ((with_reducible refine gate_callee (f := 15) rfl ?_); refine goesL_ (some 62) rfl rfl Tryd.func15 (by kernel_rfl) rfl #[] rfl (by (try simp only [List.map_toArray, List.map_cons, List.map_nil]); first | done | rfl | (simp only [List.length_drop, List.length_take]; rfl)) ?_; (with_reducible refine (quietuslaw04_sanity.calls k  true _ ?sideG A28.out).mono ?_); (case sideG => repeat (first | exact (Kd.C_below HRG.out HB.out) | exact HRG.out | (with_reducible refine Kd.C_alloc ?_ _) | (with_reducible refine Kd.C_drewN ?_ _) | (with_reducible refine Kd.C_drew ?_))); rintro e w48 ⟨rfl, hb⟩; refine ⟨_, rfl, ?_⟩; have n0_ := Aside0.mk (below_step (by repeat (first | (with_reducible first | exact HB.out | apply below_alloc | apply pw_below_drewN | apply below_drew1) | exact HB.out)) hb); clear HB; have HB := n0_; clear n0_; (try clear hb); (try clear hb2); (try clear hk); (try clear hi)) | (go_at_call 16; (with_reducible refine (gf_MulW.calls a0 a1 t158 _ ?sideG A30.out).mono ?_); (case sideG => repeat (first | exact (Kd.C_below HRG.out HB.out) | exact HRG.out | (with_reducible refine Kd.C_alloc ?_ _) | (with_reducible refine Kd.C_drewN ?_ _) | (with_reducible refine Kd.C_drew ?_))); rintro e w' ⟨rfl, ⟨nd, rfl⟩⟩) | (go_at_call 21; (with_reducible refine (quietusref04_Mul.calls k a0 a1 t159 _ A31.out).mono ?_); rintro e w' ⟨rfl, ⟨nd, rfl⟩⟩) | (go_at_call 22; (with_reducible refine (quietusref04_Inv.calls k a0 t160 _ A33.out).mono ?_); rintro e w' ⟨rfl, ⟨nd, rfl⟩⟩))
            go_ret
            exact ⟨by first | rfl | (simp [errW_none, errW_some] <;> rfl) | (simp [*, errW_none, errW_some] <;> rfl), by repeat (first | (with_reducible first | exact HB.out | apply below_alloc | apply pw_below_drewN | apply below_drew1) | exact HB.out)⟩
        · rw [if_neg c34] at H
          have c34b0 : (t147 == t160) = false := beq_eq_false_iff_ne.mpr c34
          have c34b1 : (t147 != t160) = true := bne_iff_ne.mpr c34
          obtain rfl := Option.some.inj H
          go_enter Tryd.func3, Tryd.ntmps3
          go_wp2_with (first | ((with_reducible refine gate_callee (f := 13) rfl ?_); refine goesL_ (some 13) rfl rfl Tryd.func13 (by kernel_rfl) rfl #[.int .u8 a0] rfl (by (try simp only [List.map_toArray, List.map_cons, List.map_nil]); first | done | rfl | (simp only [List.length_drop, List.length_take]; rfl)) ?_; (with_reducible refine (gf_Inv.calls k a0 t147 t148 _ ?sideG A4.out).mono ?_); (case sideG => repeat (first | exact (Kd.C_below HRG.out HB.out) | exact HRG.out | (with_reducible refine Kd.C_alloc ?_ _) | (with_reducible refine Kd.C_drewN ?_ _) | (with_reducible refine Kd.C_drew ?_))); rintro e w' ⟨rfl, ⟨nd, rfl⟩⟩; refine ⟨_, rfl, ?_⟩) | ((with_reducible refine gate_callee (f := 14) rfl ?_); refine goesL_ (some 18) rfl rfl Tryd.func14 (by kernel_rfl) rfl #[.int .u8 a0] rfl (by (try simp only [List.map_toArray, List.map_cons, List.map_nil]); first | done | rfl | (simp only [List.length_drop, List.length_take]; rfl)) ?_; (with_reducible refine (gf_Log.calls k a0 t149 t150 _ ?sideG A5.out).mono ?_); (case sideG => repeat (first | exact (Kd.C_below HRG.out HB.out) | exact HRG.out | (with_reducible refine Kd.C_alloc ?_ _) | (with_reducible refine Kd.C_drewN ?_ _) | (with_reducible refine Kd.C_drew ?_))); rintro e w' ⟨rfl, ⟨nd, rfl⟩⟩; refine ⟨_, rfl, ?_⟩) | ((with_reducible refine gate_callee (f := 15) rfl ?_); refine goesL_ (some 62) rfl rfl Tryd.func15 (by kernel_rfl) rfl #[] rfl (by (try simp only [List.map_toArray, List.map_cons, List.map_nil]); first | done | rfl | (simp only [List.length_drop, List.length_take]; rfl)) ?_; (with_reducible refine (quietuslaw04_sanity.calls k  true _ ?sideG A28.out).mono ?_); (case sideG => repeat (first | exact (Kd.C_below HRG.out HB.out) | exact HRG.out | (with_reducible refine Kd.C_alloc ?_ _) | (with_reducible refine Kd.C_drewN ?_ _) | (with_reducible refine Kd.C_drew ?_))); rintro e w49 ⟨rfl, hb⟩; refine ⟨_, rfl, ?_⟩; have n0_ := Aside0.mk (below_step (by repeat (first | (with_reducible first | exact HB.out | apply below_alloc | apply pw_below_drewN | apply below_drew1) | exact HB.out)) hb); clear HB; have HB := n0_; clear n0_; (try clear hb); (try clear hb2); (try clear hk); (try clear hi)) | (go_at_call 16; (with_reducible refine (gf_MulW.calls a0 a1 t158 _ ?sideG A30.out).mono ?_); (case sideG => repeat (first | exact (Kd.C_below HRG.out HB.out) | exact HRG.out | (with_reducible refine Kd.C_alloc ?_ _) | (with_reducible refine Kd.C_drewN ?_ _) | (with_reducible refine Kd.C_drew ?_))); rintro e w' ⟨rfl, ⟨nd, rfl⟩⟩) | (go_at_call 21; (with_reducible refine (quietusref04_Mul.calls k a0 a1 t159 _ A31.out).mono ?_); rintro e w' ⟨rfl, ⟨nd, rfl⟩⟩) | (go_at_call 22; (with_reducible refine (quietusref04_Inv.calls k a0 t160 _ A33.out).mono ?_); rintro e w' ⟨rfl, ⟨nd, rfl⟩⟩))
          go_ret
          exact ⟨by first | rfl | (simp [errW_none, errW_some] <;> rfl) | (simp [*, errW_none, errW_some] <;> rfl), by repeat (first | (with_reducible first | exact HB.out | apply below_alloc | apply pw_below_drewN | apply below_drew1) | exact HB.out)⟩
      · rw [if_neg c32] at H
        have c32b0 : (t158 == t159) = false := beq_eq_false_iff_ne.mpr c32
        have c32b1 : (t158 != t159) = true := bne_iff_ne.mpr c32
        obtain rfl := Option.some.inj H
        go_enter Tryd.func3, Tryd.ntmps3
        go_wp2_with (first | ((with_reducible refine gate_callee (f := 13) rfl ?_); refine goesL_ (some 13) rfl rfl Tryd.func13 (by kernel_rfl) rfl #[.int .u8 a0] rfl (by (try simp only [List.map_toArray, List.map_cons, List.map_nil]); first | done | rfl | (simp only [List.length_drop, List.length_take]; rfl)) ?_; (with_reducible refine (gf_Inv.calls k a0 t147 t148 _ ?sideG A4.out).mono ?_); (case sideG => repeat (first | exact (Kd.C_below HRG.out HB.out) | exact HRG.out | (with_reducible refine Kd.C_alloc ?_ _) | (with_reducible refine Kd.C_drewN ?_ _) | (with_reducible refine Kd.C_drew ?_))); rintro e w' ⟨rfl, ⟨nd, rfl⟩⟩; refine ⟨_, rfl, ?_⟩) | ((with_reducible refine gate_callee (f := 14) rfl ?_); refine goesL_ (some 18) rfl rfl Tryd.func14 (by kernel_rfl) rfl #[.int .u8 a0] rfl (by (try simp only [List.map_toArray, List.map_cons, List.map_nil]); first | done | rfl | (simp only [List.length_drop, List.length_take]; rfl)) ?_; (with_reducible refine (gf_Log.calls k a0 t149 t150 _ ?sideG A5.out).mono ?_); (case sideG => repeat (first | exact (Kd.C_below HRG.out HB.out) | exact HRG.out | (with_reducible refine Kd.C_alloc ?_ _) | (with_reducible refine Kd.C_drewN ?_ _) | (with_reducible refine Kd.C_drew ?_))); rintro e w' ⟨rfl, ⟨nd, rfl⟩⟩; refine ⟨_, rfl, ?_⟩) | ((with_reducible refine gate_callee (f := 15) rfl ?_); refine goesL_ (some 62) rfl rfl Tryd.func15 (by kernel_rfl) rfl #[] rfl (by (try simp only [List.map_toArray, List.map_cons, List.map_nil]); first | done | rfl | (simp only [List.length_drop, List.length_take]; rfl)) ?_; (with_reducible refine (quietuslaw04_sanity.calls k  true _ ?sideG A28.out).mono ?_); (case sideG => repeat (first | exact (Kd.C_below HRG.out HB.out) | exact HRG.out | (with_reducible refine Kd.C_alloc ?_ _) | (with_reducible refine Kd.C_drewN ?_ _) | (with_reducible refine Kd.C_drew ?_))); rintro e w50 ⟨rfl, hb⟩; refine ⟨_, rfl, ?_⟩; have n0_ := Aside0.mk (below_step (by repeat (first | (with_reducible first | exact HB.out | apply below_alloc | apply pw_below_drewN | apply below_drew1) | exact HB.out)) hb); clear HB; have HB := n0_; clear n0_; (try clear hb); (try clear hb2); (try clear hk); (try clear hi)) | (go_at_call 16; (with_reducible refine (gf_MulW.calls a0 a1 t158 _ ?sideG A30.out).mono ?_); (case sideG => repeat (first | exact (Kd.C_below HRG.out HB.out) | exact HRG.out | (with_reducible refine Kd.C_alloc ?_ _) | (with_reducible refine Kd.C_drewN ?_ _) | (with_reducible refine Kd.C_drew ?_))); rintro e w' ⟨rfl, ⟨nd, rfl⟩⟩) | (go_at_call 21; (with_reducible refine (quietusref04_Mul.calls k a0 a1 t159 _ A31.out).mono ?_); rintro e w' ⟨rfl, ⟨nd, rfl⟩⟩))
        go_ret
        exact ⟨by first | rfl | (simp [errW_none, errW_some] <;> rfl) | (simp [*, errW_none, errW_some] <;> rfl), by repeat (first | (with_reducible first | exact HB.out | apply below_alloc | apply pw_below_drewN | apply below_drew1) | exact HB.out)⟩
    · replace c29 := Bool.eq_false_iff.mpr c29
      subst c29
      have H1 : (some false) = some r := by rw [if_neg (show ¬ (false = true) by decide)] at H; exact H
      clear H
      have H := H1
      clear H1
      obtain rfl := Option.some.inj H
      go_enter Tryd.func3, Tryd.ntmps3
      go_wp2_with (first | ((with_reducible refine gate_callee (f := 13) rfl ?_); refine goesL_ (some 13) rfl rfl Tryd.func13 (by kernel_rfl) rfl #[.int .u8 a0] rfl (by (try simp only [List.map_toArray, List.map_cons, List.map_nil]); first | done | rfl | (simp only [List.length_drop, List.length_take]; rfl)) ?_; (with_reducible refine (gf_Inv.calls k a0 t147 t148 _ ?sideG A4.out).mono ?_); (case sideG => repeat (first | exact (Kd.C_below HRG.out HB.out) | exact HRG.out | (with_reducible refine Kd.C_alloc ?_ _) | (with_reducible refine Kd.C_drewN ?_ _) | (with_reducible refine Kd.C_drew ?_))); rintro e w' ⟨rfl, ⟨nd, rfl⟩⟩; refine ⟨_, rfl, ?_⟩) | ((with_reducible refine gate_callee (f := 14) rfl ?_); refine goesL_ (some 18) rfl rfl Tryd.func14 (by kernel_rfl) rfl #[.int .u8 a0] rfl (by (try simp only [List.map_toArray, List.map_cons, List.map_nil]); first | done | rfl | (simp only [List.length_drop, List.length_take]; rfl)) ?_; (with_reducible refine (gf_Log.calls k a0 t149 t150 _ ?sideG A5.out).mono ?_); (case sideG => repeat (first | exact (Kd.C_below HRG.out HB.out) | exact HRG.out | (with_reducible refine Kd.C_alloc ?_ _) | (with_reducible refine Kd.C_drewN ?_ _) | (with_reducible refine Kd.C_drew ?_))); rintro e w' ⟨rfl, ⟨nd, rfl⟩⟩; refine ⟨_, rfl, ?_⟩) | ((with_reducible refine gate_callee (f := 15) rfl ?_); refine goesL_ (some 62) rfl rfl Tryd.func15 (by kernel_rfl) rfl #[] rfl (by (try simp only [List.map_toArray, List.map_cons, List.map_nil]); first | done | rfl | (simp only [List.length_drop, List.length_take]; rfl)) ?_; (with_reducible refine (quietuslaw04_sanity.calls k  false _ ?sideG A28.out).mono ?_); (case sideG => repeat (first | exact (Kd.C_below HRG.out HB.out) | exact HRG.out | (with_reducible refine Kd.C_alloc ?_ _) | (with_reducible refine Kd.C_drewN ?_ _) | (with_reducible refine Kd.C_drew ?_))); rintro e w51 ⟨rfl, hb⟩; refine ⟨_, rfl, ?_⟩; have n0_ := Aside0.mk (below_step (by repeat (first | (with_reducible first | exact HB.out | apply below_alloc | apply pw_below_drewN | apply below_drew1) | exact HB.out)) hb); clear HB; have HB := n0_; clear n0_; (try clear hb); (try clear hb2); (try clear hk); (try clear hi)))
      go_ret
      exact ⟨by first | rfl | (simp [errW_none, errW_some] <;> rfl) | (simp [*, errW_none, errW_some] <;> rfl), by repeat (first | (with_reducible first | exact HB.out | apply below_alloc | apply pw_below_drewN | apply below_drew1) | exact HB.out)⟩

end Go.Proofs.YtgfnllaajaoljaaDoor.QA
