-- What this claim does not use was left out by prune.py, a program of this session.
import Derived.Test.YtgfnllaajaoljaaDoorQA2
import Derived.Test.YtgfnllaajaoljaaDoorQA2
import Derived.Test.YtgfnllaajaoljaaDoorQA3
import Derived.Test.YtgfnllaajaoljaaDoorQA4
import Derived.Test.YtgfnllaajaoljaaDoorQA4
import Derived.Test.YtgfnllaajaoljaaDoorQA4
import Derived.Test.YtgfnllaajaoljaaDoorQA4
import Derived.Test.YtgfnllaajaoljaaDoorQA3
import Derived.Test.YtgfnllaajaoljaaDoorQA2
import Derived.Test.YtgfnllaajaoljaaDoorQA2
namespace Go.Proofs.YtgfnllaajaoljaaDoor.QA
open Go.RowKit Go.Proofs.YtgfnllaajaoljaaDoorW.PrintWords Go.Proofs.YtgfnllaajaoljaaDoorW.PrintLast Go.Proofs.YtgfnllaajaoljaaDoorW.PrintMore
attribute [local go_sem] max2_int min2_int max_two min_two max_three min_three max_four min_four
set_option linter.unusedVariables false
set_option linter.unusedSimpArgs false
theorem Ev.pos_ {α : Type} {c : Prop} [Decidable c] {A B : Nat → Option α} {r : α} (h : c) (k : Ev A r) : Ev (fun n => if c then A n else B n) r := by simpa only [if_pos h] using k
theorem Ev.neg_ {α : Type} {c : Prop} [Decidable c] {A B : Nat → Option α} {r : α} (h : ¬ c) (k : Ev B r) : Ev (fun n => if c then A n else B n) r := by simpa only [if_neg h] using k
theorem Ev.const_ {α : Type} {o : Option α} {r : α} (h : o = some r) : Ev (fun _ => o) r := ⟨0, fun _ _ => h⟩
theorem Ev.known_ {α β : Type} {o : Option α} {f : Nat → α → Option β} {a : α} {r : β} (h : o = some a) (k : Ev (fun n => f n a) r) : Ev (fun n => o.bind (f n)) r := Ev.bind (Ev.const_ h) k
theorem w64 {n : Int} (h0 : -9223372036854775808 ≤ n) (h1 : n < 9223372036854775808) : wrap64 n = n := by unfold wrap64; omega
def xtime (a : Nat) : Nat := if 255 < 2 * a then (2 * a) ^^^ 285 else 2 * a
theorem odd_testBit (x k : Nat) : (x / 2 ^ k % 2 = 1) ↔ x.testBit k = true := by
  rw [Nat.testBit_eq_decide_div_mod_eq]; simp
theorem sel_xor (x y k a : Nat) : (if (x ^^^ y) / 2 ^ k % 2 = 1 then a else 0) = (if x / 2 ^ k % 2 = 1 then a else 0) ^^^ (if y / 2 ^ k % 2 = 1 then a else 0) := by
  simp only [odd_testBit, Nat.testBit_xor]
  cases x.testBit k <;> cases y.testBit k <;> simp
theorem div_xor (x y k : Nat) : (x ^^^ y) / 2 ^ k = x / 2 ^ k ^^^ y / 2 ^ k := by
  simp only [← Nat.shiftRight_eq_div_pow, Nat.shiftRight_xor_distrib]
theorem mul_xor (x y k : Nat) : (x ^^^ y) * 2 ^ k = x * 2 ^ k ^^^ y * 2 ^ k := by
  simp only [← Nat.shiftLeft_eq, Nat.shiftLeft_xor_distrib]
theorem mod_xor (x y k : Nat) : (x ^^^ y) % 2 ^ k = x % 2 ^ k ^^^ y % 2 ^ k := by
  exact Nat.xor_mod_two_pow
theorem redN_xor (x y : Nat) : redN (x ^^^ y) = redN x ^^^ redN y := by
  unfold redN
  have h0 := mod_xor x y 8
  have h1 := sel_xor x y 8 29
  have h2 := sel_xor x y 9 58
  have h3 := sel_xor x y 10 116
  have h4 := sel_xor x y 11 232
  simp only [show (2 : Nat) ^ 8 = 256 from rfl, show (2 : Nat) ^ 9 = 512 from rfl, show (2 : Nat) ^ 10 = 1024 from rfl, show (2 : Nat) ^ 11 = 2048 from rfl] at h0 h1 h2 h3 h4
  rw [h0, h1, h2, h3, h4]
  ac_rfl
theorem timesN_xor (a n m : Nat) : timesN a (n ^^^ m) = timesN a n ^^^ timesN a m := by
  unfold timesN
  have h1 := sel_xor n m 0 a
  have h2 := sel_xor n m 1 (a * 2)
  have h3 := sel_xor n m 2 (a * 4)
  have h4 := sel_xor n m 3 (a * 8)
  simp only [show (2 : Nat) ^ 0 = 1 from rfl, show (2 : Nat) ^ 1 = 2 from rfl, show (2 : Nat) ^ 2 = 4 from rfl, show (2 : Nat) ^ 3 = 8 from rfl, Nat.div_one] at h1 h2 h3 h4
  rw [h1, h2, h3, h4, ← redN_xor]
  congr 1
  ac_rfl
theorem sel_add (c : Prop) [Decidable c] (a b : Nat) : (if c then a ^^^ b else 0) = (if c then a else 0) ^^^ (if c then b else 0) := by split <;> simp
theorem timesN_xor_left (a b n : Nat) : timesN (a ^^^ b) n = timesN a n ^^^ timesN b n := by
  unfold timesN
  have h1 := mul_xor a b 1
  have h2 := mul_xor a b 2
  have h3 := mul_xor a b 3
  simp only [show (2 : Nat) ^ 1 = 2 from rfl, show (2 : Nat) ^ 2 = 4 from rfl, show (2 : Nat) ^ 3 = 8 from rfl] at h1 h2 h3
  rw [h1, h2, h3, ← redN_xor]
  simp only [sel_add]
  congr 1
  ac_rfl
theorem gmul_xor (a b c : Nat) : gmul a (b ^^^ c) = gmul a b ^^^ gmul a c := by
  unfold gmul
  have h1 := div_xor b c 4
  have h2 := mod_xor b c 4
  have h3 := mul_xor (timesN a (b / 16)) (timesN a (c / 16)) 4
  simp only [show (2 : Nat) ^ 4 = 16 from rfl] at h1 h2 h3
  rw [h1, h2, timesN_xor, timesN_xor, h3, redN_xor]
  ac_rfl
theorem gmul_xor_left (a b c : Nat) : gmul (a ^^^ b) c = gmul a c ^^^ gmul b c := by
  unfold gmul
  have h3 := mul_xor (timesN a (c / 16)) (timesN b (c / 16)) 4
  simp only [show (2 : Nat) ^ 4 = 16 from rfl] at h3
  rw [timesN_xor_left, timesN_xor_left, h3, redN_xor]
  ac_rfl
theorem xtime_xor (a b : Nat) (ha : a < 256) (hb : b < 256) : xtime (a ^^^ b) = xtime a ^^^ xtime b := by
  have e : ∀ x : Nat, x < 256 → xtime x = (x * 2) ^^^ (if x / 2 ^ 7 % 2 = 1 then 285 else 0) := by
    intro x hx
    unfold xtime
    by_cases h : 255 < 2 * x
    · rw [if_pos h, if_pos (by omega), Nat.mul_comm]
    · rw [if_neg h, if_neg (by omega), Nat.xor_zero, Nat.mul_comm]
  rw [e _ ha, e _ hb, e _ (Nat.xor_lt_two_pow (n := 8) ha hb), sel_xor]
  have h1 := mul_xor a b 1
  simp only [show (2 : Nat) ^ 1 = 2 from rfl] at h1
  rw [h1]
  ac_rfl
theorem lin_ext (f g : Nat → Nat) (hf : ∀ x y, x < 256 → y < 256 → f (x ^^^ y) = f x ^^^ f y) (hg : ∀ x y, x < 256 → y < 256 → g (x ^^^ y) = g x ^^^ g y)
    (hb : ∀ i, i < 8 → f (2 ^ i) = g (2 ^ i)) : ∀ x, x < 256 → f x = g x := by
  have h0 : f 0 = g 0 := by
    have a := hf 0 0 (by omega) (by omega)
    have b := hg 0 0 (by omega) (by omega)
    simp at a b
    rw [a, b]
  have step : ∀ n, n ≤ 8 → ∀ x, x < 2 ^ n → f x = g x := by
    intro n
    induction n with
    | zero => intro _ x hx; obtain rfl : x = 0 := by simpa using hx
              exact h0
    | succ n ih =>
      intro hn x hx
      have hp : (2 : Nat) ^ n ≤ 128 := by
        have : (2 : Nat) ^ n ≤ 2 ^ 7 := Nat.pow_le_pow_right (by omega) (by omega)
        simpa using this
      rcases Nat.lt_or_ge x (2 ^ n) with h | h
      · exact ih (by omega) x h
      · have hlt : x - 2 ^ n < 2 ^ n := by rw [Nat.pow_succ] at hx; omega
        have hx2 : x = 2 ^ n ^^^ (x - 2 ^ n) := by
          have := Nat.two_pow_add_eq_or_of_lt hlt 1
          rw [Nat.mul_one] at this
          have h2 : 2 ^ n ||| (x - 2 ^ n) = x := by rw [← this]; omega
          have h3 : 2 ^ n &&& (x - 2 ^ n) = 0 := by
            apply Nat.eq_of_testBit_eq
            intro i
            rw [Nat.testBit_and, Nat.testBit_two_pow, Nat.zero_testBit]
            by_cases hi : n = i
            · subst hi
              rw [Nat.testBit_lt_two_pow hlt]; simp
            · simp [hi]
          rw [← h2]
          apply Nat.eq_of_testBit_eq
          intro i
          have := congrArg (fun z => z.testBit i) h3
          simp only [Nat.testBit_and, Nat.zero_testBit] at this
          rw [Nat.testBit_or, Nat.testBit_xor, h2]
          have h4 : x.testBit i = ((2 ^ n).testBit i || (x - 2 ^ n).testBit i) := by rw [← Nat.testBit_or, h2]
          revert this
          cases (2 ^ n).testBit i <;> cases (x - 2 ^ n).testBit i <;> simp
        rw [hx2, hf _ _ (by omega) (by omega), hg _ _ (by omega) (by omega), hb n (by omega), ih (by omega) _ hlt]
  exact step 8 (Nat.le_refl _)
theorem xtime_lt (a : Nat) (ha : a < 256) : xtime a < 256 := by
  have hall : (List.range 256).all (fun a => decide (xtime a < 256)) = true := by kernel_rfl
  simpa using all_range hall a ha
theorem xor256 (a b : Nat) (ha : a < 256) (hb : b < 256) : a ^^^ b < 256 := Nat.xor_lt_two_pow (n := 8) ha hb
theorem gmul_one (a : Nat) (ha : a < 256) : gmul a 1 = a := by
  refine lin_ext (fun a => gmul a 1) (fun a => a) (fun x y _ _ => gmul_xor_left x y 1) (fun _ _ _ _ => rfl) ?_ a ha
  have h : (List.range 8).all (fun i => gmul (2 ^ i) 1 == 2 ^ i) = true := by kernel_rfl
  intro i hi
  simpa using all_range h i hi
theorem gmul_zero (a : Nat) : gmul a 0 = 0 := by
  have h := gmul_xor a 0 0
  simp at h
  exact h
theorem zero_gmul (a : Nat) : gmul 0 a = 0 := by
  have h := gmul_xor_left 0 0 a
  simp at h
  exact h
theorem gmul_xtime (a b : Nat) (ha : a < 256) (hb : b < 256) : gmul a (xtime b) = xtime (gmul a b) := by
  refine lin_ext (fun b => gmul a (xtime b)) (fun b => xtime (gmul a b)) ?_ ?_ ?_ b hb
  · intro x y hx hy
    rw [xtime_xor x y hx hy, gmul_xor]
  · intro x y hx hy
    rw [gmul_xor, xtime_xor _ _ (gmul_lt a x ha) (gmul_lt a y ha)]
  · intro j hj
    have hp : (2 : Nat) ^ j ≤ 128 := by
      have : (2 : Nat) ^ j ≤ 2 ^ 7 := Nat.pow_le_pow_right (by omega) (by omega)
      simpa using this
    refine lin_ext (fun a => gmul a (xtime (2 ^ j))) (fun a => xtime (gmul a (2 ^ j))) ?_ ?_ ?_ a ha
    · intro x y _ _; exact gmul_xor_left x y _
    · intro x y hx hy; rw [gmul_xor_left, xtime_xor _ _ (gmul_lt x _ hx) (gmul_lt y _ hy)]
    · have h : (List.range 8).all (fun j => (List.range 8).all fun i => gmul (2 ^ i) (xtime (2 ^ j)) == xtime (gmul (2 ^ i) (2 ^ j))) = true := by kernel_rfl
      intro i hi
      simpa using all_range (all_range h j hj) i hi
def E2 : Nat → Nat
  | 0 => 1
  | n + 1 => xtime (E2 n)
def xts : Nat → Nat → Nat
  | 0, a => a
  | n + 1, a => xtime (xts n a)
theorem E2_lt (n : Nat) : E2 n < 256 := by
  induction n with
  | zero => simp [E2]
  | succ n ih => exact xtime_lt _ ih
theorem gmul_E2 (a n : Nat) (ha : a < 256) : gmul a (E2 n) = xts n a := by
  induction n with
  | zero => exact gmul_one a ha
  | succ n ih => rw [E2, gmul_xtime a _ ha (E2_lt n), ih]; rfl
theorem xts_E2 (n m : Nat) : xts n (E2 m) = E2 (m + n) := by
  induction n with
  | zero => rfl
  | succ n ih => rw [xts, ih]; rfl
theorem E2_add (m n : Nat) : gmul (E2 m) (E2 n) = E2 (m + n) := by rw [gmul_E2 _ _ (E2_lt m), xts_E2]
def upL : Nat → Nat → List Nat
  | 0, _ => []
  | n + 1, c => c :: upL n (xtime c)
theorem upL_get (n : Nat) : ∀ (c i : Nat), i < n → (upL n c)[i]? = some (xts i c) := by
  induction n with
  | zero => intro c i h; omega
  | succ n ih =>
    intro c i h
    cases i with
    | zero => rfl
    | succ i =>
      rw [upL, List.getElem?_cons_succ, ih _ _ (by omega)]
      congr 1
      clear h ih
      induction i with
      | zero => rfl
      | succ i ihi => rw [xts, ihi]; rfl
theorem upL_length (n c : Nat) : (upL n c).length = n := by
  induction n generalizing c with
  | zero => rfl
  | succ n ih => simp [upL, ih]
theorem E2_surj (a : Nat) (h0 : 0 < a) (ha : a < 256) : ∃ i, i < 255 ∧ E2 i = a := by
  have h : (List.range 256).all (fun a => a == 0 || (upL 255 1).contains a) = true := by kernel_rfl
  have := all_range h a ha
  simp at this
  rcases this with h1 | h1
  · omega
  · obtain ⟨i, hi, rfl⟩ := List.mem_iff_getElem.1 h1
    rw [upL_length] at hi
    refine ⟨i, hi, ?_⟩
    have h2 := upL_get 255 1 i hi
    rw [List.getElem?_eq_getElem (by rw [upL_length]; exact hi)] at h2
    have h3 := xts_E2 i 0
    rw [Nat.zero_add] at h3
    rw [← h3]
    exact (Option.some.inj h2).symm
theorem gmul_assoc (a b c : Nat) (ha : a < 256) (hb : b < 256) (hc : c < 256) : gmul (gmul a b) c = gmul a (gmul b c) := by
  rcases Nat.eq_zero_or_pos a with rfl | h1
  · rw [zero_gmul, zero_gmul, zero_gmul]
  rcases Nat.eq_zero_or_pos b with rfl | h2
  · rw [gmul_zero, zero_gmul, gmul_zero]
  rcases Nat.eq_zero_or_pos c with rfl | h3
  · rw [gmul_zero, gmul_zero, gmul_zero]
  obtain ⟨i, _, rfl⟩ := E2_surj a h1 ha
  obtain ⟨j, _, rfl⟩ := E2_surj b h2 hb
  obtain ⟨l, _, rfl⟩ := E2_surj c h3 hc
  rw [E2_add, E2_add, E2_add, E2_add, Nat.add_assoc]
theorem mulW_some (a b : Nat) (ha : a < 256) (hb : b < 256) : gf_MulW.f (a : Int) (b : Int) = some ((gmul a b : Nat) : Int) := by
  unfold gf_MulW.f
  rw [if_pos ⟨by omega, by omega, by omega, by omega⟩]
  simp
theorem sane04 : Ev (fun k => quietuslaw04_sanity.f k) true := Ev.of (fun k => quietuslaw04_sanity.mono k) (k := 300) (by kernel_rfl)
theorem wf_u8 {a : Int} (h : (Lit.int .u8 a).wf = true) : ∃ n : Nat, a = (n : Int) ∧ n < 256 := by
  simp only [Lit.wf, Bool.and_eq_true, decide_eq_true_eq] at h
  have h1 : (0 : Int) ≤ a := h.1
  have h2 : a ≤ 255 := h.2
  exact ⟨a.toNat, by omega, by omega⟩
end Go.Proofs.YtgfnllaajaoljaaDoor.QA
