/- Proved here: the field GF(256) on numbers, and what the functions of package gf and of its specification compute. No condition. -/
import Derived.Test.YtgfnllaajaoljaaDoorQA2
import Derived.Test.YtgfnllaajaoljaaDoorQA3
import Derived.Test.YtgfnllaajaoljaaDoorQA4
import Derived.Test.YtgfnllaajaoljaaDoorQA5
namespace Go.Proofs.YtgfnllaajaoljaaDoor.QA
open Go.RowKit Go.Proofs.YtgfnllaajaoljaaDoorW.PrintWords Go.Proofs.YtgfnllaajaoljaaDoorW.PrintLast Go.Proofs.YtgfnllaajaoljaaDoorW.PrintMore
attribute [local go_sem] max2_int min2_int max_two min_two max_three min_three max_four min_four
set_option linter.unusedVariables false
set_option linter.unusedSimpArgs false
theorem Ev.pos_ {α : Type} {c : Prop} [Decidable c] {A B : Nat → Option α} {r : α} (h : c) (k : Ev A r) : Ev (fun n => if c then A n else B n) r := by simpa only [if_pos h] using k
theorem Ev.neg_ {α : Type} {c : Prop} [Decidable c] {A B : Nat → Option α} {r : α} (h : ¬ c) (k : Ev B r) : Ev (fun n => if c then A n else B n) r := by simpa only [if_neg h] using k
theorem Ev.const_ {α : Type} {o : Option α} {r : α} (h : o = some r) : Ev (fun _ => o) r := ⟨0, fun _ _ => h⟩
theorem Ev.known_ {α β : Type} {o : Option α} {f : Nat → α → Option β} {a : α} {r : β} (h : o = some a) (k : Ev (fun n => f n a) r) : Ev (fun n => o.bind (f n)) r := Ev.bind (Ev.const_ h) k
theorem Ev.eq_ {α : Type} {g : Nat → Option α} {r r' : α} (h : Ev g r) (e : r = r') : Ev g r' := e ▸ h
theorem Ev.uniq_ {α : Type} {g : Nat → Option α} {r r' : α} (h : Ev g r) (h' : Ev g r') : r = r' := by
  obtain ⟨k, hk⟩ := h
  obtain ⟨k', hk'⟩ := h'
  have a := hk (max k k') (by omega)
  have b := hk' (max k k') (by omega)
  rw [a] at b
  exact Option.some.inj b
theorem w64 {n : Int} (h0 : -9223372036854775808 ≤ n) (h1 : n < 9223372036854775808) : wrap64 n = n := by unfold wrap64; omega
/-! The field, on numbers. -/
def xtime (a : Nat) : Nat := if 255 < 2 * a then (2 * a) ^^^ 285 else 2 * a
theorem odd_testBit (x k : Nat) : (x / 2 ^ k % 2 = 1) ↔ x.testBit k = true := by
  rw [Nat.testBit_eq_decide_div_mod_eq]; simp
theorem sel_xor (x y k a : Nat) : (if (x ^^^ y) / 2 ^ k % 2 = 1 then a else 0) = (if x / 2 ^ k % 2 = 1 then a else 0) ^^^ (if y / 2 ^ k % 2 = 1 then a else 0) := by
  simp only [odd_testBit, Nat.testBit_xor]
  cases x.testBit k <;> cases y.testBit k <;> simp
theorem div_xor (x y k : Nat) : (x ^^^ y) / 2 ^ k = x / 2 ^ k ^^^ y / 2 ^ k := by
  simp only [← Nat.shiftRight_eq_div_pow, Nat.shiftRight_xor_distrib]
theorem mul_xor (x y k : Nat) : (x ^^^ y) * 2 ^ k = x * 2 ^ k ^^^ y * 2 ^ k := by
  simp only [← Nat.shiftLeft_eq, Nat.shiftLeft_xor_distrib]
theorem mod_xor (x y k : Nat) : (x ^^^ y) % 2 ^ k = x % 2 ^ k ^^^ y % 2 ^ k := by
  exact Nat.xor_mod_two_pow
theorem redN_xor (x y : Nat) : redN (x ^^^ y) = redN x ^^^ redN y := by
  unfold redN
  have h0 := mod_xor x y 8
  have h1 := sel_xor x y 8 29
  have h2 := sel_xor x y 9 58
  have h3 := sel_xor x y 10 116
  have h4 := sel_xor x y 11 232
  simp only [show (2 : Nat) ^ 8 = 256 from rfl, show (2 : Nat) ^ 9 = 512 from rfl, show (2 : Nat) ^ 10 = 1024 from rfl, show (2 : Nat) ^ 11 = 2048 from rfl] at h0 h1 h2 h3 h4
  rw [h0, h1, h2, h3, h4]
  ac_rfl
theorem timesN_xor (a n m : Nat) : timesN a (n ^^^ m) = timesN a n ^^^ timesN a m := by
  unfold timesN
  have h1 := sel_xor n m 0 a
  have h2 := sel_xor n m 1 (a * 2)
  have h3 := sel_xor n m 2 (a * 4)
  have h4 := sel_xor n m 3 (a * 8)
  simp only [show (2 : Nat) ^ 0 = 1 from rfl, show (2 : Nat) ^ 1 = 2 from rfl, show (2 : Nat) ^ 2 = 4 from rfl, show (2 : Nat) ^ 3 = 8 from rfl, Nat.div_one] at h1 h2 h3 h4
  rw [h1, h2, h3, h4, ← redN_xor]
  congr 1
  ac_rfl
theorem sel_add (c : Prop) [Decidable c] (a b : Nat) : (if c then a ^^^ b else 0) = (if c then a else 0) ^^^ (if c then b else 0) := by split <;> simp
theorem timesN_xor_left (a b n : Nat) : timesN (a ^^^ b) n = timesN a n ^^^ timesN b n := by
  unfold timesN
  have h1 := mul_xor a b 1
  have h2 := mul_xor a b 2
  have h3 := mul_xor a b 3
  simp only [show (2 : Nat) ^ 1 = 2 from rfl, show (2 : Nat) ^ 2 = 4 from rfl, show (2 : Nat) ^ 3 = 8 from rfl] at h1 h2 h3
  rw [h1, h2, h3, ← redN_xor]
  simp only [sel_add]
  congr 1
  ac_rfl
theorem gmul_xor (a b c : Nat) : gmul a (b ^^^ c) = gmul a b ^^^ gmul a c := by
  unfold gmul
  have h1 := div_xor b c 4
  have h2 := mod_xor b c 4
  have h3 := mul_xor (timesN a (b / 16)) (timesN a (c / 16)) 4
  simp only [show (2 : Nat) ^ 4 = 16 from rfl] at h1 h2 h3
  rw [h1, h2, timesN_xor, timesN_xor, h3, redN_xor]
  ac_rfl
theorem gmul_xor_left (a b c : Nat) : gmul (a ^^^ b) c = gmul a c ^^^ gmul b c := by
  unfold gmul
  have h3 := mul_xor (timesN a (c / 16)) (timesN b (c / 16)) 4
  simp only [show (2 : Nat) ^ 4 = 16 from rfl] at h3
  rw [timesN_xor_left, timesN_xor_left, h3, redN_xor]
  ac_rfl
theorem xtime_xor (a b : Nat) (ha : a < 256) (hb : b < 256) : xtime (a ^^^ b) = xtime a ^^^ xtime b := by
  have e : ∀ x : Nat, x < 256 → xtime x = (x * 2) ^^^ (if x / 2 ^ 7 % 2 = 1 then 285 else 0) := by
    intro x hx
    unfold xtime
    by_cases h : 255 < 2 * x
    · rw [if_pos h, if_pos (by omega), Nat.mul_comm]
    · rw [if_neg h, if_neg (by omega), Nat.xor_zero, Nat.mul_comm]
  rw [e _ ha, e _ hb, e _ (Nat.xor_lt_two_pow (n := 8) ha hb), sel_xor]
  have h1 := mul_xor a b 1
  simp only [show (2 : Nat) ^ 1 = 2 from rfl] at h1
  rw [h1]
  ac_rfl
/-- Functions that take sums to sums are one if they agree on the powers of 2. -/
theorem lin_ext (f g : Nat → Nat) (hf : ∀ x y, x < 256 → y < 256 → f (x ^^^ y) = f x ^^^ f y) (hg : ∀ x y, x < 256 → y < 256 → g (x ^^^ y) = g x ^^^ g y)
    (hb : ∀ i, i < 8 → f (2 ^ i) = g (2 ^ i)) : ∀ x, x < 256 → f x = g x := by
  have h0 : f 0 = g 0 := by
    have a := hf 0 0 (by omega) (by omega)
    have b := hg 0 0 (by omega) (by omega)
    simp at a b
    rw [a, b]
  have step : ∀ n, n ≤ 8 → ∀ x, x < 2 ^ n → f x = g x := by
    intro n
    induction n with
    | zero => intro _ x hx; obtain rfl : x = 0 := by simpa using hx
              exact h0
    | succ n ih =>
      intro hn x hx
      have hp : (2 : Nat) ^ n ≤ 128 := by
        have : (2 : Nat) ^ n ≤ 2 ^ 7 := Nat.pow_le_pow_right (by omega) (by omega)
        simpa using this
      rcases Nat.lt_or_ge x (2 ^ n) with h | h
      · exact ih (by omega) x h
      · have hlt : x - 2 ^ n < 2 ^ n := by rw [Nat.pow_succ] at hx; omega
        have hx2 : x = 2 ^ n ^^^ (x - 2 ^ n) := by
          have := Nat.two_pow_add_eq_or_of_lt hlt 1
          rw [Nat.mul_one] at this
          have h2 : 2 ^ n ||| (x - 2 ^ n) = x := by rw [← this]; omega
          have h3 : 2 ^ n &&& (x - 2 ^ n) = 0 := by
            apply Nat.eq_of_testBit_eq
            intro i
            rw [Nat.testBit_and, Nat.testBit_two_pow, Nat.zero_testBit]
            by_cases hi : n = i
            · subst hi
              rw [Nat.testBit_lt_two_pow hlt]; simp
            · simp [hi]
          rw [← h2]
          apply Nat.eq_of_testBit_eq
          intro i
          have := congrArg (fun z => z.testBit i) h3
          simp only [Nat.testBit_and, Nat.zero_testBit] at this
          rw [Nat.testBit_or, Nat.testBit_xor, h2]
          have h4 : x.testBit i = ((2 ^ n).testBit i || (x - 2 ^ n).testBit i) := by rw [← Nat.testBit_or, h2]
          revert this
          cases (2 ^ n).testBit i <;> cases (x - 2 ^ n).testBit i <;> simp
        rw [hx2, hf _ _ (by omega) (by omega), hg _ _ (by omega) (by omega), hb n (by omega), ih (by omega) _ hlt]
  exact step 8 (Nat.le_refl _)
theorem xtime_lt (a : Nat) (ha : a < 256) : xtime a < 256 := by
  have hall : (List.range 256).all (fun a => decide (xtime a < 256)) = true := by kernel_rfl
  simpa using all_range hall a ha
theorem xor256 (a b : Nat) (ha : a < 256) (hb : b < 256) : a ^^^ b < 256 := Nat.xor_lt_two_pow (n := 8) ha hb
theorem gmul_one (a : Nat) (ha : a < 256) : gmul a 1 = a := by
  refine lin_ext (fun a => gmul a 1) (fun a => a) (fun x y _ _ => gmul_xor_left x y 1) (fun _ _ _ _ => rfl) ?_ a ha
  have h : (List.range 8).all (fun i => gmul (2 ^ i) 1 == 2 ^ i) = true := by kernel_rfl
  intro i hi
  simpa using all_range h i hi
theorem gmul_zero (a : Nat) : gmul a 0 = 0 := by
  have h := gmul_xor a 0 0
  simp at h
  exact h
theorem zero_gmul (a : Nat) : gmul 0 a = 0 := by
  have h := gmul_xor_left 0 0 a
  simp at h
  exact h
theorem gmul_xtime (a b : Nat) (ha : a < 256) (hb : b < 256) : gmul a (xtime b) = xtime (gmul a b) := by
  refine lin_ext (fun b => gmul a (xtime b)) (fun b => xtime (gmul a b)) ?_ ?_ ?_ b hb
  · intro x y hx hy
    rw [xtime_xor x y hx hy, gmul_xor]
  · intro x y hx hy
    rw [gmul_xor, xtime_xor _ _ (gmul_lt a x ha) (gmul_lt a y ha)]
  · intro j hj
    have hp : (2 : Nat) ^ j ≤ 128 := by
      have : (2 : Nat) ^ j ≤ 2 ^ 7 := Nat.pow_le_pow_right (by omega) (by omega)
      simpa using this
    refine lin_ext (fun a => gmul a (xtime (2 ^ j))) (fun a => xtime (gmul a (2 ^ j))) ?_ ?_ ?_ a ha
    · intro x y _ _; exact gmul_xor_left x y _
    · intro x y hx hy; rw [gmul_xor_left, xtime_xor _ _ (gmul_lt x _ hx) (gmul_lt y _ hy)]
    · have h : (List.range 8).all (fun j => (List.range 8).all fun i => gmul (2 ^ i) (xtime (2 ^ j)) == xtime (gmul (2 ^ i) (2 ^ j))) = true := by kernel_rfl
      intro i hi
      simpa using all_range (all_range h j hj) i hi
/-- The powers of 2. -/
def E2 : Nat → Nat
  | 0 => 1
  | n + 1 => xtime (E2 n)
def xts : Nat → Nat → Nat
  | 0, a => a
  | n + 1, a => xtime (xts n a)
theorem E2_lt (n : Nat) : E2 n < 256 := by
  induction n with
  | zero => simp [E2]
  | succ n ih => exact xtime_lt _ ih
theorem gmul_E2 (a n : Nat) (ha : a < 256) : gmul a (E2 n) = xts n a := by
  induction n with
  | zero => exact gmul_one a ha
  | succ n ih => rw [E2, gmul_xtime a _ ha (E2_lt n), ih]; rfl
theorem xts_E2 (n m : Nat) : xts n (E2 m) = E2 (m + n) := by
  induction n with
  | zero => rfl
  | succ n ih => rw [xts, ih]; rfl
theorem E2_add (m n : Nat) : gmul (E2 m) (E2 n) = E2 (m + n) := by rw [gmul_E2 _ _ (E2_lt m), xts_E2]
/-- The powers one after the other. -/
def upL : Nat → Nat → List Nat
  | 0, _ => []
  | n + 1, c => c :: upL n (xtime c)
theorem upL_get (n : Nat) : ∀ (c i : Nat), i < n → (upL n c)[i]? = some (xts i c) := by
  induction n with
  | zero => intro c i h; omega
  | succ n ih =>
    intro c i h
    cases i with
    | zero => rfl
    | succ i =>
      rw [upL, List.getElem?_cons_succ, ih _ _ (by omega)]
      congr 1
      clear h ih
      induction i with
      | zero => rfl
      | succ i ihi => rw [xts, ihi]; rfl
theorem upL_length (n c : Nat) : (upL n c).length = n := by
  induction n generalizing c with
  | zero => rfl
  | succ n ih => simp [upL, ih]
theorem E2_255 : E2 255 = 1 := by kernel_rfl
theorem E2_period (n : Nat) : E2 (n + 255) = E2 n := by
  rw [← E2_add, E2_255, gmul_one _ (E2_lt n)]
theorem E2_mod (n : Nat) : E2 n = E2 (n % 255) := by
  have h : ∀ q r, E2 (r + 255 * q) = E2 r := by
    intro q
    induction q with
    | zero => intro r; rfl
    | succ q ih => intro r; rw [Nat.mul_succ, ← Nat.add_assoc, E2_period, ih]
  have := h (n / 255) (n % 255)
  rw [Nat.mod_add_div] at this
  exact this
theorem E2_surj (a : Nat) (h0 : 0 < a) (ha : a < 256) : ∃ i, i < 255 ∧ E2 i = a := by
  have h : (List.range 256).all (fun a => a == 0 || (upL 255 1).contains a) = true := by kernel_rfl
  have := all_range h a ha
  simp at this
  rcases this with h1 | h1
  · omega
  · obtain ⟨i, hi, rfl⟩ := List.mem_iff_getElem.1 h1
    rw [upL_length] at hi
    refine ⟨i, hi, ?_⟩
    have h2 := upL_get 255 1 i hi
    rw [List.getElem?_eq_getElem (by rw [upL_length]; exact hi)] at h2
    have h3 := xts_E2 i 0
    rw [Nat.zero_add] at h3
    rw [← h3]
    exact (Option.some.inj h2).symm
theorem nodupB : ((upL 255 1).Nodup) := by
  have h : (decide ((upL 255 1).Nodup)) = true := by kernel_rfl
  exact of_decide_eq_true h
theorem E2_inj (i j : Nat) (hi : i < 255) (hj : j < 255) (h : E2 i = E2 j) : i = j := by
  have h2 := upL_get 255 1 i hi
  have h3 := upL_get 255 1 j hj
  have e1 := xts_E2 i 0
  have e2 := xts_E2 j 0
  rw [Nat.zero_add] at e1 e2
  rw [show (1 : Nat) = E2 0 from rfl, e1] at h2
  rw [show (1 : Nat) = E2 0 from rfl, e2, ← h] at h3
  have hn := nodupB
  rw [show (1 : Nat) = E2 0 from rfl] at hn
  exact (List.getElem?_inj (by rw [upL_length]; exact hi) hn).1 (h2.trans h3.symm)
theorem E2_pos (n : Nat) : 0 < E2 n := by
  rw [E2_mod]
  have h : (List.range 255).all (fun i => decide (0 < (upL 255 1).getD i 0)) = true := by kernel_rfl
  have hm : n % 255 < 255 := Nat.mod_lt _ (by omega)
  have := all_range h (n % 255) hm
  rw [List.getD_eq_getElem?_getD, upL_get 255 1 _ hm] at this
  have e1 := xts_E2 (n % 255) 0
  rw [Nat.zero_add] at e1
  rw [← e1]
  exact of_decide_eq_true this
theorem gmul_comm (a b : Nat) (ha : a < 256) (hb : b < 256) : gmul a b = gmul b a := by
  rcases Nat.eq_zero_or_pos a with rfl | h1
  · rw [zero_gmul, gmul_zero]
  rcases Nat.eq_zero_or_pos b with rfl | h2
  · rw [zero_gmul, gmul_zero]
  obtain ⟨i, _, rfl⟩ := E2_surj a h1 ha
  obtain ⟨j, _, rfl⟩ := E2_surj b h2 hb
  rw [E2_add, E2_add, Nat.add_comm]
theorem gmul_assoc (a b c : Nat) (ha : a < 256) (hb : b < 256) (hc : c < 256) : gmul (gmul a b) c = gmul a (gmul b c) := by
  rcases Nat.eq_zero_or_pos a with rfl | h1
  · rw [zero_gmul, zero_gmul, zero_gmul]
  rcases Nat.eq_zero_or_pos b with rfl | h2
  · rw [gmul_zero, zero_gmul, gmul_zero]
  rcases Nat.eq_zero_or_pos c with rfl | h3
  · rw [gmul_zero, gmul_zero, gmul_zero]
  obtain ⟨i, _, rfl⟩ := E2_surj a h1 ha
  obtain ⟨j, _, rfl⟩ := E2_surj b h2 hb
  obtain ⟨l, _, rfl⟩ := E2_surj c h3 hc
  rw [E2_add, E2_add, E2_add, E2_add, Nat.add_assoc]
theorem one_gmul (a : Nat) (ha : a < 256) : gmul 1 a = a := by rw [gmul_comm 1 a (by omega) ha, gmul_one a ha]
theorem gmul_eq_zero (a b : Nat) (ha : a < 256) (hb : b < 256) : gmul a b = 0 ↔ a = 0 ∨ b = 0 := by
  constructor
  · intro h
    rcases Nat.eq_zero_or_pos a with rfl | h1
    · exact .inl rfl
    rcases Nat.eq_zero_or_pos b with rfl | h2
    · exact .inr rfl
    obtain ⟨i, _, rfl⟩ := E2_surj a h1 ha
    obtain ⟨j, _, rfl⟩ := E2_surj b h2 hb
    rw [E2_add] at h
    have := E2_pos (i + j)
    omega
  · rintro (rfl | rfl)
    · exact zero_gmul b
    · exact gmul_zero a
/-- A byte to a power. -/
def powN (a : Nat) : Nat → Nat
  | 0 => 1
  | n + 1 => gmul (powN a n) a
theorem powN_lt (a n : Nat) (ha : a < 256) : powN a n < 256 := by
  induction n with
  | zero => simp [powN]
  | succ n ih => exact gmul_lt _ _ ih
theorem powN_E2 (i n : Nat) : powN (E2 i) n = E2 (i * n) := by
  induction n with
  | zero => rfl
  | succ n ih => rw [powN, ih, E2_add, Nat.mul_succ]
theorem powN_two (n : Nat) : powN 2 n = E2 n := by
  have := powN_E2 1 n
  rw [Nat.one_mul] at this
  exact this
theorem powN_add (a m n : Nat) (ha : a < 256) : powN a (m + n) = gmul (powN a m) (powN a n) := by
  induction n with
  | zero => exact (gmul_one _ (powN_lt a m ha)).symm
  | succ n ih => rw [← Nat.add_assoc, powN, ih, gmul_assoc _ _ _ (powN_lt a m ha) (powN_lt a n ha) ha]; rfl
theorem powN_sq (a m : Nat) (ha : a < 256) : powN (gmul a a) m = powN a (2 * m) := by
  induction m with
  | zero => rfl
  | succ m ih =>
    rw [powN, ih, show 2 * (m + 1) = 2 * m + 2 by omega, powN_add a (2 * m) 2 ha]
    congr 1
    show gmul a a = gmul (gmul 1 a) a
    rw [one_gmul a ha]
theorem powN_period (a n : Nat) (h0 : 0 < a) (ha : a < 256) : powN a n = powN a (n % 255) := by
  obtain ⟨i, _, rfl⟩ := E2_surj a h0 ha
  rw [powN_E2, powN_E2, E2_mod (i * n), E2_mod (i * (n % 255))]
  congr 1
  rw [Nat.mul_mod i n, Nat.mul_mod i (n % 255), Nat.mod_mod]
theorem mulW_some (a b : Nat) (ha : a < 256) (hb : b < 256) : gf_MulW.f (a : Int) (b : Int) = some ((gmul a b : Nat) : Int) := by
  unfold gf_MulW.f
  rw [if_pos ⟨by omega, by omega, by omega, by omega⟩]
  simp
theorem and_one (n : Nat) (hn : n < 9223372036854775808) : Go.bits .and .i64 (n : Int) 1 = ((n % 2 : Nat) : Int) := by
  have h := (bits_nat .i64 63 (by decide) (fun m h0 h1 => by rw [IntKind.wrap_i64]; omega) n 1 (by omega) (by omega)).1
  rw [Nat.and_one_is_mod] at h
  exact h
theorem power_l (m : Nat) : ∀ (n a x : Nat), n < 2 ^ m → n < 9223372036854775808 → a < 256 → x < 256 → Ev (fun k => gf_power.l0 k (a : Int) (n : Int) (x : Int)) ((gmul x (powN a n) : Nat) : Int) := by
  induction m with
  | zero =>
    intro n a x hn hmax ha hx
    obtain rfl : n = 0 := by simpa using hn
    refine Ev.step (fun k => by rw [gf_power.l0]) ?_
    refine Ev.neg_ (by omega) ?_
    rw [powN, gmul_one x hx]
    exact Ev.now _
  | succ m ih =>
    intro n a x hn hmax ha hx
    refine Ev.step (fun k => by rw [gf_power.l0]) ?_
    rcases Nat.eq_zero_or_pos n with rfl | hp
    · refine Ev.neg_ (by omega) ?_
      rw [powN, gmul_one x hx]
      exact Ev.now _
    · refine Ev.pos_ (by omega) ?_
      have e2 : (n : Int) / 2 = ((n / 2 : Nat) : Int) := by omega
      have hsq := gmul_lt a a ha
      rw [and_one n hmax, e2]
      have hlt : n / 2 < 2 ^ m := by rw [Nat.pow_succ] at hn; omega
      by_cases ho : n % 2 = 1
      · refine Ev.pos_ (by omega) ?_
        refine Ev.known_ (mulW_some x a hx ha) (Ev.known_ (mulW_some a a ha ha) ?_)
        refine Ev.eq_ (ih (n / 2) (gmul a a) (gmul x a) hlt (by omega) hsq (gmul_lt x a hx)) ?_
        rw [powN_sq a _ ha, gmul_assoc x a _ hx ha (powN_lt a _ ha)]
        have : powN a n = powN a (2 * (n / 2) + 1) := by congr 1; omega
        rw [this, powN, gmul_comm a _ ha (powN_lt a _ ha)]
      · refine Ev.neg_ (by omega) ?_
        refine Ev.known_ (mulW_some a a ha ha) ?_
        refine Ev.eq_ (ih (n / 2) (gmul a a) x hlt (by omega) hsq hx) ?_
        rw [powN_sq a _ ha]
        congr 3
        omega
theorem power_ev (a n : Nat) (ha : a < 256) (hn : n < 9223372036854775808) : Ev (fun k => gf_power.f k (a : Int) (n : Int)) ((powN a n : Nat) : Int) := by
  refine Ev.eq_ (power_l 63 n a 1 (by omega) hn ha (by omega)) ?_
  rw [one_gmul _ (powN_lt a n ha)]
/-- The inverse of a byte. -/
def invN (a : Nat) : Nat := powN a 254
theorem invN_lt (a : Nat) (ha : a < 256) : invN a < 256 := powN_lt a 254 ha
theorem gmul_inv (a : Nat) (h0 : 0 < a) (ha : a < 256) : gmul a (invN a) = 1 := by
  have h := powN_period a 255 h0 ha
  rw [show 255 % 255 = 0 from rfl] at h
  unfold invN
  rw [gmul_comm a _ ha (powN_lt a 254 ha)]
  exact h
theorem inv_zero : Ev (fun k => gf_Inv.f k 0) (0, 1) := Ev.pos_ rfl (Ev.now _)
theorem inv_ev (a : Nat) (h0 : 0 < a) (ha : a < 256) : Ev (fun k => gf_Inv.f k (a : Int)) (((invN a : Nat) : Int), 0) := by
  refine Ev.neg_ (by omega) ?_
  exact Ev.bind (power_ev a 254 ha (by omega)) (Ev.now _)
theorem two_E : (2 : Nat) = E2 1 := by kernel_rfl
theorem log_l (a : Nat) : ∀ (d i : Nat), i + d = 255 → (∀ j, i ≤ j → j < 255 → E2 j ≠ a) → Ev (fun k => gf_Log.l0 k (a : Int) ((E2 i : Nat) : Int) (i : Int)) (0, 1) := by
  intro d
  induction d with
  | zero =>
    intro i hi _
    refine Ev.step (fun k => by rw [gf_Log.l0]) ?_
    exact Ev.neg_ (by omega) (Ev.now _)
  | succ d ih =>
    intro i hi hne
    refine Ev.step (fun k => by rw [gf_Log.l0]) ?_
    refine Ev.pos_ (by omega) (Ev.neg_ (by have := hne i (Nat.le_refl _) (by omega); omega) ?_)
    refine Ev.known_ (mulW_some (E2 i) 2 (E2_lt i) (by omega)) ?_
    rw [two_E, E2_add, w64 (by omega) (by omega)]
    exact ih (i + 1) (by omega) (fun j h1 h2 => hne j (by omega) h2)
theorem log_l2 (a j : Nat) (hj : j < 255) (he : E2 j = a) : ∀ (d i : Nat), i + d = j → Ev (fun k => gf_Log.l0 k (a : Int) ((E2 i : Nat) : Int) (i : Int)) ((j : Int), 0) := by
  intro d
  induction d with
  | zero =>
    intro i hi
    obtain rfl : i = j := by omega
    refine Ev.step (fun k => by rw [gf_Log.l0]) ?_
    exact Ev.pos_ (by omega) (Ev.pos_ (by rw [he]) (Ev.now _))
  | succ d ih =>
    intro i hi
    refine Ev.step (fun k => by rw [gf_Log.l0]) ?_
    refine Ev.pos_ (by omega) (Ev.neg_ (fun h => ?_) ?_)
    · have := E2_inj i j (by omega) hj (by rw [he]; exact Int.ofNat_inj.1 h)
      omega
    refine Ev.known_ (mulW_some (E2 i) 2 (E2_lt i) (by omega)) ?_
    rw [two_E, E2_add, w64 (by omega) (by omega)]
    exact ih (i + 1) (by omega)
theorem log_zero : Ev (fun k => gf_Log.f k 0) (0, 1) := log_l 0 255 0 rfl (fun j _ _ => by have := E2_pos j; omega)
theorem log_ev (a j : Nat) (hj : j < 255) (he : E2 j = a) : Ev (fun k => gf_Log.f k (a : Int)) ((j : Int), 0) := log_l2 a j hj he j 0 (by omega)
theorem modulo_some (n : Int) : gf_modulo.f n = some (n % 255) := by
  unfold gf_modulo.f
  have h : n.tmod 255 = n % 255 - (if 0 ≤ n ∨ (255 : Int) ∣ n then 0 else 255) := by rw [Int.tmod_eq_emod]; split <;> rfl
  have h3 : n.tmod 255 = n % 255 ∨ (n.tmod 255 = n % 255 - 255 ∧ n % 255 ≠ 0) := by
    rw [h]
    split
    · left; omega
    · right; omega
  split
  · rename_i h1
    rw [w64 (by omega) (by omega)]
    congr 1
    omega
  · congr 1
    omega
theorem exp_ev (n : Int) : Ev (fun k => gf_Exp.f k n) ((E2 (n % 255).toNat : Nat) : Int) := by
  unfold gf_Exp.f
  refine Ev.known_ (modulo_some n) ?_
  have e : n % 255 = (((n % 255).toNat : Nat) : Int) := by omega
  rw [e, Int.toNat_natCast]
  refine Ev.bind (power_ev 2 _ (by omega) (by omega)) ?_
  rw [powN_two]
  exact Ev.now _
/-- A byte to any power. -/
def powZ (a : Nat) (n : Int) : Nat := if a = 0 then (if n = 0 then 1 else 0) else powN a (n % 255).toNat
theorem pow_ev (a : Nat) (n : Int) (ha : a < 256) : Ev (fun k => gf_Pow.f k (a : Int) n) ((powZ a n : Nat) : Int) := by
  unfold gf_Pow.f powZ
  have hmain : ∀ m : Nat, powN a m = powN a m → n % 255 = (m : Int) → Ev (fun k => (gf_power.f k (a : Int) (n % 255)).bind fun t => some t) ((powN a m : Nat) : Int) := by
    intro m _ hm
    rw [hm]
    exact Ev.bind (power_ev a m ha (by omega)) (Ev.now _)
  rcases Nat.eq_zero_or_pos a with rfl | hp
  · refine Ev.pos_ rfl ?_
    refine Ev.step (fun k => by rw [gf_Pow.j0]) ?_
    rw [if_pos rfl]
    by_cases hn : n = 0
    · subst hn
      refine Ev.neg_ (by decide) (Ev.known_ (modulo_some 0) ?_)
      rw [if_pos rfl]
      exact hmain 0 rfl rfl
    · refine Ev.pos_ (by simpa using hn) ?_
      rw [if_neg hn]
      exact Ev.now _
  · refine Ev.neg_ (by omega) ?_
    refine Ev.step (fun k => by rw [gf_Pow.j0]) ?_
    refine Ev.neg_ (by decide) (Ev.known_ (modulo_some n) ?_)
    rw [if_neg (by omega)]
    exact hmain _ rfl (by omega)

/-! The specification's functions. -/
theorem rMul_l (d : Nat) : ∀ (x y s : Nat), y < 2 ^ d → y < 256 → x < 256 → s < 256 → Ev (fun k => quietusref04_Mul.l0 k (x : Int) (y : Int) (s : Int)) (((s ^^^ gmul x y) : Nat) : Int) := by
  induction d with
  | zero =>
    intro x y s hy _ hx hs
    obtain rfl : y = 0 := by simpa using hy
    refine Ev.step (fun k => by rw [quietusref04_Mul.l0]) ?_
    refine Ev.neg_ (by omega) ?_
    rw [gmul_zero, Nat.xor_zero, show (s : Int) % 256 = (s : Int) by omega]
    exact Ev.now _
  | succ d ih =>
    intro x y s hy hy2 hx hs
    refine Ev.step (fun k => by rw [quietusref04_Mul.l0]) ?_
    rcases Nat.eq_zero_or_pos y with rfl | hp
    · refine Ev.neg_ (by omega) ?_
      rw [gmul_zero, Nat.xor_zero, show (s : Int) % 256 = (s : Int) by omega]
      exact Ev.now _
    have hlt : y / 2 < 2 ^ d := by rw [Nat.pow_succ] at hy; omega
    have e1 : Int.tmod (y : Int) 2 = ((y % 2 : Nat) : Int) := by rw [Int.tmod_eq_emod_of_nonneg (by omega)]; omega
    have e2 : wrap64 (Int.tdiv (y : Int) 2) = ((y / 2 : Nat) : Int) := by rw [Int.tdiv_eq_ediv_of_nonneg (by omega), w64 (by omega) (by omega)]; omega
    have e3 : wrap64 (2 * (x : Int)) = ((2 * x : Nat) : Int) := by rw [w64 (by omega) (by omega)]; omega
    have hx3 : ∀ a b : Nat, a < 9223372036854775808 → b < 9223372036854775808 → Go.bits .xor .i64 (a : Int) (b : Int) = ((a ^^^ b : Nat) : Int) := by
      intro a b ha hb
      have hx := Nat.xor_lt_two_pow (n := 63) ha hb
      show IntKind.i64.wrap ((BitVec.ofInt 64 (a : Int) ^^^ BitVec.ofInt 64 (b : Int)).toNat : Int) = _
      rw [BitVec.toNat_xor, BitVec.ofInt_natCast, BitVec.ofInt_natCast, BitVec.toNat_ofNat, BitVec.toNat_ofNat, Nat.mod_eq_of_lt (show a < 2 ^ 64 by omega), Nat.mod_eq_of_lt (show b < 2 ^ 64 by omega), IntKind.wrap_i64]
      omega
    have e4 : Go.bits .xor .i64 (((2 * x : Nat)) : Int) 285 = (((2 * x) ^^^ 285 : Nat) : Int) := hx3 (2 * x) 285 (by omega) (by omega)
    have e5 : Go.bits .xor .i64 (s : Int) (x : Int) = ((s ^^^ x : Nat) : Int) := hx3 s x (by omega) (by omega)
    have hxt := xtime_lt x hx
    have hkey : gmul x y = (if y % 2 = 1 then x else 0) ^^^ gmul (xtime x) (y / 2) := by
      have hy3 : y = (y % 2) ^^^ (y / 2 * 2) := by
        have hall : (List.range 256).all (fun y => y == (y % 2) ^^^ (y / 2 * 2)) = true := by kernel_rfl
        simpa using all_range hall y hy2
      have hx2 : y / 2 * 2 = xtime (y / 2) := by unfold xtime; rw [if_neg (by omega)]; omega
      have h1 : gmul x (y % 2) = if y % 2 = 1 then x else 0 := by
        rcases Nat.mod_two_eq_zero_or_one y with h | h
        · rw [h, gmul_zero]; rfl
        · rw [h, gmul_one x hx]; rfl
      have h2 : gmul x (y / 2 * 2) = gmul (xtime x) (y / 2) := by
        rw [hx2, gmul_comm x _ hx (xtime_lt _ (by omega)), ← gmul_comm (y / 2) _ (by omega) hxt, gmul_xtime _ _ (by omega) hx, gmul_comm _ x (xtime_lt _ (by omega)) hx, gmul_xtime x _ hx (by omega), gmul_comm x _ hx (by omega)]
      calc gmul x y = gmul x ((y % 2) ^^^ (y / 2 * 2)) := by rw [← hy3]
        _ = _ := by rw [gmul_xor, h1, h2]
    have hxv : ∀ v : Int, v = ((xtime x : Nat) : Int) → ∀ s' : Nat, s' < 256 → Ev (fun k => quietusref04_Mul.l0 k v (((y / 2 : Nat)) : Int) (s' : Int)) (((s' ^^^ gmul (xtime x) (y / 2)) : Nat) : Int) := by
      intro v hv s' hs'
      subst hv
      exact ih (xtime x) (y / 2) s' hlt (by omega) hxt hs'
    simp only [e1, e2, e3, e4, e5]
    by_cases ho : y % 2 = 1
    · refine Ev.pos_ (by omega) (Ev.pos_ (by omega) ?_)
      have hfin : s ^^^ gmul x y = (s ^^^ x) ^^^ gmul (xtime x) (y / 2) := by rw [hkey, if_pos ho, Nat.xor_assoc]
      rw [hfin]
      by_cases hb : 255 < 2 * x
      · refine Ev.pos_ (by omega) (hxv _ ?_ _ (xor256 s x hs hx))
        unfold xtime; rw [if_pos hb]
      · refine Ev.neg_ (by omega) (hxv _ ?_ _ (xor256 s x hs hx))
        unfold xtime; rw [if_neg hb]
    · refine Ev.pos_ (by omega) (Ev.neg_ (by omega) ?_)
      have hfin : s ^^^ gmul x y = s ^^^ gmul (xtime x) (y / 2) := by rw [hkey, if_neg ho, Nat.zero_xor]
      rw [hfin]
      by_cases hb : 255 < 2 * x
      · refine Ev.pos_ (by omega) (hxv _ ?_ _ hs)
        unfold xtime; rw [if_pos hb]
      · refine Ev.neg_ (by omega) (hxv _ ?_ _ hs)
        unfold xtime; rw [if_neg hb]
theorem rMul_ev (a b : Nat) (ha : a < 256) (hb : b < 256) : Ev (fun k => quietusref04_Mul.f k (a : Int) (b : Int)) ((gmul a b : Nat) : Int) := by
  unfold quietusref04_Mul.f
  rw [w64 (by omega) (by omega), w64 (by omega) (by omega)]
  refine Ev.eq_ (rMul_l 8 a b 0 (by omega) hb ha (by omega)) ?_
  rw [Nat.zero_xor]
theorem rexp_some (n : Int) : quietusref04_exponent.f n = some (n % 255) := by
  unfold quietusref04_exponent.f
  have h : n.tmod 255 = n % 255 - (if 0 ≤ n ∨ (255 : Int) ∣ n then 0 else 255) := by rw [Int.tmod_eq_emod]; split <;> rfl
  have h3 : n.tmod 255 = n % 255 ∨ (n.tmod 255 = n % 255 - 255 ∧ n % 255 ≠ 0) := by
    rw [h]
    split
    · left; omega
    · right; omega
  rw [w64 (by omega) (by omega), Int.tmod_eq_emod_of_nonneg (by omega)]
  congr 1
  omega
theorem rPow_l (a : Nat) (n : Int) (ha : a < 256) : ∀ (d i : Nat), (i : Int) + d = n % 255 → Ev (fun k => quietusref04_Pow.l0 k (a : Int) n ((powN a i : Nat) : Int) (i : Int)) ((powN a (n % 255).toNat : Nat) : Int) := by
  intro d
  induction d with
  | zero =>
    intro i hi
    refine Ev.step (fun k => by rw [quietusref04_Pow.l0]) ?_
    refine Ev.known_ (rexp_some n) (Ev.neg_ (by omega) ?_)
    have : (n % 255).toNat = i := by omega
    rw [this]
    exact Ev.now _
  | succ d ih =>
    intro i hi
    refine Ev.step (fun k => by rw [quietusref04_Pow.l0]) ?_
    refine Ev.known_ (rexp_some n) (Ev.pos_ (by omega) ?_)
    refine Ev.bind (rMul_ev (powN a i) a (powN_lt a i ha) ha) ?_
    rw [w64 (by omega) (by omega)]
    exact ih (i + 1) (by omega)
theorem rPow_ev (a : Nat) (n : Int) (ha : a < 256) : Ev (fun k => quietusref04_Pow.f k (a : Int) n) ((powZ a n : Nat) : Int) := by
  unfold quietusref04_Pow.f powZ
  rcases Nat.eq_zero_or_pos a with rfl | hp
  · refine Ev.pos_ rfl ?_
    rw [if_pos rfl]
    by_cases hn : n = 0
    · simp only [if_pos hn]; exact Ev.now _
    · simp only [if_neg hn]; exact Ev.now _
  · refine Ev.neg_ (by omega) ?_
    rw [if_neg (by omega)]
    exact rPow_l a n ha (n % 255).toNat 0 (by omega)
theorem rExp_l (n : Int) : ∀ (d i : Nat), (i : Int) + d = n % 255 → Ev (fun k => quietusref04_Exp.l0 k n ((E2 i : Nat) : Int) (i : Int)) ((E2 (n % 255).toNat : Nat) : Int) := by
  intro d
  induction d with
  | zero =>
    intro i hi
    refine Ev.step (fun k => by rw [quietusref04_Exp.l0]) ?_
    refine Ev.known_ (rexp_some n) (Ev.neg_ (by omega) ?_)
    have : (n % 255).toNat = i := by omega
    rw [this]
    exact Ev.now _
  | succ d ih =>
    intro i hi
    refine Ev.step (fun k => by rw [quietusref04_Exp.l0]) ?_
    refine Ev.known_ (rexp_some n) (Ev.pos_ (by omega) ?_)
    refine Ev.bind (rMul_ev (E2 i) 2 (E2_lt i) (by omega)) ?_
    rw [two_E, E2_add, w64 (by omega) (by omega)]
    exact ih (i + 1) (by omega)
theorem rExp_ev (n : Int) : Ev (fun k => quietusref04_Exp.f k n) ((E2 (n % 255).toNat : Nat) : Int) := rExp_l n (n % 255).toNat 0 (by omega)
theorem inv_unique (a b : Nat) (h0 : 0 < a) (ha : a < 256) (hb : b < 256) (h : gmul a b = 1) : b = invN a := by
  have hI := invN_lt a ha
  have h1 : gmul (invN a) (gmul a b) = invN a := by rw [h, gmul_one _ hI]
  rw [← gmul_assoc _ _ _ hI ha hb] at h1
  have h2 : gmul (invN a) a = 1 := by rw [gmul_comm _ _ hI ha]; exact gmul_inv a h0 ha
  rw [h2, one_gmul b hb] at h1
  exact h1
theorem rInv_l (a : Nat) (h0 : 0 < a) (ha : a < 256) : ∀ (d i : Nat), i + d = invN a → Ev (fun k => quietusref04_Inv.l0 k (a : Int) (i : Int)) ((invN a : Nat) : Int) := by
  have hI := invN_lt a ha
  intro d
  induction d with
  | zero =>
    intro i hi
    obtain rfl : i = invN a := by omega
    refine Ev.step (fun k => by rw [quietusref04_Inv.l0]) ?_
    rw [show ((invN a : Nat) : Int) % 256 = ((invN a : Nat) : Int) by omega]
    refine Ev.pos_ (by omega) (Ev.bind (rMul_ev a _ ha hI) (Ev.pos_ (by rw [gmul_inv a h0 ha]; rfl) (Ev.now _)))
  | succ d ih =>
    intro i hi
    refine Ev.step (fun k => by rw [quietusref04_Inv.l0]) ?_
    rw [show (i : Int) % 256 = (i : Int) by omega]
    refine Ev.pos_ (by omega) (Ev.bind (rMul_ev a i ha (by omega)) (Ev.neg_ (fun h => ?_) ?_))
    · have := inv_unique a i h0 ha (by omega) (Int.ofNat_inj.1 h)
      omega
    · rw [w64 (by omega) (by omega)]
      exact ih (i + 1) (by omega)
theorem rInv_ev (a : Nat) (h0 : 0 < a) (ha : a < 256) : Ev (fun k => quietusref04_Inv.f k (a : Int)) ((invN a : Nat) : Int) := by
  have hp : 0 < invN a := by
    rcases Nat.eq_zero_or_pos (invN a) with h | h
    · have := gmul_inv a h0 ha
      rw [h, gmul_zero] at this
      omega
    · exact h
  exact rInv_l a h0 ha (invN a - 1) 1 (by omega)
theorem rLog_l (a j : Nat) (hj : j < 255) (he : E2 j = a) : ∀ (d i : Nat), i + d = j → Ev (fun k => quietusref04_Log.l0 k (a : Int) (i : Int)) (j : Int) := by
  intro d
  induction d with
  | zero =>
    intro i hi
    obtain rfl : i = j := by omega
    refine Ev.step (fun k => by rw [quietusref04_Log.l0]) ?_
    have := rExp_ev (i : Int)
    rw [show ((i : Int) % 255).toNat = i by omega, he] at this
    exact Ev.pos_ (by omega) (Ev.bind this (Ev.pos_ rfl (Ev.now _)))
  | succ d ih =>
    intro i hi
    refine Ev.step (fun k => by rw [quietusref04_Log.l0]) ?_
    have := rExp_ev (i : Int)
    rw [show ((i : Int) % 255).toNat = i by omega] at this
    refine Ev.pos_ (by omega) (Ev.bind this (Ev.neg_ (fun h => ?_) ?_))
    · have := E2_inj i j (by omega) hj (by rw [he]; exact Int.ofNat_inj.1 h)
      omega
    · rw [w64 (by omega) (by omega)]
      exact ih (i + 1) (by omega)
theorem rLog_ev (a j : Nat) (hj : j < 255) (he : E2 j = a) : Ev (fun k => quietusref04_Log.f k (a : Int)) (j : Int) := rLog_l a j hj he j 0 (by omega)
theorem sane04 : Ev (fun k => quietuslaw04_sanity.f k) true := Ev.of (fun k => quietuslaw04_sanity.mono k) (k := 300) (by kernel_rfl)
theorem wf_u8 {a : Int} (h : (Lit.int .u8 a).wf = true) : ∃ n : Nat, a = (n : Int) ∧ n < 256 := by
  simp only [Lit.wf, Bool.and_eq_true, decide_eq_true_eq] at h
  have h1 : (0 : Int) ≤ a := h.1
  have h2 : a ≤ 255 := h.2
  exact ⟨a.toNat, by omega, by omega⟩

end Go.Proofs.YtgfnllaajaoljaaDoor.QA
