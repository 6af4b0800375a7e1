/- Lemmas in plain Lean. -/
import Derived.Test.YteknbadjfojmbaaQA15
import Derived.Test.YteknbadjfojmbaaPureDomMore
namespace Go.Proofs.Yteknbadjfojmbaa.QA
open Go.RowKit Go.Proofs.YteknbadjfojmbaaW.PrintWords Go.Proofs.YteknbadjfojmbaaW.PrintLast Go.Proofs.YteknbadjfojmbaaW.PrintMore
attribute [local go_sem] max2_int min2_int max_two min_two max_three min_three max_four min_four
set_option linter.unusedVariables false
set_option linter.unusedSimpArgs false
/-! Sets of pieces as bits. -/
def bitsN : Nat → (Nat → Bool) → Nat
  | 0, _ => 0
  | n + 1, f => (if f 0 = true then 1 else 0) + 2 * bitsN n (fun i => f (i + 1))
theorem bitsN_lt : ∀ (n : Nat) (f : Nat → Bool), bitsN n f < 2 ^ n
  | 0, _ => by simp [bitsN]
  | n + 1, f => by
    have := bitsN_lt n (fun i => f (i + 1))
    unfold bitsN
    rw [Nat.pow_succ]
    split <;> omega
theorem bitsN_top : ∀ (n : Nat) (f : Nat → Bool), bitsN (n + 1) f = bitsN n f + (if f n = true then 2 ^ n else 0)
  | 0, f => by simp [bitsN]
  | n + 1, f => by
    rw [bitsN, bitsN_top n (fun i => f (i + 1)), bitsN]
    simp only [Nat.pow_succ]
    split <;> split <;> omega
theorem bitsN_congr : ∀ (n : Nat) (f g : Nat → Bool), (∀ i, i < n → f i = g i) → bitsN n f = bitsN n g
  | 0, _, _, _ => rfl
  | n + 1, f, g, h => by
    unfold bitsN
    rw [h 0 (by omega), bitsN_congr n _ _ (fun i hi => h (i + 1) (by omega))]
theorem bitsN_test : ∀ (n : Nat) (f : Nat → Bool) (i : Nat), (bitsN n f).testBit i = (decide (i < n) && f i)
  | 0, f, i => by simp [bitsN]
  | n + 1, f, 0 => by
    unfold bitsN
    rw [Nat.testBit_zero]
    split
    · rename_i h
      rw [h]
      simp
    · rename_i h
      rw [Bool.eq_false_iff.2 h]
      simp
  | n + 1, f, i + 1 => by
    unfold bitsN
    rw [Nat.testBit_succ, show ((if f 0 = true then 1 else 0) + 2 * bitsN n (fun i => f (i + 1))) / 2 = bitsN n (fun i => f (i + 1)) by split <;> omega, bitsN_test n _ i]
    simp
def countN : Nat → (Nat → Bool) → Nat
  | 0, _ => 0
  | n + 1, f => (if f 0 = true then 1 else 0) + countN n (fun i => f (i + 1))
theorem countN_top : ∀ (n : Nat) (f : Nat → Bool), countN (n + 1) f = countN n f + (if f n = true then 1 else 0)
  | 0, f => by simp [countN]
  | n + 1, f => by
    rw [countN, countN_top n (fun i => f (i + 1)), countN]
    omega
theorem countN_le : ∀ (n : Nat) (f : Nat → Bool), countN n f ≤ n
  | 0, _ => by simp [countN]
  | n + 1, f => by
    have := countN_le n (fun i => f (i + 1))
    unfold countN
    split <;> omega
theorem countN_part : ∀ (n : Nat) (f g h : Nat → Bool), (∀ i, i < n → (f i = (g i || h i)) ∧ (g i && h i) = false) → countN n f = countN n g + countN n h
  | 0, _, _, _, _ => rfl
  | n + 1, f, g, h, hh => by
    unfold countN
    rw [countN_part n _ (fun i => g (i + 1)) (fun i => h (i + 1)) (fun i hi => hh (i + 1) (by omega))]
    obtain ⟨h1, h2⟩ := hh 0 (by omega)
    rw [h1]
    cases hg : g 0 <;> cases hx : h 0 <;> simp_all <;> omega
theorem count_l : ∀ (n : Nat) (f : Nat → Bool) (x3 : Int), n ≤ 62 → 0 ≤ x3 → x3 + n < 9223372036854775807 → Ev (fun k => quietusref07_Count.l0 k (bitsN n f : Int) x3) (x3 + countN n f)
  | 0, f, x3, _, _, _ => by
    refine Ev.step (fun k => by rw [quietusref07_Count.l0]) ?_
    exact Ev.neg_ (by simp [bitsN]) (Ev.eq_ (Ev.now _) (by simp [countN]))
  | n + 1, f, x3, hn, h0, h1 => by
    by_cases hz : bitsN (n + 1) f = 0
    · have hc : ∀ (m : Nat) (g : Nat → Bool), bitsN m g = 0 → countN m g = 0 := by
        intro m
        induction m with
        | zero => intro g _; rfl
        | succ m ih =>
          intro g hg
          unfold bitsN at hg
          unfold countN
          have h2 := ih (fun i => g (i + 1)) (by split at hg <;> omega)
          rw [h2]
          split
          · rename_i hh; rw [if_pos hh] at hg; omega
          · rfl
      refine Ev.step (fun k => by rw [quietusref07_Count.l0]) ?_
      rw [hz, hc _ _ hz]
      exact Ev.neg_ (by simp) (Ev.eq_ (Ev.now _) (by simp))
    · have hb := bitsN_lt (n + 1) f
      have hb2 : (2 : Nat) ^ (n + 1) ≤ 2 ^ 63 := Nat.pow_le_pow_right (by omega) (by omega)
      refine Ev.step (fun k => by rw [quietusref07_Count.l0]) ?_
      refine Ev.pos_ (by omega) ?_
      have e1 : Int.tdiv (bitsN (n + 1) f : Int) 2 = (bitsN n (fun i => f (i + 1)) : Int) := by
        rw [Int.tdiv_eq_ediv_of_nonneg (by omega)]
        rw [bitsN]
        split <;> omega
      have e2 : Int.tmod (bitsN (n + 1) f : Int) 2 = (if f 0 = true then 1 else 0) := by
        rw [Int.tmod_eq_emod_of_nonneg (by omega)]
        rw [bitsN]
        split <;> omega
      have hb3 := bitsN_lt n (fun i => f (i + 1))
      have hb4 : (2 : Nat) ^ n ≤ 2 ^ 62 := Nat.pow_le_pow_right (by omega) (by omega)
      rw [e1, e2, w64 (by omega) (by omega), w64 (by split <;> omega) (by split <;> omega)]
      refine Ev.eq_ (count_l n (fun i => f (i + 1)) (x3 + if f 0 = true then 1 else 0) (by omega) (by split <;> omega) (by split <;> omega)) ?_
      rw [countN]
      split <;> omega
theorem count_ev (n : Nat) (f : Nat → Bool) (hn : n ≤ 62) : Ev (fun k => quietusref07_Count.f k (bitsN n f : Int)) (countN n f : Int) := by
  unfold quietusref07_Count.f
  exact Ev.eq_ (count_l n f 0 hn (by omega) (by omega)) (by omega)
theorem toInt64 (x : Nat) (h : x < 9223372036854775808) : IntKind.i64.wrap (x : Int) = (x : Int) := by
  rw [IntKind.wrap_i64]
  omega
theorem bits_and (a b : Nat) (ha : a < 4611686018427387904) (hb : b < 4611686018427387904) : Go.bits .and .i64 (a : Int) (b : Int) = ((a &&& b : Nat) : Int) := by
  have h1 : a &&& b < 4611686018427387904 := Nat.and_lt_two_pow (n := 62) a hb
  show IntKind.i64.wrap ((BitVec.ofInt 64 (a : Int) &&& BitVec.ofInt 64 (b : Int)).toNat : Int) = _
  rw [BitVec.toNat_and, BitVec.ofInt_natCast, BitVec.ofInt_natCast, BitVec.toNat_ofNat, BitVec.toNat_ofNat, Nat.mod_eq_of_lt (show a < 2 ^ 64 by omega), Nat.mod_eq_of_lt (show b < 2 ^ 64 by omega)]
  exact toInt64 _ (by omega)
theorem bits_or (a b : Nat) (ha : a < 4611686018427387904) (hb : b < 4611686018427387904) : Go.bits .or .i64 (a : Int) (b : Int) = ((a ||| b : Nat) : Int) := by
  have h1 : a ||| b < 4611686018427387904 := Nat.or_lt_two_pow (n := 62) ha hb
  show IntKind.i64.wrap ((BitVec.ofInt 64 (a : Int) ||| BitVec.ofInt 64 (b : Int)).toNat : Int) = _
  rw [BitVec.toNat_or, BitVec.ofInt_natCast, BitVec.ofInt_natCast, BitVec.toNat_ofNat, BitVec.toNat_ofNat, Nat.mod_eq_of_lt (show a < 2 ^ 64 by omega), Nat.mod_eq_of_lt (show b < 2 ^ 64 by omega)]
  exact toInt64 _ (by omega)
theorem bits_andNot (a b : Nat) (h : ∀ i, a.testBit i = true → b.testBit i = true) : Go.bits .andNot .i64 (a : Int) (b : Int) = 0 := by
  have e : (BitVec.ofInt 64 (a : Int) &&& ~~~ BitVec.ofInt 64 (b : Int)) = 0#64 := by
    apply BitVec.eq_of_getLsbD_eq
    intro i hi
    rw [BitVec.ofInt_natCast, BitVec.ofInt_natCast, BitVec.getLsbD_and, BitVec.getLsbD_not, BitVec.getLsbD_ofNat, BitVec.getLsbD_ofNat]
    have := h i
    cases ha : a.testBit i <;> cases hb : b.testBit i <;> simp_all
  show IntKind.i64.wrap ((BitVec.ofInt 64 (a : Int) &&& ~~~ BitVec.ofInt 64 (b : Int)).toNat : Int) = _
  rw [e]
  exact toInt64 0 (by omega)

end Go.Proofs.Yteknbadjfojmbaa.QA
