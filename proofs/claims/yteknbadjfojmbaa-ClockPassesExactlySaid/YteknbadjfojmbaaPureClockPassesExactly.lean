-- What this claim does not use was left out by prune.py, a program of this session.
import Derived.Test.YteknbadjfojmbaaSClockPassesExactly
import Derived.Test.YteknbadjfojmbaaPureClkC
namespace Go.Proofs.Yteknbadjfojmbaa.QA
open Go.RowKit Go.Proofs.YteknbadjfojmbaaW.PrintWords Go.Proofs.YteknbadjfojmbaaW.PrintLast Go.Proofs.YteknbadjfojmbaaW.PrintMore
attribute [local go_sem] max2_int min2_int max_two min_two max_three min_three max_four min_four
set_option linter.unusedVariables false
set_option linter.unusedSimpArgs false
theorem PureClockPassesExactly.proof : ClockPassesExactly.Pure := by
  intro x y z hx hy hz
  have b0 : 0 ≤ x ∧ x ≤ 4294967295 := by
    simp only [Lit.wf, Bool.and_eq_true, decide_eq_true_eq] at hx
    exact ⟨hx.1, hx.2⟩
  have b1 : 0 ≤ y ∧ y ≤ 65535 := by
    simp only [Lit.wf, Bool.and_eq_true, decide_eq_true_eq] at hy
    exact ⟨hy.1, hy.2⟩
  have b2 : 0 ≤ z ∧ z ≤ 65535 := by
    simp only [Lit.wf, Bool.and_eq_true, decide_eq_true_eq] at hz
    exact ⟨hz.1, hz.2⟩
  unfold quietuslaw14_ClockPassesExactly.f
  rw [w64 (n := x) (by omega) (by omega), w64 (n := y) (by omega) (by omega), w64 (n := z) (by omega) (by omega)]
  rw [Int.tmod_eq_emod_of_nonneg b0.1, Int.tmod_eq_emod_of_nonneg b1.1, Int.tmod_eq_emod_of_nonneg b2.1]
  have c0 : 0 ≤ x % 100001 ∧ x % 100001 ≤ 100000 := by omega
  have c1 : 0 ≤ y % 301 ∧ y % 301 ≤ 300 := by omega
  have c2 : 0 ≤ z % 401 ∧ z % 401 ≤ 400 := by omega
  generalize x % 100001 = r at *
  generalize y % 301 = d at *
  generalize z % 401 = n at *
  have hs : 0 ≤ d ∧ d ≤ 3600000000 := by omega
  have ep : pasd r d = (loP r d, hiP r d, 0) := if_pos ⟨c0, hs⟩
  rw [pasd_some, ep, Option.bind_some, sanity14, Option.bind_some, if_pos rfl, if_pos rfl]
  have m0 : 0 ≤ n * r := Int.mul_nonneg c2.1 c0.1
  have m1 : n * r ≤ 400 * 100000 := Int.mul_le_mul c2.2 c0.2 c0.1 (by omega)
  have e1 : n * (1000000 - r) = n * 1000000 - n * r := Int.mul_sub _ _ _
  have e2 : n * (1000000 + r) = n * 1000000 + n * r := Int.mul_add _ _ _
  rw [w64 (n := 1000000 - r) (by omega) (by omega), w64 (n := 1000000 + r) (by omega) (by omega), w64 (n := d - 1) (by omega) (by omega), w64 (n := d + 1) (by omega) (by omega)]
  rw [w64 (n := n * (1000000 - r)) (by omega) (by omega), w64 (n := n * (1000000 + r)) (by omega) (by omega), w64 (n := (d - 1) * 1000000) (by omega) (by omega), w64 (n := (d + 1) * 1000000) (by omega) (by omega)]
  rw [w64 (n := (d - 1) * 1000000 + 1) (by omega) (by omega), w64 (n := (d + 1) * 1000000 - 1) (by omega) (by omega)]
  have i1 : n ≤ hiP r d ↔ n * (1000000 - r) ≤ (d + 1) * 1000000 - 1 := by
    unfold hiP clock_bounds.hi
    exact Int.le_ediv_iff_mul_le (by omega)
  have i2 : loP r d ≤ n ↔ (d - 1) * 1000000 + 1 ≤ n * (1000000 + r) := by
    unfold loP clock_bounds.lo
    split
    · have : (d - 1) * 1000000 / (1000000 + r) < n ↔ (d - 1) * 1000000 < n * (1000000 + r) := Int.ediv_lt_iff_lt_mul (by omega)
      omega
    · have : 0 ≤ n * (1000000 + r) := by omega
      omega
  have i3 : mx (n * (1000000 - r)) ((d - 1) * 1000000 + 1) ≤ mn (n * (1000000 + r)) ((d + 1) * 1000000 - 1) ↔ loP r d ≤ n ∧ n ≤ hiP r d := by
    rw [i1, i2, e1, e2]
    unfold mx mn
    split <;> split <;> omega
  by_cases h1 : loP r d ≤ n
  · rw [if_pos h1]
    congr 1
    rw [beq_iff_eq, decide_eq_decide, i3]
    exact ⟨fun h => ⟨h1, h⟩, fun h => h.2⟩
  · rw [if_neg h1]
    congr 1
    rw [beq_iff_eq]
    symm
    rw [decide_eq_false_iff_not, i3]
    exact fun h => h1 h.1
end Go.Proofs.Yteknbadjfojmbaa.QA
