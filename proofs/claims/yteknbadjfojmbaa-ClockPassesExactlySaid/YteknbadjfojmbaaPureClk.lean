-- What this claim does not use was left out by prune.py, a program of this session.
import Derived.Test.YteknbadjfojmbaaQA21
import Derived.Test.YteknbadjfojmbaaQA21
import Derived.Test.YteknbadjfojmbaaQA22
import Derived.Test.YteknbadjfojmbaaQA27
namespace Go.Proofs.Yteknbadjfojmbaa.QA
open Go.RowKit Go.Proofs.YteknbadjfojmbaaW.PrintWords Go.Proofs.YteknbadjfojmbaaW.PrintLast Go.Proofs.YteknbadjfojmbaaW.PrintMore
attribute [local go_sem] max2_int min2_int max_two min_two max_three min_three max_four min_four
set_option linter.unusedVariables false
set_option linter.unusedSimpArgs false
theorem w64 {n : Int} (h0 : -9223372036854775808 ≤ n) (h1 : n < 9223372036854775808) : wrap64 n = n := by unfold wrap64; omega
abbrev RT := S58
theorem some_dec {b : Bool} {p : Prop} [Decidable p] (h : b = true ↔ p) : some b = some (decide p) := by
  congr 1
  by_cases hp : p
  · rw [h.2 hp, decide_eq_true hp]
  · cases b with
    | true => exact absurd (h.1 rfl) hp
    | false => rw [decide_eq_false hp]
theorem some_no {p : Prop} [Decidable p] (h : ¬ p) : some false = some (decide p) := by rw [decide_eq_false h]
theorem inst1 (a : Int) : clock_instants.f [a] = some (decide (0 ≤ a ∧ a ≤ 3600000000)) := by
  simp only [clock_instants.f, slices_Min_int_int.f, slices_Max_int_int.f, List.foldl, Option.bind_some]
  split
  · exact some_dec (by rw [decide_eq_true_eq]; omega)
  · exact some_no (by omega)
def V (a b : Int) : Prop := 0 ≤ a ∧ a ≤ b ∧ b ≤ 3600000000
instance (a b : Int) : Decidable (V a b) := by unfold V; exact inferInstance
def okR (r : RT) : Prop := 0 ≤ r.f0 ∧ r.f0 ≤ 3600000000 ∧ V r.f1.f0 r.f1.f1
instance (r : RT) : Decidable (okR r) := by unfold okR; exact inferInstance
abbrev hiP := clock_bounds.hi
abbrev loP := clock_bounds.lo
theorem ediv_bd {a d c : Int} (hd : 0 < d) (h : a ≤ c * d) : a / d ≤ c := by
  have := Int.ediv_le_ediv hd h
  rwa [Int.mul_ediv_cancel _ (by omega)] at this
theorem hi_bd {rate s : Int} (hr : 0 ≤ rate ∧ rate ≤ 100000) (hs : 0 ≤ s ∧ s ≤ 3600000000) : 0 ≤ hiP rate s ∧ hiP rate s ≤ 4000000002 := by
  unfold hiP clock_bounds.hi
  refine ⟨Int.ediv_nonneg (by omega) (by omega), ediv_bd (by omega) (by omega)⟩
theorem lo_bd {rate s : Int} (hr : 0 ≤ rate ∧ rate ≤ 100000) (hs : 0 ≤ s ∧ s ≤ 3600000000) : 0 ≤ loP rate s ∧ loP rate s ≤ 3600000000 := by
  unfold loP clock_bounds.lo
  split
  · have h1 : 0 ≤ (s - 1) * 1000000 / (1000000 + rate) := Int.ediv_nonneg (by omega) (by omega)
    have h2 : (s - 1) * 1000000 / (1000000 + rate) ≤ s - 1 := ediv_bd (by omega) (Int.mul_le_mul_of_nonneg_left (by omega) (by omega))
    omega
  · omega
theorem passed_ {rate s : Int} (hr : 0 ≤ rate ∧ rate ≤ 100000) (hs : 0 ≤ s ∧ s ≤ 3600000000) : clock_passed.f rate s = some (loP rate s, hiP rate s) := by
  have h1 := hi_bd hr hs
  have h2 := lo_bd hr hs
  unfold clock_passed.f
  unfold hiP clock_bounds.hi at *
  unfold loP clock_bounds.lo at *
  have a1 : wrap64 (1000000 + rate) = 1000000 + rate := w64 (by omega) (by omega)
  have a2 : wrap64 (1000000 - rate) = 1000000 - rate := w64 (by omega) (by omega)
  have a3 : wrap64 (s + 1) = s + 1 := w64 (by omega) (by omega)
  have a4 : wrap64 (s - 1) = s - 1 := w64 (by omega) (by omega)
  have a5 : wrap64 ((s + 1) * 1000000) = (s + 1) * 1000000 := w64 (by omega) (by omega)
  have a6 : wrap64 ((s - 1) * 1000000) = (s - 1) * 1000000 := w64 (by omega) (by omega)
  have a7 : wrap64 ((s + 1) * 1000000 - 1) = (s + 1) * 1000000 - 1 := w64 (by omega) (by omega)
  rw [a1, a2, a3, a4, a5, a6, a7, Int.tdiv_eq_ediv_of_nonneg (show 0 ≤ (s + 1) * 1000000 - 1 by omega)]
  rw [w64 (n := ((s + 1) * 1000000 - 1) / (1000000 - rate)) (by omega) (by omega)]
  by_cases h : 0 < s
  · rw [if_pos h] at h2
    rw [if_pos h, if_pos h, if_neg (by omega), if_neg (by omega), Int.tdiv_eq_ediv_of_nonneg (show 0 ≤ (s - 1) * 1000000 by omega)]
    rw [w64 (n := (s - 1) * 1000000 / (1000000 + rate)) (by omega) (by omega), w64 (by omega) (by omega)]
  · rw [if_neg h, if_neg h, if_neg (by omega)]
def pasd (rate s : Int) : Int × Int × Int := if (0 ≤ rate ∧ rate ≤ 100000) ∧ 0 ≤ s ∧ s ≤ 3600000000 then (loP rate s, hiP rate s, 0) else (0, 0, 3)
theorem pasd_some (rate s : Int) : clock_Passed.f rate s = some (pasd rate s) := by
  unfold clock_Passed.f pasd
  rw [inst1]
  simp only [Option.bind_some, decide_eq_true_eq]
  split
  · rw [if_neg (by omega)]
  · split
    · rw [if_neg (by omega)]
    · split
      · rename_i h
        rw [passed_ ⟨by omega, by omega⟩ h, if_pos ⟨by omega, h⟩]
        rfl
      · rename_i h
        rw [if_neg (fun h' => h h'.2)]
end Go.Proofs.Yteknbadjfojmbaa.QA
