/- Lemmas in plain Lean. -/
import Derived.Test.YteknbadjfojmbaaPureDom
namespace Go.Proofs.Yteknbadjfojmbaa.QA
open Go.RowKit Go.Proofs.YteknbadjfojmbaaW.PrintWords Go.Proofs.YteknbadjfojmbaaW.PrintLast Go.Proofs.YteknbadjfojmbaaW.PrintMore
attribute [local go_sem] max2_int min2_int max_two min_two max_three min_three max_four min_four
set_option linter.unusedVariables false
set_option linter.unusedSimpArgs false
/-! More on domains. -/
theorem members_len (D : List Int) (R : List RackT) (H : List Int) (O level n : Int) : (membersN D R H O level n).length ≤ D.length := by
  unfold membersN
  rw [List.length_map]
  exact Nat.le_trans (List.length_filter_le _ _) (by simp)
theorem of_ok {D : List Int} {R : List RackT} {H : List Int} {O : Int} (h : OkD D R H O) {lv i : Int} (h0 : 0 ≤ lv) (h3 : lv ≤ 3) (hi : 0 ≤ i ∧ i < D.length) : ofN D R H O lv i = atN D R H lv i := by
  unfold ofN
  exact if_pos ⟨chkD_of h, h0, h3, hi.1, hi.2⟩
theorem at_in {D : List Int} {R : List RackT} {H : List Int} {O : Int} (h : OkD D R H O) {lv i : Int} (h0 : 0 ≤ lv) (h3 : lv ≤ 3) (hi : 0 ≤ i ∧ i < D.length) : 0 ≤ atN D R H lv i ∧ atN D R H lv i < sizeN D R H O lv := by
  have hs : sizeN D R H O lv = if lv = 0 then (D.length : Int) else if lv = 1 then (R.length : Int) else if lv = 2 then (H.length : Int) else if lv = 3 then O else 0 := by
    unfold sizeN
    exact if_pos (chkD_of h)
  rw [hs]
  have : lv = 0 ∨ lv = 1 ∨ lv = 2 ∨ lv = 3 := by omega
  rcases this with rfl | rfl | rfl | rfl
  · exact hi
  · exact rack_in h hi.1 hi.2
  · exact house_in h hi.1 hi.2
  · exact owner_in h hi.1 hi.2
theorem u8_wf {a : Int} (h : (Lit.int .u8 a).wf = true) : 0 ≤ a ∧ a < 256 := by
  simp only [Lit.wf, Bool.and_eq_true, decide_eq_true_eq] at h
  have h1 : (0 : Int) ≤ a := h.1
  have h2 : a ≤ 255 := h.2
  omega
theorem at_up {D : List Int} {R : List RackT} {H : List Int} {lv a b : Int} (h0 : 0 ≤ lv) (h3 : lv < 3) (he : atN D R H lv a = atN D R H lv b) : atN D R H (lv + 1) a = atN D R H (lv + 1) b := by
  have : lv = 0 ∨ lv = 1 ∨ lv = 2 := by omega
  rcases this with rfl | rfl | rfl
  · have e : a = b := he
    rw [e]
  · have e : rackN D a = rackN D b := he
    show houseN D R a = houseN D R b
    unfold rackN at e
    unfold houseN
    rw [e]
  · have e : houseN D R a = houseN D R b := he
    show ownerN D R H a = ownerN D R H b
    unfold ownerN
    rw [e]
theorem mem_at {D : List Int} {R : List RackT} {H : List Int} {O lv n : Int} (t : Nat) (ht : t < (membersN D R H O lv n).length) :
    0 ≤ (membersN D R H O lv n)[t] ∧ (membersN D R H O lv n)[t] < D.length ∧ ofN D R H O lv (membersN D R H O lv n)[t] = n := by
  have hm := List.getElem_mem ht
  unfold membersN at hm
  obtain ⟨i, hi, he⟩ := List.mem_map.1 hm
  obtain ⟨h1, h2⟩ := List.mem_filter.1 hi
  have h1 := List.mem_range.1 h1
  unfold hitN at h2
  simp only [Bool.and_eq_true, decide_eq_true_eq, beq_iff_eq] at h2
  have he' : (membersN D R H O lv n)[t] = (i : Int) := he.symm
  rw [he']
  exact ⟨by omega, by omega, h2.2⟩

end Go.Proofs.Yteknbadjfojmbaa.QA
