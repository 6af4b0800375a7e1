-- What this claim does not use was left out by prune.py, a program of this session.
import Derived.Test.YteknbadjfojmbaaQA7
import Derived.Test.YteknbadjfojmbaaQA5
import Derived.Test.YteknbadjfojmbaaQA10
import Derived.Test.YteknbadjfojmbaaQA7
namespace Go.Proofs.Yteknbadjfojmbaa.QA
open Go.RowKit Go.Proofs.YteknbadjfojmbaaW.PrintWords Go.Proofs.YteknbadjfojmbaaW.PrintLast Go.Proofs.YteknbadjfojmbaaW.PrintMore
attribute [local go_sem] max2_int min2_int max_two min_two max_three min_three max_four min_four
set_option linter.unusedVariables false
set_option linter.unusedSimpArgs false
theorem Ev.pos_ {α : Type} {c : Prop} [Decidable c] {A B : Nat → Option α} {r : α} (h : c) (k : Ev A r) : Ev (fun n => if c then A n else B n) r := by simpa only [if_pos h] using k
theorem Ev.neg_ {α : Type} {c : Prop} [Decidable c] {A B : Nat → Option α} {r : α} (h : ¬ c) (k : Ev B r) : Ev (fun n => if c then A n else B n) r := by simpa only [if_neg h] using k
theorem Ev.const_ {α : Type} {o : Option α} {r : α} (h : o = some r) : Ev (fun _ => o) r := ⟨0, fun _ _ => h⟩
theorem Ev.known_ {α β : Type} {o : Option α} {f : Nat → α → Option β} {a : α} {r : β} (h : o = some a) (k : Ev (fun n => f n a) r) : Ev (fun n => o.bind (f n)) r := Ev.bind (Ev.const_ h) k
theorem Ev.eq_ {α : Type} {g : Nat → Option α} {r r' : α} (h : Ev g r) (e : r = r') : Ev g r' := e ▸ h
theorem w64 {n : Int} (h0 : -9223372036854775808 ≤ n) (h1 : n < 9223372036854775808) : wrap64 n = n := by unfold wrap64; omega
abbrev RackT := S117
theorem rd_nat (l : List Int) (i : Nat) (h : i < l.length) : rd l (i : Int) = l[i] := by
  unfold rd
  rw [Int.toNat_natCast, List.getD_eq_getElem?_getD, List.getElem?_eq_getElem h]
  rfl
theorem rdT_nat (l : List RackT) (i : Nat) (h : i < l.length) : rd_T117 l (i : Int) = l[i] := by
  unfold rd_T117
  rw [Int.toNat_natCast, List.getD_eq_getElem?_getD, List.getElem?_eq_getElem h]
  rfl
def chkD (D : List Int) (R : List RackT) (H : List Int) (O : Int) : Int :=
  if 64 < D.length ∨ 24 < R.length ∨ 12 < H.length ∨ O < 0 ∨ 8 < O then 2 else
  if D.any (domain_Check.out R.length) = true then 1 else
  if H.any (domain_Check.out O) = true then 1 else
  if R.any (fun r => domain_Check.out H.length r.f0) = true then 1 else 0
theorem chk_some (D : List Int) (R : List RackT) (H : List Int) (O : Int) : domain_Check.f D R H O = some (chkD D R H O) := by
  unfold domain_Check.f chkD
  split
  · rfl
  · split
    · rfl
    · split
      · rfl
      · split <;> rfl
structure OkD (D : List Int) (R : List RackT) (H : List Int) (O : Int) : Prop where
  d : D.length ≤ 64
  r : R.length ≤ 24
  h : H.length ≤ 12
  o : 0 ≤ O ∧ O ≤ 8
  rack : ∀ i, (hi : i < D.length) → 0 ≤ D[i] ∧ D[i] < R.length
  house : ∀ i, (hi : i < R.length) → 0 ≤ R[i].f0 ∧ R[i].f0 < H.length
  owner : ∀ i, (hi : i < H.length) → 0 ≤ H[i] ∧ H[i] < O
theorem any_out {l : List Int} {n : Int} (h : ¬ l.any (domain_Check.out n) = true) : ∀ i, (hi : i < l.length) → 0 ≤ l[i] ∧ l[i] < n := by
  intro i hi
  have h1 := List.any_eq_false.1 (Bool.eq_false_iff.2 h) l[i] (List.getElem_mem hi)
  unfold domain_Check.out at h1
  simp only [Bool.or_eq_true, decide_eq_true_eq] at h1
  omega
theorem okD_of {D : List Int} {R : List RackT} {H : List Int} {O : Int} (h : chkD D R H O = 0) : OkD D R H O := by
  unfold chkD at h
  split at h
  · cases h
  · rename_i h0
    split at h
    · cases h
    · rename_i h1
      split at h
      · cases h
      · rename_i h2
        split at h
        · cases h
        · rename_i h3
          refine ⟨by omega, by omega, by omega, by omega, any_out h1, ?_, any_out h2⟩
          intro i hi
          have h4 := List.any_eq_false.1 (Bool.eq_false_iff.2 h3) R[i] (List.getElem_mem hi)
          unfold domain_Check.out at h4
          simp only [Bool.or_eq_true, decide_eq_true_eq] at h4
          omega
theorem chkD_of {D : List Int} {R : List RackT} {H : List Int} {O : Int} (h : OkD D R H O) : chkD D R H O = 0 := by
  have nd : ∀ {l : List Int} {n : Int}, (∀ i, (hi : i < l.length) → 0 ≤ l[i] ∧ l[i] < n) → ¬ l.any (domain_Check.out n) = true := by
    intro l n hl he
    obtain ⟨x, hx, hb⟩ := List.any_eq_true.1 he
    obtain ⟨i, hi, rfl⟩ := List.mem_iff_getElem.1 hx
    have := hl i hi
    unfold domain_Check.out at hb
    simp only [Bool.or_eq_true, decide_eq_true_eq] at hb
    omega
  unfold chkD
  have h1 := h.d
  have h2 := h.r
  have h3 := h.h
  have h4 := h.o
  rw [if_neg (by omega), if_neg (nd h.rack), if_neg (nd h.owner), if_neg]
  intro he
  obtain ⟨x, hx, hb⟩ := List.any_eq_true.1 he
  obtain ⟨i, hi, rfl⟩ := List.mem_iff_getElem.1 hx
  have := h.house i hi
  unfold domain_Check.out at hb
  simp only [Bool.or_eq_true, decide_eq_true_eq] at hb
  omega
def rackN (D : List Int) (i : Int) : Int := rd D i
def houseN (D : List Int) (R : List RackT) (i : Int) : Int := (rd_T117 R (rd D i)).f0
def ownerN (D : List Int) (R : List RackT) (H : List Int) (i : Int) : Int := rd H (houseN D R i)
def atN (D : List Int) (R : List RackT) (H : List Int) (level i : Int) : Int :=
  if level = 0 then i else if level = 1 then rackN D i else if level = 2 then houseN D R i else ownerN D R H i
def ofN (D : List Int) (R : List RackT) (H : List Int) (O level i : Int) : Int :=
  if chkD D R H O = 0 ∧ 0 ≤ level ∧ level ≤ 3 ∧ 0 ≤ i ∧ i < D.length then atN D R H level i else -1
theorem rack_in {D : List Int} {R : List RackT} {H : List Int} {O : Int} (h : OkD D R H O) {i : Int} (h0 : 0 ≤ i) (h1 : i < D.length) : 0 ≤ rackN D i ∧ rackN D i < R.length := by
  obtain ⟨n, rfl⟩ := Int.eq_ofNat_of_zero_le h0
  unfold rackN
  rw [rd_nat D n (by omega)]
  exact h.rack n (by omega)
theorem house_in {D : List Int} {R : List RackT} {H : List Int} {O : Int} (h : OkD D R H O) {i : Int} (h0 : 0 ≤ i) (h1 : i < D.length) : 0 ≤ houseN D R i ∧ houseN D R i < H.length := by
  obtain ⟨a, b⟩ := rack_in h h0 h1
  unfold houseN
  unfold rackN at a b
  obtain ⟨n, hn⟩ := Int.eq_ofNat_of_zero_le a
  rw [hn] at b ⊢
  rw [rdT_nat R n (by omega)]
  exact h.house n (by omega)
theorem of_some (k : Nat) (D : List Int) (R : List RackT) (H : List Int) (O level i : Int) : domain_Of.f (k + 1) D R H O level i = some (ofN D R H O level i) := by
  unfold domain_Of.f ofN
  rw [chk_some]
  simp only [Option.bind_some]
  by_cases hc : chkD D R H O = 0
  · rw [if_pos hc]
    by_cases h1 : level < 0
    · rw [if_pos h1, if_neg (by omega)]
    rw [if_neg h1]
    by_cases h2 : level > 3
    · rw [if_pos h2, if_neg (by omega)]
    rw [if_neg h2]
    by_cases h3 : i < 0
    · rw [if_pos h3, if_neg (by omega)]
    rw [if_neg h3]
    by_cases h4 : i ≥ (D.length : Int)
    · rw [if_pos h4, if_neg (by omega)]
    rw [if_neg h4, if_pos (by omega)]
    have ok := okD_of hc
    have hr := rack_in ok (i := i) (by omega) (by omega)
    have hh := house_in ok (i := i) (by omega) (by omega)
    unfold domain_climb.f atN
    rw [if_pos rfl]
    by_cases e0 : level = 0
    · rw [if_pos e0, if_pos e0]; rfl
    rw [if_neg e0, if_neg e0, if_pos (by omega), if_pos (by omega), domain_climb.j0]
    by_cases e1 : level = 1
    · rw [if_pos e1, if_pos e1]; rfl
    unfold rackN at hr
    rw [if_neg e1, if_neg e1, if_pos hr.1, if_pos hr.2]
    by_cases e2 : level = 2
    · rw [if_pos e2, if_pos e2]; rfl
    unfold houseN at hh
    rw [if_neg e2, if_neg e2, if_pos hh.1, if_pos hh.2]
    rfl
  · rw [if_neg hc, if_neg (by omega)]
theorem of_ev (D : List Int) (R : List RackT) (H : List Int) (O level i : Int) : Ev (fun k => domain_Of.f k D R H O level i) (ofN D R H O level i) :=
  Ev.of (fun k => domain_Of.mono _ _ _ _ _ _ k) (k := 1) (of_some 0 D R H O level i)
theorem sanity10 : quietuslaw10_sanity.f = some true := rfl
end Go.Proofs.Yteknbadjfojmbaa.QA
