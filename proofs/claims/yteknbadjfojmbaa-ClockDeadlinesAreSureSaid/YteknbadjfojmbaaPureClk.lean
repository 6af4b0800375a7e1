-- What this claim does not use was left out by prune.py, a program of this session.
import Derived.Test.YteknbadjfojmbaaQA21
import Derived.Test.YteknbadjfojmbaaQA21
import Derived.Test.YteknbadjfojmbaaQA22
import Derived.Test.YteknbadjfojmbaaQA27
namespace Go.Proofs.Yteknbadjfojmbaa.QA
open Go.RowKit Go.Proofs.YteknbadjfojmbaaW.PrintWords Go.Proofs.YteknbadjfojmbaaW.PrintLast Go.Proofs.YteknbadjfojmbaaW.PrintMore
attribute [local go_sem] max2_int min2_int max_two min_two max_three min_three max_four min_four
set_option linter.unusedVariables false
set_option linter.unusedSimpArgs false
theorem Ev.pos_ {α : Type} {c : Prop} [Decidable c] {A B : Nat → Option α} {r : α} (h : c) (k : Ev A r) : Ev (fun n => if c then A n else B n) r := by simpa only [if_pos h] using k
theorem Ev.neg_ {α : Type} {c : Prop} [Decidable c] {A B : Nat → Option α} {r : α} (h : ¬ c) (k : Ev B r) : Ev (fun n => if c then A n else B n) r := by simpa only [if_neg h] using k
theorem Ev.const_ {α : Type} {o : Option α} {r : α} (h : o = some r) : Ev (fun _ => o) r := ⟨0, fun _ _ => h⟩
theorem Ev.known_ {α β : Type} {o : Option α} {f : Nat → α → Option β} {a : α} {r : β} (h : o = some a) (k : Ev (fun n => f n a) r) : Ev (fun n => o.bind (f n)) r := Ev.bind (Ev.const_ h) k
theorem Ev.eq_ {α : Type} {g : Nat → Option α} {r r' : α} (h : Ev g r) (e : r = r') : Ev g r' := e ▸ h
theorem w64 {n : Int} (h0 : -9223372036854775808 ≤ n) (h1 : n < 9223372036854775808) : wrap64 n = n := by unfold wrap64; omega
abbrev RT := S58
theorem some_dec {b : Bool} {p : Prop} [Decidable p] (h : b = true ↔ p) : some b = some (decide p) := by
  congr 1
  by_cases hp : p
  · rw [h.2 hp, decide_eq_true hp]
  · cases b with
    | true => exact absurd (h.1 rfl) hp
    | false => rw [decide_eq_false hp]
theorem some_no {p : Prop} [Decidable p] (h : ¬ p) : some false = some (decide p) := by rw [decide_eq_false h]
theorem inst1 (a : Int) : clock_instants.f [a] = some (decide (0 ≤ a ∧ a ≤ 3600000000)) := by
  simp only [clock_instants.f, slices_Min_int_int.f, slices_Max_int_int.f, List.foldl, Option.bind_some]
  split
  · exact some_dec (by rw [decide_eq_true_eq]; omega)
  · exact some_no (by omega)
theorem inst2 (a b : Int) : clock_instants.f [a, b] = some (decide (0 ≤ a ∧ a ≤ 3600000000 ∧ 0 ≤ b ∧ b ≤ 3600000000)) := by
  simp only [clock_instants.f, slices_Min_int_int.f, slices_Max_int_int.f, List.foldl, Option.bind_some]
  have h1 : mn a b = a ∧ a ≤ b ∨ mn a b = b ∧ b ≤ a := by unfold mn; split <;> omega
  have h2 : mx a b = b ∧ a ≤ b ∨ mx a b = a ∧ b ≤ a := by unfold mx; split <;> omega
  split
  · exact some_dec (by rw [decide_eq_true_eq]; omega)
  · exact some_no (by omega)
def V (a b : Int) : Prop := 0 ≤ a ∧ a ≤ b ∧ b ≤ 3600000000
instance (a b : Int) : Decidable (V a b) := by unfold V; exact inferInstance
theorem valid_ (a b : Int) : clock_valid.f a b = some (decide (V a b)) := by
  unfold clock_valid.f
  rw [inst2]
  simp only [Option.bind_some, decide_eq_true_eq]
  split
  · exact some_dec (by rw [decide_eq_true_eq]; unfold V; omega)
  · exact some_no (by unfold V; omega)
def okR (r : RT) : Prop := 0 ≤ r.f0 ∧ r.f0 ≤ 3600000000 ∧ V r.f1.f0 r.f1.f1
instance (r : RT) : Decidable (okR r) := by unfold okR; exact inferInstance
def chkL : Int → List RT → Int
  | _, [] => 0
  | last, r :: rs => if okR r then (if r.f0 ≤ last then 1 else chkL r.f0 rs) else 3
def chk (rate : Int) (l : List RT) : Int := if rate < 0 ∨ 100000 < rate then 3 else if 16 < l.length then 2 else chkL (-1) l
theorem rdR (l : List RT) (i : Nat) (h : i < l.length) : rd_T58 l (i : Int) = l[i] := by
  unfold rd_T58
  rw [Int.toNat_natCast, List.getD_eq_getElem?_getD, List.getElem?_eq_getElem h]
  rfl
theorem chkl_ev (l : List RT) (hl : l.length ≤ 16) : ∀ (n i : Nat) (last : Int), l.length - i = n → i ≤ l.length → Ev (fun k => clock_Check.l0 k last l (l.length : Int) (i : Int)) (chkL last (l.drop i))
  | 0, i, last, hn, hi => by
    refine Ev.step (fun k => by rw [clock_Check.l0]) (Ev.neg_ (by omega) ?_)
    rw [List.drop_eq_nil_of_le (by omega)]
    exact Ev.now _
  | n + 1, i, last, hn, hi => by
    have hlt : i < l.length := by omega
    refine Ev.step (fun k => by rw [clock_Check.l0]) (Ev.pos_ (by omega) (Ev.pos_ (by omega) (Ev.pos_ (by omega) ?_)))
    rw [rdR l i hlt, List.drop_eq_getElem_cons hlt, chkL]
    refine Ev.known_ (inst1 _) ?_
    have hw : wrap64 ((i : Int) + 1) = ((i + 1 : Nat) : Int) := by rw [w64 (by omega) (by omega)]; omega
    by_cases h0 : 0 ≤ l[i].f0 ∧ l[i].f0 ≤ 3600000000
    · refine Ev.pos_ (by simpa using h0) (Ev.known_ (valid_ _ _) ?_)
      refine Ev.step (fun k => by rw [clock_Check.j2]) ?_
      by_cases h1 : V l[i].f1.f0 l[i].f1.f1
      · refine Ev.neg_ (by simpa using h1) ?_
        rw [if_pos ⟨h0.1, h0.2, h1⟩]
        by_cases h2 : l[i].f0 ≤ last
        · rw [if_pos h2]; exact Ev.pos_ h2 (Ev.now _)
        · rw [if_neg h2, hw]; exact Ev.neg_ h2 (chkl_ev l hl n (i + 1) _ (by omega) (by omega))
      · refine Ev.pos_ (by simpa using h1) ?_
        rw [if_neg (fun h => h1 h.2.2)]
        exact Ev.now _
    · refine Ev.neg_ (by simpa using h0) (Ev.step (fun k => by rw [clock_Check.j2]) (Ev.pos_ rfl ?_))
      rw [if_neg (fun h => h0 ⟨h.1, h.2.1⟩)]
      exact Ev.now _
theorem chk_ev (rate : Int) (l : List RT) : Ev (fun k => clock_Check.f k rate l) (chk rate l) := by
  unfold clock_Check.f chk
  have j : ∀ b : Bool, (b = decide (rate < 0 ∨ 100000 < rate)) → Ev (fun k => clock_Check.j0 k b rate l) (if rate < 0 ∨ 100000 < rate then 3 else if 16 < l.length then 2 else chkL (-1) l) := by
    intro b hb
    refine Ev.step (fun k => by rw [clock_Check.j0]) ?_
    by_cases h : rate < 0 ∨ 100000 < rate
    · rw [if_pos h]; exact Ev.pos_ (by rw [hb]; simpa using h) (Ev.now _)
    · rw [if_neg h]
      refine Ev.neg_ (by rw [hb]; simpa using h) ?_
      by_cases h2 : 16 < l.length
      · rw [if_pos h2]; exact Ev.pos_ (by omega) (Ev.now _)
      · rw [if_neg h2]; exact Ev.neg_ (by omega) (chkl_ev l (by omega) _ 0 _ rfl (by omega))
  by_cases h : rate < 0
  · exact Ev.pos_ h (j true (by simp [h]))
  · refine Ev.neg_ h (j _ ?_)
    rw [decide_eq_decide]; omega
structure OkC (rate : Int) (l : List RT) : Prop where
  rate : 0 ≤ rate ∧ rate ≤ 100000
  len : l.length ≤ 16
  rd : ∀ r ∈ l, okR r
  ord : ∀ i, (hi : i + 1 < l.length) → l[i].f0 < l[i + 1].f0
theorem chkL_ok : ∀ (l : List RT) (last : Int), chkL last l = 0 ↔ (∀ r ∈ l, okR r) ∧ (∀ i, (hi : i + 1 < l.length) → l[i].f0 < l[i + 1].f0) ∧ (∀ h : 0 < l.length, last < l[0].f0)
  | [], last => by simp [chkL]
  | r :: rs, last => by
    unfold chkL
    split
    · rename_i h0
      split
      · rename_i h1
        refine ⟨fun h => absurd h (by decide), fun h => ?_⟩
        have := h.2.2 (by simp)
        simp at this
        omega
      · rename_i h1
        rw [chkL_ok rs r.f0]
        constructor
        · rintro ⟨a, b, c⟩
          refine ⟨fun x hx => ?_, fun i hi => ?_, fun _ => by simp; omega⟩
          · rcases List.mem_cons.1 hx with rfl | hx
            · exact h0
            · exact a x hx
          · cases i with
            | zero => exact c (by simpa using hi)
            | succ i => exact b i (by simpa using hi)
        · rintro ⟨a, b, c⟩
          refine ⟨fun x hx => a x (List.mem_cons_of_mem _ hx), fun i hi => b (i + 1) (by simpa using hi), fun h => b 0 (by simpa using h)⟩
    · rename_i h0
      refine ⟨fun h => absurd h (by decide), fun h => absurd (h.1 r List.mem_cons_self) h0⟩
theorem chk_ok {rate : Int} {l : List RT} : chk rate l = 0 ↔ OkC rate l := by
  unfold chk
  split
  · rename_i h
    exact ⟨fun h => absurd h (by decide), fun h' => by have := h'.rate; omega⟩
  · rename_i h
    split
    · rename_i h2
      exact ⟨fun h => absurd h (by decide), fun h' => by have := h'.len; omega⟩
    · rename_i h2
      rw [chkL_ok]
      refine ⟨fun h' => ⟨by omega, by omega, h'.1, h'.2.1⟩, fun h' => ⟨h'.rd, h'.ord, fun h0 => ?_⟩⟩
      have := (h'.rd _ (List.getElem_mem h0)).1
      omega
abbrev hiP := clock_bounds.hi
abbrev loP := clock_bounds.lo
theorem ediv_bd {a d c : Int} (hd : 0 < d) (h : a ≤ c * d) : a / d ≤ c := by
  have := Int.ediv_le_ediv hd h
  rwa [Int.mul_ediv_cancel _ (by omega)] at this
theorem hi_bd {rate s : Int} (hr : 0 ≤ rate ∧ rate ≤ 100000) (hs : 0 ≤ s ∧ s ≤ 3600000000) : 0 ≤ hiP rate s ∧ hiP rate s ≤ 4000000002 := by
  unfold hiP clock_bounds.hi
  refine ⟨Int.ediv_nonneg (by omega) (by omega), ediv_bd (by omega) (by omega)⟩
theorem lo_bd {rate s : Int} (hr : 0 ≤ rate ∧ rate ≤ 100000) (hs : 0 ≤ s ∧ s ≤ 3600000000) : 0 ≤ loP rate s ∧ loP rate s ≤ 3600000000 := by
  unfold loP clock_bounds.lo
  split
  · have h1 : 0 ≤ (s - 1) * 1000000 / (1000000 + rate) := Int.ediv_nonneg (by omega) (by omega)
    have h2 : (s - 1) * 1000000 / (1000000 + rate) ≤ s - 1 := ediv_bd (by omega) (Int.mul_le_mul_of_nonneg_left (by omega) (by omega))
    omega
  · omega
theorem passed_ {rate s : Int} (hr : 0 ≤ rate ∧ rate ≤ 100000) (hs : 0 ≤ s ∧ s ≤ 3600000000) : clock_passed.f rate s = some (loP rate s, hiP rate s) := by
  have h1 := hi_bd hr hs
  have h2 := lo_bd hr hs
  unfold clock_passed.f
  unfold hiP clock_bounds.hi at *
  unfold loP clock_bounds.lo at *
  have a1 : wrap64 (1000000 + rate) = 1000000 + rate := w64 (by omega) (by omega)
  have a2 : wrap64 (1000000 - rate) = 1000000 - rate := w64 (by omega) (by omega)
  have a3 : wrap64 (s + 1) = s + 1 := w64 (by omega) (by omega)
  have a4 : wrap64 (s - 1) = s - 1 := w64 (by omega) (by omega)
  have a5 : wrap64 ((s + 1) * 1000000) = (s + 1) * 1000000 := w64 (by omega) (by omega)
  have a6 : wrap64 ((s - 1) * 1000000) = (s - 1) * 1000000 := w64 (by omega) (by omega)
  have a7 : wrap64 ((s + 1) * 1000000 - 1) = (s + 1) * 1000000 - 1 := w64 (by omega) (by omega)
  rw [a1, a2, a3, a4, a5, a6, a7, Int.tdiv_eq_ediv_of_nonneg (show 0 ≤ (s + 1) * 1000000 - 1 by omega)]
  rw [w64 (n := ((s + 1) * 1000000 - 1) / (1000000 - rate)) (by omega) (by omega)]
  by_cases h : 0 < s
  · rw [if_pos h] at h2
    rw [if_pos h, if_pos h, if_neg (by omega), if_neg (by omega), Int.tdiv_eq_ediv_of_nonneg (show 0 ≤ (s - 1) * 1000000 by omega)]
    rw [w64 (n := (s - 1) * 1000000 / (1000000 + rate)) (by omega) (by omega), w64 (by omega) (by omega)]
  · rw [if_neg h, if_neg h, if_neg (by omega)]
end Go.Proofs.Yteknbadjfojmbaa.QA
