-- What this claim does not use was left out by prune.py, a program of this session.
import Derived.Test.YteknbadjfojmbaaPureClkC
namespace Go.Proofs.Yteknbadjfojmbaa.QA
open Go.RowKit Go.Proofs.YteknbadjfojmbaaW.PrintWords Go.Proofs.YteknbadjfojmbaaW.PrintLast Go.Proofs.YteknbadjfojmbaaW.PrintMore
attribute [local go_sem] max2_int min2_int max_two min_two max_three min_three max_four min_four
set_option linter.unusedVariables false
set_option linter.unusedSimpArgs false
theorem hi_mono {rate s t : Int} (hr : 0 ≤ rate ∧ rate ≤ 100000) (h : s ≤ t) : hiP rate s ≤ hiP rate t := by
  unfold hiP clock_bounds.hi
  exact Int.ediv_le_ediv (by omega) (by omega)
theorem lo_mono {rate s t : Int} (hr : 0 ≤ rate ∧ rate ≤ 100000) (hs : 0 ≤ s) (h : s ≤ t) : loP rate s ≤ loP rate t := by
  unfold loP clock_bounds.lo
  by_cases h1 : 0 < s
  · rw [if_pos h1, if_pos (by omega)]
    have : (s - 1) * 1000000 / (1000000 + rate) ≤ (t - 1) * 1000000 / (1000000 + rate) := Int.ediv_le_ediv (by omega) (by omega)
    omega
  · rw [if_neg h1]
    split
    · have : 0 ≤ (t - 1) * 1000000 / (1000000 + rate) := Int.ediv_nonneg (by omega) (by omega)
      omega
    · omega
theorem wn_eq {rate lc : Int} {r : RT} : (r.f0 < lc → clock_bounds.wn rate lc r = ⟨r.f1.f0 + loP rate (lc - r.f0), r.f1.f1 + hiP rate (lc - r.f0)⟩) ∧ (lc < r.f0 → clock_bounds.wn rate lc r = ⟨r.f1.f0 - hiP rate (r.f0 - lc), r.f1.f1 - loP rate (r.f0 - lc)⟩) ∧ (lc = r.f0 → clock_bounds.wn rate lc r = ⟨r.f1.f0 - hiP rate 0, r.f1.f1 + hiP rate 0⟩) := by
  unfold clock_bounds.wn clock_bounds.shown
  refine ⟨fun h => ?_, fun h => ?_, fun h => ?_⟩
  · rw [if_neg (show ¬ lc - r.f0 < r.f0 - lc by omega), if_neg (by omega), if_neg (by omega)]
  · rw [if_pos (show lc - r.f0 < r.f0 - lc by omega), if_neg (by omega), if_pos h]
  · rw [if_neg (show ¬ lc - r.f0 < r.f0 - lc by omega), if_pos h, show lc - r.f0 = 0 by omega]
theorem wn_mono {rate a b : Int} {r : RT} (h : 0 ≤ rate ∧ rate ≤ 100000) (hr : okR r) (ha : 0 ≤ a) (hab : a ≤ b) (hb : b ≤ 3600000000) : (clock_bounds.wn rate a r).f0 ≤ (clock_bounds.wn rate b r).f0 ∧ (clock_bounds.wn rate a r).f1 ≤ (clock_bounds.wn rate b r).f1 := by
  have h0 := hr.1
  have h1 := hr.2.1
  obtain ⟨ea1, ea2, ea3⟩ := @wn_eq rate a r
  obtain ⟨eb1, eb2, eb3⟩ := @wn_eq rate b r
  have z := hi_bd h (s := 0) (by omega)
  rcases Int.lt_trichotomy r.f0 a with c | c | c
  · rw [ea1 c, eb1 (by omega)]
    have := hi_mono h (show a - r.f0 ≤ b - r.f0 by omega)
    have := lo_mono h (show 0 ≤ a - r.f0 by omega) (show a - r.f0 ≤ b - r.f0 by omega)
    exact ⟨by simp only; omega, by simp only; omega⟩
  · rw [ea3 c.symm]
    rcases Int.lt_trichotomy r.f0 b with d | d | d
    · rw [eb1 d]
      have := hi_mono h (show 0 ≤ b - r.f0 by omega)
      have := lo_bd h (show 0 ≤ b - r.f0 ∧ b - r.f0 ≤ 3600000000 by omega)
      exact ⟨by simp only; omega, by simp only; omega⟩
    · rw [eb3 d.symm]
      exact ⟨Int.le_refl _, Int.le_refl _⟩
    · omega
  · rw [ea2 c]
    have q1 := hi_bd h (show 0 ≤ r.f0 - a ∧ r.f0 - a ≤ 3600000000 by omega)
    have q2 := lo_bd h (show 0 ≤ r.f0 - a ∧ r.f0 - a ≤ 3600000000 by omega)
    rcases Int.lt_trichotomy r.f0 b with d | d | d
    · rw [eb1 d]
      have := hi_bd h (show 0 ≤ b - r.f0 ∧ b - r.f0 ≤ 3600000000 by omega)
      have := lo_bd h (show 0 ≤ b - r.f0 ∧ b - r.f0 ≤ 3600000000 by omega)
      exact ⟨by simp only; omega, by simp only; omega⟩
    · rw [eb3 d.symm]
      have := hi_mono h (show 0 ≤ r.f0 - a by omega)
      exact ⟨by simp only; omega, by simp only; omega⟩
    · rw [eb2 d]
      have := hi_mono h (show r.f0 - b ≤ r.f0 - a by omega)
      have := lo_mono h (show 0 ≤ r.f0 - b by omega) (show r.f0 - b ≤ r.f0 - a by omega)
      exact ⟨by simp only; omega, by simp only; omega⟩
theorem mx_le {a b c d : Int} (h : a ≤ c) (h2 : b ≤ d) : mx a b ≤ mx c d := by unfold mx; split <;> split <;> omega
theorem mn_le {a b c d : Int} (h : a ≤ c) (h2 : b ≤ d) : mn a b ≤ mn c d := by unfold mn; split <;> split <;> omega
theorem foldmx_le {f g : RT → Int} : ∀ (l : List RT) (a b : Int), (∀ r ∈ l, f r ≤ g r) → a ≤ b → (l.map f).foldl mx a ≤ (l.map g).foldl mx b
  | [], a, b, _, h => h
  | r :: rs, a, b, hl, h => foldmx_le rs _ _ (fun x hx => hl x (List.mem_cons_of_mem _ hx)) (mx_le h (hl r List.mem_cons_self))
theorem foldmn_le {f g : RT → Int} : ∀ (l : List RT) (a b : Int), (∀ r ∈ l, f r ≤ g r) → a ≤ b → (l.map f).foldl mn a ≤ (l.map g).foldl mn b
  | [], a, b, _, h => h
  | r :: rs, a, b, hl, h => foldmn_le rs _ _ (fun x hx => hl x (List.mem_cons_of_mem _ hx)) (mn_le h (hl r List.mem_cons_self))
theorem loB_mono {rate a b : Int} {l : List RT} (h : OkC rate l) (ha : 0 ≤ a) (hab : a ≤ b) (hb : b ≤ 3600000000) : loB rate l a ≤ loB rate l b :=
  foldmx_le l 0 0 (fun r hr => (wn_mono h.rate (h.rd r hr) ha hab hb).1) (Int.le_refl _)
theorem hiB_mono {rate a b : Int} {l : List RT} (h : OkC rate l) (ha : 0 ≤ a) (hab : a ≤ b) (hb : b ≤ 3600000000) : hiB rate l a ≤ hiB rate l b :=
  foldmn_le l _ _ (fun r hr => (wn_mono h.rate (h.rd r hr) ha hab hb).2) (Int.le_refl _)
theorem search_spec {p : Nat → Bool} {N : Nat} (hm : ∀ a b, a ≤ b → b < N → p a = true → p b = true) : ∀ (f i j : Nat), i ≤ j → j ≤ N → j - i < 2 ^ f → (∀ a, a < i → p a = false) → (j < N → p j = true) →
    searchN p f i j ≤ j ∧ (∀ a, a < searchN p f i j → p a = false) ∧ (searchN p f i j < N → p (searchN p f i j) = true)
  | 0, i, j, hij, hj, hf, h1, h2 => by
    have e : i = j := by simp at hf; omega
    subst e
    exact ⟨Nat.le_refl _, h1, h2⟩
  | f + 1, i, j, hij, hj, hf, h1, h2 => by
    rw [searchN]
    split
    · rename_i hlt
      have hh : i ≤ (i + j) / 2 ∧ (i + j) / 2 < j := by omega
      split
      · rename_i hp
        obtain ⟨a, b, c⟩ := search_spec hm f i ((i + j) / 2) hh.1 (by omega) (by rw [Nat.pow_succ] at hf; omega) h1 (fun _ => hp)
        exact ⟨by omega, b, c⟩
      · rename_i hp
        refine search_spec hm f ((i + j) / 2 + 1) j (by omega) hj (by rw [Nat.pow_succ] at hf; omega) (fun a ha => ?_) h2
        cases hpa : p a with
        | false => rfl
        | true => exact absurd (hm a _ (by omega) (by omega) hpa) hp
    · have e : i = j := by omega
      subst e
      exact ⟨Nat.le_refl _, h1, h2⟩
def sL (rate : Int) (l : List RT) (due : Int) : Nat := searchN (clock_first.p (fun lo hi => (fun due => decide (due < hi)) due) rate l) 32 0 3600000001
def sE (rate : Int) (l : List RT) (due : Int) : Nat := searchN (clock_first.p (fun lo hi => (fun due => decide (due ≤ lo)) due) rate l) 32 0 3600000001
theorem first_p {q : Int → Int → Bool} {rate : Int} {l : List RT} (h : OkC rate l) {i : Nat} (hi : i < 3600000001) : clock_first.p q rate l i = q (loB rate l (i : Int)) (hiB rate l (i : Int)) := by
  unfold clock_first.p
  rw [bounds_some h (by omega)]
theorem sL_spec {rate : Int} {l : List RT} (h : OkC rate l) (due : Int) : sL rate l due ≤ 3600000001 ∧ ∀ i : Int, 0 ≤ i → i ≤ 3600000000 → (i < (sL rate l due : Int) ↔ hiB rate l i ≤ due) := by
  have hm : ∀ a b, a ≤ b → b < 3600000001 → clock_first.p (fun lo hi => (fun due => decide (due < hi)) due) rate l a = true → clock_first.p (fun lo hi => (fun due => decide (due < hi)) due) rate l b = true := by
    intro a b hab hb hp
    rw [first_p h (by omega)] at hp
    rw [first_p h (by omega)]
    have := hiB_mono h (show (0 : Int) ≤ (a : Int) by omega) (show (a : Int) ≤ (b : Int) by omega) (by omega)
    simp only [decide_eq_true_eq] at hp ⊢
    omega
  obtain ⟨a, b, c⟩ := search_spec hm 32 0 3600000001 (by omega) (Nat.le_refl _) (by decide) (fun _ h => absurd h (by omega)) (fun h => absurd h (by omega))
  refine ⟨a, fun i h0 h1 => ?_⟩
  obtain ⟨n, rfl⟩ : ∃ n : Nat, i = (n : Int) := ⟨i.toNat, by omega⟩
  constructor
  · intro hlt
    have hb := b n (by unfold sL at hlt; omega)
    rw [first_p h (by omega)] at hb
    simp only [decide_eq_false_iff_not] at hb
    omega
  · intro hle
    apply Int.lt_of_not_ge
    intro hge
    have hs : searchN (clock_first.p (fun lo hi => (fun due => decide (due < hi)) due) rate l) 32 0 3600000001 ≤ n := by unfold sL at hge; omega
    have hp := hm _ n hs (by omega) (c (by omega))
    rw [first_p h (by omega)] at hp
    simp only [decide_eq_true_eq] at hp
    omega
theorem sE_spec {rate : Int} {l : List RT} (h : OkC rate l) (due : Int) : sE rate l due ≤ 3600000001 ∧ ∀ i : Int, 0 ≤ i → i ≤ 3600000000 → (i < (sE rate l due : Int) ↔ loB rate l i < due) := by
  have hm : ∀ a b, a ≤ b → b < 3600000001 → clock_first.p (fun lo hi => (fun due => decide (due ≤ lo)) due) rate l a = true → clock_first.p (fun lo hi => (fun due => decide (due ≤ lo)) due) rate l b = true := by
    intro a b hab hb hp
    rw [first_p h (by omega)] at hp
    rw [first_p h (by omega)]
    have := loB_mono h (show (0 : Int) ≤ (a : Int) by omega) (show (a : Int) ≤ (b : Int) by omega) (by omega)
    simp only [decide_eq_true_eq] at hp ⊢
    omega
  obtain ⟨a, b, c⟩ := search_spec hm 32 0 3600000001 (by omega) (Nat.le_refl _) (by decide) (fun _ h => absurd h (by omega)) (fun h => absurd h (by omega))
  refine ⟨a, fun i h0 h1 => ?_⟩
  obtain ⟨n, rfl⟩ : ∃ n : Nat, i = (n : Int) := ⟨i.toNat, by omega⟩
  constructor
  · intro hlt
    have hb := b n (by unfold sE at hlt; omega)
    rw [first_p h (by omega)] at hb
    simp only [decide_eq_false_iff_not] at hb
    omega
  · intro hle
    apply Int.lt_of_not_ge
    intro hge
    have hs : searchN (clock_first.p (fun lo hi => (fun due => decide (due ≤ lo)) due) rate l) 32 0 3600000001 ≤ n := by unfold sE at hge; omega
    have hp := hm _ n hs (by omega) (c (by omega))
    rw [first_p h (by omega)] at hp
    simp only [decide_eq_true_eq] at hp
    omega
def latC (rate : Int) (l : List RT) (due : Int) : Int × Int :=
  if chk rate l = 0 then (if 0 ≤ due ∧ due ≤ 3600000000 then (if (sL rate l due : Int) = 0 then (0, 8) else ((sL rate l due : Int) - 1, 0)) else (0, 3)) else (0, chk rate l)
def earC (rate : Int) (l : List RT) (due : Int) : Int × Int :=
  if chk rate l = 0 then (if 0 ≤ due ∧ due ≤ 3600000000 then (if 3600000000 < (sE rate l due : Int) then (0, 8) else ((sE rate l due : Int), 0)) else (0, 3)) else (0, chk rate l)
theorem first_ev (q : Int → Int → Bool) (rate : Int) (l : List RT) (due : Int) : Ev (fun k => clock_first.f k q rate l due) (if chk rate l = 0 then (if 0 ≤ due ∧ due ≤ 3600000000 then (((searchN (clock_first.p q rate l) 32 0 3600000001 : Nat) : Int), 0) else (0, 3)) else (0, chk rate l)) := by
  by_cases h : chk rate l = 0
  · rw [if_pos h]
    by_cases h2 : 0 ≤ due ∧ due ≤ 3600000000
    · rw [if_pos h2]
      unfold clock_first.f
      exact Ev.bind (chk_ev rate l) (Ev.pos_ h (Ev.known_ (inst1 _) (Ev.pos_ (by simpa using h2) (Ev.pos_ (bok (chk_ok.1 h) (by omega)) (Ev.now _)))))
    · rw [if_neg h2]
      unfold clock_first.f
      exact Ev.bind (chk_ev rate l) (Ev.pos_ h (Ev.known_ (inst1 _) (Ev.neg_ (by simpa using h2) (Ev.now _))))
  · rw [if_neg h]
    unfold clock_first.f
    exact Ev.bind (chk_ev rate l) (Ev.neg_ h (Ev.now _))
theorem lat_ev (rate : Int) (l : List RT) (due : Int) : Ev (fun k => clock_Latest.f k rate l due) (latC rate l due) := by
  unfold clock_Latest.f
  by_cases h : chk rate l = 0
  · by_cases h2 : 0 ≤ due ∧ due ≤ 3600000000
    · have hs := (sL_spec (chk_ok.1 h) due).1
      refine Ev.bind (Ev.eq_ (first_ev _ rate l due) (r' := ((sL rate l due : Int), 0)) (by rw [if_pos h, if_pos h2]; rfl)) (Ev.pos_ rfl ?_)
      by_cases h3 : (sL rate l due : Int) = 0
      · have e : latC rate l due = (0, 8) := by unfold latC; rw [if_pos h, if_pos h2, if_pos h3]
        rw [e]; exact Ev.pos_ h3 (Ev.now _)
      · have e : latC rate l due = ((sL rate l due : Int) - 1, 0) := by unfold latC; rw [if_pos h, if_pos h2, if_neg h3]
        rw [e]
        refine Ev.neg_ h3 (Ev.const_ ?_)
        have hw : wrap64 ((sL rate l due : Int) - 1) = (sL rate l due : Int) - 1 := w64 (by omega) (by omega)
        simp only [hw]
    · have e : latC rate l due = (0, 3) := by unfold latC; rw [if_pos h, if_neg h2]
      rw [e]
      exact Ev.bind (Ev.eq_ (first_ev _ rate l due) (r' := (0, 3)) (by rw [if_pos h, if_neg h2])) (Ev.neg_ (by decide) (Ev.now _))
  · have e : latC rate l due = (0, chk rate l) := by unfold latC; rw [if_neg h]
    rw [e]
    exact Ev.bind (Ev.eq_ (first_ev _ rate l due) (r' := (0, chk rate l)) (by rw [if_neg h])) (Ev.neg_ h (Ev.now _))
theorem ear_ev (rate : Int) (l : List RT) (due : Int) : Ev (fun k => clock_Earliest.f k rate l due) (earC rate l due) := by
  unfold clock_Earliest.f
  by_cases h : chk rate l = 0
  · by_cases h2 : 0 ≤ due ∧ due ≤ 3600000000
    · refine Ev.bind (Ev.eq_ (first_ev _ rate l due) (r' := ((sE rate l due : Int), 0)) (by rw [if_pos h, if_pos h2]; rfl)) (Ev.pos_ rfl ?_)
      by_cases h3 : 3600000000 < (sE rate l due : Int)
      · have e : earC rate l due = (0, 8) := by unfold earC; rw [if_pos h, if_pos h2, if_pos h3]
        rw [e]; exact Ev.pos_ h3 (Ev.now _)
      · have e : earC rate l due = ((sE rate l due : Int), 0) := by unfold earC; rw [if_pos h, if_pos h2, if_neg h3]
        rw [e]; exact Ev.neg_ h3 (Ev.now _)
    · have e : earC rate l due = (0, 3) := by unfold earC; rw [if_pos h, if_neg h2]
      rw [e]
      exact Ev.bind (Ev.eq_ (first_ev _ rate l due) (r' := (0, 3)) (by rw [if_pos h, if_neg h2])) (Ev.neg_ (by decide) (Ev.now _))
  · have e : earC rate l due = (0, chk rate l) := by unfold earC; rw [if_neg h]
    rw [e]
    exact Ev.bind (Ev.eq_ (first_ev _ rate l due) (r' := (0, chk rate l)) (by rw [if_neg h])) (Ev.neg_ h (Ev.now _))
end Go.Proofs.Yteknbadjfojmbaa.QA
