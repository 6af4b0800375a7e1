-- What this claim does not use was left out by prune.py, a program of this session.
import Derived.Test.YteknbadjfojmbaaQA0
import Derived.Test.YteknbadjfojmbaaQA21
import Derived.Test.YteknbadjfojmbaaQA26
namespace Go.Proofs.Yteknbadjfojmbaa.QA
open Go.RowKit Go.Proofs.YteknbadjfojmbaaW.PrintWords Go.Proofs.YteknbadjfojmbaaW.PrintLast Go.Proofs.YteknbadjfojmbaaW.PrintMore
attribute [local go_sem] max2_int min2_int max_two min_two max_three min_three max_four min_four
set_option linter.unusedVariables false
set_option linter.unusedSimpArgs false
def quietuslaw14_ClockPassesExactly.f (a0 : Int) (a1 : Int) (a2 : Int) : Option (Bool) := (clock_Passed.f (Int.tmod (wrap64 (a0)) 100001) (Int.tmod (wrap64 (a1)) 301)).bind fun bt641 => ((quietuslaw14_sanity.f).bind fun t644 => (if t644 = true then (if bt641.2.2 = 0 then (if bt641.1 ≤ (Int.tmod (wrap64 (a2)) 401) then (some ((decide ((Int.tmod (wrap64 (a2)) 401) ≤ bt641.2.1)) == (decide ((mx (wrap64 ((Int.tmod (wrap64 (a2)) 401) * (wrap64 (1000000 - (Int.tmod (wrap64 (a0)) 100001))))) (wrap64 ((wrap64 ((wrap64 ((Int.tmod (wrap64 (a1)) 301) - 1)) * 1000000)) + 1))) ≤ (mn (wrap64 ((Int.tmod (wrap64 (a2)) 401) * (wrap64 (1000000 + (Int.tmod (wrap64 (a0)) 100001))))) (wrap64 ((wrap64 ((wrap64 ((Int.tmod (wrap64 (a1)) 301) + 1)) * 1000000)) - 1))))))) else (some (false == (decide ((mx (wrap64 ((Int.tmod (wrap64 (a2)) 401) * (wrap64 (1000000 - (Int.tmod (wrap64 (a0)) 100001))))) (wrap64 ((wrap64 ((wrap64 ((Int.tmod (wrap64 (a1)) 301) - 1)) * 1000000)) + 1))) ≤ (mn (wrap64 ((Int.tmod (wrap64 (a2)) 401) * (wrap64 (1000000 + (Int.tmod (wrap64 (a0)) 100001))))) (wrap64 ((wrap64 ((wrap64 ((Int.tmod (wrap64 (a1)) 301) + 1)) * 1000000)) - 1)))))))) else (none)) else (none)))
set_option maxHeartbeats 8000000 in
set_option maxRecDepth 100000 in
theorem quietuslaw14_ClockPassesExactly.calls (a0 : Int) (a1 : Int) (a2 : Int) (r : Bool) (w : World) (h : quietuslaw14_ClockPassesExactly.f a0 a1 a2 = some r) :
    Calls Try.prog 10 #[.int .u32 a0, .int .u16 a1, .int .u16 a2] w fun e w' => e = .returned (.bool r) ∧ Below w.heap.size w w' := by
  have HB := Aside0.mk (Below.refl w.heap.size w)
  have H : ((clock_Passed.f (Int.tmod (wrap64 (a0)) 100001) (Int.tmod (wrap64 (a1)) 301)).bind fun bt641 => ((quietuslaw14_sanity.f).bind fun t644 => (if t644 = true then (if bt641.2.2 = 0 then (if bt641.1 ≤ (Int.tmod (wrap64 (a2)) 401) then (some ((decide ((Int.tmod (wrap64 (a2)) 401) ≤ bt641.2.1)) == (decide ((mx (wrap64 ((Int.tmod (wrap64 (a2)) 401) * (wrap64 (1000000 - (Int.tmod (wrap64 (a0)) 100001))))) (wrap64 ((wrap64 ((wrap64 ((Int.tmod (wrap64 (a1)) 301) - 1)) * 1000000)) + 1))) ≤ (mn (wrap64 ((Int.tmod (wrap64 (a2)) 401) * (wrap64 (1000000 + (Int.tmod (wrap64 (a0)) 100001))))) (wrap64 ((wrap64 ((wrap64 ((Int.tmod (wrap64 (a1)) 301) + 1)) * 1000000)) - 1))))))) else (some (false == (decide ((mx (wrap64 ((Int.tmod (wrap64 (a2)) 401) * (wrap64 (1000000 - (Int.tmod (wrap64 (a0)) 100001))))) (wrap64 ((wrap64 ((wrap64 ((Int.tmod (wrap64 (a1)) 301) - 1)) * 1000000)) + 1))) ≤ (mn (wrap64 ((Int.tmod (wrap64 (a2)) 401) * (wrap64 (1000000 + (Int.tmod (wrap64 (a0)) 100001))))) (wrap64 ((wrap64 ((wrap64 ((Int.tmod (wrap64 (a1)) 301) + 1)) * 1000000)) - 1)))))))) else (none)) else (none)))) = some r := h
  clear h
  replace H := Option.bind_eq_some_iff.mp H
  obtain ⟨⟨t641, t642, t643⟩, A40, H⟩ := H
  replace H : ((quietuslaw14_sanity.f).bind fun t644 => (if t644 = true then (if t643 = 0 then (if t641 ≤ (Int.tmod (wrap64 (a2)) 401) then (some ((decide ((Int.tmod (wrap64 (a2)) 401) ≤ t642)) == (decide ((mx (wrap64 ((Int.tmod (wrap64 (a2)) 401) * (wrap64 (1000000 - (Int.tmod (wrap64 (a0)) 100001))))) (wrap64 ((wrap64 ((wrap64 ((Int.tmod (wrap64 (a1)) 301) - 1)) * 1000000)) + 1))) ≤ (mn (wrap64 ((Int.tmod (wrap64 (a2)) 401) * (wrap64 (1000000 + (Int.tmod (wrap64 (a0)) 100001))))) (wrap64 ((wrap64 ((wrap64 ((Int.tmod (wrap64 (a1)) 301) + 1)) * 1000000)) - 1))))))) else (some (false == (decide ((mx (wrap64 ((Int.tmod (wrap64 (a2)) 401) * (wrap64 (1000000 - (Int.tmod (wrap64 (a0)) 100001))))) (wrap64 ((wrap64 ((wrap64 ((Int.tmod (wrap64 (a1)) 301) - 1)) * 1000000)) + 1))) ≤ (mn (wrap64 ((Int.tmod (wrap64 (a2)) 401) * (wrap64 (1000000 + (Int.tmod (wrap64 (a0)) 100001))))) (wrap64 ((wrap64 ((wrap64 ((Int.tmod (wrap64 (a1)) 301) + 1)) * 1000000)) - 1)))))))) else (none)) else (none))) = some r := H
  have A4 := Aside0.mk A40
  clear A40
  obtain ⟨ji5, hji5⟩ : ∃ j_ : Int, (mx (wrap64 ((Int.tmod (wrap64 (a2)) 401) * (wrap64 (1000000 - (Int.tmod (wrap64 (a0)) 100001))))) (wrap64 ((wrap64 ((wrap64 ((Int.tmod (wrap64 (a1)) 301) - 1)) * 1000000)) + 1))) = j_ := ⟨_, rfl⟩
  replace H : ((quietuslaw14_sanity.f).bind fun t644 => (if t644 = true then (if t643 = 0 then (if t641 ≤ (Int.tmod (wrap64 (a2)) 401) then (some ((decide ((Int.tmod (wrap64 (a2)) 401) ≤ t642)) == (decide ((ji5) ≤ (mn (wrap64 ((Int.tmod (wrap64 (a2)) 401) * (wrap64 (1000000 + (Int.tmod (wrap64 (a0)) 100001))))) (wrap64 ((wrap64 ((wrap64 ((Int.tmod (wrap64 (a1)) 301) + 1)) * 1000000)) - 1))))))) else (some (false == (decide ((ji5) ≤ (mn (wrap64 ((Int.tmod (wrap64 (a2)) 401) * (wrap64 (1000000 + (Int.tmod (wrap64 (a0)) 100001))))) (wrap64 ((wrap64 ((wrap64 ((Int.tmod (wrap64 (a1)) 301) + 1)) * 1000000)) - 1)))))))) else (none)) else (none))) = some r := by first | (rw [hji5] at H; exact H) | (simp only [hji5] at H ⊢; exact H)
  (try rw [hji5] at A4)
  have hji5_ : (if (wrap64 ((Int.tmod (wrap64 (a2)) 401) * (wrap64 (1000000 - (Int.tmod (wrap64 (a0)) 100001))))) < (wrap64 ((wrap64 ((wrap64 ((Int.tmod (wrap64 (a1)) 301) - 1)) * 1000000)) + 1)) then (wrap64 ((wrap64 ((wrap64 ((Int.tmod (wrap64 (a1)) 301) - 1)) * 1000000)) + 1)) else (wrap64 ((Int.tmod (wrap64 (a2)) 401) * (wrap64 (1000000 - (Int.tmod (wrap64 (a0)) 100001)))))) = ji5 := hji5
  obtain ⟨ji6, hji6⟩ : ∃ j_ : Int, (mn (wrap64 ((Int.tmod (wrap64 (a2)) 401) * (wrap64 (1000000 + (Int.tmod (wrap64 (a0)) 100001))))) (wrap64 ((wrap64 ((wrap64 ((Int.tmod (wrap64 (a1)) 301) + 1)) * 1000000)) - 1))) = j_ := ⟨_, rfl⟩
  replace H : ((quietuslaw14_sanity.f).bind fun t644 => (if t644 = true then (if t643 = 0 then (if t641 ≤ (Int.tmod (wrap64 (a2)) 401) then (some ((decide ((Int.tmod (wrap64 (a2)) 401) ≤ t642)) == (decide ((ji5) ≤ (ji6))))) else (some (false == (decide ((ji5) ≤ (ji6)))))) else (none)) else (none))) = some r := by first | (rw [hji6] at H; exact H) | (simp only [hji6] at H ⊢; exact H)
  (try rw [hji6] at A4)
  have hji6_ : (if (wrap64 ((wrap64 ((wrap64 ((Int.tmod (wrap64 (a1)) 301) + 1)) * 1000000)) - 1)) < (wrap64 ((Int.tmod (wrap64 (a2)) 401) * (wrap64 (1000000 + (Int.tmod (wrap64 (a0)) 100001))))) then (wrap64 ((wrap64 ((wrap64 ((Int.tmod (wrap64 (a1)) 301) + 1)) * 1000000)) - 1)) else (wrap64 ((Int.tmod (wrap64 (a2)) 401) * (wrap64 (1000000 + (Int.tmod (wrap64 (a0)) 100001)))))) = ji6 := hji6
  replace H := Option.bind_eq_some_iff.mp H
  obtain ⟨t644, A70, H⟩ := H
  replace H : (if t644 = true then (if t643 = 0 then (if t641 ≤ (Int.tmod (wrap64 (a2)) 401) then (some ((decide ((Int.tmod (wrap64 (a2)) 401) ≤ t642)) == (decide ((ji5) ≤ (ji6))))) else (some (false == (decide ((ji5) ≤ (ji6)))))) else (none)) else (none)) = some r := H
  have A7 := Aside0.mk A70
  clear A70
  by_cases c8 : t644 = true
  · subst c8
    have H1 : (if t643 = 0 then (if t641 ≤ (Int.tmod (wrap64 (a2)) 401) then (some ((decide ((Int.tmod (wrap64 (a2)) 401) ≤ t642)) == (decide ((ji5) ≤ (ji6))))) else (some (false == (decide ((ji5) ≤ (ji6)))))) else (none)) = some r := by rw [if_pos rfl] at H; exact H
    clear H
    have H := H1
    clear H1
    by_cases c9 : t643 = 0
    · rw [if_pos c9] at H
      have c9b0 : (t643 == 0) = true := beq_iff_eq.mpr c9
      have c9b1 : (t643 != 0) = false := bne_eq_false_iff_eq.mpr c9
      clear c9
      by_cases c10 : t641 ≤ (Int.tmod (wrap64 (a2)) 401)
      · rw [if_pos c10] at H
        have c10b0 : decide (t641 ≤ (Int.tmod (wrap64 (a2)) 401)) = true := decide_eq_true c10
        clear c10
        obtain rfl := Option.some.inj H
        go_enter Try.func10, Try.ntmps10
        go_wp2_with (first | ((with_reducible refine gate_callee (f := 37) rfl ?_); refine goesL_ (some 28) rfl rfl Try.func37 (by kernel_rfl) rfl #[.int .i64 (Int.tmod (wrap64 (a0)) 100001), .int .i64 (Int.tmod (wrap64 (a1)) 301)] rfl (by (try simp only [List.map_toArray, List.map_cons, List.map_nil]); first | done | rfl | (simp only [List.length_drop, List.length_take]; rfl)) ?_; (with_reducible refine (clock_Passed.calls (Int.tmod (wrap64 (a0)) 100001) (Int.tmod (wrap64 (a1)) 301) t641 t642 t643 _ A4.out).mono ?_); rintro e w11 ⟨rfl, hb⟩; refine ⟨_, rfl, ?_⟩; have n0_ := Aside0.mk (below_step (by repeat (first | (with_reducible first | exact HB.out | apply below_alloc | apply pw_below_drewN | apply below_drew1) | exact HB.out)) hb); clear HB; have HB := n0_; clear n0_; (try clear hb); (try clear hb2); (try clear hk); (try clear hi)) | ((with_reducible refine gate_callee (f := 36) rfl ?_); refine goesL_ (some 53) rfl rfl Try.func36 (by kernel_rfl) rfl #[] rfl (by (try simp only [List.map_toArray, List.map_cons, List.map_nil]); first | done | rfl | (simp only [List.length_drop, List.length_take]; rfl)) ?_; (with_reducible refine (quietuslaw14_sanity.calls  true _ A7.out).mono ?_); rintro e w12 ⟨rfl, hb⟩; refine ⟨_, rfl, ?_⟩; have n0_ := Aside0.mk (below_step (by repeat (first | (with_reducible first | exact HB.out | apply below_alloc | apply pw_below_drewN | apply below_drew1) | exact HB.out)) hb); clear HB; have HB := n0_; clear n0_; (try clear hb); (try clear hb2); (try clear hk); (try clear hi)))
        go_ret
        exact ⟨by first | rfl | (simp [errW_none, errW_some] <;> rfl) | (simp only [← hji5, ← hji6]; first | rfl | (simp [errW_none, errW_some] <;> rfl)) | (simp [*, errW_none, errW_some] <;> rfl), by repeat (first | (with_reducible first | exact HB.out | apply below_alloc | apply pw_below_drewN | apply below_drew1) | exact HB.out)⟩
      · rw [if_neg c10] at H
        have c10b0 : decide (t641 ≤ (Int.tmod (wrap64 (a2)) 401)) = false := decide_eq_false c10
        clear c10
        obtain rfl := Option.some.inj H
        go_enter Try.func10, Try.ntmps10
        go_wp2_with (first | ((with_reducible refine gate_callee (f := 37) rfl ?_); refine goesL_ (some 28) rfl rfl Try.func37 (by kernel_rfl) rfl #[.int .i64 (Int.tmod (wrap64 (a0)) 100001), .int .i64 (Int.tmod (wrap64 (a1)) 301)] rfl (by (try simp only [List.map_toArray, List.map_cons, List.map_nil]); first | done | rfl | (simp only [List.length_drop, List.length_take]; rfl)) ?_; (with_reducible refine (clock_Passed.calls (Int.tmod (wrap64 (a0)) 100001) (Int.tmod (wrap64 (a1)) 301) t641 t642 t643 _ A4.out).mono ?_); rintro e w13 ⟨rfl, hb⟩; refine ⟨_, rfl, ?_⟩; have n0_ := Aside0.mk (below_step (by repeat (first | (with_reducible first | exact HB.out | apply below_alloc | apply pw_below_drewN | apply below_drew1) | exact HB.out)) hb); clear HB; have HB := n0_; clear n0_; (try clear hb); (try clear hb2); (try clear hk); (try clear hi)) | ((with_reducible refine gate_callee (f := 36) rfl ?_); refine goesL_ (some 53) rfl rfl Try.func36 (by kernel_rfl) rfl #[] rfl (by (try simp only [List.map_toArray, List.map_cons, List.map_nil]); first | done | rfl | (simp only [List.length_drop, List.length_take]; rfl)) ?_; (with_reducible refine (quietuslaw14_sanity.calls  true _ A7.out).mono ?_); rintro e w14 ⟨rfl, hb⟩; refine ⟨_, rfl, ?_⟩; have n0_ := Aside0.mk (below_step (by repeat (first | (with_reducible first | exact HB.out | apply below_alloc | apply pw_below_drewN | apply below_drew1) | exact HB.out)) hb); clear HB; have HB := n0_; clear n0_; (try clear hb); (try clear hb2); (try clear hk); (try clear hi)))
        go_ret
        exact ⟨by first | rfl | (simp [errW_none, errW_some] <;> rfl) | (simp only [← hji5, ← hji6]; first | rfl | (simp [errW_none, errW_some] <;> rfl)) | (simp [*, errW_none, errW_some] <;> rfl), by repeat (first | (with_reducible first | exact HB.out | apply below_alloc | apply pw_below_drewN | apply below_drew1) | exact HB.out)⟩
    · rw [if_neg c9] at H
      exact absurd H (by simp)
  · replace c8 := Bool.eq_false_iff.mpr c8
    subst c8
    have H1 : (none) = some r := by rw [if_neg (show ¬ (false = true) by decide)] at H; exact H
    clear H
    have H := H1
    clear H1
    exact absurd H (by simp)
end Go.Proofs.Yteknbadjfojmbaa.QA
