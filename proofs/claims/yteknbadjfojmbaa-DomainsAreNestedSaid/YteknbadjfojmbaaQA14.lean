-- WRITTEN BY qprint.py, a program of this session (the kit's print, driven with contracts proved by hand): Lean checks it.
import Derived.Test.YteknbadjfojmbaaQA0
import Derived.Test.YteknbadjfojmbaaQA4
import Derived.Test.YteknbadjfojmbaaQA5
import Derived.Test.YteknbadjfojmbaaQA6
import Derived.Test.YteknbadjfojmbaaQA9
namespace Go.Proofs.Yteknbadjfojmbaa.QA
open Go.RowKit Go.Proofs.YteknbadjfojmbaaW.PrintWords Go.Proofs.YteknbadjfojmbaaW.PrintLast Go.Proofs.YteknbadjfojmbaaW.PrintMore
attribute [local go_sem] max2_int min2_int max_two min_two max_three min_three max_four min_four   -- for this text's walks alone
set_option linter.unusedVariables false
set_option linter.unusedSimpArgs false

open Go.Proofs.YteknbadjfojmbaaW.PrintWords.Kd renaming R_alloc → za_, R_drewN → zb_, R_drew → zc_, R_mono → zd_, R_lower → zg_, R_new' → zh_, R_lt → zi_, R_elder' → zj_, R_base → zk_, R_reads' → zl_
open Go.Proofs.YteknbadjfojmbaaW.PrintWords renaming blk_drewN → zm_, blk_drew → zn_, blk_alloc → zo_, blk_below → zq_, below_set → zr_, below_alloc → zs_, pw_below_drewN → zt_, below_drew1 → zu_, below_step → zv_, below_size → zw_
/-! ### quietuslaw10_DomainsAreNested: function 4 -/
mutual
def quietuslaw10_DomainsAreNested.j0 : Nat → Bool → List Int → List (S117) → List Int → Int → Int → Int → Int → Option (Bool)
  | 0, _, _, _, _, _, _, _, _ => none
  | k + 1, x25, x226000, x226001, x226002, x226003, x227000, x227001, x227002 => if x25 = true then ((quietuslaw10_sanity.f).bind fun t228 => (some t228)) else (if (x226000.length : Int) = 0 then (none) else ((domain_Relate.f k x226000 x226001 x226002 x226003 (Int.tmod (wrap64 (x227000)) (x226000.length : Int)) (Int.tmod (wrap64 (x227001)) (x226000.length : Int))).bind fun t229 => ((domain_Relate.f k x226000 x226001 x226002 x226003 (Int.tmod (wrap64 (x227001)) (x226000.length : Int)) (Int.tmod (wrap64 (x227002)) (x226000.length : Int))).bind fun t230 => ((domain_Relate.f k x226000 x226001 x226002 x226003 (Int.tmod (wrap64 (x227000)) (x226000.length : Int)) (Int.tmod (wrap64 (x227002)) (x226000.length : Int))).bind fun t231 => ((domain_Relate.f k x226000 x226001 x226002 x226003 (Int.tmod (wrap64 (x227001)) (x226000.length : Int)) (Int.tmod (wrap64 (x227000)) (x226000.length : Int))).bind fun t232 => (if t232 = t229 then (if t229 < 0 then (none) else (if t229 > 4 then (none) else (if t231 > (mx t229 t230) then (none) else (if t230 > (mx t229 t231) then (none) else (quietuslaw10_DomainsAreNested.j1 k (x226000.length : Int) (Int.tmod (wrap64 (x227000)) (x226000.length : Int)) (Int.tmod (wrap64 (x227001)) (x226000.length : Int)) t229 (decide (t229 > (mx t230 t231))) x226000 x226001 x226002 x226003))))) else (none)))))))
def quietuslaw10_DomainsAreNested.j1 : Nat → Int → Int → Int → Int → Bool → List Int → List (S117) → List Int → Int → Option (Bool)
  | 0, _, _, _, _, _, _, _, _, _ => none
  | k + 1, x5, x6, x7, x9, x91, x226000, x226001, x226002, x226003 => if x91 = true then (none) else (quietuslaw10_DomainsAreNested.l0 k x5 x6 x7 x9 0 x226000 x226001 x226002 x226003)
def quietuslaw10_DomainsAreNested.l0 : Nat → Int → Int → Int → Int → Int → List Int → List (S117) → List Int → Int → Option (Bool)
  | 0, _, _, _, _, _, _, _, _, _ => none
  | k + 1, x5, x6, x7, x9, x92, x226000, x226001, x226002, x226003 => if x92 < 4 then ((domain_Of.f k x226000 x226001 x226002 x226003 x92 x6).bind fun t234 => ((domain_Of.f k x226000 x226001 x226002 x226003 x92 x7).bind fun t235 => (if ((t234 == t235) != (decide (x92 ≥ x9))) = true then (none) else ((domain_Size.f x226000 x226001 x226002 x226003 x92).bind fun t236 => (quietuslaw10_DomainsAreNested.l1 k x5 x6 x7 x9 x92 0 x92 t236 0 x226000 x226001 x226002 x226003))))) else ((quietuslaw10_sanity.f).bind fun t233 => (some t233))
def quietuslaw10_DomainsAreNested.l1 : Nat → Int → Int → Int → Int → Int → Int → Int → Int → Int → List Int → List (S117) → List Int → Int → Option (Bool)
  | 0, _, _, _, _, _, _, _, _, _, _, _, _, _ => none
  | k + 1, x5, x6, x7, x9, x12, x13, x92, x110, x111, x226000, x226001, x226002, x226003 => if x111 < x110 then ((domain_Members.f x226000 x226001 x226002 x226003 x12 x111).bind fun t237 => (quietuslaw10_DomainsAreNested.l2 k x5 x6 x7 x9 x12 x13 x111 x92 x110 x111 t237 (t237.length : Int) 0 x226000 x226001 x226002 x226003)) else (if x13 = x5 then (quietuslaw10_DomainsAreNested.l0 k x5 x6 x7 x9 (wrap64 (x92 + 1)) x226000 x226001 x226002 x226003) else (none))
def quietuslaw10_DomainsAreNested.l2 : Nat → Int → Int → Int → Int → Int → Int → Int → Int → Int → Int → List Int → Int → Int → List Int → List (S117) → List Int → Int → Option (Bool)
  | 0, _, _, _, _, _, _, _, _, _, _, _, _, _, _, _, _, _ => none
  | k + 1, x5, x6, x7, x9, x12, x13, x14, x92, x110, x111, x117, x118, x119, x226000, x226001, x226002, x226003 => if x119 < x118 then (if 0 ≤ x119 then (if x119 < (x117.length : Int) then ((domain_Of.f k x226000 x226001 x226002 x226003 x12 (rd x117 x119)).bind fun t241 => (if t241 = x14 then (if x119 > 0 then ((domain_Members.f x226000 x226001 x226002 x226003 x12 x14).bind fun t242 => (if 0 ≤ (wrap64 (x119 - 1)) then (if (wrap64 (x119 - 1)) < (t242.length : Int) then (if (rd x117 x119) ≤ (rd t242 (wrap64 (x119 - 1))) then (none) else (quietuslaw10_DomainsAreNested.l2 k x5 x6 x7 x9 x12 (wrap64 (x13 + 1)) x14 x92 x110 x111 x117 x118 (wrap64 (x119 + 1)) x226000 x226001 x226002 x226003)) else (none)) else (none))) else (quietuslaw10_DomainsAreNested.l2 k x5 x6 x7 x9 x12 (wrap64 (x13 + 1)) x14 x92 x110 x111 x117 x118 (wrap64 (x119 + 1)) x226000 x226001 x226002 x226003)) else (none))) else (none)) else (none)) else (quietuslaw10_DomainsAreNested.l1 k x5 x6 x7 x9 x12 x13 x92 x110 (wrap64 (x111 + 1)) x226000 x226001 x226002 x226003)
end
def quietuslaw10_DomainsAreNested.f (k : Nat) (l0_0 : List Int) (l0_1 : List (S117)) (l0_2 : List Int) (a0_3 : Int) (a1_0 : Int) (a1_1 : Int) (a1_2 : Int) : Option (Bool) := (domain_Check.f l0_0 l0_1 l0_2 a0_3).bind fun t227 => (if t227 = 0 then (quietuslaw10_DomainsAreNested.j0 k ((l0_0.length : Int) == 0) l0_0 l0_1 l0_2 a0_3 a1_0 a1_1 a1_2) else (quietuslaw10_DomainsAreNested.j0 k true l0_0 l0_1 l0_2 a0_3 a1_0 a1_1 a1_2))
theorem quietuslaw10_DomainsAreNested.mono_l : ∀ k, (∀ y0 y1 y2 y3 y4 y5 y6 y7, LeO (quietuslaw10_DomainsAreNested.j0 k y0 y1 y2 y3 y4 y5 y6 y7) (quietuslaw10_DomainsAreNested.j0 (k + 1) y0 y1 y2 y3 y4 y5 y6 y7)) ∧ (∀ y0 y1 y2 y3 y4 y5 y6 y7 y8, LeO (quietuslaw10_DomainsAreNested.j1 k y0 y1 y2 y3 y4 y5 y6 y7 y8) (quietuslaw10_DomainsAreNested.j1 (k + 1) y0 y1 y2 y3 y4 y5 y6 y7 y8)) ∧ (∀ y0 y1 y2 y3 y4 y5 y6 y7 y8, LeO (quietuslaw10_DomainsAreNested.l0 k y0 y1 y2 y3 y4 y5 y6 y7 y8) (quietuslaw10_DomainsAreNested.l0 (k + 1) y0 y1 y2 y3 y4 y5 y6 y7 y8)) ∧ (∀ y0 y1 y2 y3 y4 y5 y6 y7 y8 y9 y10 y11 y12, LeO (quietuslaw10_DomainsAreNested.l1 k y0 y1 y2 y3 y4 y5 y6 y7 y8 y9 y10 y11 y12) (quietuslaw10_DomainsAreNested.l1 (k + 1) y0 y1 y2 y3 y4 y5 y6 y7 y8 y9 y10 y11 y12)) ∧ (∀ y0 y1 y2 y3 y4 y5 y6 y7 y8 y9 y10 y11 y12 y13 y14 y15 y16, LeO (quietuslaw10_DomainsAreNested.l2 k y0 y1 y2 y3 y4 y5 y6 y7 y8 y9 y10 y11 y12 y13 y14 y15 y16) (quietuslaw10_DomainsAreNested.l2 (k + 1) y0 y1 y2 y3 y4 y5 y6 y7 y8 y9 y10 y11 y12 y13 y14 y15 y16))
  | 0 => ⟨fun _ _ _ _ _ _ _ _ r h => by simp [quietuslaw10_DomainsAreNested.j0] at h, fun _ _ _ _ _ _ _ _ _ r h => by simp [quietuslaw10_DomainsAreNested.j1] at h, fun _ _ _ _ _ _ _ _ _ r h => by simp [quietuslaw10_DomainsAreNested.l0] at h, fun _ _ _ _ _ _ _ _ _ _ _ _ _ r h => by simp [quietuslaw10_DomainsAreNested.l1] at h, fun _ _ _ _ _ _ _ _ _ _ _ _ _ _ _ _ _ r h => by simp [quietuslaw10_DomainsAreNested.l2] at h⟩
  | k + 1 => by
    obtain ⟨ih0, ih1, ih2, ih3, ih4⟩ := quietuslaw10_DomainsAreNested.mono_l k
    refine ⟨?_, ?_, ?_, ?_, ?_⟩
    · intro y0 y1 y2 y3 y4 y5 y6 y7
      unfold quietuslaw10_DomainsAreNested.j0
      repeat' first
      | (with_reducible exact ih0 _ _ _ _ _ _ _ _)
      | (with_reducible exact ih1 _ _ _ _ _ _ _ _ _)
      | (with_reducible exact ih2 _ _ _ _ _ _ _ _ _)
      | (with_reducible exact ih3 _ _ _ _ _ _ _ _ _ _ _ _ _)
      | (with_reducible exact ih4 _ _ _ _ _ _ _ _ _ _ _ _ _ _ _ _ _)
      | (with_reducible exact domain_Of.mono _ _ _ _ _ _ _)
      | (with_reducible exact domain_Relate.mono _ _ _ _ _ _ _)
      | (with_reducible exact LeO.refl _)
      | (with_reducible exact LeO.none _)
      | (with_reducible refine LeO.ite ?_ ?_)
      | (with_reducible refine LeO.bind ?_ (fun _ => ?_))
      | exact ih0 _ _ _ _ _ _ _ _
      | exact ih1 _ _ _ _ _ _ _ _ _
      | exact ih2 _ _ _ _ _ _ _ _ _
      | exact ih3 _ _ _ _ _ _ _ _ _ _ _ _ _
      | exact ih4 _ _ _ _ _ _ _ _ _ _ _ _ _ _ _ _ _
      | exact domain_Of.mono _ _ _ _ _ _ _
      | exact domain_Relate.mono _ _ _ _ _ _ _
      | exact LeO.none _
      | refine LeO.ite ?_ ?_
      | refine LeO.bind ?_ (fun _ => ?_)
    · intro y0 y1 y2 y3 y4 y5 y6 y7 y8
      unfold quietuslaw10_DomainsAreNested.j1
      repeat' first
      | (with_reducible exact ih0 _ _ _ _ _ _ _ _)
      | (with_reducible exact ih1 _ _ _ _ _ _ _ _ _)
      | (with_reducible exact ih2 _ _ _ _ _ _ _ _ _)
      | (with_reducible exact ih3 _ _ _ _ _ _ _ _ _ _ _ _ _)
      | (with_reducible exact ih4 _ _ _ _ _ _ _ _ _ _ _ _ _ _ _ _ _)
      | (with_reducible exact domain_Of.mono _ _ _ _ _ _ _)
      | (with_reducible exact domain_Relate.mono _ _ _ _ _ _ _)
      | (with_reducible exact LeO.refl _)
      | (with_reducible exact LeO.none _)
      | (with_reducible refine LeO.ite ?_ ?_)
      | (with_reducible refine LeO.bind ?_ (fun _ => ?_))
      | exact ih0 _ _ _ _ _ _ _ _
      | exact ih1 _ _ _ _ _ _ _ _ _
      | exact ih2 _ _ _ _ _ _ _ _ _
      | exact ih3 _ _ _ _ _ _ _ _ _ _ _ _ _
      | exact ih4 _ _ _ _ _ _ _ _ _ _ _ _ _ _ _ _ _
      | exact domain_Of.mono _ _ _ _ _ _ _
      | exact domain_Relate.mono _ _ _ _ _ _ _
      | exact LeO.none _
      | refine LeO.ite ?_ ?_
      | refine LeO.bind ?_ (fun _ => ?_)
    · intro y0 y1 y2 y3 y4 y5 y6 y7 y8
      unfold quietuslaw10_DomainsAreNested.l0
      repeat' first
      | (with_reducible exact ih0 _ _ _ _ _ _ _ _)
      | (with_reducible exact ih1 _ _ _ _ _ _ _ _ _)
      | (with_reducible exact ih2 _ _ _ _ _ _ _ _ _)
      | (with_reducible exact ih3 _ _ _ _ _ _ _ _ _ _ _ _ _)
      | (with_reducible exact ih4 _ _ _ _ _ _ _ _ _ _ _ _ _ _ _ _ _)
      | (with_reducible exact domain_Of.mono _ _ _ _ _ _ _)
      | (with_reducible exact domain_Relate.mono _ _ _ _ _ _ _)
      | (with_reducible exact LeO.refl _)
      | (with_reducible exact LeO.none _)
      | (with_reducible refine LeO.ite ?_ ?_)
      | (with_reducible refine LeO.bind ?_ (fun _ => ?_))
      | exact ih0 _ _ _ _ _ _ _ _
      | exact ih1 _ _ _ _ _ _ _ _ _
      | exact ih2 _ _ _ _ _ _ _ _ _
      | exact ih3 _ _ _ _ _ _ _ _ _ _ _ _ _
      | exact ih4 _ _ _ _ _ _ _ _ _ _ _ _ _ _ _ _ _
      | exact domain_Of.mono _ _ _ _ _ _ _
      | exact domain_Relate.mono _ _ _ _ _ _ _
      | exact LeO.none _
      | refine LeO.ite ?_ ?_
      | refine LeO.bind ?_ (fun _ => ?_)
    · intro y0 y1 y2 y3 y4 y5 y6 y7 y8 y9 y10 y11 y12
      unfold quietuslaw10_DomainsAreNested.l1
      repeat' first
      | (with_reducible exact ih0 _ _ _ _ _ _ _ _)
      | (with_reducible exact ih1 _ _ _ _ _ _ _ _ _)
      | (with_reducible exact ih2 _ _ _ _ _ _ _ _ _)
      | (with_reducible exact ih3 _ _ _ _ _ _ _ _ _ _ _ _ _)
      | (with_reducible exact ih4 _ _ _ _ _ _ _ _ _ _ _ _ _ _ _ _ _)
      | (with_reducible exact domain_Of.mono _ _ _ _ _ _ _)
      | (with_reducible exact domain_Relate.mono _ _ _ _ _ _ _)
      | (with_reducible exact LeO.refl _)
      | (with_reducible exact LeO.none _)
      | (with_reducible refine LeO.ite ?_ ?_)
      | (with_reducible refine LeO.bind ?_ (fun _ => ?_))
      | exact ih0 _ _ _ _ _ _ _ _
      | exact ih1 _ _ _ _ _ _ _ _ _
      | exact ih2 _ _ _ _ _ _ _ _ _
      | exact ih3 _ _ _ _ _ _ _ _ _ _ _ _ _
      | exact ih4 _ _ _ _ _ _ _ _ _ _ _ _ _ _ _ _ _
      | exact domain_Of.mono _ _ _ _ _ _ _
      | exact domain_Relate.mono _ _ _ _ _ _ _
      | exact LeO.none _
      | refine LeO.ite ?_ ?_
      | refine LeO.bind ?_ (fun _ => ?_)
    · intro y0 y1 y2 y3 y4 y5 y6 y7 y8 y9 y10 y11 y12 y13 y14 y15 y16
      unfold quietuslaw10_DomainsAreNested.l2
      repeat' first
      | (with_reducible exact ih0 _ _ _ _ _ _ _ _)
      | (with_reducible exact ih1 _ _ _ _ _ _ _ _ _)
      | (with_reducible exact ih2 _ _ _ _ _ _ _ _ _)
      | (with_reducible exact ih3 _ _ _ _ _ _ _ _ _ _ _ _ _)
      | (with_reducible exact ih4 _ _ _ _ _ _ _ _ _ _ _ _ _ _ _ _ _)
      | (with_reducible exact domain_Of.mono _ _ _ _ _ _ _)
      | (with_reducible exact domain_Relate.mono _ _ _ _ _ _ _)
      | (with_reducible exact LeO.refl _)
      | (with_reducible exact LeO.none _)
      | (with_reducible refine LeO.ite ?_ ?_)
      | (with_reducible refine LeO.bind ?_ (fun _ => ?_))
      | exact ih0 _ _ _ _ _ _ _ _
      | exact ih1 _ _ _ _ _ _ _ _ _
      | exact ih2 _ _ _ _ _ _ _ _ _
      | exact ih3 _ _ _ _ _ _ _ _ _ _ _ _ _
      | exact ih4 _ _ _ _ _ _ _ _ _ _ _ _ _ _ _ _ _
      | exact domain_Of.mono _ _ _ _ _ _ _
      | exact domain_Relate.mono _ _ _ _ _ _ _
      | exact LeO.none _
      | refine LeO.ite ?_ ?_
      | refine LeO.bind ?_ (fun _ => ?_)
theorem quietuslaw10_DomainsAreNested.mono : ∀ a0 a1 a2 a3 a4 a5 a6 k, LeO (quietuslaw10_DomainsAreNested.f k a0 a1 a2 a3 a4 a5 a6) (quietuslaw10_DomainsAreNested.f (k + 1) a0 a1 a2 a3 a4 a5 a6) := by
  intro a0 a1 a2 a3 a4 a5 a6 k
  obtain ⟨ih0, ih1, ih2, ih3, ih4⟩ := quietuslaw10_DomainsAreNested.mono_l k
  unfold quietuslaw10_DomainsAreNested.f
  repeat' first
      | (with_reducible exact ih0 _ _ _ _ _ _ _ _)
      | (with_reducible exact ih1 _ _ _ _ _ _ _ _ _)
      | (with_reducible exact ih2 _ _ _ _ _ _ _ _ _)
      | (with_reducible exact ih3 _ _ _ _ _ _ _ _ _ _ _ _ _)
      | (with_reducible exact ih4 _ _ _ _ _ _ _ _ _ _ _ _ _ _ _ _ _)
      | (with_reducible exact domain_Of.mono _ _ _ _ _ _ _)
      | (with_reducible exact domain_Relate.mono _ _ _ _ _ _ _)
      | (with_reducible exact LeO.refl _)
      | (with_reducible exact LeO.none _)
      | (with_reducible refine LeO.ite ?_ ?_)
      | (with_reducible refine LeO.bind ?_ (fun _ => ?_))
      | exact ih0 _ _ _ _ _ _ _ _
      | exact ih1 _ _ _ _ _ _ _ _ _
      | exact ih2 _ _ _ _ _ _ _ _ _
      | exact ih3 _ _ _ _ _ _ _ _ _ _ _ _ _
      | exact ih4 _ _ _ _ _ _ _ _ _ _ _ _ _ _ _ _ _
      | exact domain_Of.mono _ _ _ _ _ _ _
      | exact domain_Relate.mono _ _ _ _ _ _ _
      | exact LeO.none _
      | refine LeO.ite ?_ ?_
      | refine LeO.bind ?_ (fun _ => ?_)
def quietuslaw10_DomainsAreNested.T4 : Bool × List (List Nat × List Nat) := (true, [([], []), ([0], [0]), ([1], [1]), ([], []), ([2, 3], [2, 3]), ([], []), ([5], [5]), ([6], [6]), ([], []), ([7, 8], [7, 8]), ([], []), ([10], [10]), ([11], [11]), ([], []), ([12, 13], [12, 13]), ([4, 0, 1, 2, 3, 4], [4]), ([9, 15, 0, 1, 2, 3, 4, 5, 6, 7, 8, 9, 15], [9]), ([14, 16, 0, 1, 2, 3, 4, 5, 6, 7, 8, 9, 10, 11, 12, 13, 14, 15, 16], [14])])
def quietuslaw10_DomainsAreNested.B4 : List Nat := [0, 1, 3, 0, 15, 0, 32, 96, 0, 480, 0, 1024, 3072, 0, 15360, 31, 33791, 131071]
theorem quietuslaw10_DomainsAreNested.tab4 : rtab .any (opsOf Try.f4 4) = quietuslaw10_DomainsAreNested.T4 := by kernel_rfl
theorem quietuslaw10_DomainsAreNested.bits4 : waitsOk quietuslaw10_DomainsAreNested.T4.2 quietuslaw10_DomainsAreNested.B4 = true := by kernel_rfl
def quietuslaw10_DomainsAreNested.T5 : Bool × List (List Nat × List Nat) := (true, [([], []), ([], []), ([], []), ([0, 1, 2], [0, 1, 2]), ([], []), ([], []), ([], []), ([4, 5, 6, 3], [4, 5, 6]), ([], []), ([], []), ([], []), ([8, 9, 10, 7], [8, 9, 10]), ([3, 11, 0, 1, 2, 3], [3]), ([7, 12, 0, 1, 2, 3, 4, 5, 6, 7, 12], [7]), ([11, 13, 0, 1, 2, 3, 4, 5, 6, 7, 8, 9, 10, 11, 12, 13], [11])])
def quietuslaw10_DomainsAreNested.B5 : List Nat := [0, 0, 0, 7, 0, 0, 0, 127, 0, 0, 0, 2047, 4095, 8191, 16383]
theorem quietuslaw10_DomainsAreNested.tab5 : rtab .any (opsOf Try.f4 5) = quietuslaw10_DomainsAreNested.T5 := by kernel_rfl
theorem quietuslaw10_DomainsAreNested.bits5 : waitsOk quietuslaw10_DomainsAreNested.T5.2 quietuslaw10_DomainsAreNested.B5 = true := by kernel_rfl
def quietuslaw10_DomainsAreNested.T11 : Bool × List (List Nat × List Nat) := (true, [([], []), ([], []), ([], []), ([0, 1, 2], [0, 1, 2]), ([], []), ([], []), ([], []), ([4, 5, 6, 3], [4, 5, 6]), ([3, 7], [3, 7]), ([], []), ([], []), ([9, 10], [9, 10]), ([8, 11], [8, 11])])
def quietuslaw10_DomainsAreNested.B11 : List Nat := [0, 0, 0, 7, 0, 0, 0, 127, 255, 0, 0, 1536, 4095]
theorem quietuslaw10_DomainsAreNested.tab11 : rtab .any (opsOf Try.f4 11) = quietuslaw10_DomainsAreNested.T11 := by kernel_rfl
theorem quietuslaw10_DomainsAreNested.bits11 : waitsOk quietuslaw10_DomainsAreNested.T11.2 quietuslaw10_DomainsAreNested.B11 = true := by kernel_rfl
set_option maxHeartbeats 8000000 in
set_option maxRecDepth 100000 in
theorem quietuslaw10_DomainsAreNested.calls (k : Nat) (A0_0 : Option Addr) (c0_0 : Nat) (l0_0 : List Int) (A0_1 : Option Addr) (c0_1 : Nat) (l0_1 : List (S117)) (A0_2 : Option Addr) (c0_2 : Nat) (l0_2 : List Int) (a0_3 : Int) (a1_0 : Int) (a1_1 : Int) (a1_2 : Int) (r : Bool) (w : World) (hr0_0 : Kd.C (Kd.int .i64) w A0_0 l0_0.length l0_0) (hc0_0 : l0_0.length ≤ c0_0) (hr0_1 : Kd.C k117 w A0_1 l0_1.length l0_1) (hc0_1 : l0_1.length ≤ c0_1) (hr0_2 : Kd.C (Kd.int .i64) w A0_2 l0_2.length l0_2) (hc0_2 : l0_2.length ≤ c0_2) (h : quietuslaw10_DomainsAreNested.f k l0_0 l0_1 l0_2 a0_3 a1_0 a1_1 a1_2 = some r) :
    Calls Try.prog 4 #[.agg #[.slice A0_0 l0_0.length c0_0, .slice A0_1 l0_1.length c0_1, .slice A0_2 l0_2.length c0_2, .int .i64 a0_3], .agg #[.int .u8 a1_0, .int .u8 a1_1, .int .u8 a1_2]] w fun e w' => e = .returned (.bool r) ∧ Below w.heap.size w w' := by
  have hu25 := Try.underlying25
  have hu36 := Try.underlying36
  have HR0_0 := Aside0.mk hr0_0
  have HC0_0 := Aside0.mk hc0_0
  clear hr0_0 hc0_0
  have HR0_1 := Aside0.mk hr0_1
  have HC0_1 := Aside0.mk hc0_1
  clear hr0_1 hc0_1
  have HR0_2 := Aside0.mk hr0_2
  have HC0_2 := Aside0.mk hc0_2
  clear hr0_2 hc0_2
  have HB := Aside0.mk (Below.refl w.heap.size w)
  have H : ((domain_Check.f l0_0 l0_1 l0_2 a0_3).bind fun t227 => (if t227 = 0 then (quietuslaw10_DomainsAreNested.j0 k ((l0_0.length : Int) == 0) l0_0 l0_1 l0_2 a0_3 a1_0 a1_1 a1_2) else (quietuslaw10_DomainsAreNested.j0 k true l0_0 l0_1 l0_2 a0_3 a1_0 a1_1 a1_2))) = some r := h
  clear h
  have HC3 := Aside0.mk H
  clear H
  go_enter Try.func4, Try.ntmps4
  go_upto_region 1 with (first | ((with_reducible refine gate_dst (N := 2) rfl ?_); (try (refine gate_guard (by rfl) ?_; dsimp only)); refine box_event ?hg (N := 2) ?hd (cs := #[.slice A0_0 l0_0.length c0_0, .slice A0_1 l0_1.length c0_1, .slice A0_2 l0_2.length c0_2, .int .i64 a0_3]) (t := 25) ?hr ?_; (case hd => rfl); (case hg => rfl); (case hr => first | (go_simp; done) | (go_simp; rfl)); intro gb225 hg w4 hbox hb; have n0_ := Aside0.mk (zv_ (by repeat (first | (with_reducible first | exact HB.out | apply zs_ | apply zt_ | apply zu_) | exact HB.out)) hb); have n1_ := Aside0.mk (hbox); have n2_ := Aside0.mk ((by rw [hg]; exact (zw_ (by repeat (first | (with_reducible first | exact HB.out | apply zs_ | apply zt_ | apply zu_) | exact HB.out))) : w.heap.size ≤ gb225)); have n3_ := Aside0.mk ((by rw [hg]; exact (zw_ (by repeat (first | (with_reducible first | exact HB.out | apply zs_ | apply zt_ | apply zu_) | exact HB.out))) : w.heap.size ≤ gb225)); clear HB; have HB := n0_; have BK225 := n1_; have GW225 := n2_; have GE225 := n3_; clear n0_ n1_ n2_ n3_; clear hb hbox hg) | ((with_reducible refine gate_dst (N := 3) rfl ?_); (try (refine gate_guard (by rfl) ?_; dsimp only)); refine box_event ?hg (N := 3) ?hd (cs := #[.int .u8 a1_0, .int .u8 a1_1, .int .u8 a1_2]) (t := 36) ?hr ?_; (case hd => rfl); (case hg => rfl); (case hr => first | (go_simp; done) | (go_simp; rfl)); intro gb226 hg w5 hbox hb; have n0_ := Aside0.mk (zq_ (g := gb225) (o := .cells #[.slice A0_0 l0_0.length c0_0, .slice A0_1 l0_1.length c0_1, .slice A0_2 l0_2.length c0_2, .int .i64 a0_3] 25 (0, 0)) (by (with_reducible repeat (first | refine zm_ ?_ _ | refine zn_ ?_ | refine zo_ ?_ _)); exact BK225.out) hb); have n1_ := Aside0.mk (zv_ (by repeat (first | (with_reducible first | exact HB.out | apply zs_ | apply zt_ | apply zu_ | refine zr_ ?_ GE225.out) | exact HB.out)) hb); have n2_ := Aside0.mk (hbox); have n3_ := Aside0.mk ((by rw [hg]; exact (zw_ (by repeat (first | (with_reducible first | exact HB.out | apply zs_ | apply zt_ | apply zu_ | refine zr_ ?_ GE225.out) | exact HB.out))) : w.heap.size ≤ gb226)); have n4_ := Aside0.mk ((by rw [hg]; exact (zw_ (by repeat (first | (with_reducible first | exact HB.out | apply zs_ | apply zt_ | apply zu_ | refine zr_ ?_ GE225.out) | exact HB.out))) : w.heap.size ≤ gb226)); have n5_ := Aside0.mk ((by rw [hg]; exact Nat.ne_of_lt (blk_lt (g := gb225) (o := .cells #[.slice A0_0 l0_0.length c0_0, .slice A0_1 l0_1.length c0_1, .slice A0_2 l0_2.length c0_2, .int .i64 a0_3] 25 (0, 0)) (by (with_reducible repeat (first | refine zm_ ?_ _ | refine zn_ ?_ | refine zo_ ?_ _)); exact BK225.out)) : gb225 ≠ gb226)); have n6_ := Aside0.mk ((by rw [hg]; exact Nat.ne_of_gt (blk_lt (g := gb225) (o := .cells #[.slice A0_0 l0_0.length c0_0, .slice A0_1 l0_1.length c0_1, .slice A0_2 l0_2.length c0_2, .int .i64 a0_3] 25 (0, 0)) (by (with_reducible repeat (first | refine zm_ ?_ _ | refine zn_ ?_ | refine zo_ ?_ _)); exact BK225.out)) : gb226 ≠ gb225)); clear BK225; clear HB; have BK225 := n0_; have HB := n1_; have BK226 := n2_; have GW226 := n3_; have GE226 := n4_; have NB225_226 := n5_; have NB226_225 := n6_; clear n0_ n1_ n2_ n3_ n4_ n5_ n6_; clear hb hbox hg))
  (try simp only [Act.put, List.setIfInBounds_toArray, List.set_cons_zero, List.set_cons_succ])
  go_cut [25] (fun v25 wc => ∃ (kq : Nat) (x25_2 : Bool), v25 = .bool x25_2 ∧ Aside0 (quietuslaw10_DomainsAreNested.j0 kq x25_2 l0_0 l0_1 l0_2 a0_3 a1_0 a1_1 a1_2 = some r) ∧ Aside0 (kq ≤ k) ∧ Aside0 (wc.heap[gb225]? = some (.cells #[(.slice A0_0 l0_0.length c0_0), (.slice A0_1 l0_1.length c0_1), (.slice A0_2 l0_2.length c0_2), .int .i64 a0_3] 25 (0, 0))) ∧ Aside0 (wc.heap[gb226]? = some (.cells #[.int .u8 a1_0, .int .u8 a1_1, .int .u8 a1_2] 36 (0, 0))) ∧ Aside0 (Below w.heap.size w wc))
  case first =>
    have H := HC3.out
    clear HC3
    replace H := Option.bind_eq_some_iff.mp H
    obtain ⟨t227, A60, H⟩ := H
    replace H : (if t227 = 0 then (quietuslaw10_DomainsAreNested.j0 k ((l0_0.length : Int) == 0) l0_0 l0_1 l0_2 a0_3 a1_0 a1_1 a1_2) else (quietuslaw10_DomainsAreNested.j0 k true l0_0 l0_1 l0_2 a0_3 a1_0 a1_1 a1_2)) = some r := H
    have A6 := Aside0.mk A60
    clear A60
    by_cases c7 : t227 = 0
    · rw [if_pos c7] at H
      have c7b0 : (t227 == 0) = true := beq_iff_eq.mpr c7
      have c7b1 : (t227 != 0) = false := bne_eq_false_iff_eq.mpr c7
      clear c7
      (first | rw [c7b0] | (simp only [i64_w, i32_w]; rw [c7b0]) | rw [c7b1] | skip)
      have H' := Aside0.mk H
      clear H
      have hnb8 := NB225_226.out
      have hnc8 := NB226_225.out
      have hcz9_0 : w5.cell? ⟨gb225, 0, none⟩ = some (.slice A0_0 l0_0.length c0_0) := (blk_cell BK225.out 0).trans rfl
      have hcz9_1 : w5.cell? ⟨gb225, 1, none⟩ = some (.slice A0_1 l0_1.length c0_1) := (blk_cell BK225.out 1).trans rfl
      have hcz9_2 : w5.cell? ⟨gb225, 2, none⟩ = some (.slice A0_2 l0_2.length c0_2) := (blk_cell BK225.out 2).trans rfl
      have hcz9_3 : w5.cell? ⟨gb225, 3, none⟩ = some (.int .i64 a0_3) := (blk_cell BK225.out 3).trans rfl
      have hfz9_0 := blk_frozen BK225.out 0
      have hfz9_1 := blk_frozen BK225.out 1
      have hfz9_2 := blk_frozen BK225.out 2
      have hfz9_3 := blk_frozen BK225.out 3
      go_wp2_with (first | ((with_reducible refine gate_callee (f := 23) rfl ?_); refine goesL_ (some 18) rfl rfl Try.func23 (by kernel_rfl) rfl #[.agg #[.slice A0_0 l0_0.length c0_0, .slice A0_1 l0_1.length c0_1, .slice A0_2 l0_2.length c0_2, .int .i64 a0_3]] rfl (by (try simp only [List.map_toArray, List.map_cons, List.map_nil]); first | done | rfl | (simp only [List.length_drop, List.length_take]; rfl)) ?_; (with_reducible refine (domain_Check.calls _ _ l0_0 _ _ l0_1 _ _ l0_2 a0_3 t227 _ ?side1 ?side2 ?side3 ?side4 ?side5 ?side6 A6.out).mono ?_); (case side1 => repeat (first | exact (Kd.C_below HR0_0.out HB.out) | (with_reducible refine Kd.C_alloc ?_ _) | (with_reducible refine Kd.C_drewN ?_ _) | (with_reducible refine Kd.C_drew ?_))); (case side2 => exact HC0_0.out); (case side3 => repeat (first | exact (Kd.C_below HR0_1.out HB.out) | (with_reducible refine Kd.C_alloc ?_ _) | (with_reducible refine Kd.C_drewN ?_ _) | (with_reducible refine Kd.C_drew ?_))); (case side4 => exact HC0_1.out); (case side5 => repeat (first | exact (Kd.C_below HR0_2.out HB.out) | (with_reducible refine Kd.C_alloc ?_ _) | (with_reducible refine Kd.C_drewN ?_ _) | (with_reducible refine Kd.C_drew ?_))); (case side6 => exact HC0_2.out); rintro e w10 ⟨rfl, hb⟩; refine ⟨_, rfl, ?_⟩; have n0_ := Aside0.mk (zq_ (g := gb225) (o := .cells #[.slice A0_0 l0_0.length c0_0, .slice A0_1 l0_1.length c0_1, .slice A0_2 l0_2.length c0_2, .int .i64 a0_3] 25 (0, 0)) (by (with_reducible repeat (first | refine zm_ ?_ _ | refine zn_ ?_ | refine zo_ ?_ _)); exact BK225.out) hb); have n1_ := Aside0.mk (zq_ (g := gb226) (o := .cells #[.int .u8 a1_0, .int .u8 a1_1, .int .u8 a1_2] 36 (0, 0)) (by (with_reducible repeat (first | refine zm_ ?_ _ | refine zn_ ?_ | refine zo_ ?_ _)); exact BK226.out) hb); have n2_ := Aside0.mk (zv_ (by repeat (first | (with_reducible first | exact HB.out | apply zs_ | apply zt_ | apply zu_ | refine zr_ ?_ GE225.out | refine zr_ ?_ GE226.out) | exact HB.out)) hb); clear BK225; clear BK226; clear HB; have BK225 := n0_; have BK226 := n1_; have HB := n2_; clear n0_ n1_ n2_; (try clear hb); (try clear hb2); (try clear hk); (try clear hi); have hcz11_0 : w10.cell? ⟨gb225, 0, none⟩ = some (.slice A0_0 l0_0.length c0_0) := (blk_cell BK225.out 0).trans rfl; have hcz11_1 : w10.cell? ⟨gb225, 1, none⟩ = some (.slice A0_1 l0_1.length c0_1) := (blk_cell BK225.out 1).trans rfl; have hcz11_2 : w10.cell? ⟨gb225, 2, none⟩ = some (.slice A0_2 l0_2.length c0_2) := (blk_cell BK225.out 2).trans rfl; have hcz11_3 : w10.cell? ⟨gb225, 3, none⟩ = some (.int .i64 a0_3) := (blk_cell BK225.out 3).trans rfl; have hfz11_0 := blk_frozen BK225.out 0; have hfz11_1 := blk_frozen BK225.out 1; have hfz11_2 := blk_frozen BK225.out 2; have hfz11_3 := blk_frozen BK225.out 3))
      first | go_meet | (simp only [← hji34]; go_meet) | (simp only [hji34]; go_meet) | (simp only [← hji36]; go_meet) | (simp only [hji36]; go_meet) | (simp only [← hji38]; go_meet) | (simp only [hji38]; go_meet) | (simp only [← hji67]; go_meet) | (simp only [hji67]; go_meet)
      case rel => exact ⟨_, (((l0_0.length : Int) == 0)), (by first | rfl | (simp; done) | (simp [*]; done)), (by first | exact H' | (simp only [hji34, hji36, hji38, hji67]; exact H') | (rw [hji34]; exact H') | (rw [hji36]; exact H') | (rw [hji38]; exact H') | (rw [hji67]; exact H')), ⟨by first | omega | exact Nat.le_refl _⟩, ⟨by (with_reducible repeat (first | refine zm_ ?_ _ | refine zn_ ?_ | refine zo_ ?_ _)); exact BK225.out⟩, ⟨by (with_reducible repeat (first | refine zm_ ?_ _ | refine zn_ ?_ | refine zo_ ?_ _)); exact BK226.out⟩, ⟨by repeat (first | (with_reducible first | exact HB.out | apply zs_ | apply zt_ | apply zu_ | refine zr_ ?_ GE225.out | refine zr_ ?_ GE226.out) | exact HB.out)⟩⟩
    · rw [if_neg c7] at H
      have c7b0 : (t227 == 0) = false := beq_eq_false_iff_ne.mpr c7
      have c7b1 : (t227 != 0) = true := bne_iff_ne.mpr c7
      (first | rw [c7b0] | (simp only [i64_w, i32_w]; rw [c7b0]) | rw [c7b1] | skip)
      have H' := Aside0.mk H
      clear H
      have hnb12 := NB225_226.out
      have hnc12 := NB226_225.out
      have hcz13_0 : w5.cell? ⟨gb225, 0, none⟩ = some (.slice A0_0 l0_0.length c0_0) := (blk_cell BK225.out 0).trans rfl
      have hcz13_1 : w5.cell? ⟨gb225, 1, none⟩ = some (.slice A0_1 l0_1.length c0_1) := (blk_cell BK225.out 1).trans rfl
      have hcz13_2 : w5.cell? ⟨gb225, 2, none⟩ = some (.slice A0_2 l0_2.length c0_2) := (blk_cell BK225.out 2).trans rfl
      have hcz13_3 : w5.cell? ⟨gb225, 3, none⟩ = some (.int .i64 a0_3) := (blk_cell BK225.out 3).trans rfl
      have hfz13_0 := blk_frozen BK225.out 0
      have hfz13_1 := blk_frozen BK225.out 1
      have hfz13_2 := blk_frozen BK225.out 2
      have hfz13_3 := blk_frozen BK225.out 3
      go_wp2_with (first | ((with_reducible refine gate_callee (f := 23) rfl ?_); refine goesL_ (some 18) rfl rfl Try.func23 (by kernel_rfl) rfl #[.agg #[.slice A0_0 l0_0.length c0_0, .slice A0_1 l0_1.length c0_1, .slice A0_2 l0_2.length c0_2, .int .i64 a0_3]] rfl (by (try simp only [List.map_toArray, List.map_cons, List.map_nil]); first | done | rfl | (simp only [List.length_drop, List.length_take]; rfl)) ?_; (with_reducible refine (domain_Check.calls _ _ l0_0 _ _ l0_1 _ _ l0_2 a0_3 t227 _ ?side1 ?side2 ?side3 ?side4 ?side5 ?side6 A6.out).mono ?_); (case side1 => repeat (first | exact (Kd.C_below HR0_0.out HB.out) | (with_reducible refine Kd.C_alloc ?_ _) | (with_reducible refine Kd.C_drewN ?_ _) | (with_reducible refine Kd.C_drew ?_))); (case side2 => exact HC0_0.out); (case side3 => repeat (first | exact (Kd.C_below HR0_1.out HB.out) | (with_reducible refine Kd.C_alloc ?_ _) | (with_reducible refine Kd.C_drewN ?_ _) | (with_reducible refine Kd.C_drew ?_))); (case side4 => exact HC0_1.out); (case side5 => repeat (first | exact (Kd.C_below HR0_2.out HB.out) | (with_reducible refine Kd.C_alloc ?_ _) | (with_reducible refine Kd.C_drewN ?_ _) | (with_reducible refine Kd.C_drew ?_))); (case side6 => exact HC0_2.out); rintro e w14 ⟨rfl, hb⟩; refine ⟨_, rfl, ?_⟩; have n0_ := Aside0.mk (zq_ (g := gb225) (o := .cells #[.slice A0_0 l0_0.length c0_0, .slice A0_1 l0_1.length c0_1, .slice A0_2 l0_2.length c0_2, .int .i64 a0_3] 25 (0, 0)) (by (with_reducible repeat (first | refine zm_ ?_ _ | refine zn_ ?_ | refine zo_ ?_ _)); exact BK225.out) hb); have n1_ := Aside0.mk (zq_ (g := gb226) (o := .cells #[.int .u8 a1_0, .int .u8 a1_1, .int .u8 a1_2] 36 (0, 0)) (by (with_reducible repeat (first | refine zm_ ?_ _ | refine zn_ ?_ | refine zo_ ?_ _)); exact BK226.out) hb); have n2_ := Aside0.mk (zv_ (by repeat (first | (with_reducible first | exact HB.out | apply zs_ | apply zt_ | apply zu_ | refine zr_ ?_ GE225.out | refine zr_ ?_ GE226.out) | exact HB.out)) hb); clear BK225; clear BK226; clear HB; have BK225 := n0_; have BK226 := n1_; have HB := n2_; clear n0_ n1_ n2_; (try clear hb); (try clear hb2); (try clear hk); (try clear hi)))
      first | go_meet | (simp only [← hji34]; go_meet) | (simp only [hji34]; go_meet) | (simp only [← hji36]; go_meet) | (simp only [hji36]; go_meet) | (simp only [← hji38]; go_meet) | (simp only [hji38]; go_meet) | (simp only [← hji67]; go_meet) | (simp only [hji67]; go_meet)
      case rel => exact ⟨_, (true), (by first | rfl | (simp; done) | (simp [*]; done)), (by first | exact H' | (simp only [hji34, hji36, hji38, hji67]; exact H') | (rw [hji34]; exact H') | (rw [hji36]; exact H') | (rw [hji38]; exact H') | (rw [hji67]; exact H')), ⟨by first | omega | exact Nat.le_refl _⟩, ⟨by (with_reducible repeat (first | refine zm_ ?_ _ | refine zn_ ?_ | refine zo_ ?_ _)); exact BK225.out⟩, ⟨by (with_reducible repeat (first | refine zm_ ?_ _ | refine zn_ ?_ | refine zo_ ?_ _)); exact BK226.out⟩, ⟨by repeat (first | (with_reducible first | exact HB.out | apply zs_ | apply zt_ | apply zu_ | refine zr_ ?_ GE225.out | refine zr_ ?_ GE226.out) | exact HB.out)⟩⟩
  case rest =>
    clear HC3
    try clear c1
    try clear c2
    try clear p2
    try clear c4
    try clear c7
    try clear c7b0
    try clear c7b1
    try clear c8
    try clear c12
    try clear hcz11_0
    try clear hcz11_1
    try clear hcz11_2
    try clear hcz11_3
    try clear hcz13_0
    try clear hcz13_1
    try clear hcz13_2
    try clear hcz13_3
    try clear hcz9_0
    try clear hcz9_1
    try clear hcz9_2
    try clear hcz9_3
    try clear hfz11_0
    try clear hfz11_1
    try clear hfz11_2
    try clear hfz11_3
    try clear hfz13_0
    try clear hfz13_1
    try clear hfz13_2
    try clear hfz13_3
    try clear hfz9_0
    try clear hfz9_1
    try clear hfz9_2
    try clear hfz9_3
    obtain ⟨kq, x25_2, rfl, HA, HJ2, BK225, BK226, HB⟩ := hcut
    cases kq with
    | zero => exact absurd HA.out (by simp [quietuslaw10_DomainsAreNested.j0])
    | succ kj2 =>
      have H := HA.out
      clear HA
      simp only [quietuslaw10_DomainsAreNested.j0] at H
      by_cases c15 : x25_2 = true
      · subst c15
        have H1 : ((quietuslaw10_sanity.f).bind fun t228 => (some t228)) = some r := by rw [if_pos rfl] at H; exact H
        clear H
        have H := H1
        clear H1
        replace H := Option.bind_eq_some_iff.mp H
        obtain ⟨t228, A160, H⟩ := H
        replace H : (some t228) = some r := H
        have A16 := Aside0.mk A160
        clear A160
        obtain rfl := Option.some.inj H
        go_wp2_with (first | ((with_reducible refine gate_callee (f := 15) rfl ?_); refine goesL_ (some 26) rfl rfl Try.func15 (by kernel_rfl) rfl #[] rfl (by (try simp only [List.map_toArray, List.map_cons, List.map_nil]); first | done | rfl | (simp only [List.length_drop, List.length_take]; rfl)) ?_; (with_reducible refine (quietuslaw10_sanity.calls  t228 _ A16.out).mono ?_); rintro e w17 ⟨rfl, hb⟩; refine ⟨_, rfl, ?_⟩; have n0_ := Aside0.mk (zq_ (g := gb225) (o := .cells #[.slice A0_0 l0_0.length c0_0, .slice A0_1 l0_1.length c0_1, .slice A0_2 l0_2.length c0_2, .int .i64 a0_3] 25 (0, 0)) (by (with_reducible repeat (first | refine zm_ ?_ _ | refine zn_ ?_ | refine zo_ ?_ _)); exact BK225.out) hb); have n1_ := Aside0.mk (zq_ (g := gb226) (o := .cells #[.int .u8 a1_0, .int .u8 a1_1, .int .u8 a1_2] 36 (0, 0)) (by (with_reducible repeat (first | refine zm_ ?_ _ | refine zn_ ?_ | refine zo_ ?_ _)); exact BK226.out) hb); have n2_ := Aside0.mk (zv_ (by repeat (first | (with_reducible first | exact HB.out | apply zs_ | apply zt_ | apply zu_ | refine zr_ ?_ GE225.out | refine zr_ ?_ GE226.out) | exact HB.out)) hb); clear BK225; clear BK226; clear HB; have BK225 := n0_; have BK226 := n1_; have HB := n2_; clear n0_ n1_ n2_; (try clear hb); (try clear hb2); (try clear hk); (try clear hi)))
        go_ret
        exact ⟨by first | rfl | (simp [errW_none, errW_some] <;> rfl) | (simp [*, errW_none, errW_some] <;> rfl), by repeat (first | (with_reducible first | exact HB.out | apply zs_ | apply zt_ | apply zu_ | refine zr_ ?_ GE225.out | refine zr_ ?_ GE226.out) | exact HB.out)⟩
      · replace c15 := Bool.eq_false_iff.mpr c15
        subst c15
        have H1 : (if (l0_0.length : Int) = 0 then (none) else ((domain_Relate.f kj2 l0_0 l0_1 l0_2 a0_3 (Int.tmod (wrap64 (a1_0)) (l0_0.length : Int)) (Int.tmod (wrap64 (a1_1)) (l0_0.length : Int))).bind fun t229 => ((domain_Relate.f kj2 l0_0 l0_1 l0_2 a0_3 (Int.tmod (wrap64 (a1_1)) (l0_0.length : Int)) (Int.tmod (wrap64 (a1_2)) (l0_0.length : Int))).bind fun t230 => ((domain_Relate.f kj2 l0_0 l0_1 l0_2 a0_3 (Int.tmod (wrap64 (a1_0)) (l0_0.length : Int)) (Int.tmod (wrap64 (a1_2)) (l0_0.length : Int))).bind fun t231 => ((domain_Relate.f kj2 l0_0 l0_1 l0_2 a0_3 (Int.tmod (wrap64 (a1_1)) (l0_0.length : Int)) (Int.tmod (wrap64 (a1_0)) (l0_0.length : Int))).bind fun t232 => (if t232 = t229 then (if t229 < 0 then (none) else (if t229 > 4 then (none) else (if t231 > (mx t229 t230) then (none) else (if t230 > (mx t229 t231) then (none) else (quietuslaw10_DomainsAreNested.j1 kj2 (l0_0.length : Int) (Int.tmod (wrap64 (a1_0)) (l0_0.length : Int)) (Int.tmod (wrap64 (a1_1)) (l0_0.length : Int)) t229 (decide (t229 > (mx t230 t231))) l0_0 l0_1 l0_2 a0_3))))) else (none))))))) = some r := by rw [if_neg (show ¬ (false = true) by decide)] at H; exact H
        clear H
        have H := H1
        clear H1
        by_cases c18 : (l0_0.length : Int) = 0
        · rw [if_pos c18] at H
          exact absurd H (by simp)
        · rw [if_neg c18] at H
          have c18b0 : ((l0_0.length : Int) == 0) = false := beq_eq_false_iff_ne.mpr c18
          have c18b1 : ((l0_0.length : Int) != 0) = true := bne_iff_ne.mpr c18
          have c18b2 : ¬ (l0_0 = []) := fun h_ => c18 (by rw [h_]; rfl)
          replace H := Option.bind_eq_some_iff.mp H
          obtain ⟨t229, A190, H⟩ := H
          replace H : ((domain_Relate.f kj2 l0_0 l0_1 l0_2 a0_3 (Int.tmod (wrap64 (a1_1)) (l0_0.length : Int)) (Int.tmod (wrap64 (a1_2)) (l0_0.length : Int))).bind fun t230 => ((domain_Relate.f kj2 l0_0 l0_1 l0_2 a0_3 (Int.tmod (wrap64 (a1_0)) (l0_0.length : Int)) (Int.tmod (wrap64 (a1_2)) (l0_0.length : Int))).bind fun t231 => ((domain_Relate.f kj2 l0_0 l0_1 l0_2 a0_3 (Int.tmod (wrap64 (a1_1)) (l0_0.length : Int)) (Int.tmod (wrap64 (a1_0)) (l0_0.length : Int))).bind fun t232 => (if t232 = t229 then (if t229 < 0 then (none) else (if t229 > 4 then (none) else (if t231 > (mx t229 t230) then (none) else (if t230 > (mx t229 t231) then (none) else (quietuslaw10_DomainsAreNested.j1 kj2 (l0_0.length : Int) (Int.tmod (wrap64 (a1_0)) (l0_0.length : Int)) (Int.tmod (wrap64 (a1_1)) (l0_0.length : Int)) t229 (decide (t229 > (mx t230 t231))) l0_0 l0_1 l0_2 a0_3))))) else (none))))) = some r := H
          have A19 := Aside0.mk A190
          clear A190
          replace H := Option.bind_eq_some_iff.mp H
          obtain ⟨t230, A200, H⟩ := H
          replace H : ((domain_Relate.f kj2 l0_0 l0_1 l0_2 a0_3 (Int.tmod (wrap64 (a1_0)) (l0_0.length : Int)) (Int.tmod (wrap64 (a1_2)) (l0_0.length : Int))).bind fun t231 => ((domain_Relate.f kj2 l0_0 l0_1 l0_2 a0_3 (Int.tmod (wrap64 (a1_1)) (l0_0.length : Int)) (Int.tmod (wrap64 (a1_0)) (l0_0.length : Int))).bind fun t232 => (if t232 = t229 then (if t229 < 0 then (none) else (if t229 > 4 then (none) else (if t231 > (mx t229 t230) then (none) else (if t230 > (mx t229 t231) then (none) else (quietuslaw10_DomainsAreNested.j1 kj2 (l0_0.length : Int) (Int.tmod (wrap64 (a1_0)) (l0_0.length : Int)) (Int.tmod (wrap64 (a1_1)) (l0_0.length : Int)) t229 (decide (t229 > (mx t230 t231))) l0_0 l0_1 l0_2 a0_3))))) else (none)))) = some r := H
          have A20 := Aside0.mk A200
          clear A200
          replace H := Option.bind_eq_some_iff.mp H
          obtain ⟨t231, A210, H⟩ := H
          replace H : ((domain_Relate.f kj2 l0_0 l0_1 l0_2 a0_3 (Int.tmod (wrap64 (a1_1)) (l0_0.length : Int)) (Int.tmod (wrap64 (a1_0)) (l0_0.length : Int))).bind fun t232 => (if t232 = t229 then (if t229 < 0 then (none) else (if t229 > 4 then (none) else (if t231 > (mx t229 t230) then (none) else (if t230 > (mx t229 t231) then (none) else (quietuslaw10_DomainsAreNested.j1 kj2 (l0_0.length : Int) (Int.tmod (wrap64 (a1_0)) (l0_0.length : Int)) (Int.tmod (wrap64 (a1_1)) (l0_0.length : Int)) t229 (decide (t229 > (mx t230 t231))) l0_0 l0_1 l0_2 a0_3))))) else (none))) = some r := H
          have A21 := Aside0.mk A210
          clear A210
          have HC22 := Aside0.mk H
          clear H
          have hnb23 := NB225_226.out
          have hnc23 := NB226_225.out
          have hcz24_0 : wc.cell? ⟨gb225, 0, none⟩ = some (.slice A0_0 l0_0.length c0_0) := (blk_cell BK225.out 0).trans rfl
          have hcz24_1 : wc.cell? ⟨gb225, 1, none⟩ = some (.slice A0_1 l0_1.length c0_1) := (blk_cell BK225.out 1).trans rfl
          have hcz24_2 : wc.cell? ⟨gb225, 2, none⟩ = some (.slice A0_2 l0_2.length c0_2) := (blk_cell BK225.out 2).trans rfl
          have hcz24_3 : wc.cell? ⟨gb225, 3, none⟩ = some (.int .i64 a0_3) := (blk_cell BK225.out 3).trans rfl
          have hfz24_0 := blk_frozen BK225.out 0
          have hfz24_1 := blk_frozen BK225.out 1
          have hfz24_2 := blk_frozen BK225.out 2
          have hfz24_3 := blk_frozen BK225.out 3
          try go_wp2
          have n0_ := Aside0.mk (zn_ BK225.out)
          have n1_ := Aside0.mk (zn_ BK226.out)
          have n2_ := Aside0.mk (zu_ HB.out)
          clear BK225
          clear BK226
          clear HB
          have BK225 := n0_
          have BK226 := n1_
          have HB := n2_
          clear n0_ n1_ n2_
          refine start_ (n := 18) (S := fun w' => w'.cell? ⟨gb226, 0, none⟩ = some (.int .u8 a1_0) ∧ w'.cell? ⟨gb226, 1, none⟩ = some (.int .u8 a1_1) ∧ w'.cell? ⟨gb226, 2, none⟩ = some (.int .u8 a1_2)) (ds := []) #[false, false, false, false, false, false, false, false, false, false, false, false, false, false, false, false, false, false] (by kernel_rfl) rfl rfl ⟨(blk_cell BK226.out 0).trans rfl, (blk_cell BK226.out 1).trans rfl, (blk_cell BK226.out 2).trans rfl⟩ (fun hHeld => ?_); refine with_tabW quietuslaw10_DomainsAreNested.tab4 quietuslaw10_DomainsAreNested.bits4 (fun HT_ HW_ => ?_)
          generalize wc.drew = w25 at BK225 BK226 HB hHeld ⊢
          refine pure_ (i := 0) (N := some 30) (v := ?_) (a' := ?_) #[true, false, false, false, false, false, false, false, false, false, false, false, false, false, false, false, false, false] rfl rfl (any_of HT_.out (by kernel_rfl)) (fun _ _ _ h => h) (Or.inl ⟨by rfl, ?_⟩) ?_ ?_
          rotate_left
          · intro w'
            go_simp
            with_reducible rfl
          rotate_left
          · simp only [Act.put, List.setIfInBounds_toArray, List.set_cons_zero, List.set_cons_succ, i64_w, i32_w]
            rfl
          refine pure_ (i := 3) (N := some 33) (v := ?_) (a' := ?_) #[true, false, false, true, false, false, false, false, false, false, false, false, false, false, false, false, false, false] rfl rfl (any_of HT_.out (by kernel_rfl)) (fun _ _ _ h => h) (Or.inl ⟨by rfl, ?_⟩) ?_ ?_
          rotate_left
          · intro w'
            go_simp
            with_reducible rfl
          rotate_left
          · simp only [Act.put, List.setIfInBounds_toArray, List.set_cons_zero, List.set_cons_succ, i64_w, i32_w]
            rfl
          refine pure_ (i := 5) (N := some 35) (v := ?_) (a' := ?_) #[true, false, false, true, false, true, false, false, false, false, false, false, false, false, false, false, false, false] rfl rfl (any_of HT_.out (by kernel_rfl)) (fun _ _ _ h => h) (Or.inl ⟨by rfl, ?_⟩) ?_ ?_
          rotate_left
          · intro w'
            go_simp
            with_reducible rfl
          rotate_left
          · simp only [Act.put, List.setIfInBounds_toArray, List.set_cons_zero, List.set_cons_succ, i64_w, i32_w]
            rfl
          refine pure_ (i := 8) (N := some 38) (v := ?_) (a' := ?_) #[true, false, false, true, false, true, false, false, true, false, false, false, false, false, false, false, false, false] rfl rfl (any_of HT_.out (by kernel_rfl)) (fun _ _ _ h => h) (Or.inl ⟨by rfl, ?_⟩) ?_ ?_
          rotate_left
          · intro w'
            go_simp
            with_reducible rfl
          rotate_left
          · simp only [Act.put, List.setIfInBounds_toArray, List.set_cons_zero, List.set_cons_succ, i64_w, i32_w]
            rfl
          refine pure_ (i := 10) (N := some 40) (v := ?_) (a' := ?_) #[true, false, false, true, false, true, false, false, true, false, true, false, false, false, false, false, false, false] rfl rfl (any_of HT_.out (by kernel_rfl)) (fun _ _ _ h => h) (Or.inl ⟨by rfl, ?_⟩) ?_ ?_
          rotate_left
          · intro w'
            go_simp
            with_reducible rfl
          rotate_left
          · simp only [Act.put, List.setIfInBounds_toArray, List.set_cons_zero, List.set_cons_succ, i64_w, i32_w]
            rfl
          refine pure_ (i := 13) (N := some 43) (v := ?_) (a' := ?_) #[true, false, false, true, false, true, false, false, true, false, true, false, false, true, false, false, false, false] rfl rfl (any_of HT_.out (by kernel_rfl)) (fun _ _ _ h => h) (Or.inl ⟨by rfl, ?_⟩) ?_ ?_
          rotate_left
          · intro w'
            go_simp
            with_reducible rfl
          rotate_left
          · simp only [Act.put, List.setIfInBounds_toArray, List.set_cons_zero, List.set_cons_succ, i64_w, i32_w]
            rfl
          refine take_ (i := 1) (N := some 31) (v := ?_) (a' := ?_) #[true, true, false, true, false, true, false, false, true, false, true, false, false, true, false, false, false, false] rfl rfl (take_ofW HT_.out HW_.out (by kernel_rfl)) (fun _ _ _ h => h) (Or.inl ⟨by rfl, ?_⟩) hHeld ?_ ?_
          rotate_left
          · rintro w' ⟨s0, s1, s2⟩
            go_simp
            with_reducible rfl
          rotate_left
          · simp only [Act.put, List.setIfInBounds_toArray, List.set_cons_zero, List.set_cons_succ, i64_w, i32_w]
            rfl
          refine pure_ (i := 2) (N := some 32) (v := ?_) (a' := ?_) #[true, true, true, true, false, true, false, false, true, false, true, false, false, true, false, false, false, false] rfl rfl (any_of HT_.out (by kernel_rfl)) (fun _ _ _ h => h) (Or.inl ⟨by rfl, ?_⟩) ?_ ?_
          rotate_left
          · intro w'
            go_simp
            with_reducible rfl
          rotate_left
          · simp only [Act.put, List.setIfInBounds_toArray, List.set_cons_zero, List.set_cons_succ, i64_w, i32_w]
            rfl
          refine pure_ (i := 4) (N := some 34) (v := ?_) (a' := ?_) #[true, true, true, true, true, true, false, false, true, false, true, false, false, true, false, false, false, false] rfl rfl (any_of HT_.out (by kernel_rfl)) (fun _ _ _ h => h) (Or.inl ⟨by rfl, ?_⟩) ?_ ?_
          rotate_left
          · intro w'
            go_simp
            with_reducible rfl
          rotate_left
          · simp only [Act.put, List.setIfInBounds_toArray, List.set_cons_zero, List.set_cons_succ, i64_w, i32_w]
            rfl
          refine pure_ (i := 15) (N := some 6) (v := ?_) (a' := ?_) #[true, true, true, true, true, true, false, false, true, false, true, false, false, true, false, true, false, false] rfl rfl (any_of HT_.out (by kernel_rfl)) (fun _ _ _ h => h) (Or.inl ⟨by rfl, ?_⟩) ?_ ?_
          rotate_left
          · intro w'
            go_simp
            with_reducible rfl
          rotate_left
          · simp only [Act.put, List.setIfInBounds_toArray, List.set_cons_zero, List.set_cons_succ, i64_w, i32_w]
            rfl
          refine take_ (i := 6) (N := some 36) (v := ?_) (a' := ?_) #[true, true, true, true, true, true, true, false, true, false, true, false, false, true, false, true, false, false] rfl rfl (take_ofW HT_.out HW_.out (by kernel_rfl)) (fun _ _ _ h => h) (Or.inl ⟨by rfl, ?_⟩) hHeld ?_ ?_
          rotate_left
          · rintro w' ⟨s0, s1, s2⟩
            go_simp
            with_reducible rfl
          rotate_left
          · simp only [Act.put, List.setIfInBounds_toArray, List.set_cons_zero, List.set_cons_succ, i64_w, i32_w]
            rfl
          refine pure_ (i := 7) (N := some 37) (v := ?_) (a' := ?_) #[true, true, true, true, true, true, true, true, true, false, true, false, false, true, false, true, false, false] rfl rfl (any_of HT_.out (by kernel_rfl)) (fun _ _ _ h => h) (Or.inl ⟨by rfl, ?_⟩) ?_ ?_
          rotate_left
          · intro w'
            go_simp
            with_reducible rfl
          rotate_left
          · simp only [Act.put, List.setIfInBounds_toArray, List.set_cons_zero, List.set_cons_succ, i64_w, i32_w]
            rfl
          refine pure_ (i := 9) (N := some 39) (v := ?_) (a' := ?_) #[true, true, true, true, true, true, true, true, true, true, true, false, false, true, false, true, false, false] rfl rfl (any_of HT_.out (by kernel_rfl)) (fun _ _ _ h => h) (Or.inl ⟨by rfl, ?_⟩) ?_ ?_
          rotate_left
          · intro w'
            go_simp
            with_reducible rfl
          rotate_left
          · simp only [Act.put, List.setIfInBounds_toArray, List.set_cons_zero, List.set_cons_succ, i64_w, i32_w]
            rfl
          refine pure_ (i := 16) (N := some 7) (v := ?_) (a' := ?_) #[true, true, true, true, true, true, true, true, true, true, true, false, false, true, false, true, true, false] rfl rfl (any_of HT_.out (by kernel_rfl)) (fun _ _ _ h => h) (Or.inl ⟨by rfl, ?_⟩) ?_ ?_
          rotate_left
          · intro w'
            go_simp
            with_reducible rfl
          rotate_left
          · simp only [Act.put, List.setIfInBounds_toArray, List.set_cons_zero, List.set_cons_succ, i64_w, i32_w]
            rfl
          refine take_ (i := 11) (N := some 41) (v := ?_) (a' := ?_) #[true, true, true, true, true, true, true, true, true, true, true, true, false, true, false, true, true, false] rfl rfl (take_ofW HT_.out HW_.out (by kernel_rfl)) (fun _ _ _ h => h) (Or.inl ⟨by rfl, ?_⟩) hHeld ?_ ?_
          rotate_left
          · rintro w' ⟨s0, s1, s2⟩
            go_simp
            with_reducible rfl
          rotate_left
          · simp only [Act.put, List.setIfInBounds_toArray, List.set_cons_zero, List.set_cons_succ, i64_w, i32_w]
            rfl
          refine pure_ (i := 12) (N := some 42) (v := ?_) (a' := ?_) #[true, true, true, true, true, true, true, true, true, true, true, true, true, true, false, true, true, false] rfl rfl (any_of HT_.out (by kernel_rfl)) (fun _ _ _ h => h) (Or.inl ⟨by rfl, ?_⟩) ?_ ?_
          rotate_left
          · intro w'
            go_simp
            with_reducible rfl
          rotate_left
          · simp only [Act.put, List.setIfInBounds_toArray, List.set_cons_zero, List.set_cons_succ, i64_w, i32_w]
            rfl
          refine pure_ (i := 14) (N := some 44) (v := ?_) (a' := ?_) #[true, true, true, true, true, true, true, true, true, true, true, true, true, true, true, true, true, false] rfl rfl (any_of HT_.out (by kernel_rfl)) (fun _ _ _ h => h) (Or.inl ⟨by rfl, ?_⟩) ?_ ?_
          rotate_left
          · intro w'
            go_simp
            with_reducible rfl
          rotate_left
          · simp only [Act.put, List.setIfInBounds_toArray, List.set_cons_zero, List.set_cons_succ, i64_w, i32_w]
            rfl
          refine pure_ (i := 17) (N := some 8) (v := ?_) (a' := ?_) #[true, true, true, true, true, true, true, true, true, true, true, true, true, true, true, true, true, true] rfl rfl (any_of HT_.out (by kernel_rfl)) (fun _ _ _ h => h) (Or.inl ⟨by rfl, ?_⟩) ?_ ?_
          rotate_left
          · intro w'
            go_simp
            with_reducible rfl
          rotate_left
          · simp only [Act.put, List.setIfInBounds_toArray, List.set_cons_zero, List.set_cons_succ, i64_w, i32_w]
            rfl
          refine done_ (done_of HT_.out (by kernel_rfl)) ?_
          try go_wp2
          have n0_ := Aside0.mk (zn_ BK225.out)
          have n1_ := Aside0.mk (zn_ BK226.out)
          have n2_ := Aside0.mk (zu_ HB.out)
          clear BK225
          clear BK226
          clear HB
          have BK225 := n0_
          have BK226 := n1_
          have HB := n2_
          clear n0_ n1_ n2_
          refine start_ (n := 15) (S := fun w' => w'.cell? ⟨gb225, 0, none⟩ = some (.slice A0_0 l0_0.length c0_0) ∧ w'.cell? ⟨gb225, 1, none⟩ = some (.slice A0_1 l0_1.length c0_1) ∧ w'.cell? ⟨gb225, 2, none⟩ = some (.slice A0_2 l0_2.length c0_2) ∧ w'.cell? ⟨gb225, 3, none⟩ = some (.int .i64 a0_3)) (ds := []) #[false, false, false, false, false, false, false, false, false, false, false, false, false, false, false] (by kernel_rfl) rfl rfl ⟨(blk_cell BK225.out 0).trans rfl, (blk_cell BK225.out 1).trans rfl, (blk_cell BK225.out 2).trans rfl, (blk_cell BK225.out 3).trans rfl⟩ (fun hHeld => ?_); refine with_tabW quietuslaw10_DomainsAreNested.tab5 quietuslaw10_DomainsAreNested.bits5 (fun HT_ HW_ => ?_)
          generalize w25.drew = w26 at BK225 BK226 HB hHeld ⊢
          refine pure_ (i := 1) (N := some 46) (v := ?_) (a' := ?_) #[false, true, false, false, false, false, false, false, false, false, false, false, false, false, false] rfl rfl (any_of HT_.out (by kernel_rfl)) (fun _ _ _ h => h) (Or.inl ⟨by rfl, ?_⟩) ?_ ?_
          rotate_left
          · intro w'
            go_simp
            with_reducible rfl
          rotate_left
          · simp only [Act.put, List.setIfInBounds_toArray, List.set_cons_zero, List.set_cons_succ, i64_w, i32_w]
            rfl
          refine pure_ (i := 2) (N := some 47) (v := ?_) (a' := ?_) #[false, true, true, false, false, false, false, false, false, false, false, false, false, false, false] rfl rfl (any_of HT_.out (by kernel_rfl)) (fun _ _ _ h => h) (Or.inl ⟨by rfl, ?_⟩) ?_ ?_
          rotate_left
          · intro w'
            go_simp
            with_reducible rfl
          rotate_left
          · simp only [Act.put, List.setIfInBounds_toArray, List.set_cons_zero, List.set_cons_succ, i64_w, i32_w]
            rfl
          refine pure_ (i := 5) (N := some 50) (v := ?_) (a' := ?_) #[false, true, true, false, false, true, false, false, false, false, false, false, false, false, false] rfl rfl (any_of HT_.out (by kernel_rfl)) (fun _ _ _ h => h) (Or.inl ⟨by rfl, ?_⟩) ?_ ?_
          rotate_left
          · intro w'
            go_simp
            with_reducible rfl
          rotate_left
          · simp only [Act.put, List.setIfInBounds_toArray, List.set_cons_zero, List.set_cons_succ, i64_w, i32_w]
            rfl
          refine pure_ (i := 6) (N := some 51) (v := ?_) (a' := ?_) #[false, true, true, false, false, true, true, false, false, false, false, false, false, false, false] rfl rfl (any_of HT_.out (by kernel_rfl)) (fun _ _ _ h => h) (Or.inl ⟨by rfl, ?_⟩) ?_ ?_
          rotate_left
          · intro w'
            go_simp
            with_reducible rfl
          rotate_left
          · simp only [Act.put, List.setIfInBounds_toArray, List.set_cons_zero, List.set_cons_succ, i64_w, i32_w]
            rfl
          refine pure_ (i := 9) (N := some 54) (v := ?_) (a' := ?_) #[false, true, true, false, false, true, true, false, false, true, false, false, false, false, false] rfl rfl (any_of HT_.out (by kernel_rfl)) (fun _ _ _ h => h) (Or.inl ⟨by rfl, ?_⟩) ?_ ?_
          rotate_left
          · intro w'
            go_simp
            with_reducible rfl
          rotate_left
          · simp only [Act.put, List.setIfInBounds_toArray, List.set_cons_zero, List.set_cons_succ, i64_w, i32_w]
            rfl
          refine pure_ (i := 10) (N := some 55) (v := ?_) (a' := ?_) #[false, true, true, false, false, true, true, false, false, true, true, false, false, false, false] rfl rfl (any_of HT_.out (by kernel_rfl)) (fun _ _ _ h => h) (Or.inl ⟨by rfl, ?_⟩) ?_ ?_
          rotate_left
          · intro w'
            go_simp
            with_reducible rfl
          rotate_left
          · simp only [Act.put, List.setIfInBounds_toArray, List.set_cons_zero, List.set_cons_succ, i64_w, i32_w]
            rfl
          refine take_ (i := 0) (N := some 45) (v := ?_) (a' := ?_) #[true, true, true, false, false, true, true, false, false, true, true, false, false, false, false] rfl rfl (take_ofW HT_.out HW_.out (by kernel_rfl)) (fun _ _ _ h => h) (Or.inl ⟨by rfl, ?_⟩) hHeld ?_ ?_
          rotate_left
          · rintro w' ⟨s0, s1, s2, s3⟩
            go_simp
            with_reducible rfl
          rotate_left
          · simp only [Act.put, List.setIfInBounds_toArray, List.set_cons_zero, List.set_cons_succ, i64_w, i32_w]
            rfl
          refine take_ (i := 4) (N := some 49) (v := ?_) (a' := ?_) #[true, true, true, false, true, true, true, false, false, true, true, false, false, false, false] rfl rfl (take_ofW HT_.out HW_.out (by kernel_rfl)) (fun _ _ _ h => h) (Or.inl ⟨by rfl, ?_⟩) hHeld ?_ ?_
          rotate_left
          · rintro w' ⟨s0, s1, s2, s3⟩
            go_simp
            with_reducible rfl
          rotate_left
          · simp only [Act.put, List.setIfInBounds_toArray, List.set_cons_zero, List.set_cons_succ, i64_w, i32_w]
            rfl
          refine take_ (i := 8) (N := some 53) (v := ?_) (a' := ?_) #[true, true, true, false, true, true, true, false, true, true, true, false, false, false, false] rfl rfl (take_ofW HT_.out HW_.out (by kernel_rfl)) (fun _ _ _ h => h) (Or.inl ⟨by rfl, ?_⟩) hHeld ?_ ?_
          rotate_left
          · rintro w' ⟨s0, s1, s2, s3⟩
            go_simp
            with_reducible rfl
          rotate_left
          · simp only [Act.put, List.setIfInBounds_toArray, List.set_cons_zero, List.set_cons_succ, i64_w, i32_w]
            rfl
          refine one_ (i := 3) (N := some 48) #[true, true, true, true, true, true, true, false, true, true, true, false, false, false, false] rfl rfl (one_of HT_.out (by kernel_rfl)) (by decide) (fun K hK => ?_)
          refine goes_ Try.func25 (by kernel_rfl) rfl #[.agg #[.slice A0_0 l0_0.length c0_0, .slice A0_1 l0_1.length c0_1, .slice A0_2 l0_2.length c0_2, .int .i64 a0_3], .int .i64 (Int.tmod (wrap64 (a1_0)) (l0_0.length : Int)), .int .i64 (Int.tmod (wrap64 (a1_1)) (l0_0.length : Int))] (by rfl) rfl rfl (by (try simp only [List.map_toArray, List.map_cons, List.map_nil]); first | done | rfl | (simp only [List.length_drop, List.length_take]; rfl)) ?_
          with_reducible refine (domain_Relate.calls kj2 _ _ l0_0 _ _ l0_1 _ _ l0_2 a0_3 (Int.tmod (wrap64 (a1_0)) (l0_0.length : Int)) (Int.tmod (wrap64 (a1_1)) (l0_0.length : Int)) t229 _ ?side1 ?side2 ?side3 ?side4 ?side5 ?side6 A19.out).mono ?_
          (case side1 => repeat (first | exact (Kd.C_below HR0_0.out HB.out) | (with_reducible refine Kd.C_alloc ?_ _) | (with_reducible refine Kd.C_drewN ?_ _) | (with_reducible refine Kd.C_drew ?_)))
          (case side2 => exact HC0_0.out)
          (case side3 => repeat (first | exact (Kd.C_below HR0_1.out HB.out) | (with_reducible refine Kd.C_alloc ?_ _) | (with_reducible refine Kd.C_drewN ?_ _) | (with_reducible refine Kd.C_drew ?_)))
          (case side4 => exact HC0_1.out)
          (case side5 => repeat (first | exact (Kd.C_below HR0_2.out HB.out) | (with_reducible refine Kd.C_alloc ?_ _) | (with_reducible refine Kd.C_drewN ?_ _) | (with_reducible refine Kd.C_drew ?_)))
          (case side6 => exact HC0_2.out)
          rintro e w27 ⟨rfl, hb⟩
          refine ⟨_, rfl, ?_⟩
          have n0_ := Aside0.mk (zq_ (g := gb225) (o := .cells #[.slice A0_0 l0_0.length c0_0, .slice A0_1 l0_1.length c0_1, .slice A0_2 l0_2.length c0_2, .int .i64 a0_3] 25 (0, 0)) (by (with_reducible repeat (first | refine zm_ ?_ _ | refine zn_ ?_ | refine zo_ ?_ _)); exact BK225.out) hb)
          have n1_ := Aside0.mk (zq_ (g := gb226) (o := .cells #[.int .u8 a1_0, .int .u8 a1_1, .int .u8 a1_2] 36 (0, 0)) (by (with_reducible repeat (first | refine zm_ ?_ _ | refine zn_ ?_ | refine zo_ ?_ _)); exact BK226.out) hb)
          have n2_ := Aside0.mk (zv_ (by repeat (first | (with_reducible first | exact HB.out | apply zs_ | apply zt_ | apply zu_ | refine zr_ ?_ GE225.out | refine zr_ ?_ GE226.out) | exact HB.out)) hb)
          clear BK225
          clear BK226
          clear HB
          have BK225 := n0_
          have BK226 := n1_
          have HB := n2_
          clear n0_ n1_ n2_
          (try clear hb)
          (try clear hb2)
          (try clear hk)
          (try clear hi)
          refine hK.out _ _ ⟨(blk_cell BK225.out 0).trans rfl, (blk_cell BK225.out 1).trans rfl, (blk_cell BK225.out 2).trans rfl, (blk_cell BK225.out 3).trans rfl⟩ (fun hHeld => ?_)
          clear hK K
          refine norm_ (a' := ?_) ?_ ?_
          rotate_left
          · show Act.put _ (some 48) _ = _
            simp only [Act.put, List.setIfInBounds_toArray, List.set_cons_zero, List.set_cons_succ, i64_w, i32_w]
            rfl
          refine one_ (i := 7) (N := some 52) #[true, true, true, true, true, true, true, true, true, true, true, false, false, false, false] rfl rfl (one_of HT_.out (by kernel_rfl)) (by decide) (fun K hK => ?_)
          refine goes_ Try.func25 (by kernel_rfl) rfl #[.agg #[.slice A0_0 l0_0.length c0_0, .slice A0_1 l0_1.length c0_1, .slice A0_2 l0_2.length c0_2, .int .i64 a0_3], .int .i64 (Int.tmod (wrap64 (a1_1)) (l0_0.length : Int)), .int .i64 (Int.tmod (wrap64 (a1_2)) (l0_0.length : Int))] (by rfl) rfl rfl (by (try simp only [List.map_toArray, List.map_cons, List.map_nil]); first | done | rfl | (simp only [List.length_drop, List.length_take]; rfl)) ?_
          with_reducible refine (domain_Relate.calls kj2 _ _ l0_0 _ _ l0_1 _ _ l0_2 a0_3 (Int.tmod (wrap64 (a1_1)) (l0_0.length : Int)) (Int.tmod (wrap64 (a1_2)) (l0_0.length : Int)) t230 _ ?side1 ?side2 ?side3 ?side4 ?side5 ?side6 A20.out).mono ?_
          (case side1 => repeat (first | exact (Kd.C_below HR0_0.out HB.out) | (with_reducible refine Kd.C_alloc ?_ _) | (with_reducible refine Kd.C_drewN ?_ _) | (with_reducible refine Kd.C_drew ?_)))
          (case side2 => exact HC0_0.out)
          (case side3 => repeat (first | exact (Kd.C_below HR0_1.out HB.out) | (with_reducible refine Kd.C_alloc ?_ _) | (with_reducible refine Kd.C_drewN ?_ _) | (with_reducible refine Kd.C_drew ?_)))
          (case side4 => exact HC0_1.out)
          (case side5 => repeat (first | exact (Kd.C_below HR0_2.out HB.out) | (with_reducible refine Kd.C_alloc ?_ _) | (with_reducible refine Kd.C_drewN ?_ _) | (with_reducible refine Kd.C_drew ?_)))
          (case side6 => exact HC0_2.out)
          rintro e w28 ⟨rfl, hb⟩
          refine ⟨_, rfl, ?_⟩
          have n0_ := Aside0.mk (zq_ (g := gb225) (o := .cells #[.slice A0_0 l0_0.length c0_0, .slice A0_1 l0_1.length c0_1, .slice A0_2 l0_2.length c0_2, .int .i64 a0_3] 25 (0, 0)) (by (with_reducible repeat (first | refine zm_ ?_ _ | refine zn_ ?_ | refine zo_ ?_ _)); exact BK225.out) hb)
          have n1_ := Aside0.mk (zq_ (g := gb226) (o := .cells #[.int .u8 a1_0, .int .u8 a1_1, .int .u8 a1_2] 36 (0, 0)) (by (with_reducible repeat (first | refine zm_ ?_ _ | refine zn_ ?_ | refine zo_ ?_ _)); exact BK226.out) hb)
          have n2_ := Aside0.mk (zv_ (by repeat (first | (with_reducible first | exact HB.out | apply zs_ | apply zt_ | apply zu_ | refine zr_ ?_ GE225.out | refine zr_ ?_ GE226.out) | exact HB.out)) hb)
          clear BK225
          clear BK226
          clear HB
          have BK225 := n0_
          have BK226 := n1_
          have HB := n2_
          clear n0_ n1_ n2_
          (try clear hb)
          (try clear hb2)
          (try clear hk)
          (try clear hi)
          refine hK.out _ _ ⟨(blk_cell BK225.out 0).trans rfl, (blk_cell BK225.out 1).trans rfl, (blk_cell BK225.out 2).trans rfl, (blk_cell BK225.out 3).trans rfl⟩ (fun hHeld => ?_)
          clear hK K
          refine norm_ (a' := ?_) ?_ ?_
          rotate_left
          · show Act.put _ (some 52) _ = _
            simp only [Act.put, List.setIfInBounds_toArray, List.set_cons_zero, List.set_cons_succ, i64_w, i32_w]
            rfl
          refine one_ (i := 11) (N := some 56) #[true, true, true, true, true, true, true, true, true, true, true, true, false, false, false] rfl rfl (one_of HT_.out (by kernel_rfl)) (by decide) (fun K hK => ?_)
          refine goes_ Try.func25 (by kernel_rfl) rfl #[.agg #[.slice A0_0 l0_0.length c0_0, .slice A0_1 l0_1.length c0_1, .slice A0_2 l0_2.length c0_2, .int .i64 a0_3], .int .i64 (Int.tmod (wrap64 (a1_0)) (l0_0.length : Int)), .int .i64 (Int.tmod (wrap64 (a1_2)) (l0_0.length : Int))] (by rfl) rfl rfl (by (try simp only [List.map_toArray, List.map_cons, List.map_nil]); first | done | rfl | (simp only [List.length_drop, List.length_take]; rfl)) ?_
          with_reducible refine (domain_Relate.calls kj2 _ _ l0_0 _ _ l0_1 _ _ l0_2 a0_3 (Int.tmod (wrap64 (a1_0)) (l0_0.length : Int)) (Int.tmod (wrap64 (a1_2)) (l0_0.length : Int)) t231 _ ?side1 ?side2 ?side3 ?side4 ?side5 ?side6 A21.out).mono ?_
          (case side1 => repeat (first | exact (Kd.C_below HR0_0.out HB.out) | (with_reducible refine Kd.C_alloc ?_ _) | (with_reducible refine Kd.C_drewN ?_ _) | (with_reducible refine Kd.C_drew ?_)))
          (case side2 => exact HC0_0.out)
          (case side3 => repeat (first | exact (Kd.C_below HR0_1.out HB.out) | (with_reducible refine Kd.C_alloc ?_ _) | (with_reducible refine Kd.C_drewN ?_ _) | (with_reducible refine Kd.C_drew ?_)))
          (case side4 => exact HC0_1.out)
          (case side5 => repeat (first | exact (Kd.C_below HR0_2.out HB.out) | (with_reducible refine Kd.C_alloc ?_ _) | (with_reducible refine Kd.C_drewN ?_ _) | (with_reducible refine Kd.C_drew ?_)))
          (case side6 => exact HC0_2.out)
          rintro e w29 ⟨rfl, hb⟩
          refine ⟨_, rfl, ?_⟩
          have n0_ := Aside0.mk (zq_ (g := gb225) (o := .cells #[.slice A0_0 l0_0.length c0_0, .slice A0_1 l0_1.length c0_1, .slice A0_2 l0_2.length c0_2, .int .i64 a0_3] 25 (0, 0)) (by (with_reducible repeat (first | refine zm_ ?_ _ | refine zn_ ?_ | refine zo_ ?_ _)); exact BK225.out) hb)
          have n1_ := Aside0.mk (zq_ (g := gb226) (o := .cells #[.int .u8 a1_0, .int .u8 a1_1, .int .u8 a1_2] 36 (0, 0)) (by (with_reducible repeat (first | refine zm_ ?_ _ | refine zn_ ?_ | refine zo_ ?_ _)); exact BK226.out) hb)
          have n2_ := Aside0.mk (zv_ (by repeat (first | (with_reducible first | exact HB.out | apply zs_ | apply zt_ | apply zu_ | refine zr_ ?_ GE225.out | refine zr_ ?_ GE226.out) | exact HB.out)) hb)
          clear BK225
          clear BK226
          clear HB
          have BK225 := n0_
          have BK226 := n1_
          have HB := n2_
          clear n0_ n1_ n2_
          (try clear hb)
          (try clear hb2)
          (try clear hk)
          (try clear hi)
          refine hK.out _ _ ⟨(blk_cell BK225.out 0).trans rfl, (blk_cell BK225.out 1).trans rfl, (blk_cell BK225.out 2).trans rfl, (blk_cell BK225.out 3).trans rfl⟩ (fun hHeld => ?_)
          clear hK K
          refine norm_ (a' := ?_) ?_ ?_
          rotate_left
          · show Act.put _ (some 56) _ = _
            simp only [Act.put, List.setIfInBounds_toArray, List.set_cons_zero, List.set_cons_succ, i64_w, i32_w]
            rfl
          refine pure_ (i := 12) (N := some 9) (v := ?_) (a' := ?_) #[true, true, true, true, true, true, true, true, true, true, true, true, true, false, false] rfl rfl (any_of HT_.out (by kernel_rfl)) (fun _ _ _ h => h) (Or.inl ⟨by rfl, ?_⟩) ?_ ?_
          rotate_left
          · intro w'
            go_simp
            with_reducible rfl
          rotate_left
          · simp only [Act.put, List.setIfInBounds_toArray, List.set_cons_zero, List.set_cons_succ, i64_w, i32_w]
            rfl
          refine pure_ (i := 13) (N := some 10) (v := ?_) (a' := ?_) #[true, true, true, true, true, true, true, true, true, true, true, true, true, true, false] rfl rfl (any_of HT_.out (by kernel_rfl)) (fun _ _ _ h => h) (Or.inl ⟨by rfl, ?_⟩) ?_ ?_
          rotate_left
          · intro w'
            go_simp
            with_reducible rfl
          rotate_left
          · simp only [Act.put, List.setIfInBounds_toArray, List.set_cons_zero, List.set_cons_succ, i64_w, i32_w]
            rfl
          refine pure_ (i := 14) (N := some 11) (v := ?_) (a' := ?_) #[true, true, true, true, true, true, true, true, true, true, true, true, true, true, true] rfl rfl (any_of HT_.out (by kernel_rfl)) (fun _ _ _ h => h) (Or.inl ⟨by rfl, ?_⟩) ?_ ?_
          rotate_left
          · intro w'
            go_simp
            with_reducible rfl
          rotate_left
          · simp only [Act.put, List.setIfInBounds_toArray, List.set_cons_zero, List.set_cons_succ, i64_w, i32_w]
            rfl
          refine done_ (done_of HT_.out (by kernel_rfl)) ?_
          go_upto_region 6 with (fail)
          go_cut [91] (fun v91 wc => ∃ (kq : Nat) (x91_21 : Bool), v91 = .bool x91_21 ∧ Aside0 (quietuslaw10_DomainsAreNested.j1 kq (l0_0.length : Int) (Int.tmod (wrap64 (a1_0)) (l0_0.length : Int)) (Int.tmod (wrap64 (a1_1)) (l0_0.length : Int)) t229 x91_21 l0_0 l0_1 l0_2 a0_3 = some r) ∧ Aside0 (kq ≤ kj2) ∧ Aside0 (wc.heap[gb225]? = some (.cells #[(.slice A0_0 l0_0.length c0_0), (.slice A0_1 l0_1.length c0_1), (.slice A0_2 l0_2.length c0_2), .int .i64 a0_3] 25 (0, 0))) ∧ Aside0 (wc.heap[gb226]? = some (.cells #[.int .u8 a1_0, .int .u8 a1_1, .int .u8 a1_2] 36 (0, 0))) ∧ Aside0 (Below w.heap.size w wc))
          case first =>
            have H := HC22.out
            clear HC22
            replace H := Option.bind_eq_some_iff.mp H
            obtain ⟨t232, A300, H⟩ := H
            replace H : (if t232 = t229 then (if t229 < 0 then (none) else (if t229 > 4 then (none) else (if t231 > (mx t229 t230) then (none) else (if t230 > (mx t229 t231) then (none) else (quietuslaw10_DomainsAreNested.j1 kj2 (l0_0.length : Int) (Int.tmod (wrap64 (a1_0)) (l0_0.length : Int)) (Int.tmod (wrap64 (a1_1)) (l0_0.length : Int)) t229 (decide (t229 > (mx t230 t231))) l0_0 l0_1 l0_2 a0_3))))) else (none)) = some r := H
            have A30 := Aside0.mk A300
            clear A300
            by_cases c31 : t232 = t229
            · rw [if_pos c31] at H
              have c31b0 : (t232 == t229) = true := beq_iff_eq.mpr c31
              have c31b1 : (t232 != t229) = false := bne_eq_false_iff_eq.mpr c31
              clear c31
              (first | rw [c31b0] | (simp only [i64_w, i32_w]; rw [c31b0]) | rw [c31b1] | skip)
              by_cases c32 : t229 < 0
              · rw [if_pos c32] at H
                exact absurd H (by simp)
              · rw [if_neg c32] at H
                have c32b0 : decide (t229 < 0) = false := decide_eq_false c32
                clear c32
                by_cases c33 : t229 > 4
                · rw [if_pos c33] at H
                  exact absurd H (by simp)
                · rw [if_neg c33] at H
                  have c33b0 : decide (4 < t229) = false := decide_eq_false c33
                  clear c33
                  obtain ⟨ji34, hji34⟩ : ∃ j_ : Int, (mx t229 t230) = j_ := ⟨_, rfl⟩
                  replace H : (if t231 > (ji34) then (none) else (if t230 > (mx t229 t231) then (none) else (quietuslaw10_DomainsAreNested.j1 kj2 (l0_0.length : Int) (Int.tmod (wrap64 (a1_0)) (l0_0.length : Int)) (Int.tmod (wrap64 (a1_1)) (l0_0.length : Int)) t229 (decide (t229 > (mx t230 t231))) l0_0 l0_1 l0_2 a0_3))) = some r := by first | (rw [hji34] at H; exact H) | (simp only [hji34] at H ⊢; exact H)
                  (try rw [hji34] at A30)
                  have hji34_ : (if t229 < t230 then t230 else t229) = ji34 := hji34
                  by_cases c35 : t231 > (ji34)
                  · rw [if_pos c35] at H
                    exact absurd H (by simp)
                  · rw [if_neg c35] at H
                    have c35b0 : decide ((ji34) < t231) = false := decide_eq_false c35
                    clear c35
                    obtain ⟨ji36, hji36⟩ : ∃ j_ : Int, (mx t229 t231) = j_ := ⟨_, rfl⟩
                    replace H : (if t230 > (ji36) then (none) else (quietuslaw10_DomainsAreNested.j1 kj2 (l0_0.length : Int) (Int.tmod (wrap64 (a1_0)) (l0_0.length : Int)) (Int.tmod (wrap64 (a1_1)) (l0_0.length : Int)) t229 (decide (t229 > (mx t230 t231))) l0_0 l0_1 l0_2 a0_3)) = some r := by first | (rw [hji36] at H; exact H) | (simp only [hji36] at H ⊢; exact H)
                    (try rw [hji36] at A30)
                    have hji36_ : (if t229 < t231 then t231 else t229) = ji36 := hji36
                    by_cases c37 : t230 > (ji36)
                    · rw [if_pos c37] at H
                      exact absurd H (by simp)
                    · rw [if_neg c37] at H
                      have c37b0 : decide ((ji36) < t230) = false := decide_eq_false c37
                      clear c37
                      obtain ⟨ji38, hji38⟩ : ∃ j_ : Int, (mx t230 t231) = j_ := ⟨_, rfl⟩
                      replace H : (quietuslaw10_DomainsAreNested.j1 kj2 (l0_0.length : Int) (Int.tmod (wrap64 (a1_0)) (l0_0.length : Int)) (Int.tmod (wrap64 (a1_1)) (l0_0.length : Int)) t229 (decide (t229 > (ji38))) l0_0 l0_1 l0_2 a0_3) = some r := by first | (rw [hji38] at H; exact H) | (simp only [hji38] at H ⊢; exact H)
                      (try rw [hji38] at A30)
                      have hji38_ : (if t230 < t231 then t231 else t230) = ji38 := hji38
                      have H' := Aside0.mk H
                      clear H
                      have hnb39 := NB225_226.out
                      have hnc39 := NB226_225.out
                      have hcz40_0 : w29.cell? ⟨gb225, 0, none⟩ = some (.slice A0_0 l0_0.length c0_0) := (blk_cell BK225.out 0).trans rfl
                      have hcz40_1 : w29.cell? ⟨gb225, 1, none⟩ = some (.slice A0_1 l0_1.length c0_1) := (blk_cell BK225.out 1).trans rfl
                      have hcz40_2 : w29.cell? ⟨gb225, 2, none⟩ = some (.slice A0_2 l0_2.length c0_2) := (blk_cell BK225.out 2).trans rfl
                      have hcz40_3 : w29.cell? ⟨gb225, 3, none⟩ = some (.int .i64 a0_3) := (blk_cell BK225.out 3).trans rfl
                      have hfz40_0 := blk_frozen BK225.out 0
                      have hfz40_1 := blk_frozen BK225.out 1
                      have hfz40_2 := blk_frozen BK225.out 2
                      have hfz40_3 := blk_frozen BK225.out 3
                      go_wp2_with (first | ((with_reducible refine gate_callee (f := 25) rfl ?_); refine goesL_ (some 60) rfl rfl Try.func25 (by kernel_rfl) rfl #[.agg #[.slice A0_0 l0_0.length c0_0, .slice A0_1 l0_1.length c0_1, .slice A0_2 l0_2.length c0_2, .int .i64 a0_3], .int .i64 (Int.tmod (wrap64 (a1_1)) (l0_0.length : Int)), .int .i64 (Int.tmod (wrap64 (a1_0)) (l0_0.length : Int))] rfl (by (try simp only [List.map_toArray, List.map_cons, List.map_nil]); first | done | rfl | (simp only [List.length_drop, List.length_take]; rfl)) ?_; (with_reducible refine (domain_Relate.calls kj2 _ _ l0_0 _ _ l0_1 _ _ l0_2 a0_3 (Int.tmod (wrap64 (a1_1)) (l0_0.length : Int)) (Int.tmod (wrap64 (a1_0)) (l0_0.length : Int)) t232 _ ?side1 ?side2 ?side3 ?side4 ?side5 ?side6 A30.out).mono ?_); (case side1 => repeat (first | exact (Kd.C_below HR0_0.out HB.out) | (with_reducible refine Kd.C_alloc ?_ _) | (with_reducible refine Kd.C_drewN ?_ _) | (with_reducible refine Kd.C_drew ?_))); (case side2 => exact HC0_0.out); (case side3 => repeat (first | exact (Kd.C_below HR0_1.out HB.out) | (with_reducible refine Kd.C_alloc ?_ _) | (with_reducible refine Kd.C_drewN ?_ _) | (with_reducible refine Kd.C_drew ?_))); (case side4 => exact HC0_1.out); (case side5 => repeat (first | exact (Kd.C_below HR0_2.out HB.out) | (with_reducible refine Kd.C_alloc ?_ _) | (with_reducible refine Kd.C_drewN ?_ _) | (with_reducible refine Kd.C_drew ?_))); (case side6 => exact HC0_2.out); rintro e w41 ⟨rfl, hb⟩; refine ⟨_, rfl, ?_⟩; have n0_ := Aside0.mk (zq_ (g := gb225) (o := .cells #[.slice A0_0 l0_0.length c0_0, .slice A0_1 l0_1.length c0_1, .slice A0_2 l0_2.length c0_2, .int .i64 a0_3] 25 (0, 0)) (by (with_reducible repeat (first | refine zm_ ?_ _ | refine zn_ ?_ | refine zo_ ?_ _)); exact BK225.out) hb); have n1_ := Aside0.mk (zq_ (g := gb226) (o := .cells #[.int .u8 a1_0, .int .u8 a1_1, .int .u8 a1_2] 36 (0, 0)) (by (with_reducible repeat (first | refine zm_ ?_ _ | refine zn_ ?_ | refine zo_ ?_ _)); exact BK226.out) hb); have n2_ := Aside0.mk (zv_ (by repeat (first | (with_reducible first | exact HB.out | apply zs_ | apply zt_ | apply zu_ | refine zr_ ?_ GE225.out | refine zr_ ?_ GE226.out) | exact HB.out)) hb); clear BK225; clear BK226; clear HB; have BK225 := n0_; have BK226 := n1_; have HB := n2_; clear n0_ n1_ n2_; (try clear hb); (try clear hb2); (try clear hk); (try clear hi)))
                      first | go_meet | (simp only [← hji34]; go_meet) | (simp only [hji34]; go_meet) | (simp only [← hji36]; go_meet) | (simp only [hji36]; go_meet) | (simp only [← hji38]; go_meet) | (simp only [hji38]; go_meet) | (simp only [← hji67]; go_meet) | (simp only [hji67]; go_meet)
                      case rel => exact ⟨_, (decide (t229 > (ji38))), (by first | rfl | (simp; done) | (simp only [← hji38] <;> (first | rfl | simp)) | (simp [*]; done)), (by first | exact H' | (simp only [hji34, hji36, hji38, hji67]; exact H') | (rw [hji34]; exact H') | (rw [hji36]; exact H') | (rw [hji38]; exact H') | (rw [hji67]; exact H')), ⟨by have := HJ2.out; first | omega | exact Nat.le_refl _⟩, ⟨by (with_reducible repeat (first | refine zm_ ?_ _ | refine zn_ ?_ | refine zo_ ?_ _)); exact BK225.out⟩, ⟨by (with_reducible repeat (first | refine zm_ ?_ _ | refine zn_ ?_ | refine zo_ ?_ _)); exact BK226.out⟩, ⟨by repeat (first | (with_reducible first | exact HB.out | apply zs_ | apply zt_ | apply zu_ | refine zr_ ?_ GE225.out | refine zr_ ?_ GE226.out) | exact HB.out)⟩⟩
            · rw [if_neg c31] at H
              exact absurd H (by simp)
          case rest =>
            clear HC22
            try clear c1
            try clear c2
            try clear p2
            try clear c3
            try clear c4
            try clear p6
            try clear c7
            try clear c7b0
            try clear c7b1
            try clear c8
            try clear c12
            try clear c15
            try clear c18
            try clear c18b0
            try clear c18b1
            try clear c18b2
            try clear c23
            try clear c25
            try clear c31
            try clear c31b0
            try clear c31b1
            try clear c32
            try clear c32b0
            try clear c33
            try clear c33b0
            try clear c35
            try clear c35b0
            try clear c37
            try clear c37b0
            try clear c39
            try clear hcz11_0
            try clear hcz11_1
            try clear hcz11_2
            try clear hcz11_3
            try clear hcz13_0
            try clear hcz13_1
            try clear hcz13_2
            try clear hcz13_3
            try clear hcz24_0
            try clear hcz24_1
            try clear hcz24_2
            try clear hcz24_3
            try clear hcz40_0
            try clear hcz40_1
            try clear hcz40_2
            try clear hcz40_3
            try clear hcz9_0
            try clear hcz9_1
            try clear hcz9_2
            try clear hcz9_3
            try clear hfz11_0
            try clear hfz11_1
            try clear hfz11_2
            try clear hfz11_3
            try clear hfz13_0
            try clear hfz13_1
            try clear hfz13_2
            try clear hfz13_3
            try clear hfz24_0
            try clear hfz24_1
            try clear hfz24_2
            try clear hfz24_3
            try clear hfz40_0
            try clear hfz40_1
            try clear hfz40_2
            try clear hfz40_3
            try clear hfz9_0
            try clear hfz9_1
            try clear hfz9_2
            try clear hfz9_3
            try clear p2
            obtain ⟨kq, x91_21, rfl, HA, HJ21, BK225, BK226, HB⟩ := hcut
            cases kq with
            | zero => exact absurd HA.out (by simp [quietuslaw10_DomainsAreNested.j1])
            | succ kj21 =>
              have H := HA.out
              clear HA
              simp only [quietuslaw10_DomainsAreNested.j1] at H
              by_cases c42 : x91_21 = true
              · subst c42
                have H1 : (none) = some r := by rw [if_pos rfl] at H; exact H
                clear H
                have H := H1
                clear H1
                exact absurd H (by simp)
              · replace c42 := Bool.eq_false_iff.mpr c42
                subst c42
                have H1 : (quietuslaw10_DomainsAreNested.l0 kj21 (l0_0.length : Int) (Int.tmod (wrap64 (a1_0)) (l0_0.length : Int)) (Int.tmod (wrap64 (a1_1)) (l0_0.length : Int)) t229 0 l0_0 l0_1 l0_2 a0_3) = some r := by rw [if_neg (show ¬ (false = true) by decide)] at H; exact H
                clear H
                have H := H1
                clear H1
                have H' := Aside0.mk H
                clear H
                go_wp2
                go_loopg [92] kj21 (fun kq v92 w' => ∃ (x92_3 : Int), v92 = .int .i64 x92_3 ∧ Aside0 (quietuslaw10_DomainsAreNested.l0 kq (l0_0.length : Int) (Int.tmod (wrap64 (a1_0)) (l0_0.length : Int)) (Int.tmod (wrap64 (a1_1)) (l0_0.length : Int)) t229 x92_3 l0_0 l0_1 l0_2 a0_3 = some r) ∧ Aside0 (kq ≤ kj21) ∧ Aside0 (w'.heap[gb225]? = some (.cells #[(.slice A0_0 l0_0.length c0_0), (.slice A0_1 l0_1.length c0_1), (.slice A0_2 l0_2.length c0_2), .int .i64 a0_3] 25 (0, 0))) ∧ Aside0 (w'.heap[gb226]? = some (.cells #[.int .u8 a1_0, .int .u8 a1_1, .int .u8 a1_2] 36 (0, 0))) ∧ Aside0 (Below w.heap.size w w'))
                case atStart => exact ⟨(0), (by first | rfl | (simp; done) | (simp [*]; done)), H', ⟨Nat.le_refl _⟩, ⟨by (with_reducible repeat (first | refine zm_ ?_ _ | refine zn_ ?_ | refine zo_ ?_ _)); exact BK225.out⟩, ⟨by (with_reducible repeat (first | refine zm_ ?_ _ | refine zn_ ?_ | refine zo_ ?_ _)); exact BK226.out⟩, ⟨by repeat (first | (with_reducible first | exact HB.out | apply zs_ | apply zt_ | apply zu_ | refine zr_ ?_ GE225.out | refine zr_ ?_ GE226.out) | exact HB.out)⟩⟩
                case round =>
                  clear H'
                  try clear c1
                  try clear c2
                  try clear p2
                  try clear c3
                  try clear c4
                  try clear p6
                  try clear c7
                  try clear c7b0
                  try clear c7b1
                  try clear c8
                  try clear c12
                  try clear c15
                  try clear c18
                  try clear c18b0
                  try clear c18b1
                  try clear c18b2
                  try clear c23
                  try clear c25
                  try clear c31
                  try clear c31b0
                  try clear c31b1
                  try clear c32
                  try clear c32b0
                  try clear c33
                  try clear c33b0
                  try clear c35
                  try clear c35b0
                  try clear c37
                  try clear c37b0
                  try clear c39
                  try clear c42
                  try clear hcz11_0
                  try clear hcz11_1
                  try clear hcz11_2
                  try clear hcz11_3
                  try clear hcz13_0
                  try clear hcz13_1
                  try clear hcz13_2
                  try clear hcz13_3
                  try clear hcz24_0
                  try clear hcz24_1
                  try clear hcz24_2
                  try clear hcz24_3
                  try clear hcz40_0
                  try clear hcz40_1
                  try clear hcz40_2
                  try clear hcz40_3
                  try clear hcz9_0
                  try clear hcz9_1
                  try clear hcz9_2
                  try clear hcz9_3
                  try clear hfz11_0
                  try clear hfz11_1
                  try clear hfz11_2
                  try clear hfz11_3
                  try clear hfz13_0
                  try clear hfz13_1
                  try clear hfz13_2
                  try clear hfz13_3
                  try clear hfz24_0
                  try clear hfz24_1
                  try clear hfz24_2
                  try clear hfz24_3
                  try clear hfz40_0
                  try clear hfz40_1
                  try clear hfz40_2
                  try clear hfz40_3
                  try clear hfz9_0
                  try clear hfz9_1
                  try clear hfz9_2
                  try clear hfz9_3
                  try clear p2
                  try clear p6
                  obtain ⟨x92_3, rfl, HA, HK3, BK225, BK226, HB⟩ := hrel
                  cases gk with
                  | zero => exact absurd HA.out (by simp [quietuslaw10_DomainsAreNested.l0])
                  | succ k3 =>
                    have H := HA.out
                    clear HA
                    simp only [quietuslaw10_DomainsAreNested.l0] at H
                    by_cases c43 : x92_3 < 4
                    · rw [if_pos c43] at H
                      have c43b0 : decide (x92_3 < 4) = true := decide_eq_true c43
                      clear c43
                      replace H := Option.bind_eq_some_iff.mp H
                      obtain ⟨t234, A440, H⟩ := H
                      replace H : ((domain_Of.f k3 l0_0 l0_1 l0_2 a0_3 x92_3 (Int.tmod (wrap64 (a1_1)) (l0_0.length : Int))).bind fun t235 => (if ((t234 == t235) != (decide (x92_3 ≥ t229))) = true then (none) else ((domain_Size.f l0_0 l0_1 l0_2 a0_3 x92_3).bind fun t236 => (quietuslaw10_DomainsAreNested.l1 k3 (l0_0.length : Int) (Int.tmod (wrap64 (a1_0)) (l0_0.length : Int)) (Int.tmod (wrap64 (a1_1)) (l0_0.length : Int)) t229 x92_3 0 x92_3 t236 0 l0_0 l0_1 l0_2 a0_3)))) = some r := H
                      have A44 := Aside0.mk A440
                      clear A440
                      replace H := Option.bind_eq_some_iff.mp H
                      obtain ⟨t235, A450, H⟩ := H
                      replace H : (if ((t234 == t235) != (decide (x92_3 ≥ t229))) = true then (none) else ((domain_Size.f l0_0 l0_1 l0_2 a0_3 x92_3).bind fun t236 => (quietuslaw10_DomainsAreNested.l1 k3 (l0_0.length : Int) (Int.tmod (wrap64 (a1_0)) (l0_0.length : Int)) (Int.tmod (wrap64 (a1_1)) (l0_0.length : Int)) t229 x92_3 0 x92_3 t236 0 l0_0 l0_1 l0_2 a0_3))) = some r := H
                      have A45 := Aside0.mk A450
                      clear A450
                      by_cases c46 : ((t234 == t235) != (decide (x92_3 ≥ t229))) = true
                      · rw [if_pos c46] at H
                        exact absurd H (by simp)
                      · rw [if_neg c46] at H
                        have c46b0 : ((t234 == t235) != (decide (x92_3 ≥ t229))) = false := by simpa using c46
                        (try (have c46b1 : decide ((t234 == t235) = (decide (x92_3 ≥ t229))) = true := by simpa using c46))
                        (try (have c46b2 : ((t234 == t235) == (decide (x92_3 ≥ t229))) = true := by simpa using c46))
                        clear c46
                        replace H := Option.bind_eq_some_iff.mp H
                        obtain ⟨t236, A470, H⟩ := H
                        replace H : (quietuslaw10_DomainsAreNested.l1 k3 (l0_0.length : Int) (Int.tmod (wrap64 (a1_0)) (l0_0.length : Int)) (Int.tmod (wrap64 (a1_1)) (l0_0.length : Int)) t229 x92_3 0 x92_3 t236 0 l0_0 l0_1 l0_2 a0_3) = some r := H
                        have A47 := Aside0.mk A470
                        clear A470
                        have H' := Aside0.mk H
                        clear H
                        try go_wp2
                        have n0_ := Aside0.mk (zn_ BK225.out)
                        have n1_ := Aside0.mk (zn_ BK226.out)
                        have n2_ := Aside0.mk (zu_ HB.out)
                        clear BK225
                        clear BK226
                        clear HB
                        have BK225 := n0_
                        have BK226 := n1_
                        have HB := n2_
                        clear n0_ n1_ n2_
                        refine start_ (n := 13) (S := fun w' => w'.cell? ⟨gb225, 0, none⟩ = some (.slice A0_0 l0_0.length c0_0) ∧ w'.cell? ⟨gb225, 1, none⟩ = some (.slice A0_1 l0_1.length c0_1) ∧ w'.cell? ⟨gb225, 2, none⟩ = some (.slice A0_2 l0_2.length c0_2) ∧ w'.cell? ⟨gb225, 3, none⟩ = some (.int .i64 a0_3)) (ds := []) #[false, false, false, false, false, false, false, false, false, false, false, false, false] (by kernel_rfl) rfl rfl ⟨(blk_cell BK225.out 0).trans rfl, (blk_cell BK225.out 1).trans rfl, (blk_cell BK225.out 2).trans rfl, (blk_cell BK225.out 3).trans rfl⟩ (fun hHeld => ?_); refine with_tabW quietuslaw10_DomainsAreNested.tab11 quietuslaw10_DomainsAreNested.bits11 (fun HT_ HW_ => ?_)
                        generalize wr.drew = w48 at BK225 BK226 HB hHeld ⊢
                        refine pure_ (i := 1) (N := some 96) (v := ?_) (a' := ?_) #[false, true, false, false, false, false, false, false, false, false, false, false, false] rfl rfl (any_of HT_.out (by kernel_rfl)) (fun _ _ _ h => h) (Or.inl ⟨by rfl, ?_⟩) ?_ ?_
                        rotate_left
                        · intro w'
                          go_simp
                          with_reducible rfl
                        rotate_left
                        · simp only [Act.put, List.setIfInBounds_toArray, List.set_cons_zero, List.set_cons_succ, i64_w, i32_w]
                          rfl
                        refine pure_ (i := 2) (N := some 97) (v := ?_) (a' := ?_) #[false, true, true, false, false, false, false, false, false, false, false, false, false] rfl rfl (any_of HT_.out (by kernel_rfl)) (fun _ _ _ h => h) (Or.inl ⟨by rfl, ?_⟩) ?_ ?_
                        rotate_left
                        · intro w'
                          go_simp
                          with_reducible rfl
                        rotate_left
                        · simp only [Act.put, List.setIfInBounds_toArray, List.set_cons_zero, List.set_cons_succ, i64_w, i32_w]
                          rfl
                        refine pure_ (i := 5) (N := some 100) (v := ?_) (a' := ?_) #[false, true, true, false, false, true, false, false, false, false, false, false, false] rfl rfl (any_of HT_.out (by kernel_rfl)) (fun _ _ _ h => h) (Or.inl ⟨by rfl, ?_⟩) ?_ ?_
                        rotate_left
                        · intro w'
                          go_simp
                          with_reducible rfl
                        rotate_left
                        · simp only [Act.put, List.setIfInBounds_toArray, List.set_cons_zero, List.set_cons_succ, i64_w, i32_w]
                          rfl
                        refine pure_ (i := 6) (N := some 101) (v := ?_) (a' := ?_) #[false, true, true, false, false, true, true, false, false, false, false, false, false] rfl rfl (any_of HT_.out (by kernel_rfl)) (fun _ _ _ h => h) (Or.inl ⟨by rfl, ?_⟩) ?_ ?_
                        rotate_left
                        · intro w'
                          go_simp
                          with_reducible rfl
                        rotate_left
                        · simp only [Act.put, List.setIfInBounds_toArray, List.set_cons_zero, List.set_cons_succ, i64_w, i32_w]
                          rfl
                        refine pure_ (i := 9) (N := some 104) (v := ?_) (a' := ?_) #[false, true, true, false, false, true, true, false, false, true, false, false, false] rfl rfl (any_of HT_.out (by kernel_rfl)) (fun _ _ _ h => h) (Or.inl ⟨by rfl, ?_⟩) ?_ ?_
                        rotate_left
                        · intro w'
                          go_simp
                          with_reducible rfl
                        rotate_left
                        · simp only [Act.put, List.setIfInBounds_toArray, List.set_cons_zero, List.set_cons_succ, i64_w, i32_w]
                          rfl
                        refine pure_ (i := 10) (N := some 105) (v := ?_) (a' := ?_) #[false, true, true, false, false, true, true, false, false, true, true, false, false] rfl rfl (any_of HT_.out (by kernel_rfl)) (fun _ _ _ h => h) (Or.inl ⟨by rfl, ?_⟩) ?_ ?_
                        rotate_left
                        · intro w'
                          go_simp
                          with_reducible rfl
                        rotate_left
                        · simp only [Act.put, List.setIfInBounds_toArray, List.set_cons_zero, List.set_cons_succ, i64_w, i32_w]
                          rfl
                        refine pure_ (i := 11) (N := some 106) (v := ?_) (a' := ?_) #[false, true, true, false, false, true, true, false, false, true, true, true, false] rfl rfl (any_of HT_.out (by kernel_rfl)) (fun _ _ _ h => h) (Or.inl ⟨by rfl, ?_⟩) ?_ ?_
                        rotate_left
                        · intro w'
                          go_simp
                          with_reducible rfl
                        rotate_left
                        · simp only [Act.put, List.setIfInBounds_toArray, List.set_cons_zero, List.set_cons_succ, i64_w, i32_w]
                          rfl
                        refine take_ (i := 0) (N := some 95) (v := ?_) (a' := ?_) #[true, true, true, false, false, true, true, false, false, true, true, true, false] rfl rfl (take_ofW HT_.out HW_.out (by kernel_rfl)) (fun _ _ _ h => h) (Or.inl ⟨by rfl, ?_⟩) hHeld ?_ ?_
                        rotate_left
                        · rintro w' ⟨s0, s1, s2, s3⟩
                          go_simp
                          with_reducible rfl
                        rotate_left
                        · simp only [Act.put, List.setIfInBounds_toArray, List.set_cons_zero, List.set_cons_succ, i64_w, i32_w]
                          rfl
                        refine take_ (i := 4) (N := some 99) (v := ?_) (a' := ?_) #[true, true, true, false, true, true, true, false, false, true, true, true, false] rfl rfl (take_ofW HT_.out HW_.out (by kernel_rfl)) (fun _ _ _ h => h) (Or.inl ⟨by rfl, ?_⟩) hHeld ?_ ?_
                        rotate_left
                        · rintro w' ⟨s0, s1, s2, s3⟩
                          go_simp
                          with_reducible rfl
                        rotate_left
                        · simp only [Act.put, List.setIfInBounds_toArray, List.set_cons_zero, List.set_cons_succ, i64_w, i32_w]
                          rfl
                        refine one_ (i := 3) (N := some 98) #[true, true, true, true, true, true, true, false, false, true, true, true, false] rfl rfl (one_of HT_.out (by kernel_rfl)) (by decide) (fun K hK => ?_)
                        refine goes_ Try.func18 (by kernel_rfl) rfl #[.agg #[.slice A0_0 l0_0.length c0_0, .slice A0_1 l0_1.length c0_1, .slice A0_2 l0_2.length c0_2, .int .i64 a0_3], .int .i64 x92_3, .int .i64 (Int.tmod (wrap64 (a1_0)) (l0_0.length : Int))] (by rfl) rfl rfl (by (try simp only [List.map_toArray, List.map_cons, List.map_nil]); first | done | rfl | (simp only [List.length_drop, List.length_take]; rfl)) ?_
                        with_reducible refine (domain_Of.calls k3 _ _ l0_0 _ _ l0_1 _ _ l0_2 a0_3 x92_3 (Int.tmod (wrap64 (a1_0)) (l0_0.length : Int)) t234 _ ?side1 ?side2 ?side3 ?side4 ?side5 ?side6 A44.out).mono ?_
                        (case side1 => repeat (first | exact (Kd.C_below HR0_0.out HB.out) | (with_reducible refine Kd.C_alloc ?_ _) | (with_reducible refine Kd.C_drewN ?_ _) | (with_reducible refine Kd.C_drew ?_)))
                        (case side2 => exact HC0_0.out)
                        (case side3 => repeat (first | exact (Kd.C_below HR0_1.out HB.out) | (with_reducible refine Kd.C_alloc ?_ _) | (with_reducible refine Kd.C_drewN ?_ _) | (with_reducible refine Kd.C_drew ?_)))
                        (case side4 => exact HC0_1.out)
                        (case side5 => repeat (first | exact (Kd.C_below HR0_2.out HB.out) | (with_reducible refine Kd.C_alloc ?_ _) | (with_reducible refine Kd.C_drewN ?_ _) | (with_reducible refine Kd.C_drew ?_)))
                        (case side6 => exact HC0_2.out)
                        rintro e w49 ⟨rfl, hb⟩
                        refine ⟨_, rfl, ?_⟩
                        have n0_ := Aside0.mk (zq_ (g := gb225) (o := .cells #[.slice A0_0 l0_0.length c0_0, .slice A0_1 l0_1.length c0_1, .slice A0_2 l0_2.length c0_2, .int .i64 a0_3] 25 (0, 0)) (by (with_reducible repeat (first | refine zm_ ?_ _ | refine zn_ ?_ | refine zo_ ?_ _)); exact BK225.out) hb)
                        have n1_ := Aside0.mk (zq_ (g := gb226) (o := .cells #[.int .u8 a1_0, .int .u8 a1_1, .int .u8 a1_2] 36 (0, 0)) (by (with_reducible repeat (first | refine zm_ ?_ _ | refine zn_ ?_ | refine zo_ ?_ _)); exact BK226.out) hb)
                        have n2_ := Aside0.mk (zv_ (by repeat (first | (with_reducible first | exact HB.out | apply zs_ | apply zt_ | apply zu_ | refine zr_ ?_ GE225.out | refine zr_ ?_ GE226.out) | exact HB.out)) hb)
                        clear BK225
                        clear BK226
                        clear HB
                        have BK225 := n0_
                        have BK226 := n1_
                        have HB := n2_
                        clear n0_ n1_ n2_
                        (try clear hb)
                        (try clear hb2)
                        (try clear hk)
                        (try clear hi)
                        refine hK.out _ _ ⟨(blk_cell BK225.out 0).trans rfl, (blk_cell BK225.out 1).trans rfl, (blk_cell BK225.out 2).trans rfl, (blk_cell BK225.out 3).trans rfl⟩ (fun hHeld => ?_)
                        clear hK K
                        refine norm_ (a' := ?_) ?_ ?_
                        rotate_left
                        · show Act.put _ (some 98) _ = _
                          simp only [Act.put, List.setIfInBounds_toArray, List.set_cons_zero, List.set_cons_succ, i64_w, i32_w]
                          rfl
                        refine one_ (i := 7) (N := some 102) #[true, true, true, true, true, true, true, true, false, true, true, true, false] rfl rfl (one_of HT_.out (by kernel_rfl)) (by decide) (fun K hK => ?_)
                        refine goes_ Try.func18 (by kernel_rfl) rfl #[.agg #[.slice A0_0 l0_0.length c0_0, .slice A0_1 l0_1.length c0_1, .slice A0_2 l0_2.length c0_2, .int .i64 a0_3], .int .i64 x92_3, .int .i64 (Int.tmod (wrap64 (a1_1)) (l0_0.length : Int))] (by rfl) rfl rfl (by (try simp only [List.map_toArray, List.map_cons, List.map_nil]); first | done | rfl | (simp only [List.length_drop, List.length_take]; rfl)) ?_
                        with_reducible refine (domain_Of.calls k3 _ _ l0_0 _ _ l0_1 _ _ l0_2 a0_3 x92_3 (Int.tmod (wrap64 (a1_1)) (l0_0.length : Int)) t235 _ ?side1 ?side2 ?side3 ?side4 ?side5 ?side6 A45.out).mono ?_
                        (case side1 => repeat (first | exact (Kd.C_below HR0_0.out HB.out) | (with_reducible refine Kd.C_alloc ?_ _) | (with_reducible refine Kd.C_drewN ?_ _) | (with_reducible refine Kd.C_drew ?_)))
                        (case side2 => exact HC0_0.out)
                        (case side3 => repeat (first | exact (Kd.C_below HR0_1.out HB.out) | (with_reducible refine Kd.C_alloc ?_ _) | (with_reducible refine Kd.C_drewN ?_ _) | (with_reducible refine Kd.C_drew ?_)))
                        (case side4 => exact HC0_1.out)
                        (case side5 => repeat (first | exact (Kd.C_below HR0_2.out HB.out) | (with_reducible refine Kd.C_alloc ?_ _) | (with_reducible refine Kd.C_drewN ?_ _) | (with_reducible refine Kd.C_drew ?_)))
                        (case side6 => exact HC0_2.out)
                        rintro e w50 ⟨rfl, hb⟩
                        refine ⟨_, rfl, ?_⟩
                        have n0_ := Aside0.mk (zq_ (g := gb225) (o := .cells #[.slice A0_0 l0_0.length c0_0, .slice A0_1 l0_1.length c0_1, .slice A0_2 l0_2.length c0_2, .int .i64 a0_3] 25 (0, 0)) (by (with_reducible repeat (first | refine zm_ ?_ _ | refine zn_ ?_ | refine zo_ ?_ _)); exact BK225.out) hb)
                        have n1_ := Aside0.mk (zq_ (g := gb226) (o := .cells #[.int .u8 a1_0, .int .u8 a1_1, .int .u8 a1_2] 36 (0, 0)) (by (with_reducible repeat (first | refine zm_ ?_ _ | refine zn_ ?_ | refine zo_ ?_ _)); exact BK226.out) hb)
                        have n2_ := Aside0.mk (zv_ (by repeat (first | (with_reducible first | exact HB.out | apply zs_ | apply zt_ | apply zu_ | refine zr_ ?_ GE225.out | refine zr_ ?_ GE226.out) | exact HB.out)) hb)
                        clear BK225
                        clear BK226
                        clear HB
                        have BK225 := n0_
                        have BK226 := n1_
                        have HB := n2_
                        clear n0_ n1_ n2_
                        (try clear hb)
                        (try clear hb2)
                        (try clear hk)
                        (try clear hi)
                        refine hK.out _ _ ⟨(blk_cell BK225.out 0).trans rfl, (blk_cell BK225.out 1).trans rfl, (blk_cell BK225.out 2).trans rfl, (blk_cell BK225.out 3).trans rfl⟩ (fun hHeld => ?_)
                        clear hK K
                        refine norm_ (a' := ?_) ?_ ?_
                        rotate_left
                        · show Act.put _ (some 102) _ = _
                          simp only [Act.put, List.setIfInBounds_toArray, List.set_cons_zero, List.set_cons_succ, i64_w, i32_w]
                          rfl
                        refine pure_ (i := 8) (N := some 103) (v := ?_) (a' := ?_) #[true, true, true, true, true, true, true, true, true, true, true, true, false] rfl rfl (any_of HT_.out (by kernel_rfl)) (fun _ _ _ h => h) (Or.inl ⟨by rfl, ?_⟩) ?_ ?_
                        rotate_left
                        · intro w'
                          go_simp
                          with_reducible rfl
                        rotate_left
                        · simp only [Act.put, List.setIfInBounds_toArray, List.set_cons_zero, List.set_cons_succ, i64_w, i32_w]
                          rfl
                        refine pure_ (i := 12) (N := some 107) (v := ?_) (a' := ?_) #[true, true, true, true, true, true, true, true, true, true, true, true, true] rfl rfl (any_of HT_.out (by kernel_rfl)) (fun _ _ _ h => h) (Or.inl ⟨by rfl, ?_⟩) ?_ ?_
                        rotate_left
                        · intro w'
                          go_simp
                          with_reducible rfl
                        rotate_left
                        · simp only [Act.put, List.setIfInBounds_toArray, List.set_cons_zero, List.set_cons_succ, i64_w, i32_w]
                          rfl
                        refine done_ (done_of HT_.out (by kernel_rfl)) ?_
                        have hnb51 := NB225_226.out
                        have hnc51 := NB226_225.out
                        have hcz52_0 : w50.cell? ⟨gb225, 0, none⟩ = some (.slice A0_0 l0_0.length c0_0) := (blk_cell BK225.out 0).trans rfl
                        have hcz52_1 : w50.cell? ⟨gb225, 1, none⟩ = some (.slice A0_1 l0_1.length c0_1) := (blk_cell BK225.out 1).trans rfl
                        have hcz52_2 : w50.cell? ⟨gb225, 2, none⟩ = some (.slice A0_2 l0_2.length c0_2) := (blk_cell BK225.out 2).trans rfl
                        have hcz52_3 : w50.cell? ⟨gb225, 3, none⟩ = some (.int .i64 a0_3) := (blk_cell BK225.out 3).trans rfl
                        have hfz52_0 := blk_frozen BK225.out 0
                        have hfz52_1 := blk_frozen BK225.out 1
                        have hfz52_2 := blk_frozen BK225.out 2
                        have hfz52_3 := blk_frozen BK225.out 3
                        try go_wp2_with (first | ((with_reducible refine gate_callee (f := 16) rfl ?_); refine goesL_ (some 110) rfl rfl Try.func16 (by kernel_rfl) rfl #[.agg #[.slice A0_0 l0_0.length c0_0, .slice A0_1 l0_1.length c0_1, .slice A0_2 l0_2.length c0_2, .int .i64 a0_3], .int .i64 x92_3] rfl (by (try simp only [List.map_toArray, List.map_cons, List.map_nil]); first | done | rfl | (simp only [List.length_drop, List.length_take]; rfl)) ?_; (with_reducible refine (domain_Size.calls _ _ l0_0 _ _ l0_1 _ _ l0_2 a0_3 x92_3 t236 _ ?side1 ?side2 ?side3 ?side4 ?side5 ?side6 A47.out).mono ?_); (case side1 => repeat (first | exact (Kd.C_below HR0_0.out HB.out) | (with_reducible refine Kd.C_alloc ?_ _) | (with_reducible refine Kd.C_drewN ?_ _) | (with_reducible refine Kd.C_drew ?_))); (case side2 => exact HC0_0.out); (case side3 => repeat (first | exact (Kd.C_below HR0_1.out HB.out) | (with_reducible refine Kd.C_alloc ?_ _) | (with_reducible refine Kd.C_drewN ?_ _) | (with_reducible refine Kd.C_drew ?_))); (case side4 => exact HC0_1.out); (case side5 => repeat (first | exact (Kd.C_below HR0_2.out HB.out) | (with_reducible refine Kd.C_alloc ?_ _) | (with_reducible refine Kd.C_drewN ?_ _) | (with_reducible refine Kd.C_drew ?_))); (case side6 => exact HC0_2.out); rintro e w53 ⟨rfl, hb⟩; refine ⟨_, rfl, ?_⟩; have n0_ := Aside0.mk (zq_ (g := gb225) (o := .cells #[.slice A0_0 l0_0.length c0_0, .slice A0_1 l0_1.length c0_1, .slice A0_2 l0_2.length c0_2, .int .i64 a0_3] 25 (0, 0)) (by (with_reducible repeat (first | refine zm_ ?_ _ | refine zn_ ?_ | refine zo_ ?_ _)); exact BK225.out) hb); have n1_ := Aside0.mk (zq_ (g := gb226) (o := .cells #[.int .u8 a1_0, .int .u8 a1_1, .int .u8 a1_2] 36 (0, 0)) (by (with_reducible repeat (first | refine zm_ ?_ _ | refine zn_ ?_ | refine zo_ ?_ _)); exact BK226.out) hb); have n2_ := Aside0.mk (zv_ (by repeat (first | (with_reducible first | exact HB.out | apply zs_ | apply zt_ | apply zu_ | refine zr_ ?_ GE225.out | refine zr_ ?_ GE226.out) | exact HB.out)) hb); clear BK225; clear BK226; clear HB; have BK225 := n0_; have BK226 := n1_; have HB := n2_; clear n0_ n1_ n2_; (try clear hb); (try clear hb2); (try clear hk); (try clear hi)))
                        go_loopg [13, 111] k3 (fun kq v13 v111 w' => ∃ (x13_4 : Int) (x111_4 : Int), v13 = .int .i64 x13_4 ∧ v111 = .int .i64 x111_4 ∧ Aside0 (quietuslaw10_DomainsAreNested.l1 kq (l0_0.length : Int) (Int.tmod (wrap64 (a1_0)) (l0_0.length : Int)) (Int.tmod (wrap64 (a1_1)) (l0_0.length : Int)) t229 x92_3 x13_4 x92_3 t236 x111_4 l0_0 l0_1 l0_2 a0_3 = some r) ∧ Aside0 (kq ≤ k3) ∧ Aside0 (w'.heap[gb225]? = some (.cells #[(.slice A0_0 l0_0.length c0_0), (.slice A0_1 l0_1.length c0_1), (.slice A0_2 l0_2.length c0_2), .int .i64 a0_3] 25 (0, 0))) ∧ Aside0 (w'.heap[gb226]? = some (.cells #[.int .u8 a1_0, .int .u8 a1_1, .int .u8 a1_2] 36 (0, 0))) ∧ Aside0 (Below w.heap.size w w'))
                        case atStart => exact ⟨(0), (0), (by first | rfl | (simp; done) | (simp [*]; done)), (by first | rfl | (simp; done) | (simp [*]; done)), H', ⟨Nat.le_refl _⟩, ⟨by (with_reducible repeat (first | refine zm_ ?_ _ | refine zn_ ?_ | refine zo_ ?_ _)); exact BK225.out⟩, ⟨by (with_reducible repeat (first | refine zm_ ?_ _ | refine zn_ ?_ | refine zo_ ?_ _)); exact BK226.out⟩, ⟨by repeat (first | (with_reducible first | exact HB.out | apply zs_ | apply zt_ | apply zu_ | refine zr_ ?_ GE225.out | refine zr_ ?_ GE226.out) | exact HB.out)⟩⟩
                        case round =>
                          clear H'
                          try clear c1
                          try clear c2
                          try clear p2
                          try clear c3
                          try clear c4
                          try clear c5
                          try clear p6
                          try clear c7
                          try clear c7b0
                          try clear c7b1
                          try clear c8
                          try clear c12
                          try clear c15
                          try clear c16
                          try clear c18
                          try clear c18b0
                          try clear c18b1
                          try clear c18b2
                          try clear c23
                          try clear c25
                          try clear c31
                          try clear c31b0
                          try clear c31b1
                          try clear c32
                          try clear c32b0
                          try clear c33
                          try clear c33b0
                          try clear c35
                          try clear c35b0
                          try clear c37
                          try clear c37b0
                          try clear c39
                          try clear c42
                          try clear c43
                          try clear c43b0
                          try clear c46
                          try clear c46b0
                          try clear c46b1
                          try clear c46b2
                          try clear c51
                          try clear hcz11_0
                          try clear hcz11_1
                          try clear hcz11_2
                          try clear hcz11_3
                          try clear hcz13_0
                          try clear hcz13_1
                          try clear hcz13_2
                          try clear hcz13_3
                          try clear hcz24_0
                          try clear hcz24_1
                          try clear hcz24_2
                          try clear hcz24_3
                          try clear hcz40_0
                          try clear hcz40_1
                          try clear hcz40_2
                          try clear hcz40_3
                          try clear hcz52_0
                          try clear hcz52_1
                          try clear hcz52_2
                          try clear hcz52_3
                          try clear hcz9_0
                          try clear hcz9_1
                          try clear hcz9_2
                          try clear hcz9_3
                          try clear hfz11_0
                          try clear hfz11_1
                          try clear hfz11_2
                          try clear hfz11_3
                          try clear hfz13_0
                          try clear hfz13_1
                          try clear hfz13_2
                          try clear hfz13_3
                          try clear hfz24_0
                          try clear hfz24_1
                          try clear hfz24_2
                          try clear hfz24_3
                          try clear hfz40_0
                          try clear hfz40_1
                          try clear hfz40_2
                          try clear hfz40_3
                          try clear hfz52_0
                          try clear hfz52_1
                          try clear hfz52_2
                          try clear hfz52_3
                          try clear hfz9_0
                          try clear hfz9_1
                          try clear hfz9_2
                          try clear hfz9_3
                          try clear p2
                          try clear p6
                          obtain ⟨x13_4, x111_4, rfl, rfl, HA, HK4, BK225, BK226, HB⟩ := hrel
                          cases gk with
                          | zero => exact absurd HA.out (by simp [quietuslaw10_DomainsAreNested.l1])
                          | succ k4 =>
                            have H := HA.out
                            clear HA
                            simp only [quietuslaw10_DomainsAreNested.l1] at H
                            by_cases c54 : x111_4 < t236
                            · rw [if_pos c54] at H
                              have c54b0 : decide (x111_4 < t236) = true := decide_eq_true c54
                              clear c54
                              replace H := Option.bind_eq_some_iff.mp H
                              obtain ⟨t237, A550, H⟩ := H
                              replace H : (quietuslaw10_DomainsAreNested.l2 k4 (l0_0.length : Int) (Int.tmod (wrap64 (a1_0)) (l0_0.length : Int)) (Int.tmod (wrap64 (a1_1)) (l0_0.length : Int)) t229 x92_3 x13_4 x111_4 x92_3 t236 x111_4 t237 (t237.length : Int) 0 l0_0 l0_1 l0_2 a0_3) = some r := H
                              have A55 := Aside0.mk A550
                              clear A550
                              have H' := Aside0.mk H
                              clear H
                              have hnb56 := NB225_226.out
                              have hnc56 := NB226_225.out
                              have hcz57_0 : wr.cell? ⟨gb225, 0, none⟩ = some (.slice A0_0 l0_0.length c0_0) := (blk_cell BK225.out 0).trans rfl
                              have hcz57_1 : wr.cell? ⟨gb225, 1, none⟩ = some (.slice A0_1 l0_1.length c0_1) := (blk_cell BK225.out 1).trans rfl
                              have hcz57_2 : wr.cell? ⟨gb225, 2, none⟩ = some (.slice A0_2 l0_2.length c0_2) := (blk_cell BK225.out 2).trans rfl
                              have hcz57_3 : wr.cell? ⟨gb225, 3, none⟩ = some (.int .i64 a0_3) := (blk_cell BK225.out 3).trans rfl
                              have hfz57_0 := blk_frozen BK225.out 0
                              have hfz57_1 := blk_frozen BK225.out 1
                              have hfz57_2 := blk_frozen BK225.out 2
                              have hfz57_3 := blk_frozen BK225.out 3
                              go_wp2_with (first | ((with_reducible refine gate_callee (f := 21) rfl ?_); refine goesL_ (some 117) rfl rfl Try.func21 (by kernel_rfl) rfl #[.agg #[.slice A0_0 l0_0.length c0_0, .slice A0_1 l0_1.length c0_1, .slice A0_2 l0_2.length c0_2, .int .i64 a0_3], .int .i64 x92_3, .int .i64 x111_4] rfl (by (try simp only [List.map_toArray, List.map_cons, List.map_nil]); first | done | rfl | (simp only [List.length_drop, List.length_take]; rfl)) ?_; (with_reducible refine (domain_Members.calls _ _ l0_0 _ _ l0_1 _ _ l0_2 a0_3 x92_3 x111_4 t237 _ ?side1 ?side2 ?side3 ?side4 ?side5 ?side6 A55.out).mono ?_); (case side1 => repeat (first | exact (Kd.C_below HR0_0.out HB.out) | (with_reducible refine Kd.C_alloc ?_ _) | (with_reducible refine Kd.C_drewN ?_ _) | (with_reducible refine Kd.C_drew ?_))); (case side2 => exact HC0_0.out); (case side3 => repeat (first | exact (Kd.C_below HR0_1.out HB.out) | (with_reducible refine Kd.C_alloc ?_ _) | (with_reducible refine Kd.C_drewN ?_ _) | (with_reducible refine Kd.C_drew ?_))); (case side4 => exact HC0_1.out); (case side5 => repeat (first | exact (Kd.C_below HR0_2.out HB.out) | (with_reducible refine Kd.C_alloc ?_ _) | (with_reducible refine Kd.C_drewN ?_ _) | (with_reducible refine Kd.C_drew ?_))); (case side6 => exact HC0_2.out); rintro e w58 ⟨v238, rfl, ho0, hb⟩; refine ⟨_, rfl, ?_⟩; have n0_ := Aside0.mk (zg_ ho0 (zw_ (by repeat (first | (with_reducible first | exact HB.out | apply zs_ | apply zt_ | apply zu_ | refine zr_ ?_ GE225.out | refine zr_ ?_ GE226.out) | exact HB.out)))); have n1_ := Aside0.mk (zq_ (g := gb225) (o := .cells #[.slice A0_0 l0_0.length c0_0, .slice A0_1 l0_1.length c0_1, .slice A0_2 l0_2.length c0_2, .int .i64 a0_3] 25 (0, 0)) (by (with_reducible repeat (first | refine zm_ ?_ _ | refine zn_ ?_ | refine zo_ ?_ _)); exact BK225.out) hb); have n2_ := Aside0.mk (zq_ (g := gb226) (o := .cells #[.int .u8 a1_0, .int .u8 a1_1, .int .u8 a1_2] 36 (0, 0)) (by (with_reducible repeat (first | refine zm_ ?_ _ | refine zn_ ?_ | refine zo_ ?_ _)); exact BK226.out) hb); have n3_ := Aside0.mk (zv_ (by repeat (first | (with_reducible first | exact HB.out | apply zs_ | apply zt_ | apply zu_ | refine zr_ ?_ GE225.out | refine zr_ ?_ GE226.out) | exact HB.out)) hb); clear BK225; clear BK226; clear HB; have HO239 := n0_; have BK225 := n1_; have BK226 := n2_; have HB := n3_; clear n0_ n1_ n2_ n3_; (try clear hb); (try clear hb2); (try clear hk); (try clear hi); (try clear ho0); obtain ⟨Ao59, co59, eo59⟩ := Kd.R_slice HO239.out; subst eo59))
                              go_loopg [13, 119] k4 (fun kq v13 v119 w' => ∃ (x13_5 : Int) (x119_5 : Int), v13 = .int .i64 x13_5 ∧ v119 = .int .i64 x119_5 ∧ Aside0 (quietuslaw10_DomainsAreNested.l2 kq (l0_0.length : Int) (Int.tmod (wrap64 (a1_0)) (l0_0.length : Int)) (Int.tmod (wrap64 (a1_1)) (l0_0.length : Int)) t229 x92_3 x13_5 x111_4 x92_3 t236 x111_4 t237 (t237.length : Int) x119_5 l0_0 l0_1 l0_2 a0_3 = some r) ∧ Aside0 (kq ≤ k4) ∧ Aside0 (Kd.R (Kd.int .i64) 3 w' w.heap.size (fun _ => True) (.slice Ao59 t237.length co59) t237) ∧ Aside0 (w'.heap[gb225]? = some (.cells #[(.slice A0_0 l0_0.length c0_0), (.slice A0_1 l0_1.length c0_1), (.slice A0_2 l0_2.length c0_2), .int .i64 a0_3] 25 (0, 0))) ∧ Aside0 (w'.heap[gb226]? = some (.cells #[.int .u8 a1_0, .int .u8 a1_1, .int .u8 a1_2] 36 (0, 0))) ∧ Aside0 (Below w.heap.size w w'))
                              case atStart => exact ⟨(x13_4), (0), (by first | rfl | (simp; done) | (simp [*]; done)), (by first | rfl | (simp; done) | (simp [*]; done)), H', ⟨Nat.le_refl _⟩, ⟨by (with_reducible repeat (first | apply za_ | apply zb_ | apply zc_)); exact HO239.out⟩, ⟨by (with_reducible repeat (first | refine zm_ ?_ _ | refine zn_ ?_ | refine zo_ ?_ _)); exact BK225.out⟩, ⟨by (with_reducible repeat (first | refine zm_ ?_ _ | refine zn_ ?_ | refine zo_ ?_ _)); exact BK226.out⟩, ⟨by repeat (first | (with_reducible first | exact HB.out | apply zs_ | apply zt_ | apply zu_ | refine zr_ ?_ GE225.out | refine zr_ ?_ GE226.out) | exact HB.out)⟩⟩
                              case round =>
                                clear H'
                                try clear c1
                                try clear c2
                                try clear p2
                                try clear c3
                                try clear c4
                                try clear c5
                                try clear p6
                                try clear c7
                                try clear c7b0
                                try clear c7b1
                                try clear c8
                                try clear c12
                                try clear c15
                                try clear c16
                                try clear c18
                                try clear c18b0
                                try clear c18b1
                                try clear c18b2
                                try clear c21
                                try clear c23
                                try clear c25
                                try clear c31
                                try clear c31b0
                                try clear c31b1
                                try clear c32
                                try clear c32b0
                                try clear c33
                                try clear c33b0
                                try clear c35
                                try clear c35b0
                                try clear c37
                                try clear c37b0
                                try clear c39
                                try clear c42
                                try clear c43
                                try clear c43b0
                                try clear c46
                                try clear c46b0
                                try clear c46b1
                                try clear c46b2
                                try clear c51
                                try clear c54
                                try clear c54b0
                                try clear c56
                                try clear hcz11_0
                                try clear hcz11_1
                                try clear hcz11_2
                                try clear hcz11_3
                                try clear hcz13_0
                                try clear hcz13_1
                                try clear hcz13_2
                                try clear hcz13_3
                                try clear hcz24_0
                                try clear hcz24_1
                                try clear hcz24_2
                                try clear hcz24_3
                                try clear hcz40_0
                                try clear hcz40_1
                                try clear hcz40_2
                                try clear hcz40_3
                                try clear hcz52_0
                                try clear hcz52_1
                                try clear hcz52_2
                                try clear hcz52_3
                                try clear hcz57_0
                                try clear hcz57_1
                                try clear hcz57_2
                                try clear hcz57_3
                                try clear hcz9_0
                                try clear hcz9_1
                                try clear hcz9_2
                                try clear hcz9_3
                                try clear hfz11_0
                                try clear hfz11_1
                                try clear hfz11_2
                                try clear hfz11_3
                                try clear hfz13_0
                                try clear hfz13_1
                                try clear hfz13_2
                                try clear hfz13_3
                                try clear hfz24_0
                                try clear hfz24_1
                                try clear hfz24_2
                                try clear hfz24_3
                                try clear hfz40_0
                                try clear hfz40_1
                                try clear hfz40_2
                                try clear hfz40_3
                                try clear hfz52_0
                                try clear hfz52_1
                                try clear hfz52_2
                                try clear hfz52_3
                                try clear hfz57_0
                                try clear hfz57_1
                                try clear hfz57_2
                                try clear hfz57_3
                                try clear hfz9_0
                                try clear hfz9_1
                                try clear hfz9_2
                                try clear hfz9_3
                                try clear p2
                                try clear p6
                                obtain ⟨x13_5, x119_5, rfl, rfl, HA, HK5, HO_117, BK225, BK226, HB⟩ := hrel
                                cases gk with
                                | zero => exact absurd HA.out (by simp [quietuslaw10_DomainsAreNested.l2])
                                | succ k5 =>
                                  have H := HA.out
                                  clear HA
                                  simp only [quietuslaw10_DomainsAreNested.l2] at H
                                  by_cases c60 : x119_5 < (t237.length : Int)
                                  · rw [if_pos c60] at H
                                    have c60b0 : decide (x119_5 < (t237.length : Int)) = true := decide_eq_true c60
                                    clear c60
                                    by_cases c61 : 0 ≤ x119_5
                                    · rw [if_pos c61] at H
                                      have c61b0 : decide (0 ≤ x119_5) = true := decide_eq_true c61
                                      clear c61
                                      by_cases c62 : x119_5 < (t237.length : Int)
                                      · rw [if_pos c62] at H
                                        have c62b0 : decide (x119_5 < (t237.length : Int)) = true := decide_eq_true c62
                                        clear c62
                                        replace H := Option.bind_eq_some_iff.mp H
                                        obtain ⟨t241, A630, H⟩ := H
                                        replace H : (if t241 = x111_4 then (if x119_5 > 0 then ((domain_Members.f l0_0 l0_1 l0_2 a0_3 x92_3 x111_4).bind fun t242 => (if 0 ≤ (wrap64 (x119_5 - 1)) then (if (wrap64 (x119_5 - 1)) < (t242.length : Int) then (if (rd t237 x119_5) ≤ (rd t242 (wrap64 (x119_5 - 1))) then (none) else (quietuslaw10_DomainsAreNested.l2 k5 (l0_0.length : Int) (Int.tmod (wrap64 (a1_0)) (l0_0.length : Int)) (Int.tmod (wrap64 (a1_1)) (l0_0.length : Int)) t229 x92_3 (wrap64 (x13_5 + 1)) x111_4 x92_3 t236 x111_4 t237 (t237.length : Int) (wrap64 (x119_5 + 1)) l0_0 l0_1 l0_2 a0_3)) else (none)) else (none))) else (quietuslaw10_DomainsAreNested.l2 k5 (l0_0.length : Int) (Int.tmod (wrap64 (a1_0)) (l0_0.length : Int)) (Int.tmod (wrap64 (a1_1)) (l0_0.length : Int)) t229 x92_3 (wrap64 (x13_5 + 1)) x111_4 x92_3 t236 x111_4 t237 (t237.length : Int) (wrap64 (x119_5 + 1)) l0_0 l0_1 l0_2 a0_3)) else (none)) = some r := H
                                        have A63 := Aside0.mk A630
                                        clear A630
                                        by_cases c64 : t241 = x111_4
                                        · rw [if_pos c64] at H
                                          have c64b0 : (t241 == x111_4) = true := beq_iff_eq.mpr c64
                                          have c64b1 : (t241 != x111_4) = false := bne_eq_false_iff_eq.mpr c64
                                          clear c64
                                          by_cases c65 : x119_5 > 0
                                          · rw [if_pos c65] at H
                                            have c65b0 : decide (0 < x119_5) = true := decide_eq_true c65
                                            clear c65
                                            replace H := Option.bind_eq_some_iff.mp H
                                            obtain ⟨t242, A660, H⟩ := H
                                            replace H : (if 0 ≤ (wrap64 (x119_5 - 1)) then (if (wrap64 (x119_5 - 1)) < (t242.length : Int) then (if (rd t237 x119_5) ≤ (rd t242 (wrap64 (x119_5 - 1))) then (none) else (quietuslaw10_DomainsAreNested.l2 k5 (l0_0.length : Int) (Int.tmod (wrap64 (a1_0)) (l0_0.length : Int)) (Int.tmod (wrap64 (a1_1)) (l0_0.length : Int)) t229 x92_3 (wrap64 (x13_5 + 1)) x111_4 x92_3 t236 x111_4 t237 (t237.length : Int) (wrap64 (x119_5 + 1)) l0_0 l0_1 l0_2 a0_3)) else (none)) else (none)) = some r := H
                                            have A66 := Aside0.mk A660
                                            clear A660
                                            obtain ⟨ji67, hji67⟩ : ∃ j_ : Int, (wrap64 (x119_5 - 1)) = j_ := ⟨_, rfl⟩
                                            replace H : (if 0 ≤ (ji67) then (if (ji67) < (t242.length : Int) then (if (rd t237 x119_5) ≤ (rd t242 (ji67)) then (none) else (quietuslaw10_DomainsAreNested.l2 k5 (l0_0.length : Int) (Int.tmod (wrap64 (a1_0)) (l0_0.length : Int)) (Int.tmod (wrap64 (a1_1)) (l0_0.length : Int)) t229 x92_3 (wrap64 (x13_5 + 1)) x111_4 x92_3 t236 x111_4 t237 (t237.length : Int) (wrap64 (x119_5 + 1)) l0_0 l0_1 l0_2 a0_3)) else (none)) else (none)) = some r := by first | (rw [hji67] at H; exact H) | (simp only [hji67] at H ⊢; exact H)
                                            (try rw [hji67] at A63)
                                            (try rw [hji67] at A66)
                                            have hji67w : (IntKind.i64.wrap (x119_5 - 1)) = ji67 := (i64_w _).trans hji67
                                            by_cases c68 : 0 ≤ (ji67)
                                            · rw [if_pos c68] at H
                                              have c68b0 : decide (0 ≤ (ji67)) = true := decide_eq_true c68
                                              clear c68
                                              by_cases c69 : (ji67) < (t242.length : Int)
                                              · rw [if_pos c69] at H
                                                have c69b0 : decide ((ji67) < (t242.length : Int)) = true := decide_eq_true c69
                                                clear c69
                                                by_cases c70 : (rd t237 x119_5) ≤ (rd t242 (ji67))
                                                · rw [if_pos c70] at H
                                                  exact absurd H (by simp)
                                                · rw [if_neg c70] at H
                                                  have c70b0 : decide ((rd t237 x119_5) ≤ (rd t242 (ji67))) = false := decide_eq_false c70
                                                  clear c70
                                                  have H' := Aside0.mk H
                                                  clear H
                                                  have p240 : 0 ≤ (x119_5 : Int) := of_decide_eq_true (by first | (with_reducible assumption) | assumption)
                                                  have q240 : x119_5 < (t237.length : Int) := of_decide_eq_true (by first | (with_reducible assumption) | assumption)
                                                  obtain ⟨ad240, e240, hx240_0⟩ := Kd.at_int (zl_ HO_117.out).2.2 x119_5 p240 q240
                                                  cases e240
                                                  replace p240 := eq_true p240
                                                  replace q240 := eq_true q240
                                                  have hnb71 := NB225_226.out
                                                  have hnc71 := NB226_225.out
                                                  have hcz72_0 : wr.cell? ⟨gb225, 0, none⟩ = some (.slice A0_0 l0_0.length c0_0) := (blk_cell BK225.out 0).trans rfl
                                                  have hcz72_1 : wr.cell? ⟨gb225, 1, none⟩ = some (.slice A0_1 l0_1.length c0_1) := (blk_cell BK225.out 1).trans rfl
                                                  have hcz72_2 : wr.cell? ⟨gb225, 2, none⟩ = some (.slice A0_2 l0_2.length c0_2) := (blk_cell BK225.out 2).trans rfl
                                                  have hcz72_3 : wr.cell? ⟨gb225, 3, none⟩ = some (.int .i64 a0_3) := (blk_cell BK225.out 3).trans rfl
                                                  have hfz72_0 := blk_frozen BK225.out 0
                                                  have hfz72_1 := blk_frozen BK225.out 1
                                                  have hfz72_2 := blk_frozen BK225.out 2
                                                  have hfz72_3 := blk_frozen BK225.out 3
                                                  go_wp2_with (first | ((with_reducible refine gate_callee (f := 18) rfl ?_); refine goesL_ (some 127) rfl rfl Try.func18 (by kernel_rfl) rfl #[.agg #[.slice A0_0 l0_0.length c0_0, .slice A0_1 l0_1.length c0_1, .slice A0_2 l0_2.length c0_2, .int .i64 a0_3], .int .i64 x92_3, .int .i64 (rd t237 x119_5)] rfl (by (try simp only [List.map_toArray, List.map_cons, List.map_nil]); first | done | rfl | (simp only [List.length_drop, List.length_take]; rfl)) ?_; (with_reducible refine (domain_Of.calls k5 _ _ l0_0 _ _ l0_1 _ _ l0_2 a0_3 x92_3 (rd t237 x119_5) t241 _ ?side1 ?side2 ?side3 ?side4 ?side5 ?side6 A63.out).mono ?_); (case side1 => repeat (first | exact (Kd.C_below HR0_0.out HB.out) | (with_reducible refine Kd.C_alloc ?_ _) | (with_reducible refine Kd.C_drewN ?_ _) | (with_reducible refine Kd.C_drew ?_))); (case side2 => exact HC0_0.out); (case side3 => repeat (first | exact (Kd.C_below HR0_1.out HB.out) | (with_reducible refine Kd.C_alloc ?_ _) | (with_reducible refine Kd.C_drewN ?_ _) | (with_reducible refine Kd.C_drew ?_))); (case side4 => exact HC0_1.out); (case side5 => repeat (first | exact (Kd.C_below HR0_2.out HB.out) | (with_reducible refine Kd.C_alloc ?_ _) | (with_reducible refine Kd.C_drewN ?_ _) | (with_reducible refine Kd.C_drew ?_))); (case side6 => exact HC0_2.out); rintro e w73 ⟨rfl, hb⟩; refine ⟨_, rfl, ?_⟩; have n0_ := Aside0.mk (Kd.R_below (by (with_reducible repeat (first | apply za_ | apply zb_ | apply zc_)); exact HO_117.out) hb); have n1_ := Aside0.mk (zq_ (g := gb225) (o := .cells #[.slice A0_0 l0_0.length c0_0, .slice A0_1 l0_1.length c0_1, .slice A0_2 l0_2.length c0_2, .int .i64 a0_3] 25 (0, 0)) (by (with_reducible repeat (first | refine zm_ ?_ _ | refine zn_ ?_ | refine zo_ ?_ _)); exact BK225.out) hb); have n2_ := Aside0.mk (zq_ (g := gb226) (o := .cells #[.int .u8 a1_0, .int .u8 a1_1, .int .u8 a1_2] 36 (0, 0)) (by (with_reducible repeat (first | refine zm_ ?_ _ | refine zn_ ?_ | refine zo_ ?_ _)); exact BK226.out) hb); have n3_ := Aside0.mk (zv_ (by repeat (first | (with_reducible first | exact HB.out | apply zs_ | apply zt_ | apply zu_ | refine zr_ ?_ GE225.out | refine zr_ ?_ GE226.out) | exact HB.out)) hb); clear HO_117; clear BK225; clear BK226; clear HB; have HO_117 := n0_; have BK225 := n1_; have BK226 := n2_; have HB := n3_; clear n0_ n1_ n2_ n3_; (try clear hb); (try clear hb2); (try clear hk); (try clear hi); have hcz74_0 : w73.cell? ⟨gb225, 0, none⟩ = some (.slice A0_0 l0_0.length c0_0) := (blk_cell BK225.out 0).trans rfl; have hcz74_1 : w73.cell? ⟨gb225, 1, none⟩ = some (.slice A0_1 l0_1.length c0_1) := (blk_cell BK225.out 1).trans rfl; have hcz74_2 : w73.cell? ⟨gb225, 2, none⟩ = some (.slice A0_2 l0_2.length c0_2) := (blk_cell BK225.out 2).trans rfl; have hcz74_3 : w73.cell? ⟨gb225, 3, none⟩ = some (.int .i64 a0_3) := (blk_cell BK225.out 3).trans rfl; have hfz74_0 := blk_frozen BK225.out 0; have hfz74_1 := blk_frozen BK225.out 1; have hfz74_2 := blk_frozen BK225.out 2; have hfz74_3 := blk_frozen BK225.out 3) | (go_at_call 21; (with_reducible refine (domain_Members.calls _ _ l0_0 _ _ l0_1 _ _ l0_2 a0_3 x92_3 x111_4 t242 _ ?side1 ?side2 ?side3 ?side4 ?side5 ?side6 A66.out).mono ?_); (case side1 => repeat (first | exact (Kd.C_below HR0_0.out HB.out) | (with_reducible refine Kd.C_alloc ?_ _) | (with_reducible refine Kd.C_drewN ?_ _) | (with_reducible refine Kd.C_drew ?_))); (case side2 => exact HC0_0.out); (case side3 => repeat (first | exact (Kd.C_below HR0_1.out HB.out) | (with_reducible refine Kd.C_alloc ?_ _) | (with_reducible refine Kd.C_drewN ?_ _) | (with_reducible refine Kd.C_drew ?_))); (case side4 => exact HC0_1.out); (case side5 => repeat (first | exact (Kd.C_below HR0_2.out HB.out) | (with_reducible refine Kd.C_alloc ?_ _) | (with_reducible refine Kd.C_drewN ?_ _) | (with_reducible refine Kd.C_drew ?_))); (case side6 => exact HC0_2.out); rintro e w75 ⟨v243, rfl, ho0, hb⟩; have n0_ := Aside0.mk (zj_ (by (with_reducible repeat (first | apply za_ | apply zb_ | apply zc_)); exact HO_117.out) (zk_ ho0) hb); have n1_ := Aside0.mk (zg_ (zh_ ho0 (zi_ (by (with_reducible repeat (first | apply za_ | apply zb_ | apply zc_)); exact HO_117.out))) (zw_ (by repeat (first | (with_reducible first | exact HB.out | apply zs_ | apply zt_ | apply zu_ | refine zr_ ?_ GE225.out | refine zr_ ?_ GE226.out) | exact HB.out)))); have n2_ := Aside0.mk (zq_ (g := gb225) (o := .cells #[.slice A0_0 l0_0.length c0_0, .slice A0_1 l0_1.length c0_1, .slice A0_2 l0_2.length c0_2, .int .i64 a0_3] 25 (0, 0)) (by (with_reducible repeat (first | refine zm_ ?_ _ | refine zn_ ?_ | refine zo_ ?_ _)); exact BK225.out) hb); have n3_ := Aside0.mk (zq_ (g := gb226) (o := .cells #[.int .u8 a1_0, .int .u8 a1_1, .int .u8 a1_2] 36 (0, 0)) (by (with_reducible repeat (first | refine zm_ ?_ _ | refine zn_ ?_ | refine zo_ ?_ _)); exact BK226.out) hb); have n4_ := Aside0.mk (zv_ (by repeat (first | (with_reducible first | exact HB.out | apply zs_ | apply zt_ | apply zu_ | refine zr_ ?_ GE225.out | refine zr_ ?_ GE226.out) | exact HB.out)) hb); clear HO_117; clear BK225; clear BK226; clear HB; have HO_117 := n0_; have HO244 := n1_; have BK225 := n2_; have BK226 := n3_; have HB := n4_; clear n0_ n1_ n2_ n3_ n4_; (try clear hb); (try clear hb2); (try clear hk); (try clear hi); (try clear ho0); obtain ⟨Ao76, co76, eo76⟩ := Kd.R_slice HO244.out; subst eo76; have p245 : 0 ≤ ((ji67) : Int) := of_decide_eq_true (by first | (with_reducible assumption) | assumption); have q245 : (ji67) < (t242.length : Int) := of_decide_eq_true (by first | (with_reducible assumption) | assumption); obtain ⟨ad245, e245, hx245_0⟩ := Kd.at_int (zl_ HO244.out).2.2 (ji67) p245 q245; cases e245; replace p245 := eq_true p245; replace q245 := eq_true q245))
                                                  go_roundg k5
                                                  case measure => have := HJ2.out; have := HJ21.out; have := HK3.out; have := HK4.out; have := HK5.out; omega
                                                  case rel => exact ⟨(wrap64 (x13_5 + 1)), (wrap64 (x119_5 + 1)), (by first | rfl | (simp; done) | (simp [*]; done)), (by first | rfl | (simp; done) | (simp [*]; done)), (by first | exact H' | (simp only [hji34, hji36, hji38, hji67]; exact H') | (rw [hji34]; exact H') | (rw [hji36]; exact H') | (rw [hji38]; exact H') | (rw [hji67]; exact H')), ⟨by have := HJ2.out; have := HJ21.out; have := HK3.out; have := HK4.out; have := HK5.out; omega⟩, ⟨by (with_reducible repeat (first | apply za_ | apply zb_ | apply zc_)); exact zd_ HO_117.out (fun _ hk => trivial)⟩, ⟨by (with_reducible repeat (first | refine zm_ ?_ _ | refine zn_ ?_ | refine zo_ ?_ _)); exact BK225.out⟩, ⟨by (with_reducible repeat (first | refine zm_ ?_ _ | refine zn_ ?_ | refine zo_ ?_ _)); exact BK226.out⟩, ⟨by repeat (first | (with_reducible first | exact HB.out | apply zs_ | apply zt_ | apply zu_ | refine zr_ ?_ GE225.out | refine zr_ ?_ GE226.out) | exact HB.out)⟩⟩
                                              · rw [if_neg c69] at H
                                                exact absurd H (by simp)
                                            · rw [if_neg c68] at H
                                              exact absurd H (by simp)
                                          · rw [if_neg c65] at H
                                            have c65b0 : decide (0 < x119_5) = false := decide_eq_false c65
                                            clear c65
                                            have H' := Aside0.mk H
                                            clear H
                                            have p240 : 0 ≤ (x119_5 : Int) := of_decide_eq_true (by first | (with_reducible assumption) | assumption)
                                            have q240 : x119_5 < (t237.length : Int) := of_decide_eq_true (by first | (with_reducible assumption) | assumption)
                                            obtain ⟨ad240, e240, hx240_0⟩ := Kd.at_int (zl_ HO_117.out).2.2 x119_5 p240 q240
                                            cases e240
                                            replace p240 := eq_true p240
                                            replace q240 := eq_true q240
                                            have hnb77 := NB225_226.out
                                            have hnc77 := NB226_225.out
                                            have hcz78_0 : wr.cell? ⟨gb225, 0, none⟩ = some (.slice A0_0 l0_0.length c0_0) := (blk_cell BK225.out 0).trans rfl
                                            have hcz78_1 : wr.cell? ⟨gb225, 1, none⟩ = some (.slice A0_1 l0_1.length c0_1) := (blk_cell BK225.out 1).trans rfl
                                            have hcz78_2 : wr.cell? ⟨gb225, 2, none⟩ = some (.slice A0_2 l0_2.length c0_2) := (blk_cell BK225.out 2).trans rfl
                                            have hcz78_3 : wr.cell? ⟨gb225, 3, none⟩ = some (.int .i64 a0_3) := (blk_cell BK225.out 3).trans rfl
                                            have hfz78_0 := blk_frozen BK225.out 0
                                            have hfz78_1 := blk_frozen BK225.out 1
                                            have hfz78_2 := blk_frozen BK225.out 2
                                            have hfz78_3 := blk_frozen BK225.out 3
                                            go_wp2_with (first | ((with_reducible refine gate_callee (f := 18) rfl ?_); refine goesL_ (some 127) rfl rfl Try.func18 (by kernel_rfl) rfl #[.agg #[.slice A0_0 l0_0.length c0_0, .slice A0_1 l0_1.length c0_1, .slice A0_2 l0_2.length c0_2, .int .i64 a0_3], .int .i64 x92_3, .int .i64 (rd t237 x119_5)] rfl (by (try simp only [List.map_toArray, List.map_cons, List.map_nil]); first | done | rfl | (simp only [List.length_drop, List.length_take]; rfl)) ?_; (with_reducible refine (domain_Of.calls k5 _ _ l0_0 _ _ l0_1 _ _ l0_2 a0_3 x92_3 (rd t237 x119_5) t241 _ ?side1 ?side2 ?side3 ?side4 ?side5 ?side6 A63.out).mono ?_); (case side1 => repeat (first | exact (Kd.C_below HR0_0.out HB.out) | (with_reducible refine Kd.C_alloc ?_ _) | (with_reducible refine Kd.C_drewN ?_ _) | (with_reducible refine Kd.C_drew ?_))); (case side2 => exact HC0_0.out); (case side3 => repeat (first | exact (Kd.C_below HR0_1.out HB.out) | (with_reducible refine Kd.C_alloc ?_ _) | (with_reducible refine Kd.C_drewN ?_ _) | (with_reducible refine Kd.C_drew ?_))); (case side4 => exact HC0_1.out); (case side5 => repeat (first | exact (Kd.C_below HR0_2.out HB.out) | (with_reducible refine Kd.C_alloc ?_ _) | (with_reducible refine Kd.C_drewN ?_ _) | (with_reducible refine Kd.C_drew ?_))); (case side6 => exact HC0_2.out); rintro e w79 ⟨rfl, hb⟩; refine ⟨_, rfl, ?_⟩; have n0_ := Aside0.mk (Kd.R_below (by (with_reducible repeat (first | apply za_ | apply zb_ | apply zc_)); exact HO_117.out) hb); have n1_ := Aside0.mk (zq_ (g := gb225) (o := .cells #[.slice A0_0 l0_0.length c0_0, .slice A0_1 l0_1.length c0_1, .slice A0_2 l0_2.length c0_2, .int .i64 a0_3] 25 (0, 0)) (by (with_reducible repeat (first | refine zm_ ?_ _ | refine zn_ ?_ | refine zo_ ?_ _)); exact BK225.out) hb); have n2_ := Aside0.mk (zq_ (g := gb226) (o := .cells #[.int .u8 a1_0, .int .u8 a1_1, .int .u8 a1_2] 36 (0, 0)) (by (with_reducible repeat (first | refine zm_ ?_ _ | refine zn_ ?_ | refine zo_ ?_ _)); exact BK226.out) hb); have n3_ := Aside0.mk (zv_ (by repeat (first | (with_reducible first | exact HB.out | apply zs_ | apply zt_ | apply zu_ | refine zr_ ?_ GE225.out | refine zr_ ?_ GE226.out) | exact HB.out)) hb); clear HO_117; clear BK225; clear BK226; clear HB; have HO_117 := n0_; have BK225 := n1_; have BK226 := n2_; have HB := n3_; clear n0_ n1_ n2_ n3_; (try clear hb); (try clear hb2); (try clear hk); (try clear hi)))
                                            go_roundg k5
                                            case measure => have := HJ2.out; have := HJ21.out; have := HK3.out; have := HK4.out; have := HK5.out; omega
                                            case rel => exact ⟨(wrap64 (x13_5 + 1)), (wrap64 (x119_5 + 1)), (by first | rfl | (simp; done) | (simp [*]; done)), (by first | rfl | (simp; done) | (simp [*]; done)), (by first | exact H' | (simp only [hji34, hji36, hji38, hji67]; exact H') | (rw [hji34]; exact H') | (rw [hji36]; exact H') | (rw [hji38]; exact H') | (rw [hji67]; exact H')), ⟨by have := HJ2.out; have := HJ21.out; have := HK3.out; have := HK4.out; have := HK5.out; omega⟩, ⟨by (with_reducible repeat (first | apply za_ | apply zb_ | apply zc_)); exact HO_117.out⟩, ⟨by (with_reducible repeat (first | refine zm_ ?_ _ | refine zn_ ?_ | refine zo_ ?_ _)); exact BK225.out⟩, ⟨by (with_reducible repeat (first | refine zm_ ?_ _ | refine zn_ ?_ | refine zo_ ?_ _)); exact BK226.out⟩, ⟨by repeat (first | (with_reducible first | exact HB.out | apply zs_ | apply zt_ | apply zu_ | refine zr_ ?_ GE225.out | refine zr_ ?_ GE226.out) | exact HB.out)⟩⟩
                                        · rw [if_neg c64] at H
                                          exact absurd H (by simp)
                                      · rw [if_neg c62] at H
                                        exact absurd H (by simp)
                                    · rw [if_neg c61] at H
                                      exact absurd H (by simp)
                                  · rw [if_neg c60] at H
                                    have c60b0 : decide (x119_5 < (t237.length : Int)) = false := decide_eq_false c60
                                    clear c60
                                    have H' := Aside0.mk H
                                    clear H
                                    go_wp2
                                    go_roundg k5
                                    case measure => have := HJ2.out; have := HJ21.out; have := HK3.out; have := HK4.out; have := HK5.out; omega
                                    case rel => exact ⟨(x13_5), (wrap64 (x111_4 + 1)), (by first | rfl | (simp; done) | (simp [*]; done)), (by first | rfl | (simp; done) | (simp [*]; done)), (by first | exact H' | (simp only [hji34, hji36, hji38, hji67]; exact H') | (rw [hji34]; exact H') | (rw [hji36]; exact H') | (rw [hji38]; exact H') | (rw [hji67]; exact H')), ⟨by have := HJ2.out; have := HJ21.out; have := HK3.out; have := HK4.out; have := HK5.out; omega⟩, ⟨by (with_reducible repeat (first | refine zm_ ?_ _ | refine zn_ ?_ | refine zo_ ?_ _)); exact BK225.out⟩, ⟨by (with_reducible repeat (first | refine zm_ ?_ _ | refine zn_ ?_ | refine zo_ ?_ _)); exact BK226.out⟩, ⟨by repeat (first | (with_reducible first | exact HB.out | apply zs_ | apply zt_ | apply zu_ | refine zr_ ?_ GE225.out | refine zr_ ?_ GE226.out) | exact HB.out)⟩⟩
                            · rw [if_neg c54] at H
                              have c54b0 : decide (x111_4 < t236) = false := decide_eq_false c54
                              clear c54
                              by_cases c80 : x13_4 = (l0_0.length : Int)
                              · rw [if_pos c80] at H
                                have c80b0 : (x13_4 == (l0_0.length : Int)) = true := beq_iff_eq.mpr c80
                                have c80b1 : (x13_4 != (l0_0.length : Int)) = false := bne_eq_false_iff_eq.mpr c80
                                clear c80
                                have H' := Aside0.mk H
                                clear H
                                go_wp2
                                go_roundg k4
                                case measure => have := HJ2.out; have := HJ21.out; have := HK3.out; have := HK4.out; omega
                                case rel => exact ⟨(wrap64 (x92_3 + 1)), (by first | rfl | (simp; done) | (simp [*]; done)), (by first | exact H' | (simp only [hji34, hji36, hji38, hji67]; exact H') | (rw [hji34]; exact H') | (rw [hji36]; exact H') | (rw [hji38]; exact H') | (rw [hji67]; exact H')), ⟨by have := HJ2.out; have := HJ21.out; have := HK3.out; have := HK4.out; omega⟩, ⟨by (with_reducible repeat (first | refine zm_ ?_ _ | refine zn_ ?_ | refine zo_ ?_ _)); exact BK225.out⟩, ⟨by (with_reducible repeat (first | refine zm_ ?_ _ | refine zn_ ?_ | refine zo_ ?_ _)); exact BK226.out⟩, ⟨by repeat (first | (with_reducible first | exact HB.out | apply zs_ | apply zt_ | apply zu_ | refine zr_ ?_ GE225.out | refine zr_ ?_ GE226.out) | exact HB.out)⟩⟩
                              · rw [if_neg c80] at H
                                exact absurd H (by simp)
                    · rw [if_neg c43] at H
                      have c43b0 : decide (x92_3 < 4) = false := decide_eq_false c43
                      clear c43
                      replace H := Option.bind_eq_some_iff.mp H
                      obtain ⟨t233, A810, H⟩ := H
                      replace H : (some t233) = some r := H
                      have A81 := Aside0.mk A810
                      clear A810
                      obtain rfl := Option.some.inj H
                      go_wp2_with (first | ((with_reducible refine gate_callee (f := 15) rfl ?_); refine goesL_ (some 154) rfl rfl Try.func15 (by kernel_rfl) rfl #[] rfl (by (try simp only [List.map_toArray, List.map_cons, List.map_nil]); first | done | rfl | (simp only [List.length_drop, List.length_take]; rfl)) ?_; (with_reducible refine (quietuslaw10_sanity.calls  t233 _ A81.out).mono ?_); rintro e w82 ⟨rfl, hb⟩; refine ⟨_, rfl, ?_⟩; have n0_ := Aside0.mk (zq_ (g := gb225) (o := .cells #[.slice A0_0 l0_0.length c0_0, .slice A0_1 l0_1.length c0_1, .slice A0_2 l0_2.length c0_2, .int .i64 a0_3] 25 (0, 0)) (by (with_reducible repeat (first | refine zm_ ?_ _ | refine zn_ ?_ | refine zo_ ?_ _)); exact BK225.out) hb); have n1_ := Aside0.mk (zq_ (g := gb226) (o := .cells #[.int .u8 a1_0, .int .u8 a1_1, .int .u8 a1_2] 36 (0, 0)) (by (with_reducible repeat (first | refine zm_ ?_ _ | refine zn_ ?_ | refine zo_ ?_ _)); exact BK226.out) hb); have n2_ := Aside0.mk (zv_ (by repeat (first | (with_reducible first | exact HB.out | apply zs_ | apply zt_ | apply zu_ | refine zr_ ?_ GE225.out | refine zr_ ?_ GE226.out) | exact HB.out)) hb); clear BK225; clear BK226; clear HB; have BK225 := n0_; have BK226 := n1_; have HB := n2_; clear n0_ n1_ n2_; (try clear hb); (try clear hb2); (try clear hk); (try clear hi)))
                      go_ret
                      exact ⟨by first | rfl | (simp [errW_none, errW_some] <;> rfl) | (simp [*, errW_none, errW_some] <;> rfl), by repeat (first | (with_reducible first | exact HB.out | apply zs_ | apply zt_ | apply zu_ | refine zr_ ?_ GE225.out | refine zr_ ?_ GE226.out) | exact HB.out)⟩

end Go.Proofs.Yteknbadjfojmbaa.QA
