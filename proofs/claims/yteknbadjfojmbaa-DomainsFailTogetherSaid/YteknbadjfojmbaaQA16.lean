-- WRITTEN BY qprint.py, a program of this session (the kit's print, driven with contracts proved by hand): Lean checks it.
import Derived.Test.YteknbadjfojmbaaQA0
import Derived.Test.YteknbadjfojmbaaQA4
import Derived.Test.YteknbadjfojmbaaQA5
import Derived.Test.YteknbadjfojmbaaQA6
import Derived.Test.YteknbadjfojmbaaQA7
import Derived.Test.YteknbadjfojmbaaQA9
import Derived.Test.YteknbadjfojmbaaQA15
namespace Go.Proofs.Yteknbadjfojmbaa.QA
open Go.RowKit Go.Proofs.YteknbadjfojmbaaW.PrintWords Go.Proofs.YteknbadjfojmbaaW.PrintLast Go.Proofs.YteknbadjfojmbaaW.PrintMore
attribute [local go_sem] max2_int min2_int max_two min_two max_three min_three max_four min_four   -- for this text's walks alone
set_option linter.unusedVariables false
set_option linter.unusedSimpArgs false

open Go.Proofs.YteknbadjfojmbaaW.PrintWords.Kd renaming R_alloc → za_, R_drewN → zb_, R_drew → zc_, R_mono → zd_, R_lower → zg_, R_new' → zh_, R_lt → zi_, R_elder' → zj_, R_base → zk_, R_reads' → zl_
open Go.Proofs.YteknbadjfojmbaaW.PrintWords renaming blk_drewN → zm_, blk_drew → zn_, blk_alloc → zo_, blk_below → zq_, below_set → zr_, below_alloc → zs_, pw_below_drewN → zt_, below_drew1 → zu_, below_step → zv_, below_size → zw_
/-! ### quietuslaw10_DomainsFailTogether: function 5 -/
mutual
def quietuslaw10_DomainsFailTogether.j0 : Nat → List Int → List Int → List Int → Bool → List Int → List (S117) → List Int → Int → Int → Int → Option (Bool)
  | 0, _, _, _, _, _, _, _, _, _, _ => none
  | k + 1, x1, x9, x10, x43, x247000, x247001, x247002, x247003, x249000, x249001 => if x43 = true then ((quietuslaw10_sanity.f).bind fun t250 => (some t250)) else ((domain_Left.f k x247000 x247001 x247002 x247003 (Int.tmod (wrap64 (x249000)) 4) x1 ([] : List Int)).bind fun t251 => ((domain_Left.f k x247000 x247001 x247002 x247003 (Int.tmod (wrap64 (x249000)) 4) x1 x9).bind fun t252 => ((some (([] : List Int) : List Int)).bind fun y253 => (if y253.length + x9.length < 17592186044416 then ((some (y253 ++ x9 : List Int)).bind fun y256 => (if y256.length + x10.length < 17592186044416 then ((domain_Left.f k x247000 x247001 x247002 x247003 (Int.tmod (wrap64 (x249000)) 4) x1 (y256 ++ x10)).bind fun t262 => (if (Go.bits .andNot .i64 t252 t251) = 0 then (if (Go.bits .andNot .i64 t262 t252) = 0 then ((domain_Left.f k x247000 x247001 x247002 x247003 (Int.tmod (wrap64 (x249000)) 4) x1 x10).bind fun t263 => (quietuslaw10_DomainsFailTogether.j1 k x1 (Int.tmod (wrap64 (x249000)) 4) t251 (t262 != (Go.bits .and .i64 t252 t263)) x247000 x247001 x247002 x247003 x249000 x249001)) else (none)) else (none))) else (none))) else (none)))))
def quietuslaw10_DomainsFailTogether.j1 : Nat → List Int → Int → Int → Bool → List Int → List (S117) → List Int → Int → Int → Int → Option (Bool)
  | 0, _, _, _, _, _, _, _, _, _, _ => none
  | k + 1, x1, x11, x12, x87, x247000, x247001, x247002, x247003, x249000, x249001 => if x87 = true then (none) else ((domain_Size.f x247000 x247001 x247002 x247003 x11).bind fun t264 => (if t264 = 0 then ((quietuslaw10_sanity.f).bind fun t265 => (if t265 = true then (some (x12 == 0)) else (none))) else ((domain_Left.f k x247000 x247001 x247002 x247003 x11 x1 (([Int.tmod (wrap64 (x249001)) t264] : List Int))).bind fun t269 => ((domain_Holds.f k x247000 x247001 x247002 x247003 x11 x1).bind fun t270 => (if (t270.length : Int) = t264 then ((quietusref07_Count.f k x12).bind fun t273 => ((quietusref07_Count.f k t269).bind fun t274 => (if 0 ≤ (Int.tmod (wrap64 (x249001)) t264) then (if (Int.tmod (wrap64 (x249001)) t264) < (t270.length : Int) then (quietuslaw10_DomainsFailTogether.j2 k x1 x11 (Int.tmod (wrap64 (x249001)) t264) t269 ((wrap64 (t273 - t274)) != (rd t270 (Int.tmod (wrap64 (x249001)) t264))) x247000 x247001 x247002 x247003) else (none)) else (none)))) else (none))))))
def quietuslaw10_DomainsFailTogether.j2 : Nat → List Int → Int → Int → Int → Bool → List Int → List (S117) → List Int → Int → Option (Bool)
  | 0, _, _, _, _, _, _, _, _, _ => none
  | k + 1, x1, x11, x16, x17, x128, x247000, x247001, x247002, x247003 => if x128 = true then (none) else (if x11 = 0 then ((quietuslaw10_sanity.f).bind fun t276 => (some t276)) else ((domain_Members.f x247000 x247001 x247002 x247003 x11 x16).bind fun t277 => (quietuslaw10_DomainsFailTogether.l0 k x1 x11 x17 ([] : List Int) t277 (t277.length : Int) 0 x247000 x247001 x247002 x247003)))
def quietuslaw10_DomainsFailTogether.l0 : Nat → List Int → Int → Int → List Int → List Int → Int → Int → List Int → List (S117) → List Int → Int → Option (Bool)
  | 0, _, _, _, _, _, _, _, _, _, _, _ => none
  | k + 1, x1, x11, x17, x19, x135, x136, x137, x247000, x247001, x247002, x247003 => if x137 < x136 then (if 0 ≤ x137 then (if x137 < (x135.length : Int) then ((domain_Of.f k x247000 x247001 x247002 x247003 (wrap64 (x11 - 1)) (rd x135 x137)).bind fun t281 => (if x19.length < 17592186044416 then (quietuslaw10_DomainsFailTogether.l0 k x1 x11 x17 (x19 ++ [t281]) x135 x136 (wrap64 (x137 + 1)) x247000 x247001 x247002 x247003) else (none))) else (none)) else (none)) else ((quietuslaw10_sanity.f).bind fun t285 => (if t285 = true then ((domain_Left.f k x247000 x247001 x247002 x247003 (wrap64 (x11 - 1)) x1 x19).bind fun t286 => (some (x17 == t286))) else (none)))
end
def quietuslaw10_DomainsFailTogether.f (k : Nat) (l0_0 : List Int) (l0_1 : List (S117)) (l0_2 : List Int) (a0_3 : Int) (l1 : List Int) (l2_0 : List Int) (l2_1 : List Int) (a3_0 : Int) (a3_1 : Int) : Option (Bool) := (domain_Check.f l0_0 l0_1 l0_2 a0_3).bind fun t249 => (if t249 = 0 then (if (l1.length : Int) > 24 then (quietuslaw10_DomainsFailTogether.j0 k l1 l2_0 l2_1 true l0_0 l0_1 l0_2 a0_3 a3_0 a3_1) else (if (l2_0.length : Int) > 12 then (quietuslaw10_DomainsFailTogether.j0 k l1 l2_0 l2_1 true l0_0 l0_1 l0_2 a0_3 a3_0 a3_1) else (quietuslaw10_DomainsFailTogether.j0 k l1 l2_0 l2_1 (decide ((l2_1.length : Int) > 12)) l0_0 l0_1 l0_2 a0_3 a3_0 a3_1))) else (quietuslaw10_DomainsFailTogether.j0 k l1 l2_0 l2_1 true l0_0 l0_1 l0_2 a0_3 a3_0 a3_1))
theorem quietuslaw10_DomainsFailTogether.mono_l : ∀ k, (∀ y0 y1 y2 y3 y4 y5 y6 y7 y8 y9, LeO (quietuslaw10_DomainsFailTogether.j0 k y0 y1 y2 y3 y4 y5 y6 y7 y8 y9) (quietuslaw10_DomainsFailTogether.j0 (k + 1) y0 y1 y2 y3 y4 y5 y6 y7 y8 y9)) ∧ (∀ y0 y1 y2 y3 y4 y5 y6 y7 y8 y9, LeO (quietuslaw10_DomainsFailTogether.j1 k y0 y1 y2 y3 y4 y5 y6 y7 y8 y9) (quietuslaw10_DomainsFailTogether.j1 (k + 1) y0 y1 y2 y3 y4 y5 y6 y7 y8 y9)) ∧ (∀ y0 y1 y2 y3 y4 y5 y6 y7 y8, LeO (quietuslaw10_DomainsFailTogether.j2 k y0 y1 y2 y3 y4 y5 y6 y7 y8) (quietuslaw10_DomainsFailTogether.j2 (k + 1) y0 y1 y2 y3 y4 y5 y6 y7 y8)) ∧ (∀ y0 y1 y2 y3 y4 y5 y6 y7 y8 y9 y10, LeO (quietuslaw10_DomainsFailTogether.l0 k y0 y1 y2 y3 y4 y5 y6 y7 y8 y9 y10) (quietuslaw10_DomainsFailTogether.l0 (k + 1) y0 y1 y2 y3 y4 y5 y6 y7 y8 y9 y10))
  | 0 => ⟨fun _ _ _ _ _ _ _ _ _ _ r h => by simp [quietuslaw10_DomainsFailTogether.j0] at h, fun _ _ _ _ _ _ _ _ _ _ r h => by simp [quietuslaw10_DomainsFailTogether.j1] at h, fun _ _ _ _ _ _ _ _ _ r h => by simp [quietuslaw10_DomainsFailTogether.j2] at h, fun _ _ _ _ _ _ _ _ _ _ _ r h => by simp [quietuslaw10_DomainsFailTogether.l0] at h⟩
  | k + 1 => by
    obtain ⟨ih0, ih1, ih2, ih3⟩ := quietuslaw10_DomainsFailTogether.mono_l k
    refine ⟨?_, ?_, ?_, ?_⟩
    · intro y0 y1 y2 y3 y4 y5 y6 y7 y8 y9
      unfold quietuslaw10_DomainsFailTogether.j0
      repeat' first
      | (with_reducible exact ih0 _ _ _ _ _ _ _ _ _ _)
      | (with_reducible exact ih1 _ _ _ _ _ _ _ _ _ _)
      | (with_reducible exact ih2 _ _ _ _ _ _ _ _ _)
      | (with_reducible exact ih3 _ _ _ _ _ _ _ _ _ _ _)
      | (with_reducible exact domain_Holds.mono _ _ _ _ _ _ _)
      | (with_reducible exact domain_Left.mono _ _ _ _ _ _ _ _)
      | (with_reducible exact domain_Of.mono _ _ _ _ _ _ _)
      | (with_reducible exact quietusref07_Count.mono _ _)
      | (with_reducible exact LeO.refl _)
      | (with_reducible exact LeO.none _)
      | (with_reducible refine LeO.ite ?_ ?_)
      | (with_reducible refine LeO.bind ?_ (fun _ => ?_))
      | exact ih0 _ _ _ _ _ _ _ _ _ _
      | exact ih1 _ _ _ _ _ _ _ _ _ _
      | exact ih2 _ _ _ _ _ _ _ _ _
      | exact ih3 _ _ _ _ _ _ _ _ _ _ _
      | exact domain_Holds.mono _ _ _ _ _ _ _
      | exact domain_Left.mono _ _ _ _ _ _ _ _
      | exact domain_Of.mono _ _ _ _ _ _ _
      | exact quietusref07_Count.mono _ _
      | exact LeO.none _
      | refine LeO.ite ?_ ?_
      | refine LeO.bind ?_ (fun _ => ?_)
    · intro y0 y1 y2 y3 y4 y5 y6 y7 y8 y9
      unfold quietuslaw10_DomainsFailTogether.j1
      repeat' first
      | (with_reducible exact ih0 _ _ _ _ _ _ _ _ _ _)
      | (with_reducible exact ih1 _ _ _ _ _ _ _ _ _ _)
      | (with_reducible exact ih2 _ _ _ _ _ _ _ _ _)
      | (with_reducible exact ih3 _ _ _ _ _ _ _ _ _ _ _)
      | (with_reducible exact domain_Holds.mono _ _ _ _ _ _ _)
      | (with_reducible exact domain_Left.mono _ _ _ _ _ _ _ _)
      | (with_reducible exact domain_Of.mono _ _ _ _ _ _ _)
      | (with_reducible exact quietusref07_Count.mono _ _)
      | (with_reducible exact LeO.refl _)
      | (with_reducible exact LeO.none _)
      | (with_reducible refine LeO.ite ?_ ?_)
      | (with_reducible refine LeO.bind ?_ (fun _ => ?_))
      | exact ih0 _ _ _ _ _ _ _ _ _ _
      | exact ih1 _ _ _ _ _ _ _ _ _ _
      | exact ih2 _ _ _ _ _ _ _ _ _
      | exact ih3 _ _ _ _ _ _ _ _ _ _ _
      | exact domain_Holds.mono _ _ _ _ _ _ _
      | exact domain_Left.mono _ _ _ _ _ _ _ _
      | exact domain_Of.mono _ _ _ _ _ _ _
      | exact quietusref07_Count.mono _ _
      | exact LeO.none _
      | refine LeO.ite ?_ ?_
      | refine LeO.bind ?_ (fun _ => ?_)
    · intro y0 y1 y2 y3 y4 y5 y6 y7 y8
      unfold quietuslaw10_DomainsFailTogether.j2
      repeat' first
      | (with_reducible exact ih0 _ _ _ _ _ _ _ _ _ _)
      | (with_reducible exact ih1 _ _ _ _ _ _ _ _ _ _)
      | (with_reducible exact ih2 _ _ _ _ _ _ _ _ _)
      | (with_reducible exact ih3 _ _ _ _ _ _ _ _ _ _ _)
      | (with_reducible exact domain_Holds.mono _ _ _ _ _ _ _)
      | (with_reducible exact domain_Left.mono _ _ _ _ _ _ _ _)
      | (with_reducible exact domain_Of.mono _ _ _ _ _ _ _)
      | (with_reducible exact quietusref07_Count.mono _ _)
      | (with_reducible exact LeO.refl _)
      | (with_reducible exact LeO.none _)
      | (with_reducible refine LeO.ite ?_ ?_)
      | (with_reducible refine LeO.bind ?_ (fun _ => ?_))
      | exact ih0 _ _ _ _ _ _ _ _ _ _
      | exact ih1 _ _ _ _ _ _ _ _ _ _
      | exact ih2 _ _ _ _ _ _ _ _ _
      | exact ih3 _ _ _ _ _ _ _ _ _ _ _
      | exact domain_Holds.mono _ _ _ _ _ _ _
      | exact domain_Left.mono _ _ _ _ _ _ _ _
      | exact domain_Of.mono _ _ _ _ _ _ _
      | exact quietusref07_Count.mono _ _
      | exact LeO.none _
      | refine LeO.ite ?_ ?_
      | refine LeO.bind ?_ (fun _ => ?_)
    · intro y0 y1 y2 y3 y4 y5 y6 y7 y8 y9 y10
      unfold quietuslaw10_DomainsFailTogether.l0
      repeat' first
      | (with_reducible exact ih0 _ _ _ _ _ _ _ _ _ _)
      | (with_reducible exact ih1 _ _ _ _ _ _ _ _ _ _)
      | (with_reducible exact ih2 _ _ _ _ _ _ _ _ _)
      | (with_reducible exact ih3 _ _ _ _ _ _ _ _ _ _ _)
      | (with_reducible exact domain_Holds.mono _ _ _ _ _ _ _)
      | (with_reducible exact domain_Left.mono _ _ _ _ _ _ _ _)
      | (with_reducible exact domain_Of.mono _ _ _ _ _ _ _)
      | (with_reducible exact quietusref07_Count.mono _ _)
      | (with_reducible exact LeO.refl _)
      | (with_reducible exact LeO.none _)
      | (with_reducible refine LeO.ite ?_ ?_)
      | (with_reducible refine LeO.bind ?_ (fun _ => ?_))
      | exact ih0 _ _ _ _ _ _ _ _ _ _
      | exact ih1 _ _ _ _ _ _ _ _ _ _
      | exact ih2 _ _ _ _ _ _ _ _ _
      | exact ih3 _ _ _ _ _ _ _ _ _ _ _
      | exact domain_Holds.mono _ _ _ _ _ _ _
      | exact domain_Left.mono _ _ _ _ _ _ _ _
      | exact domain_Of.mono _ _ _ _ _ _ _
      | exact quietusref07_Count.mono _ _
      | exact LeO.none _
      | refine LeO.ite ?_ ?_
      | refine LeO.bind ?_ (fun _ => ?_)
theorem quietuslaw10_DomainsFailTogether.mono : ∀ a0 a1 a2 a3 a4 a5 a6 a7 a8 k, LeO (quietuslaw10_DomainsFailTogether.f k a0 a1 a2 a3 a4 a5 a6 a7 a8) (quietuslaw10_DomainsFailTogether.f (k + 1) a0 a1 a2 a3 a4 a5 a6 a7 a8) := by
  intro a0 a1 a2 a3 a4 a5 a6 a7 a8 k
  obtain ⟨ih0, ih1, ih2, ih3⟩ := quietuslaw10_DomainsFailTogether.mono_l k
  unfold quietuslaw10_DomainsFailTogether.f
  repeat' first
      | (with_reducible exact ih0 _ _ _ _ _ _ _ _ _ _)
      | (with_reducible exact ih1 _ _ _ _ _ _ _ _ _ _)
      | (with_reducible exact ih2 _ _ _ _ _ _ _ _ _)
      | (with_reducible exact ih3 _ _ _ _ _ _ _ _ _ _ _)
      | (with_reducible exact domain_Holds.mono _ _ _ _ _ _ _)
      | (with_reducible exact domain_Left.mono _ _ _ _ _ _ _ _)
      | (with_reducible exact domain_Of.mono _ _ _ _ _ _ _)
      | (with_reducible exact quietusref07_Count.mono _ _)
      | (with_reducible exact LeO.refl _)
      | (with_reducible exact LeO.none _)
      | (with_reducible refine LeO.ite ?_ ?_)
      | (with_reducible refine LeO.bind ?_ (fun _ => ?_))
      | exact ih0 _ _ _ _ _ _ _ _ _ _
      | exact ih1 _ _ _ _ _ _ _ _ _ _
      | exact ih2 _ _ _ _ _ _ _ _ _
      | exact ih3 _ _ _ _ _ _ _ _ _ _ _
      | exact domain_Holds.mono _ _ _ _ _ _ _
      | exact domain_Left.mono _ _ _ _ _ _ _ _
      | exact domain_Of.mono _ _ _ _ _ _ _
      | exact quietusref07_Count.mono _ _
      | exact LeO.none _
      | refine LeO.ite ?_ ?_
      | refine LeO.bind ?_ (fun _ => ?_)
def quietuslaw10_DomainsFailTogether.T7 : Bool × List (List Nat × List Nat) := (true, [([], []), ([], []), ([], []), ([], []), ([], []), ([3, 4], [3, 4]), ([], []), ([5, 6, 5], [5, 6]), ([0, 1, 2, 7, 7], [0, 1, 2, 7]), ([8, 8, 0, 1, 2, 3, 4, 5, 6, 7, 8], [8])])
def quietuslaw10_DomainsFailTogether.B7 : List Nat := [0, 0, 0, 0, 0, 24, 0, 120, 255, 511]
theorem quietuslaw10_DomainsFailTogether.tab7 : rtab .any (opsOf Try.f5 7) = quietuslaw10_DomainsFailTogether.T7 := by kernel_rfl
theorem quietuslaw10_DomainsFailTogether.bits7 : waitsOk quietuslaw10_DomainsFailTogether.T7.2 quietuslaw10_DomainsFailTogether.B7 = true := by kernel_rfl
def quietuslaw10_DomainsFailTogether.T16 : Bool × List (List Nat × List Nat) := (true, [([], []), ([0], [0]), ([], []), ([1, 2], [1, 2]), ([3], [3]), ([4], [4]), ([5, 4, 4], [4, 5]), ([4], [4]), ([7, 6, 4], [4, 7]), ([6, 8, 4], [4, 6, 8]), ([4], [4]), ([4], [4]), ([10, 11, 4], [4, 10, 11]), ([12, 4], [4, 12]), ([9, 13, 4], [4, 9, 13]), ([4, 14], [4, 14])])
def quietuslaw10_DomainsFailTogether.B16 : List Nat := [0, 1, 0, 7, 15, 31, 63, 31, 255, 511, 31, 31, 3103, 7199, 16383, 32767]
theorem quietuslaw10_DomainsFailTogether.tab16 : rtab .any (opsOf Try.f5 16) = quietuslaw10_DomainsFailTogether.T16 := by kernel_rfl
theorem quietuslaw10_DomainsFailTogether.bits16 : waitsOk quietuslaw10_DomainsFailTogether.T16.2 quietuslaw10_DomainsFailTogether.B16 = true := by kernel_rfl
set_option maxHeartbeats 8000000 in
set_option maxRecDepth 100000 in
theorem quietuslaw10_DomainsFailTogether.calls (k : Nat) (A0_0 : Option Addr) (c0_0 : Nat) (l0_0 : List Int) (A0_1 : Option Addr) (c0_1 : Nat) (l0_1 : List (S117)) (A0_2 : Option Addr) (c0_2 : Nat) (l0_2 : List Int) (a0_3 : Int) (A1 : Option Addr) (c1 : Nat) (l1 : List Int) (A2_0 : Option Addr) (c2_0 : Nat) (l2_0 : List Int) (A2_1 : Option Addr) (c2_1 : Nat) (l2_1 : List Int) (a3_0 : Int) (a3_1 : Int) (r : Bool) (w : World) (hr0_0 : Kd.C (Kd.int .i64) w A0_0 l0_0.length l0_0) (hc0_0 : l0_0.length ≤ c0_0) (hr0_1 : Kd.C k117 w A0_1 l0_1.length l0_1) (hc0_1 : l0_1.length ≤ c0_1) (hr0_2 : Kd.C (Kd.int .i64) w A0_2 l0_2.length l0_2) (hc0_2 : l0_2.length ≤ c0_2) (hr1 : Kd.C (Kd.int .i64) w A1 l1.length l1) (hc1 : l1.length ≤ c1) (hr2_0 : Kd.C (Kd.int .i64) w A2_0 l2_0.length l2_0) (hc2_0 : l2_0.length ≤ c2_0) (hr2_1 : Kd.C (Kd.int .i64) w A2_1 l2_1.length l2_1) (hc2_1 : l2_1.length ≤ c2_1) (h : quietuslaw10_DomainsFailTogether.f k l0_0 l0_1 l0_2 a0_3 l1 l2_0 l2_1 a3_0 a3_1 = some r) :
    Calls Try.prog 5 #[.agg #[.slice A0_0 l0_0.length c0_0, .slice A0_1 l0_1.length c0_1, .slice A0_2 l0_2.length c0_2, .int .i64 a0_3], .slice A1 l1.length c1, .agg #[.slice A2_0 l2_0.length c2_0, .slice A2_1 l2_1.length c2_1], .agg #[.int .u8 a3_0, .int .u8 a3_1]] w fun e w' => e = .returned (.bool r) ∧ Below w.heap.size w w' := by
  have hu25 := Try.underlying25
  have hu38 := Try.underlying38
  have hu39 := Try.underlying39
  have HR0_0 := Aside0.mk hr0_0
  have HC0_0 := Aside0.mk hc0_0
  clear hr0_0 hc0_0
  have HR0_1 := Aside0.mk hr0_1
  have HC0_1 := Aside0.mk hc0_1
  clear hr0_1 hc0_1
  have HR0_2 := Aside0.mk hr0_2
  have HC0_2 := Aside0.mk hc0_2
  clear hr0_2 hc0_2
  have HR1 := Aside0.mk hr1
  have HC1 := Aside0.mk hc1
  clear hr1 hc1
  have HR2_0 := Aside0.mk hr2_0
  have HC2_0 := Aside0.mk hc2_0
  clear hr2_0 hc2_0
  have HR2_1 := Aside0.mk hr2_1
  have HC2_1 := Aside0.mk hc2_1
  clear hr2_1 hc2_1
  have HB := Aside0.mk (Below.refl w.heap.size w)
  have H : ((domain_Check.f l0_0 l0_1 l0_2 a0_3).bind fun t249 => (if t249 = 0 then (if (l1.length : Int) > 24 then (quietuslaw10_DomainsFailTogether.j0 k l1 l2_0 l2_1 true l0_0 l0_1 l0_2 a0_3 a3_0 a3_1) else (if (l2_0.length : Int) > 12 then (quietuslaw10_DomainsFailTogether.j0 k l1 l2_0 l2_1 true l0_0 l0_1 l0_2 a0_3 a3_0 a3_1) else (quietuslaw10_DomainsFailTogether.j0 k l1 l2_0 l2_1 (decide ((l2_1.length : Int) > 12)) l0_0 l0_1 l0_2 a0_3 a3_0 a3_1))) else (quietuslaw10_DomainsFailTogether.j0 k l1 l2_0 l2_1 true l0_0 l0_1 l0_2 a0_3 a3_0 a3_1))) = some r := h
  clear h
  have HC5 := Aside0.mk H
  clear H
  go_enter Try.func5, Try.ntmps5
  try go_wp2_with (first | ((with_reducible refine gate_dst (N := 4) rfl ?_); (try (refine gate_guard (by rfl) ?_; dsimp only)); refine box_event ?hg (N := 4) ?hd (cs := #[.slice A0_0 l0_0.length c0_0, .slice A0_1 l0_1.length c0_1, .slice A0_2 l0_2.length c0_2, .int .i64 a0_3]) (t := 25) ?hr ?_; (case hd => rfl); (case hg => rfl); (case hr => first | (go_simp; done) | (go_simp; rfl)); intro gb246 hg w6 hbox hb; have n0_ := Aside0.mk (zv_ (by repeat (first | (with_reducible first | exact HB.out | apply zs_ | apply zt_ | apply zu_) | exact HB.out)) hb); have n1_ := Aside0.mk (hbox); have n2_ := Aside0.mk ((by rw [hg]; exact (zw_ (by repeat (first | (with_reducible first | exact HB.out | apply zs_ | apply zt_ | apply zu_) | exact HB.out))) : w.heap.size ≤ gb246)); have n3_ := Aside0.mk ((by rw [hg]; exact (zw_ (by repeat (first | (with_reducible first | exact HB.out | apply zs_ | apply zt_ | apply zu_) | exact HB.out))) : w.heap.size ≤ gb246)); clear HB; have HB := n0_; have BK246 := n1_; have GW246 := n2_; have GE246 := n3_; clear n0_ n1_ n2_ n3_; clear hb hbox hg) | ((with_reducible refine gate_dst (N := 6) rfl ?_); (try (refine gate_guard (by rfl) ?_; dsimp only)); refine box_event ?hg (N := 6) ?hd (cs := #[.slice A2_0 l2_0.length c2_0, .slice A2_1 l2_1.length c2_1]) (t := 38) ?hr ?_; (case hd => rfl); (case hg => rfl); (case hr => first | (go_simp; done) | (go_simp; rfl)); intro gb247 hg w7 hbox hb; have n0_ := Aside0.mk (zq_ (g := gb246) (o := .cells #[.slice A0_0 l0_0.length c0_0, .slice A0_1 l0_1.length c0_1, .slice A0_2 l0_2.length c0_2, .int .i64 a0_3] 25 (0, 0)) (by (with_reducible repeat (first | refine zm_ ?_ _ | refine zn_ ?_ | refine zo_ ?_ _)); exact BK246.out) hb); have n1_ := Aside0.mk (zv_ (by repeat (first | (with_reducible first | exact HB.out | apply zs_ | apply zt_ | apply zu_ | refine zr_ ?_ GE246.out) | exact HB.out)) hb); have n2_ := Aside0.mk (hbox); have n3_ := Aside0.mk ((by rw [hg]; exact (zw_ (by repeat (first | (with_reducible first | exact HB.out | apply zs_ | apply zt_ | apply zu_ | refine zr_ ?_ GE246.out) | exact HB.out))) : w.heap.size ≤ gb247)); have n4_ := Aside0.mk ((by rw [hg]; exact (zw_ (by repeat (first | (with_reducible first | exact HB.out | apply zs_ | apply zt_ | apply zu_ | refine zr_ ?_ GE246.out) | exact HB.out))) : w.heap.size ≤ gb247)); have n5_ := Aside0.mk ((by rw [hg]; exact Nat.ne_of_lt (blk_lt (g := gb246) (o := .cells #[.slice A0_0 l0_0.length c0_0, .slice A0_1 l0_1.length c0_1, .slice A0_2 l0_2.length c0_2, .int .i64 a0_3] 25 (0, 0)) (by (with_reducible repeat (first | refine zm_ ?_ _ | refine zn_ ?_ | refine zo_ ?_ _)); exact BK246.out)) : gb246 ≠ gb247)); have n6_ := Aside0.mk ((by rw [hg]; exact Nat.ne_of_gt (blk_lt (g := gb246) (o := .cells #[.slice A0_0 l0_0.length c0_0, .slice A0_1 l0_1.length c0_1, .slice A0_2 l0_2.length c0_2, .int .i64 a0_3] 25 (0, 0)) (by (with_reducible repeat (first | refine zm_ ?_ _ | refine zn_ ?_ | refine zo_ ?_ _)); exact BK246.out)) : gb247 ≠ gb246)); clear BK246; clear HB; have BK246 := n0_; have HB := n1_; have BK247 := n2_; have GW247 := n3_; have GE247 := n4_; have NB246_247 := n5_; have NB247_246 := n6_; clear n0_ n1_ n2_ n3_ n4_ n5_ n6_; clear hb hbox hg) | ((with_reducible refine gate_dst (N := 7) rfl ?_); (try (refine gate_guard (by rfl) ?_; dsimp only)); refine box_event ?hg (N := 7) ?hd (cs := #[.int .u8 a3_0, .int .u8 a3_1]) (t := 39) ?hr ?_; (case hd => rfl); (case hg => rfl); (case hr => first | (go_simp; done) | (go_simp; rfl)); intro gb248 hg w8 hbox hb; have n0_ := Aside0.mk (zq_ (g := gb246) (o := .cells #[.slice A0_0 l0_0.length c0_0, .slice A0_1 l0_1.length c0_1, .slice A0_2 l0_2.length c0_2, .int .i64 a0_3] 25 (0, 0)) (by (with_reducible repeat (first | refine zm_ ?_ _ | refine zn_ ?_ | refine zo_ ?_ _)); exact BK246.out) hb); have n1_ := Aside0.mk (zq_ (g := gb247) (o := .cells #[.slice A2_0 l2_0.length c2_0, .slice A2_1 l2_1.length c2_1] 38 (0, 0)) (by (with_reducible repeat (first | refine zm_ ?_ _ | refine zn_ ?_ | refine zo_ ?_ _)); exact BK247.out) hb); have n2_ := Aside0.mk (zv_ (by repeat (first | (with_reducible first | exact HB.out | apply zs_ | apply zt_ | apply zu_ | refine zr_ ?_ GE246.out | refine zr_ ?_ GE247.out) | exact HB.out)) hb); have n3_ := Aside0.mk (hbox); have n4_ := Aside0.mk ((by rw [hg]; exact (zw_ (by repeat (first | (with_reducible first | exact HB.out | apply zs_ | apply zt_ | apply zu_ | refine zr_ ?_ GE246.out | refine zr_ ?_ GE247.out) | exact HB.out))) : w.heap.size ≤ gb248)); have n5_ := Aside0.mk ((by rw [hg]; exact (zw_ (by repeat (first | (with_reducible first | exact HB.out | apply zs_ | apply zt_ | apply zu_ | refine zr_ ?_ GE246.out | refine zr_ ?_ GE247.out) | exact HB.out))) : w.heap.size ≤ gb248)); have n6_ := Aside0.mk ((by rw [hg]; exact Nat.ne_of_lt (blk_lt (g := gb246) (o := .cells #[.slice A0_0 l0_0.length c0_0, .slice A0_1 l0_1.length c0_1, .slice A0_2 l0_2.length c0_2, .int .i64 a0_3] 25 (0, 0)) (by (with_reducible repeat (first | refine zm_ ?_ _ | refine zn_ ?_ | refine zo_ ?_ _)); exact BK246.out)) : gb246 ≠ gb248)); have n7_ := Aside0.mk ((by rw [hg]; exact Nat.ne_of_gt (blk_lt (g := gb246) (o := .cells #[.slice A0_0 l0_0.length c0_0, .slice A0_1 l0_1.length c0_1, .slice A0_2 l0_2.length c0_2, .int .i64 a0_3] 25 (0, 0)) (by (with_reducible repeat (first | refine zm_ ?_ _ | refine zn_ ?_ | refine zo_ ?_ _)); exact BK246.out)) : gb248 ≠ gb246)); have n8_ := Aside0.mk ((by rw [hg]; exact Nat.ne_of_lt (blk_lt (g := gb247) (o := .cells #[.slice A2_0 l2_0.length c2_0, .slice A2_1 l2_1.length c2_1] 38 (0, 0)) (by (with_reducible repeat (first | refine zm_ ?_ _ | refine zn_ ?_ | refine zo_ ?_ _)); exact BK247.out)) : gb247 ≠ gb248)); have n9_ := Aside0.mk ((by rw [hg]; exact Nat.ne_of_gt (blk_lt (g := gb247) (o := .cells #[.slice A2_0 l2_0.length c2_0, .slice A2_1 l2_1.length c2_1] 38 (0, 0)) (by (with_reducible repeat (first | refine zm_ ?_ _ | refine zn_ ?_ | refine zo_ ?_ _)); exact BK247.out)) : gb248 ≠ gb247)); clear BK246; clear BK247; clear HB; have BK246 := n0_; have BK247 := n1_; have HB := n2_; have BK248 := n3_; have GW248 := n4_; have GE248 := n5_; have NB246_248 := n6_; have NB248_246 := n7_; have NB247_248 := n8_; have NB248_247 := n9_; clear n0_ n1_ n2_ n3_ n4_ n5_ n6_ n7_ n8_ n9_; clear hb hbox hg))
  have n0_ := Aside0.mk (zn_ BK246.out)
  have n1_ := Aside0.mk (zn_ BK247.out)
  have n2_ := Aside0.mk (zn_ BK248.out)
  have n3_ := Aside0.mk (zu_ HB.out)
  clear BK246
  clear BK247
  clear BK248
  clear HB
  have BK246 := n0_
  have BK247 := n1_
  have BK248 := n2_
  have HB := n3_
  clear n0_ n1_ n2_ n3_
  refine start_ (n := 6) (S := fun w' => w'.cell? ⟨gb247, 0, none⟩ = some (.slice A2_0 l2_0.length c2_0) ∧ w'.cell? ⟨gb247, 1, none⟩ = some (.slice A2_1 l2_1.length c2_1)) (ds := []) #[false, false, false, false, false, false] (by kernel_rfl) rfl rfl ⟨(blk_cell BK247.out 0).trans rfl, (blk_cell BK247.out 1).trans rfl⟩ (fun hHeld => ?_)
  generalize w8.drew = w9 at BK246 BK247 BK248 HB hHeld ⊢
  refine pure_ (i := 0) (N := some 22) (v := ?_) (a' := ?_) #[true, false, false, false, false, false] rfl rfl (by kernel_rfl) (fun _ _ _ h => h) (Or.inl ⟨by rfl, ?_⟩) ?_ ?_
  rotate_left
  · intro w'
    go_simp
    with_reducible rfl
  rotate_left
  · simp only [Act.put, List.setIfInBounds_toArray, List.set_cons_zero, List.set_cons_succ, i64_w, i32_w]
    rfl
  refine pure_ (i := 2) (N := some 24) (v := ?_) (a' := ?_) #[true, false, true, false, false, false] rfl rfl (by kernel_rfl) (fun _ _ _ h => h) (Or.inl ⟨by rfl, ?_⟩) ?_ ?_
  rotate_left
  · intro w'
    go_simp
    with_reducible rfl
  rotate_left
  · simp only [Act.put, List.setIfInBounds_toArray, List.set_cons_zero, List.set_cons_succ, i64_w, i32_w]
    rfl
  refine take_ (i := 1) (N := some 23) (v := ?_) (a' := ?_) #[true, true, true, false, false, false] rfl rfl (by kernel_rfl) (fun _ _ _ h => h) (Or.inl ⟨by rfl, ?_⟩) hHeld ?_ ?_
  rotate_left
  · rintro w' ⟨s0, s1⟩
    go_simp
    with_reducible rfl
  rotate_left
  · simp only [Act.put, List.setIfInBounds_toArray, List.set_cons_zero, List.set_cons_succ, i64_w, i32_w]
    rfl
  refine pure_ (i := 4) (N := some 9) (v := ?_) (a' := ?_) #[true, true, true, false, true, false] rfl rfl (by kernel_rfl) (fun _ _ _ h => h) (Or.inl ⟨by rfl, ?_⟩) ?_ ?_
  rotate_left
  · intro w'
    go_simp
    with_reducible rfl
  rotate_left
  · simp only [Act.put, List.setIfInBounds_toArray, List.set_cons_zero, List.set_cons_succ, i64_w, i32_w]
    rfl
  refine take_ (i := 3) (N := some 25) (v := ?_) (a' := ?_) #[true, true, true, true, true, false] rfl rfl (by kernel_rfl) (fun _ _ _ h => h) (Or.inl ⟨by rfl, ?_⟩) hHeld ?_ ?_
  rotate_left
  · rintro w' ⟨s0, s1⟩
    go_simp
    with_reducible rfl
  rotate_left
  · simp only [Act.put, List.setIfInBounds_toArray, List.set_cons_zero, List.set_cons_succ, i64_w, i32_w]
    rfl
  refine pure_ (i := 5) (N := some 10) (v := ?_) (a' := ?_) #[true, true, true, true, true, true] rfl rfl (by kernel_rfl) (fun _ _ _ h => h) (Or.inl ⟨by rfl, ?_⟩) ?_ ?_
  rotate_left
  · intro w'
    go_simp
    with_reducible rfl
  rotate_left
  · simp only [Act.put, List.setIfInBounds_toArray, List.set_cons_zero, List.set_cons_succ, i64_w, i32_w]
    rfl
  refine done_ (by kernel_rfl) ?_
  go_upto_region 2 with (fail)
  go_cut [43] (fun v43 wc => ∃ (kq : Nat) (x43_4 : Bool), v43 = .bool x43_4 ∧ Aside0 (quietuslaw10_DomainsFailTogether.j0 kq l1 l2_0 l2_1 x43_4 l0_0 l0_1 l0_2 a0_3 a3_0 a3_1 = some r) ∧ Aside0 (kq ≤ k) ∧ Aside0 (wc.heap[gb246]? = some (.cells #[(.slice A0_0 l0_0.length c0_0), (.slice A0_1 l0_1.length c0_1), (.slice A0_2 l0_2.length c0_2), .int .i64 a0_3] 25 (0, 0))) ∧ Aside0 (wc.heap[gb247]? = some (.cells #[(.slice A2_0 l2_0.length c2_0), (.slice A2_1 l2_1.length c2_1)] 38 (0, 0))) ∧ Aside0 (wc.heap[gb248]? = some (.cells #[.int .u8 a3_0, .int .u8 a3_1] 39 (0, 0))) ∧ Aside0 (Below w.heap.size w wc))
  case first =>
    have H := HC5.out
    clear HC5
    replace H := Option.bind_eq_some_iff.mp H
    obtain ⟨t249, A100, H⟩ := H
    replace H : (if t249 = 0 then (if (l1.length : Int) > 24 then (quietuslaw10_DomainsFailTogether.j0 k l1 l2_0 l2_1 true l0_0 l0_1 l0_2 a0_3 a3_0 a3_1) else (if (l2_0.length : Int) > 12 then (quietuslaw10_DomainsFailTogether.j0 k l1 l2_0 l2_1 true l0_0 l0_1 l0_2 a0_3 a3_0 a3_1) else (quietuslaw10_DomainsFailTogether.j0 k l1 l2_0 l2_1 (decide ((l2_1.length : Int) > 12)) l0_0 l0_1 l0_2 a0_3 a3_0 a3_1))) else (quietuslaw10_DomainsFailTogether.j0 k l1 l2_0 l2_1 true l0_0 l0_1 l0_2 a0_3 a3_0 a3_1)) = some r := H
    have A10 := Aside0.mk A100
    clear A100
    by_cases c11 : t249 = 0
    · rw [if_pos c11] at H
      have c11b0 : (t249 == 0) = true := beq_iff_eq.mpr c11
      have c11b1 : (t249 != 0) = false := bne_eq_false_iff_eq.mpr c11
      clear c11
      (first | rw [c11b0] | (simp only [i64_w, i32_w]; rw [c11b0]) | rw [c11b1] | skip)
      by_cases c12 : (l1.length : Int) > 24
      · rw [if_pos c12] at H
        have c12b0 : decide (24 < (l1.length : Int)) = true := decide_eq_true c12
        have c12b1 : decide (24 < l1.length) = true := decide_eq_true (by omega)
        clear c12
        have H' := Aside0.mk H
        clear H
        have hnb13 := NB246_247.out
        have hnc13 := NB247_246.out
        have hnb14 := NB246_248.out
        have hnc14 := NB248_246.out
        have hcz15_0 : w9.cell? ⟨gb246, 0, none⟩ = some (.slice A0_0 l0_0.length c0_0) := (blk_cell BK246.out 0).trans rfl
        have hcz15_1 : w9.cell? ⟨gb246, 1, none⟩ = some (.slice A0_1 l0_1.length c0_1) := (blk_cell BK246.out 1).trans rfl
        have hcz15_2 : w9.cell? ⟨gb246, 2, none⟩ = some (.slice A0_2 l0_2.length c0_2) := (blk_cell BK246.out 2).trans rfl
        have hcz15_3 : w9.cell? ⟨gb246, 3, none⟩ = some (.int .i64 a0_3) := (blk_cell BK246.out 3).trans rfl
        have hfz15_0 := blk_frozen BK246.out 0
        have hfz15_1 := blk_frozen BK246.out 1
        have hfz15_2 := blk_frozen BK246.out 2
        have hfz15_3 := blk_frozen BK246.out 3
        go_wp2_with (first | ((with_reducible refine gate_callee (f := 23) rfl ?_); refine goesL_ (some 27) rfl rfl Try.func23 (by kernel_rfl) rfl #[.agg #[.slice A0_0 l0_0.length c0_0, .slice A0_1 l0_1.length c0_1, .slice A0_2 l0_2.length c0_2, .int .i64 a0_3]] rfl (by (try simp only [List.map_toArray, List.map_cons, List.map_nil]); first | done | rfl | (simp only [List.length_drop, List.length_take]; rfl)) ?_; (with_reducible refine (domain_Check.calls _ _ l0_0 _ _ l0_1 _ _ l0_2 a0_3 t249 _ ?side1 ?side2 ?side3 ?side4 ?side5 ?side6 A10.out).mono ?_); (case side1 => repeat (first | exact (Kd.C_below HR0_0.out HB.out) | (with_reducible refine Kd.C_alloc ?_ _) | (with_reducible refine Kd.C_drewN ?_ _) | (with_reducible refine Kd.C_drew ?_))); (case side2 => exact HC0_0.out); (case side3 => repeat (first | exact (Kd.C_below HR0_1.out HB.out) | (with_reducible refine Kd.C_alloc ?_ _) | (with_reducible refine Kd.C_drewN ?_ _) | (with_reducible refine Kd.C_drew ?_))); (case side4 => exact HC0_1.out); (case side5 => repeat (first | exact (Kd.C_below HR0_2.out HB.out) | (with_reducible refine Kd.C_alloc ?_ _) | (with_reducible refine Kd.C_drewN ?_ _) | (with_reducible refine Kd.C_drew ?_))); (case side6 => exact HC0_2.out); rintro e w16 ⟨rfl, hb⟩; refine ⟨_, rfl, ?_⟩; have n0_ := Aside0.mk (zq_ (g := gb246) (o := .cells #[.slice A0_0 l0_0.length c0_0, .slice A0_1 l0_1.length c0_1, .slice A0_2 l0_2.length c0_2, .int .i64 a0_3] 25 (0, 0)) (by (with_reducible repeat (first | refine zm_ ?_ _ | refine zn_ ?_ | refine zo_ ?_ _)); exact BK246.out) hb); have n1_ := Aside0.mk (zq_ (g := gb247) (o := .cells #[.slice A2_0 l2_0.length c2_0, .slice A2_1 l2_1.length c2_1] 38 (0, 0)) (by (with_reducible repeat (first | refine zm_ ?_ _ | refine zn_ ?_ | refine zo_ ?_ _)); exact BK247.out) hb); have n2_ := Aside0.mk (zq_ (g := gb248) (o := .cells #[.int .u8 a3_0, .int .u8 a3_1] 39 (0, 0)) (by (with_reducible repeat (first | refine zm_ ?_ _ | refine zn_ ?_ | refine zo_ ?_ _)); exact BK248.out) hb); have n3_ := Aside0.mk (zv_ (by repeat (first | (with_reducible first | exact HB.out | apply zs_ | apply zt_ | apply zu_ | refine zr_ ?_ GE246.out | refine zr_ ?_ GE247.out | refine zr_ ?_ GE248.out) | exact HB.out)) hb); clear BK246; clear BK247; clear BK248; clear HB; have BK246 := n0_; have BK247 := n1_; have BK248 := n2_; have HB := n3_; clear n0_ n1_ n2_ n3_; (try clear hb); (try clear hb2); (try clear hk); (try clear hi)))
        first | go_meet | (simp only [← hji90]; go_meet) | (simp only [hji90]; go_meet)
        case rel => exact ⟨_, (true), (by first | rfl | (simp; done) | (simp [*]; done)), (by first | exact H' | (simp only [hji90]; exact H') | (rw [hji90]; exact H')), ⟨by first | omega | exact Nat.le_refl _⟩, ⟨by (with_reducible repeat (first | refine zm_ ?_ _ | refine zn_ ?_ | refine zo_ ?_ _)); exact BK246.out⟩, ⟨by (with_reducible repeat (first | refine zm_ ?_ _ | refine zn_ ?_ | refine zo_ ?_ _)); exact BK247.out⟩, ⟨by (with_reducible repeat (first | refine zm_ ?_ _ | refine zn_ ?_ | refine zo_ ?_ _)); exact BK248.out⟩, ⟨by repeat (first | (with_reducible first | exact HB.out | apply zs_ | apply zt_ | apply zu_ | refine zr_ ?_ GE246.out | refine zr_ ?_ GE247.out | refine zr_ ?_ GE248.out) | exact HB.out)⟩⟩
      · rw [if_neg c12] at H
        have c12b0 : decide (24 < (l1.length : Int)) = false := decide_eq_false c12
        have c12b1 : decide (24 < l1.length) = false := decide_eq_false (by omega)
        clear c12
        by_cases c17 : (l2_0.length : Int) > 12
        · rw [if_pos c17] at H
          have c17b0 : decide (12 < (l2_0.length : Int)) = true := decide_eq_true c17
          have c17b1 : decide (12 < l2_0.length) = true := decide_eq_true (by omega)
          clear c17
          have H' := Aside0.mk H
          clear H
          have hnb18 := NB246_247.out
          have hnc18 := NB247_246.out
          have hnb19 := NB246_248.out
          have hnc19 := NB248_246.out
          have hcz20_0 : w9.cell? ⟨gb246, 0, none⟩ = some (.slice A0_0 l0_0.length c0_0) := (blk_cell BK246.out 0).trans rfl
          have hcz20_1 : w9.cell? ⟨gb246, 1, none⟩ = some (.slice A0_1 l0_1.length c0_1) := (blk_cell BK246.out 1).trans rfl
          have hcz20_2 : w9.cell? ⟨gb246, 2, none⟩ = some (.slice A0_2 l0_2.length c0_2) := (blk_cell BK246.out 2).trans rfl
          have hcz20_3 : w9.cell? ⟨gb246, 3, none⟩ = some (.int .i64 a0_3) := (blk_cell BK246.out 3).trans rfl
          have hfz20_0 := blk_frozen BK246.out 0
          have hfz20_1 := blk_frozen BK246.out 1
          have hfz20_2 := blk_frozen BK246.out 2
          have hfz20_3 := blk_frozen BK246.out 3
          go_wp2_with (first | ((with_reducible refine gate_callee (f := 23) rfl ?_); refine goesL_ (some 27) rfl rfl Try.func23 (by kernel_rfl) rfl #[.agg #[.slice A0_0 l0_0.length c0_0, .slice A0_1 l0_1.length c0_1, .slice A0_2 l0_2.length c0_2, .int .i64 a0_3]] rfl (by (try simp only [List.map_toArray, List.map_cons, List.map_nil]); first | done | rfl | (simp only [List.length_drop, List.length_take]; rfl)) ?_; (with_reducible refine (domain_Check.calls _ _ l0_0 _ _ l0_1 _ _ l0_2 a0_3 t249 _ ?side1 ?side2 ?side3 ?side4 ?side5 ?side6 A10.out).mono ?_); (case side1 => repeat (first | exact (Kd.C_below HR0_0.out HB.out) | (with_reducible refine Kd.C_alloc ?_ _) | (with_reducible refine Kd.C_drewN ?_ _) | (with_reducible refine Kd.C_drew ?_))); (case side2 => exact HC0_0.out); (case side3 => repeat (first | exact (Kd.C_below HR0_1.out HB.out) | (with_reducible refine Kd.C_alloc ?_ _) | (with_reducible refine Kd.C_drewN ?_ _) | (with_reducible refine Kd.C_drew ?_))); (case side4 => exact HC0_1.out); (case side5 => repeat (first | exact (Kd.C_below HR0_2.out HB.out) | (with_reducible refine Kd.C_alloc ?_ _) | (with_reducible refine Kd.C_drewN ?_ _) | (with_reducible refine Kd.C_drew ?_))); (case side6 => exact HC0_2.out); rintro e w21 ⟨rfl, hb⟩; refine ⟨_, rfl, ?_⟩; have n0_ := Aside0.mk (zq_ (g := gb246) (o := .cells #[.slice A0_0 l0_0.length c0_0, .slice A0_1 l0_1.length c0_1, .slice A0_2 l0_2.length c0_2, .int .i64 a0_3] 25 (0, 0)) (by (with_reducible repeat (first | refine zm_ ?_ _ | refine zn_ ?_ | refine zo_ ?_ _)); exact BK246.out) hb); have n1_ := Aside0.mk (zq_ (g := gb247) (o := .cells #[.slice A2_0 l2_0.length c2_0, .slice A2_1 l2_1.length c2_1] 38 (0, 0)) (by (with_reducible repeat (first | refine zm_ ?_ _ | refine zn_ ?_ | refine zo_ ?_ _)); exact BK247.out) hb); have n2_ := Aside0.mk (zq_ (g := gb248) (o := .cells #[.int .u8 a3_0, .int .u8 a3_1] 39 (0, 0)) (by (with_reducible repeat (first | refine zm_ ?_ _ | refine zn_ ?_ | refine zo_ ?_ _)); exact BK248.out) hb); have n3_ := Aside0.mk (zv_ (by repeat (first | (with_reducible first | exact HB.out | apply zs_ | apply zt_ | apply zu_ | refine zr_ ?_ GE246.out | refine zr_ ?_ GE247.out | refine zr_ ?_ GE248.out) | exact HB.out)) hb); clear BK246; clear BK247; clear BK248; clear HB; have BK246 := n0_; have BK247 := n1_; have BK248 := n2_; have HB := n3_; clear n0_ n1_ n2_ n3_; (try clear hb); (try clear hb2); (try clear hk); (try clear hi)))
          first | go_meet | (simp only [← hji90]; go_meet) | (simp only [hji90]; go_meet)
          case rel => exact ⟨_, (true), (by first | rfl | (simp; done) | (simp [*]; done)), (by first | exact H' | (simp only [hji90]; exact H') | (rw [hji90]; exact H')), ⟨by first | omega | exact Nat.le_refl _⟩, ⟨by (with_reducible repeat (first | refine zm_ ?_ _ | refine zn_ ?_ | refine zo_ ?_ _)); exact BK246.out⟩, ⟨by (with_reducible repeat (first | refine zm_ ?_ _ | refine zn_ ?_ | refine zo_ ?_ _)); exact BK247.out⟩, ⟨by (with_reducible repeat (first | refine zm_ ?_ _ | refine zn_ ?_ | refine zo_ ?_ _)); exact BK248.out⟩, ⟨by repeat (first | (with_reducible first | exact HB.out | apply zs_ | apply zt_ | apply zu_ | refine zr_ ?_ GE246.out | refine zr_ ?_ GE247.out | refine zr_ ?_ GE248.out) | exact HB.out)⟩⟩
        · rw [if_neg c17] at H
          have c17b0 : decide (12 < (l2_0.length : Int)) = false := decide_eq_false c17
          have c17b1 : decide (12 < l2_0.length) = false := decide_eq_false (by omega)
          clear c17
          have H' := Aside0.mk H
          clear H
          have hnb22 := NB246_247.out
          have hnc22 := NB247_246.out
          have hnb23 := NB246_248.out
          have hnc23 := NB248_246.out
          have hcz24_0 : w9.cell? ⟨gb246, 0, none⟩ = some (.slice A0_0 l0_0.length c0_0) := (blk_cell BK246.out 0).trans rfl
          have hcz24_1 : w9.cell? ⟨gb246, 1, none⟩ = some (.slice A0_1 l0_1.length c0_1) := (blk_cell BK246.out 1).trans rfl
          have hcz24_2 : w9.cell? ⟨gb246, 2, none⟩ = some (.slice A0_2 l0_2.length c0_2) := (blk_cell BK246.out 2).trans rfl
          have hcz24_3 : w9.cell? ⟨gb246, 3, none⟩ = some (.int .i64 a0_3) := (blk_cell BK246.out 3).trans rfl
          have hfz24_0 := blk_frozen BK246.out 0
          have hfz24_1 := blk_frozen BK246.out 1
          have hfz24_2 := blk_frozen BK246.out 2
          have hfz24_3 := blk_frozen BK246.out 3
          go_wp2_with (first | ((with_reducible refine gate_callee (f := 23) rfl ?_); refine goesL_ (some 27) rfl rfl Try.func23 (by kernel_rfl) rfl #[.agg #[.slice A0_0 l0_0.length c0_0, .slice A0_1 l0_1.length c0_1, .slice A0_2 l0_2.length c0_2, .int .i64 a0_3]] rfl (by (try simp only [List.map_toArray, List.map_cons, List.map_nil]); first | done | rfl | (simp only [List.length_drop, List.length_take]; rfl)) ?_; (with_reducible refine (domain_Check.calls _ _ l0_0 _ _ l0_1 _ _ l0_2 a0_3 t249 _ ?side1 ?side2 ?side3 ?side4 ?side5 ?side6 A10.out).mono ?_); (case side1 => repeat (first | exact (Kd.C_below HR0_0.out HB.out) | (with_reducible refine Kd.C_alloc ?_ _) | (with_reducible refine Kd.C_drewN ?_ _) | (with_reducible refine Kd.C_drew ?_))); (case side2 => exact HC0_0.out); (case side3 => repeat (first | exact (Kd.C_below HR0_1.out HB.out) | (with_reducible refine Kd.C_alloc ?_ _) | (with_reducible refine Kd.C_drewN ?_ _) | (with_reducible refine Kd.C_drew ?_))); (case side4 => exact HC0_1.out); (case side5 => repeat (first | exact (Kd.C_below HR0_2.out HB.out) | (with_reducible refine Kd.C_alloc ?_ _) | (with_reducible refine Kd.C_drewN ?_ _) | (with_reducible refine Kd.C_drew ?_))); (case side6 => exact HC0_2.out); rintro e w25 ⟨rfl, hb⟩; refine ⟨_, rfl, ?_⟩; have n0_ := Aside0.mk (zq_ (g := gb246) (o := .cells #[.slice A0_0 l0_0.length c0_0, .slice A0_1 l0_1.length c0_1, .slice A0_2 l0_2.length c0_2, .int .i64 a0_3] 25 (0, 0)) (by (with_reducible repeat (first | refine zm_ ?_ _ | refine zn_ ?_ | refine zo_ ?_ _)); exact BK246.out) hb); have n1_ := Aside0.mk (zq_ (g := gb247) (o := .cells #[.slice A2_0 l2_0.length c2_0, .slice A2_1 l2_1.length c2_1] 38 (0, 0)) (by (with_reducible repeat (first | refine zm_ ?_ _ | refine zn_ ?_ | refine zo_ ?_ _)); exact BK247.out) hb); have n2_ := Aside0.mk (zq_ (g := gb248) (o := .cells #[.int .u8 a3_0, .int .u8 a3_1] 39 (0, 0)) (by (with_reducible repeat (first | refine zm_ ?_ _ | refine zn_ ?_ | refine zo_ ?_ _)); exact BK248.out) hb); have n3_ := Aside0.mk (zv_ (by repeat (first | (with_reducible first | exact HB.out | apply zs_ | apply zt_ | apply zu_ | refine zr_ ?_ GE246.out | refine zr_ ?_ GE247.out | refine zr_ ?_ GE248.out) | exact HB.out)) hb); clear BK246; clear BK247; clear BK248; clear HB; have BK246 := n0_; have BK247 := n1_; have BK248 := n2_; have HB := n3_; clear n0_ n1_ n2_ n3_; (try clear hb); (try clear hb2); (try clear hk); (try clear hi)))
          first | go_meet | (simp only [← hji90]; go_meet) | (simp only [hji90]; go_meet)
          case rel => exact ⟨_, (decide ((l2_1.length : Int) > 12)), (by first | rfl | (simp; done) | (simp [*]; done)), (by first | exact H' | (simp only [hji90]; exact H') | (rw [hji90]; exact H')), ⟨by first | omega | exact Nat.le_refl _⟩, ⟨by (with_reducible repeat (first | refine zm_ ?_ _ | refine zn_ ?_ | refine zo_ ?_ _)); exact BK246.out⟩, ⟨by (with_reducible repeat (first | refine zm_ ?_ _ | refine zn_ ?_ | refine zo_ ?_ _)); exact BK247.out⟩, ⟨by (with_reducible repeat (first | refine zm_ ?_ _ | refine zn_ ?_ | refine zo_ ?_ _)); exact BK248.out⟩, ⟨by repeat (first | (with_reducible first | exact HB.out | apply zs_ | apply zt_ | apply zu_ | refine zr_ ?_ GE246.out | refine zr_ ?_ GE247.out | refine zr_ ?_ GE248.out) | exact HB.out)⟩⟩
    · rw [if_neg c11] at H
      have c11b0 : (t249 == 0) = false := beq_eq_false_iff_ne.mpr c11
      have c11b1 : (t249 != 0) = true := bne_iff_ne.mpr c11
      (first | rw [c11b0] | (simp only [i64_w, i32_w]; rw [c11b0]) | rw [c11b1] | skip)
      have H' := Aside0.mk H
      clear H
      have hnb26 := NB246_247.out
      have hnc26 := NB247_246.out
      have hnb27 := NB246_248.out
      have hnc27 := NB248_246.out
      have hcz28_0 : w9.cell? ⟨gb246, 0, none⟩ = some (.slice A0_0 l0_0.length c0_0) := (blk_cell BK246.out 0).trans rfl
      have hcz28_1 : w9.cell? ⟨gb246, 1, none⟩ = some (.slice A0_1 l0_1.length c0_1) := (blk_cell BK246.out 1).trans rfl
      have hcz28_2 : w9.cell? ⟨gb246, 2, none⟩ = some (.slice A0_2 l0_2.length c0_2) := (blk_cell BK246.out 2).trans rfl
      have hcz28_3 : w9.cell? ⟨gb246, 3, none⟩ = some (.int .i64 a0_3) := (blk_cell BK246.out 3).trans rfl
      have hfz28_0 := blk_frozen BK246.out 0
      have hfz28_1 := blk_frozen BK246.out 1
      have hfz28_2 := blk_frozen BK246.out 2
      have hfz28_3 := blk_frozen BK246.out 3
      go_wp2_with (first | ((with_reducible refine gate_callee (f := 23) rfl ?_); refine goesL_ (some 27) rfl rfl Try.func23 (by kernel_rfl) rfl #[.agg #[.slice A0_0 l0_0.length c0_0, .slice A0_1 l0_1.length c0_1, .slice A0_2 l0_2.length c0_2, .int .i64 a0_3]] rfl (by (try simp only [List.map_toArray, List.map_cons, List.map_nil]); first | done | rfl | (simp only [List.length_drop, List.length_take]; rfl)) ?_; (with_reducible refine (domain_Check.calls _ _ l0_0 _ _ l0_1 _ _ l0_2 a0_3 t249 _ ?side1 ?side2 ?side3 ?side4 ?side5 ?side6 A10.out).mono ?_); (case side1 => repeat (first | exact (Kd.C_below HR0_0.out HB.out) | (with_reducible refine Kd.C_alloc ?_ _) | (with_reducible refine Kd.C_drewN ?_ _) | (with_reducible refine Kd.C_drew ?_))); (case side2 => exact HC0_0.out); (case side3 => repeat (first | exact (Kd.C_below HR0_1.out HB.out) | (with_reducible refine Kd.C_alloc ?_ _) | (with_reducible refine Kd.C_drewN ?_ _) | (with_reducible refine Kd.C_drew ?_))); (case side4 => exact HC0_1.out); (case side5 => repeat (first | exact (Kd.C_below HR0_2.out HB.out) | (with_reducible refine Kd.C_alloc ?_ _) | (with_reducible refine Kd.C_drewN ?_ _) | (with_reducible refine Kd.C_drew ?_))); (case side6 => exact HC0_2.out); rintro e w29 ⟨rfl, hb⟩; refine ⟨_, rfl, ?_⟩; have n0_ := Aside0.mk (zq_ (g := gb246) (o := .cells #[.slice A0_0 l0_0.length c0_0, .slice A0_1 l0_1.length c0_1, .slice A0_2 l0_2.length c0_2, .int .i64 a0_3] 25 (0, 0)) (by (with_reducible repeat (first | refine zm_ ?_ _ | refine zn_ ?_ | refine zo_ ?_ _)); exact BK246.out) hb); have n1_ := Aside0.mk (zq_ (g := gb247) (o := .cells #[.slice A2_0 l2_0.length c2_0, .slice A2_1 l2_1.length c2_1] 38 (0, 0)) (by (with_reducible repeat (first | refine zm_ ?_ _ | refine zn_ ?_ | refine zo_ ?_ _)); exact BK247.out) hb); have n2_ := Aside0.mk (zq_ (g := gb248) (o := .cells #[.int .u8 a3_0, .int .u8 a3_1] 39 (0, 0)) (by (with_reducible repeat (first | refine zm_ ?_ _ | refine zn_ ?_ | refine zo_ ?_ _)); exact BK248.out) hb); have n3_ := Aside0.mk (zv_ (by repeat (first | (with_reducible first | exact HB.out | apply zs_ | apply zt_ | apply zu_ | refine zr_ ?_ GE246.out | refine zr_ ?_ GE247.out | refine zr_ ?_ GE248.out) | exact HB.out)) hb); clear BK246; clear BK247; clear BK248; clear HB; have BK246 := n0_; have BK247 := n1_; have BK248 := n2_; have HB := n3_; clear n0_ n1_ n2_ n3_; (try clear hb); (try clear hb2); (try clear hk); (try clear hi)))
      first | go_meet | (simp only [← hji90]; go_meet) | (simp only [hji90]; go_meet)
      case rel => exact ⟨_, (true), (by first | rfl | (simp; done) | (simp [*]; done)), (by first | exact H' | (simp only [hji90]; exact H') | (rw [hji90]; exact H')), ⟨by first | omega | exact Nat.le_refl _⟩, ⟨by (with_reducible repeat (first | refine zm_ ?_ _ | refine zn_ ?_ | refine zo_ ?_ _)); exact BK246.out⟩, ⟨by (with_reducible repeat (first | refine zm_ ?_ _ | refine zn_ ?_ | refine zo_ ?_ _)); exact BK247.out⟩, ⟨by (with_reducible repeat (first | refine zm_ ?_ _ | refine zn_ ?_ | refine zo_ ?_ _)); exact BK248.out⟩, ⟨by repeat (first | (with_reducible first | exact HB.out | apply zs_ | apply zt_ | apply zu_ | refine zr_ ?_ GE246.out | refine zr_ ?_ GE247.out | refine zr_ ?_ GE248.out) | exact HB.out)⟩⟩
  case rest =>
    clear HC5
    try clear c1
    try clear c2
    try clear p2
    try clear c5
    try clear c11
    try clear c11b0
    try clear c11b1
    try clear c12
    try clear c12b0
    try clear c12b1
    try clear c13
    try clear c14
    try clear c17
    try clear c17b0
    try clear c17b1
    try clear c18
    try clear c19
    try clear c22
    try clear c23
    try clear c26
    try clear c27
    try clear hcz15_0
    try clear hcz15_1
    try clear hcz15_2
    try clear hcz15_3
    try clear hcz20_0
    try clear hcz20_1
    try clear hcz20_2
    try clear hcz20_3
    try clear hcz24_0
    try clear hcz24_1
    try clear hcz24_2
    try clear hcz24_3
    try clear hcz28_0
    try clear hcz28_1
    try clear hcz28_2
    try clear hcz28_3
    try clear hfz15_0
    try clear hfz15_1
    try clear hfz15_2
    try clear hfz15_3
    try clear hfz20_0
    try clear hfz20_1
    try clear hfz20_2
    try clear hfz20_3
    try clear hfz24_0
    try clear hfz24_1
    try clear hfz24_2
    try clear hfz24_3
    try clear hfz28_0
    try clear hfz28_1
    try clear hfz28_2
    try clear hfz28_3
    obtain ⟨kq, x43_4, rfl, HA, HJ4, BK246, BK247, BK248, HB⟩ := hcut
    cases kq with
    | zero => exact absurd HA.out (by simp [quietuslaw10_DomainsFailTogether.j0])
    | succ kj4 =>
      have H := HA.out
      clear HA
      simp only [quietuslaw10_DomainsFailTogether.j0] at H
      by_cases c30 : x43_4 = true
      · subst c30
        have H1 : ((quietuslaw10_sanity.f).bind fun t250 => (some t250)) = some r := by rw [if_pos rfl] at H; exact H
        clear H
        have H := H1
        clear H1
        replace H := Option.bind_eq_some_iff.mp H
        obtain ⟨t250, A310, H⟩ := H
        replace H : (some t250) = some r := H
        have A31 := Aside0.mk A310
        clear A310
        obtain rfl := Option.some.inj H
        go_wp2_with (first | ((with_reducible refine gate_callee (f := 15) rfl ?_); refine goesL_ (some 44) rfl rfl Try.func15 (by kernel_rfl) rfl #[] rfl (by (try simp only [List.map_toArray, List.map_cons, List.map_nil]); first | done | rfl | (simp only [List.length_drop, List.length_take]; rfl)) ?_; (with_reducible refine (quietuslaw10_sanity.calls  t250 _ A31.out).mono ?_); rintro e w32 ⟨rfl, hb⟩; refine ⟨_, rfl, ?_⟩; have n0_ := Aside0.mk (zq_ (g := gb246) (o := .cells #[.slice A0_0 l0_0.length c0_0, .slice A0_1 l0_1.length c0_1, .slice A0_2 l0_2.length c0_2, .int .i64 a0_3] 25 (0, 0)) (by (with_reducible repeat (first | refine zm_ ?_ _ | refine zn_ ?_ | refine zo_ ?_ _)); exact BK246.out) hb); have n1_ := Aside0.mk (zq_ (g := gb247) (o := .cells #[.slice A2_0 l2_0.length c2_0, .slice A2_1 l2_1.length c2_1] 38 (0, 0)) (by (with_reducible repeat (first | refine zm_ ?_ _ | refine zn_ ?_ | refine zo_ ?_ _)); exact BK247.out) hb); have n2_ := Aside0.mk (zq_ (g := gb248) (o := .cells #[.int .u8 a3_0, .int .u8 a3_1] 39 (0, 0)) (by (with_reducible repeat (first | refine zm_ ?_ _ | refine zn_ ?_ | refine zo_ ?_ _)); exact BK248.out) hb); have n3_ := Aside0.mk (zv_ (by repeat (first | (with_reducible first | exact HB.out | apply zs_ | apply zt_ | apply zu_ | refine zr_ ?_ GE246.out | refine zr_ ?_ GE247.out | refine zr_ ?_ GE248.out) | exact HB.out)) hb); clear BK246; clear BK247; clear BK248; clear HB; have BK246 := n0_; have BK247 := n1_; have BK248 := n2_; have HB := n3_; clear n0_ n1_ n2_ n3_; (try clear hb); (try clear hb2); (try clear hk); (try clear hi)))
        go_ret
        exact ⟨by first | rfl | (simp [errW_none, errW_some] <;> rfl) | (simp [*, errW_none, errW_some] <;> rfl), by repeat (first | (with_reducible first | exact HB.out | apply zs_ | apply zt_ | apply zu_ | refine zr_ ?_ GE246.out | refine zr_ ?_ GE247.out | refine zr_ ?_ GE248.out) | exact HB.out)⟩
      · replace c30 := Bool.eq_false_iff.mpr c30
        subst c30
        have H1 : ((domain_Left.f kj4 l0_0 l0_1 l0_2 a0_3 (Int.tmod (wrap64 (a3_0)) 4) l1 ([] : List Int)).bind fun t251 => ((domain_Left.f kj4 l0_0 l0_1 l0_2 a0_3 (Int.tmod (wrap64 (a3_0)) 4) l1 l2_0).bind fun t252 => ((some (([] : List Int) : List Int)).bind fun y253 => (if y253.length + l2_0.length < 17592186044416 then ((some (y253 ++ l2_0 : List Int)).bind fun y256 => (if y256.length + l2_1.length < 17592186044416 then ((domain_Left.f kj4 l0_0 l0_1 l0_2 a0_3 (Int.tmod (wrap64 (a3_0)) 4) l1 (y256 ++ l2_1)).bind fun t262 => (if (Go.bits .andNot .i64 t252 t251) = 0 then (if (Go.bits .andNot .i64 t262 t252) = 0 then ((domain_Left.f kj4 l0_0 l0_1 l0_2 a0_3 (Int.tmod (wrap64 (a3_0)) 4) l1 l2_1).bind fun t263 => (quietuslaw10_DomainsFailTogether.j1 kj4 l1 (Int.tmod (wrap64 (a3_0)) 4) t251 (t262 != (Go.bits .and .i64 t252 t263)) l0_0 l0_1 l0_2 a0_3 a3_0 a3_1)) else (none)) else (none))) else (none))) else (none))))) = some r := by rw [if_neg (show ¬ (false = true) by decide)] at H; exact H
        clear H
        have H := H1
        clear H1
        replace H := Option.bind_eq_some_iff.mp H
        obtain ⟨t251, A330, H⟩ := H
        replace H : ((domain_Left.f kj4 l0_0 l0_1 l0_2 a0_3 (Int.tmod (wrap64 (a3_0)) 4) l1 l2_0).bind fun t252 => ((some (([] : List Int) : List Int)).bind fun y253 => (if y253.length + l2_0.length < 17592186044416 then ((some (y253 ++ l2_0 : List Int)).bind fun y256 => (if y256.length + l2_1.length < 17592186044416 then ((domain_Left.f kj4 l0_0 l0_1 l0_2 a0_3 (Int.tmod (wrap64 (a3_0)) 4) l1 (y256 ++ l2_1)).bind fun t262 => (if (Go.bits .andNot .i64 t252 t251) = 0 then (if (Go.bits .andNot .i64 t262 t252) = 0 then ((domain_Left.f kj4 l0_0 l0_1 l0_2 a0_3 (Int.tmod (wrap64 (a3_0)) 4) l1 l2_1).bind fun t263 => (quietuslaw10_DomainsFailTogether.j1 kj4 l1 (Int.tmod (wrap64 (a3_0)) 4) t251 (t262 != (Go.bits .and .i64 t252 t263)) l0_0 l0_1 l0_2 a0_3 a3_0 a3_1)) else (none)) else (none))) else (none))) else (none)))) = some r := H
        have A33 := Aside0.mk A330
        clear A330
        replace H := Option.bind_eq_some_iff.mp H
        obtain ⟨t252, A340, H⟩ := H
        replace H : ((some (([] : List Int) : List Int)).bind fun y253 => (if y253.length + l2_0.length < 17592186044416 then ((some (y253 ++ l2_0 : List Int)).bind fun y256 => (if y256.length + l2_1.length < 17592186044416 then ((domain_Left.f kj4 l0_0 l0_1 l0_2 a0_3 (Int.tmod (wrap64 (a3_0)) 4) l1 (y256 ++ l2_1)).bind fun t262 => (if (Go.bits .andNot .i64 t252 t251) = 0 then (if (Go.bits .andNot .i64 t262 t252) = 0 then ((domain_Left.f kj4 l0_0 l0_1 l0_2 a0_3 (Int.tmod (wrap64 (a3_0)) 4) l1 l2_1).bind fun t263 => (quietuslaw10_DomainsFailTogether.j1 kj4 l1 (Int.tmod (wrap64 (a3_0)) 4) t251 (t262 != (Go.bits .and .i64 t252 t263)) l0_0 l0_1 l0_2 a0_3 a3_0 a3_1)) else (none)) else (none))) else (none))) else (none))) = some r := H
        have A34 := Aside0.mk A340
        clear A340
        obtain ⟨y253, hy253⟩ : ∃ y_ : List Int, y_ = (([] : List Int)) := ⟨_, rfl⟩
        replace H : (if y253.length + l2_0.length < 17592186044416 then ((some (y253 ++ l2_0 : List Int)).bind fun y256 => (if y256.length + l2_1.length < 17592186044416 then ((domain_Left.f kj4 l0_0 l0_1 l0_2 a0_3 (Int.tmod (wrap64 (a3_0)) 4) l1 (y256 ++ l2_1)).bind fun t262 => (if (Go.bits .andNot .i64 t252 t251) = 0 then (if (Go.bits .andNot .i64 t262 t252) = 0 then ((domain_Left.f kj4 l0_0 l0_1 l0_2 a0_3 (Int.tmod (wrap64 (a3_0)) 4) l1 l2_1).bind fun t263 => (quietuslaw10_DomainsFailTogether.j1 kj4 l1 (Int.tmod (wrap64 (a3_0)) 4) t251 (t262 != (Go.bits .and .i64 t252 t263)) l0_0 l0_1 l0_2 a0_3 a3_0 a3_1)) else (none)) else (none))) else (none))) else (none)) = some r := by first | (rw [hy253]; with_reducible exact H) | (have H2_ := (Option.bind_some _ _).symm.trans H; rw [hy253]; with_reducible exact H2_) | (have H2_ := (Option.bind_some _ _).symm.trans H; with_reducible exact H2_) | with_reducible exact H | (rw [hy253]; exact H) | exact H
        have Ny253 := Aside0.mk hy253
        clear hy253
        by_cases c35 : y253.length + l2_0.length < 17592186044416
        · rw [if_pos c35] at H
          have LMc35 := Aside0.mk c35
          clear c35
          obtain ⟨y256, hy256⟩ : ∃ y_ : List Int, y_ = (y253 ++ l2_0) := ⟨_, rfl⟩
          replace H : (if y256.length + l2_1.length < 17592186044416 then ((domain_Left.f kj4 l0_0 l0_1 l0_2 a0_3 (Int.tmod (wrap64 (a3_0)) 4) l1 (y256 ++ l2_1)).bind fun t262 => (if (Go.bits .andNot .i64 t252 t251) = 0 then (if (Go.bits .andNot .i64 t262 t252) = 0 then ((domain_Left.f kj4 l0_0 l0_1 l0_2 a0_3 (Int.tmod (wrap64 (a3_0)) 4) l1 l2_1).bind fun t263 => (quietuslaw10_DomainsFailTogether.j1 kj4 l1 (Int.tmod (wrap64 (a3_0)) 4) t251 (t262 != (Go.bits .and .i64 t252 t263)) l0_0 l0_1 l0_2 a0_3 a3_0 a3_1)) else (none)) else (none))) else (none)) = some r := by first | (rw [hy256]; with_reducible exact H) | (have H2_ := (Option.bind_some _ _).symm.trans H; rw [hy256]; with_reducible exact H2_) | (have H2_ := (Option.bind_some _ _).symm.trans H; with_reducible exact H2_) | with_reducible exact H | (rw [hy256]; exact H) | exact H
          have Ny256 := Aside0.mk hy256
          clear hy256
          by_cases c36 : y256.length + l2_1.length < 17592186044416
          · rw [if_pos c36] at H
            have LMc36 := Aside0.mk c36
            clear c36
            obtain ⟨y259, hy259⟩ : ∃ y_ : List Int, y_ = (y256 ++ l2_1) := ⟨_, rfl⟩
            replace H : ((domain_Left.f kj4 l0_0 l0_1 l0_2 a0_3 (Int.tmod (wrap64 (a3_0)) 4) l1 y259).bind fun t262 => (if (Go.bits .andNot .i64 t252 t251) = 0 then (if (Go.bits .andNot .i64 t262 t252) = 0 then ((domain_Left.f kj4 l0_0 l0_1 l0_2 a0_3 (Int.tmod (wrap64 (a3_0)) 4) l1 l2_1).bind fun t263 => (quietuslaw10_DomainsFailTogether.j1 kj4 l1 (Int.tmod (wrap64 (a3_0)) 4) t251 (t262 != (Go.bits .and .i64 t252 t263)) l0_0 l0_1 l0_2 a0_3 a3_0 a3_1)) else (none)) else (none))) = some r := by first | (rw [hy259]; with_reducible exact H) | (have H2_ := (Option.bind_some _ _).symm.trans H; rw [hy259]; with_reducible exact H2_) | (have H2_ := (Option.bind_some _ _).symm.trans H; with_reducible exact H2_) | with_reducible exact H | (rw [hy259]; exact H) | exact H
            have Ny259 := Aside0.mk hy259
            clear hy259
            replace H := Option.bind_eq_some_iff.mp H
            obtain ⟨t262, A370, H⟩ := H
            replace H : (if (Go.bits .andNot .i64 t252 t251) = 0 then (if (Go.bits .andNot .i64 t262 t252) = 0 then ((domain_Left.f kj4 l0_0 l0_1 l0_2 a0_3 (Int.tmod (wrap64 (a3_0)) 4) l1 l2_1).bind fun t263 => (quietuslaw10_DomainsFailTogether.j1 kj4 l1 (Int.tmod (wrap64 (a3_0)) 4) t251 (t262 != (Go.bits .and .i64 t252 t263)) l0_0 l0_1 l0_2 a0_3 a3_0 a3_1)) else (none)) else (none)) = some r := H
            have A37 := Aside0.mk A370
            clear A370
            have HC38 := Aside0.mk H
            clear H
            have hnb39 := NB248_246.out
            have hnc39 := NB246_248.out
            have hnb40 := NB248_247.out
            have hnc40 := NB247_248.out
            have hcz41_0 : wc.cell? ⟨gb248, 0, none⟩ = some (.int .u8 a3_0) := (blk_cell BK248.out 0).trans rfl
            have hcz41_1 : wc.cell? ⟨gb248, 1, none⟩ = some (.int .u8 a3_1) := (blk_cell BK248.out 1).trans rfl
            have hfz41_0 := blk_frozen BK248.out 0
            have hfz41_1 := blk_frozen BK248.out 1
            have hnb42 := NB246_247.out
            have hnc42 := NB247_246.out
            have hcz43_0 : wc.cell? ⟨gb246, 0, none⟩ = some (.slice A0_0 l0_0.length c0_0) := (blk_cell BK246.out 0).trans rfl
            have hcz43_1 : wc.cell? ⟨gb246, 1, none⟩ = some (.slice A0_1 l0_1.length c0_1) := (blk_cell BK246.out 1).trans rfl
            have hcz43_2 : wc.cell? ⟨gb246, 2, none⟩ = some (.slice A0_2 l0_2.length c0_2) := (blk_cell BK246.out 2).trans rfl
            have hcz43_3 : wc.cell? ⟨gb246, 3, none⟩ = some (.int .i64 a0_3) := (blk_cell BK246.out 3).trans rfl
            have hfz43_0 := blk_frozen BK246.out 0
            have hfz43_1 := blk_frozen BK246.out 1
            have hfz43_2 := blk_frozen BK246.out 2
            have hfz43_3 := blk_frozen BK246.out 3
            try go_wp2_with (first | ((with_reducible refine gate_callee (f := 27) rfl ?_); refine goesL_ (some 52) rfl rfl Try.func27 (by kernel_rfl) rfl #[.agg #[.slice A0_0 l0_0.length c0_0, .slice A0_1 l0_1.length c0_1, .slice A0_2 l0_2.length c0_2, .int .i64 a0_3], .int .i64 (Int.tmod (wrap64 (a3_0)) 4), .slice A1 l1.length c1, .slice none 0 0] rfl (by (try simp only [List.map_toArray, List.map_cons, List.map_nil]); first | done | rfl | (simp only [List.length_drop, List.length_take]; rfl)) ?_; (refine (domain_Left.calls kj4 _ _ l0_0 _ _ l0_1 _ _ l0_2 a0_3 (Int.tmod (wrap64 (a3_0)) 4) _ _ l1 _ _ ([] : List Int) t251 _ ?side1 ?side2 ?side3 ?side4 ?side5 ?side6 ?side7 ?side8 ?side9 ?side10 A33.out).mono ?_); (case side1 => repeat (first | exact (Kd.C_below HR0_0.out HB.out) | (with_reducible refine Kd.C_alloc ?_ _) | (with_reducible refine Kd.C_drewN ?_ _) | (with_reducible refine Kd.C_drew ?_))); (case side2 => exact HC0_0.out); (case side3 => repeat (first | exact (Kd.C_below HR0_1.out HB.out) | (with_reducible refine Kd.C_alloc ?_ _) | (with_reducible refine Kd.C_drewN ?_ _) | (with_reducible refine Kd.C_drew ?_))); (case side4 => exact HC0_1.out); (case side5 => repeat (first | exact (Kd.C_below HR0_2.out HB.out) | (with_reducible refine Kd.C_alloc ?_ _) | (with_reducible refine Kd.C_drewN ?_ _) | (with_reducible refine Kd.C_drew ?_))); (case side6 => exact HC0_2.out); (case side7 => repeat (first | exact (Kd.C_below HR1.out HB.out) | (with_reducible refine Kd.C_alloc ?_ _) | (with_reducible refine Kd.C_drewN ?_ _) | (with_reducible refine Kd.C_drew ?_))); (case side8 => exact HC1.out); (case side9 => exact Kd.C_nil _ _); (case side10 => exact Nat.le_refl _); rintro e w44 ⟨rfl, hb⟩; refine ⟨_, rfl, ?_⟩; have n0_ := Aside0.mk (zq_ (g := gb246) (o := .cells #[.slice A0_0 l0_0.length c0_0, .slice A0_1 l0_1.length c0_1, .slice A0_2 l0_2.length c0_2, .int .i64 a0_3] 25 (0, 0)) (by (with_reducible repeat (first | refine zm_ ?_ _ | refine zn_ ?_ | refine zo_ ?_ _)); exact BK246.out) hb); have n1_ := Aside0.mk (zq_ (g := gb247) (o := .cells #[.slice A2_0 l2_0.length c2_0, .slice A2_1 l2_1.length c2_1] 38 (0, 0)) (by (with_reducible repeat (first | refine zm_ ?_ _ | refine zn_ ?_ | refine zo_ ?_ _)); exact BK247.out) hb); have n2_ := Aside0.mk (zq_ (g := gb248) (o := .cells #[.int .u8 a3_0, .int .u8 a3_1] 39 (0, 0)) (by (with_reducible repeat (first | refine zm_ ?_ _ | refine zn_ ?_ | refine zo_ ?_ _)); exact BK248.out) hb); have n3_ := Aside0.mk (zv_ (by repeat (first | (with_reducible first | exact HB.out | apply zs_ | apply zt_ | apply zu_ | refine zr_ ?_ GE246.out | refine zr_ ?_ GE247.out | refine zr_ ?_ GE248.out) | exact HB.out)) hb); clear BK246; clear BK247; clear BK248; clear HB; have BK246 := n0_; have BK247 := n1_; have BK248 := n2_; have HB := n3_; clear n0_ n1_ n2_ n3_; (try clear hb); (try clear hb2); (try clear hk); (try clear hi); have hcz45_0 : w44.cell? ⟨gb246, 0, none⟩ = some (.slice A0_0 l0_0.length c0_0) := (blk_cell BK246.out 0).trans rfl; have hcz45_1 : w44.cell? ⟨gb246, 1, none⟩ = some (.slice A0_1 l0_1.length c0_1) := (blk_cell BK246.out 1).trans rfl; have hcz45_2 : w44.cell? ⟨gb246, 2, none⟩ = some (.slice A0_2 l0_2.length c0_2) := (blk_cell BK246.out 2).trans rfl; have hcz45_3 : w44.cell? ⟨gb246, 3, none⟩ = some (.int .i64 a0_3) := (blk_cell BK246.out 3).trans rfl; have hfz45_0 := blk_frozen BK246.out 0; have hfz45_1 := blk_frozen BK246.out 1; have hfz45_2 := blk_frozen BK246.out 2; have hfz45_3 := blk_frozen BK246.out 3) | ((with_reducible refine gate_callee (f := 27) rfl ?_); refine goesL_ (some 57) rfl rfl Try.func27 (by kernel_rfl) rfl #[.agg #[.slice A0_0 l0_0.length c0_0, .slice A0_1 l0_1.length c0_1, .slice A0_2 l0_2.length c0_2, .int .i64 a0_3], .int .i64 (Int.tmod (wrap64 (a3_0)) 4), .slice A1 l1.length c1, .slice A2_0 l2_0.length c2_0] rfl (by (try simp only [List.map_toArray, List.map_cons, List.map_nil]); first | done | rfl | (simp only [List.length_drop, List.length_take]; rfl)) ?_; (with_reducible refine (domain_Left.calls kj4 _ _ l0_0 _ _ l0_1 _ _ l0_2 a0_3 (Int.tmod (wrap64 (a3_0)) 4) _ _ l1 _ _ l2_0 t252 _ ?side1 ?side2 ?side3 ?side4 ?side5 ?side6 ?side7 ?side8 ?side9 ?side10 A34.out).mono ?_); (case side1 => repeat (first | exact (Kd.C_below HR0_0.out HB.out) | (with_reducible refine Kd.C_alloc ?_ _) | (with_reducible refine Kd.C_drewN ?_ _) | (with_reducible refine Kd.C_drew ?_))); (case side2 => exact HC0_0.out); (case side3 => repeat (first | exact (Kd.C_below HR0_1.out HB.out) | (with_reducible refine Kd.C_alloc ?_ _) | (with_reducible refine Kd.C_drewN ?_ _) | (with_reducible refine Kd.C_drew ?_))); (case side4 => exact HC0_1.out); (case side5 => repeat (first | exact (Kd.C_below HR0_2.out HB.out) | (with_reducible refine Kd.C_alloc ?_ _) | (with_reducible refine Kd.C_drewN ?_ _) | (with_reducible refine Kd.C_drew ?_))); (case side6 => exact HC0_2.out); (case side7 => repeat (first | exact (Kd.C_below HR1.out HB.out) | (with_reducible refine Kd.C_alloc ?_ _) | (with_reducible refine Kd.C_drewN ?_ _) | (with_reducible refine Kd.C_drew ?_))); (case side8 => exact HC1.out); (case side9 => repeat (first | exact (Kd.C_below HR2_0.out HB.out) | (with_reducible refine Kd.C_alloc ?_ _) | (with_reducible refine Kd.C_drewN ?_ _) | (with_reducible refine Kd.C_drew ?_))); (case side10 => exact HC2_0.out); rintro e w46 ⟨rfl, hb⟩; refine ⟨_, rfl, ?_⟩; have n0_ := Aside0.mk (zq_ (g := gb246) (o := .cells #[.slice A0_0 l0_0.length c0_0, .slice A0_1 l0_1.length c0_1, .slice A0_2 l0_2.length c0_2, .int .i64 a0_3] 25 (0, 0)) (by (with_reducible repeat (first | refine zm_ ?_ _ | refine zn_ ?_ | refine zo_ ?_ _)); exact BK246.out) hb); have n1_ := Aside0.mk (zq_ (g := gb247) (o := .cells #[.slice A2_0 l2_0.length c2_0, .slice A2_1 l2_1.length c2_1] 38 (0, 0)) (by (with_reducible repeat (first | refine zm_ ?_ _ | refine zn_ ?_ | refine zo_ ?_ _)); exact BK247.out) hb); have n2_ := Aside0.mk (zq_ (g := gb248) (o := .cells #[.int .u8 a3_0, .int .u8 a3_1] 39 (0, 0)) (by (with_reducible repeat (first | refine zm_ ?_ _ | refine zn_ ?_ | refine zo_ ?_ _)); exact BK248.out) hb); have n3_ := Aside0.mk (zv_ (by repeat (first | (with_reducible first | exact HB.out | apply zs_ | apply zt_ | apply zu_ | refine zr_ ?_ GE246.out | refine zr_ ?_ GE247.out | refine zr_ ?_ GE248.out) | exact HB.out)) hb); clear BK246; clear BK247; clear BK248; clear HB; have BK246 := n0_; have BK247 := n1_; have BK248 := n2_; have HB := n3_; clear n0_ n1_ n2_ n3_; (try clear hb); (try clear hb2); (try clear hk); (try clear hi)))
            have n0_ := Aside0.mk (zn_ BK246.out)
            have n1_ := Aside0.mk (zn_ BK247.out)
            have n2_ := Aside0.mk (zn_ BK248.out)
            have n3_ := Aside0.mk (zu_ HB.out)
            clear BK246
            clear BK247
            clear BK248
            clear HB
            have BK246 := n0_
            have BK247 := n1_
            have BK248 := n2_
            have HB := n3_
            clear n0_ n1_ n2_ n3_
            refine start_ (n := 10) (S := fun w' => w'.cell? ⟨gb246, 0, none⟩ = some (.slice A0_0 l0_0.length c0_0) ∧ w'.cell? ⟨gb246, 1, none⟩ = some (.slice A0_1 l0_1.length c0_1) ∧ w'.cell? ⟨gb246, 2, none⟩ = some (.slice A0_2 l0_2.length c0_2) ∧ w'.cell? ⟨gb246, 3, none⟩ = some (.int .i64 a0_3)) (ds := []) #[false, false, false, false, false, false, false, false, false, false] (by kernel_rfl) rfl rfl ⟨(blk_cell BK246.out 0).trans rfl, (blk_cell BK246.out 1).trans rfl, (blk_cell BK246.out 2).trans rfl, (blk_cell BK246.out 3).trans rfl⟩ (fun hHeld => ?_); refine with_tabW quietuslaw10_DomainsFailTogether.tab7 quietuslaw10_DomainsFailTogether.bits7 (fun HT_ HW_ => ?_)
            generalize w46.drew = w47 at BK246 BK247 BK248 HB hHeld ⊢
            refine pure_ (i := 1) (N := some 59) (v := ?_) (a' := ?_) #[false, true, false, false, false, false, false, false, false, false] rfl rfl (any_of HT_.out (by kernel_rfl)) (fun _ _ _ h => h) (Or.inl ⟨by rfl, ?_⟩) ?_ ?_
            rotate_left
            · intro w'
              go_simp
              with_reducible rfl
            rotate_left
            · simp only [Act.put, List.setIfInBounds_toArray, List.set_cons_zero, List.set_cons_succ, i64_w, i32_w]
              rfl
            refine pure_ (i := 2) (N := some 60) (v := ?_) (a' := ?_) #[false, true, true, false, false, false, false, false, false, false] rfl rfl (any_of HT_.out (by kernel_rfl)) (fun _ _ _ h => h) (Or.inl ⟨by rfl, ?_⟩) ?_ ?_
            rotate_left
            · intro w'
              go_simp
              with_reducible rfl
            rotate_left
            · simp only [Act.put, List.setIfInBounds_toArray, List.set_cons_zero, List.set_cons_succ, i64_w, i32_w]
              rfl
            refine pure_ (i := 4) (N := some 62) (v := ?_) (a' := ?_) #[false, true, true, false, true, false, false, false, false, false] rfl rfl (any_of HT_.out (by kernel_rfl)) (fun _ _ _ h => h) (Or.inl ⟨by rfl, ?_⟩) ?_ ?_
            rotate_left
            · intro w'
              go_simp
              with_reducible rfl
            rotate_left
            · simp only [Act.put, List.setIfInBounds_toArray, List.set_cons_zero, List.set_cons_succ, i64_w, i32_w]
              rfl
            refine pure_ (i := 6) (N := some 64) (v := ?_) (a' := ?_) #[false, true, true, false, true, false, true, false, false, false] rfl rfl (any_of HT_.out (by kernel_rfl)) (fun _ _ _ h => h) (Or.inl ⟨by rfl, ?_⟩) ?_ ?_
            rotate_left
            · intro w'
              go_simp
              with_reducible rfl
            rotate_left
            · simp only [Act.put, List.setIfInBounds_toArray, List.set_cons_zero, List.set_cons_succ, i64_w, i32_w]
              rfl
            refine take_ (i := 0) (N := some 58) (v := ?_) (a' := ?_) #[true, true, true, false, true, false, true, false, false, false] rfl rfl (take_ofW HT_.out HW_.out (by kernel_rfl)) (fun _ _ _ h => h) (Or.inl ⟨by rfl, ?_⟩) hHeld ?_ ?_
            rotate_left
            · rintro w' ⟨s0, s1, s2, s3⟩
              go_simp
              with_reducible rfl
            rotate_left
            · simp only [Act.put, List.setIfInBounds_toArray, List.set_cons_zero, List.set_cons_succ, i64_w, i32_w]
              rfl
            refine one_ (i := 3) (N := some 61) #[true, true, true, true, true, false, true, false, false, false] rfl rfl (one_of HT_.out (by kernel_rfl)) (by decide) (fun K hK => ?_)
            refine Kd.R_lit_step (Kd.int .i64) _ 3 ?hg (N := 61) ?hd (xs := ([] : List Int)) (inner := []) (ok := fun _ => True) (okp := fun _ => True) ?hr ?hp (fun _ hk => hk) trivial (Below.refl _ _) (Nat.le_refl _) (by simp) ?_; (case hd => rfl); (case hg => rfl); (case hr => first | (go_simp; done) | (go_simp; rfl)); (case hp => exact (Reps.none _ _))
            intro v254 w48 ho49 hb hg_ hnew_
            clear hg_ hnew_
            (first | rw [← Ny253.out] at ho49 | (simp only [Int.reduceToNat] at ho49; rw [← Ny253.out] at ho49))
            have n0_ := Aside0.mk (zg_ ho49 (zw_ (by repeat (first | (with_reducible first | exact HB.out | apply zs_ | apply zt_ | apply zu_ | refine zr_ ?_ GE246.out | refine zr_ ?_ GE247.out | refine zr_ ?_ GE248.out) | exact HB.out))))
            have n1_ := Aside0.mk (zq_ (g := gb246) (o := .cells #[.slice A0_0 l0_0.length c0_0, .slice A0_1 l0_1.length c0_1, .slice A0_2 l0_2.length c0_2, .int .i64 a0_3] 25 (0, 0)) (by (with_reducible repeat (first | refine zm_ ?_ _ | refine zn_ ?_ | refine zo_ ?_ _)); exact BK246.out) hb)
            have n2_ := Aside0.mk (zq_ (g := gb247) (o := .cells #[.slice A2_0 l2_0.length c2_0, .slice A2_1 l2_1.length c2_1] 38 (0, 0)) (by (with_reducible repeat (first | refine zm_ ?_ _ | refine zn_ ?_ | refine zo_ ?_ _)); exact BK247.out) hb)
            have n3_ := Aside0.mk (zq_ (g := gb248) (o := .cells #[.int .u8 a3_0, .int .u8 a3_1] 39 (0, 0)) (by (with_reducible repeat (first | refine zm_ ?_ _ | refine zn_ ?_ | refine zo_ ?_ _)); exact BK248.out) hb)
            have n4_ := Aside0.mk (zv_ (by repeat (first | (with_reducible first | exact HB.out | apply zs_ | apply zt_ | apply zu_ | refine zr_ ?_ GE246.out | refine zr_ ?_ GE247.out | refine zr_ ?_ GE248.out) | exact HB.out)) hb)
            clear BK246
            clear BK247
            clear BK248
            clear HB
            have HO255 := n0_
            have BK246 := n1_
            have BK247 := n2_
            have BK248 := n3_
            have HB := n4_
            clear n0_ n1_ n2_ n3_ n4_
            clear hb ho49
            refine hK.out _ _ ⟨(blk_cell BK246.out 0).trans rfl, (blk_cell BK246.out 1).trans rfl, (blk_cell BK246.out 2).trans rfl, (blk_cell BK246.out 3).trans rfl⟩ (fun hHeld => ?_)
            clear hK K
            refine norm_ (a' := ?_) ?_ ?_
            rotate_left
            · show Act.put _ (some 61) _ = _
              simp only [Act.put, List.setIfInBounds_toArray, List.set_cons_zero, List.set_cons_succ, i64_w, i32_w]
              rfl
            refine one_ (i := 5) (N := some 63) #[true, true, true, true, true, true, true, false, false, false] rfl rfl (one_of HT_.out (by kernel_rfl)) (by decide) (fun K hK => ?_)
            refine Kd.R_append_rows_step (Kd.int .i64) (w0 := w) w.heap.size (by rfl) (.tmp 61) (.tmp 62) 22 3 (.int .i64 0) 8 rfl Try.underlying22 info3 rfl (by decide) (by omega) v254 y253 l2_0 _ _ _ (fun _ => True) (fun _ => False) rfl rfl ?aO ?aR (fun _ _ h => h) (fun _ h => h.elim) ?aF ?aB ?aS ?aL ?_
            (case aR => repeat (first | exact (Kd.C_below HR2_0.out HB.out) | (with_reducible refine Kd.C_alloc ?_ _) | (with_reducible refine Kd.C_drewN ?_ _) | (with_reducible refine Kd.C_drew ?_)))
            (case aB => exact (by repeat (first | (with_reducible first | exact HB.out | apply zs_ | apply zt_ | apply zu_ | refine zr_ ?_ GE246.out | refine zr_ ?_ GE247.out | refine zr_ ?_ GE248.out) | exact HB.out)))
            (case aF => exact (fun _ _ => trivial))
            (case aO => exact (by (with_reducible repeat (first | apply za_ | apply zb_ | apply zc_)); exact HO255.out))
            (case aS => exact (zw_ (by repeat (first | (with_reducible first | exact HB.out | apply zs_ | apply zt_ | apply zu_ | refine zr_ ?_ GE246.out | refine zr_ ?_ GE247.out | refine zr_ ?_ GE248.out) | exact HB.out))))
            (case aL => have := LMc35.out; omega)
            intro v257 w50 ho hb hg hat
            rw [← Ny256.out] at ho
            have n0_ := Aside0.mk (blk_grown (g := gb246) (o := .cells #[.slice A0_0 l0_0.length c0_0, .slice A0_1 l0_1.length c0_1, .slice A0_2 l0_2.length c0_2, .int .i64 a0_3] 25 (0, 0)) (by (with_reducible repeat (first | refine zm_ ?_ _ | refine zn_ ?_ | refine zo_ ?_ _)); exact BK246.out) hg (Kd.R_ne HO255.out BK246.out (by decide)))
            have n1_ := Aside0.mk (blk_grown (g := gb247) (o := .cells #[.slice A2_0 l2_0.length c2_0, .slice A2_1 l2_1.length c2_1] 38 (0, 0)) (by (with_reducible repeat (first | refine zm_ ?_ _ | refine zn_ ?_ | refine zo_ ?_ _)); exact BK247.out) hg (Kd.R_ne HO255.out BK247.out (by decide)))
            have n2_ := Aside0.mk (blk_grown (g := gb248) (o := .cells #[.int .u8 a3_0, .int .u8 a3_1] 39 (0, 0)) (by (with_reducible repeat (first | refine zm_ ?_ _ | refine zn_ ?_ | refine zo_ ?_ _)); exact BK248.out) hg (Kd.R_ne HO255.out BK248.out (by decide)))
            have n3_ := Aside0.mk (hb)
            have n4_ := Aside0.mk (ho)
            clear BK246
            clear BK247
            clear BK248
            clear HB
            clear HO255
            have BK246 := n0_
            have BK247 := n1_
            have BK248 := n2_
            have HB := n3_
            have HO258 := n4_
            clear n0_ n1_ n2_ n3_ n4_
            clear ho hb hg hat
            refine hK.out _ _ ⟨(blk_cell BK246.out 0).trans rfl, (blk_cell BK246.out 1).trans rfl, (blk_cell BK246.out 2).trans rfl, (blk_cell BK246.out 3).trans rfl⟩ (fun hHeld => ?_)
            clear hK K
            refine norm_ (a' := ?_) ?_ ?_
            rotate_left
            · show Act.put _ (some 63) _ = _
              simp only [Act.put, List.setIfInBounds_toArray, List.set_cons_zero, List.set_cons_succ, i64_w, i32_w]
              rfl
            refine one_ (i := 7) (N := some 65) #[true, true, true, true, true, true, true, true, false, false] rfl rfl (one_of HT_.out (by kernel_rfl)) (by decide) (fun K hK => ?_)
            refine Kd.R_append_rows_step (Kd.int .i64) (w0 := w) w.heap.size (by rfl) (.tmp 63) (.tmp 64) 22 3 (.int .i64 0) 8 rfl Try.underlying22 info3 rfl (by decide) (by omega) v257 y256 l2_1 _ _ _ (fun _ => True) (fun _ => False) rfl rfl ?aO ?aR (fun _ _ h => h) (fun _ h => h.elim) ?aF ?aB ?aS ?aL ?_
            (case aR => repeat (first | exact (Kd.C_below HR2_1.out HB.out) | (with_reducible refine Kd.C_alloc ?_ _) | (with_reducible refine Kd.C_drewN ?_ _) | (with_reducible refine Kd.C_drew ?_)))
            (case aB => exact (by repeat (first | (with_reducible first | exact HB.out | apply zs_ | apply zt_ | apply zu_ | refine zr_ ?_ GE246.out | refine zr_ ?_ GE247.out | refine zr_ ?_ GE248.out) | exact HB.out)))
            (case aF => exact (fun _ _ => trivial))
            (case aO => exact (by (with_reducible repeat (first | apply za_ | apply zb_ | apply zc_)); exact HO258.out))
            (case aS => exact (zw_ (by repeat (first | (with_reducible first | exact HB.out | apply zs_ | apply zt_ | apply zu_ | refine zr_ ?_ GE246.out | refine zr_ ?_ GE247.out | refine zr_ ?_ GE248.out) | exact HB.out))))
            (case aL => have := LMc36.out; omega)
            intro v260 w51 ho hb hg hat
            rw [← Ny259.out] at ho
            have n0_ := Aside0.mk (blk_grown (g := gb246) (o := .cells #[.slice A0_0 l0_0.length c0_0, .slice A0_1 l0_1.length c0_1, .slice A0_2 l0_2.length c0_2, .int .i64 a0_3] 25 (0, 0)) (by (with_reducible repeat (first | refine zm_ ?_ _ | refine zn_ ?_ | refine zo_ ?_ _)); exact BK246.out) hg (Kd.R_ne HO258.out BK246.out (by decide)))
            have n1_ := Aside0.mk (blk_grown (g := gb247) (o := .cells #[.slice A2_0 l2_0.length c2_0, .slice A2_1 l2_1.length c2_1] 38 (0, 0)) (by (with_reducible repeat (first | refine zm_ ?_ _ | refine zn_ ?_ | refine zo_ ?_ _)); exact BK247.out) hg (Kd.R_ne HO258.out BK247.out (by decide)))
            have n2_ := Aside0.mk (blk_grown (g := gb248) (o := .cells #[.int .u8 a3_0, .int .u8 a3_1] 39 (0, 0)) (by (with_reducible repeat (first | refine zm_ ?_ _ | refine zn_ ?_ | refine zo_ ?_ _)); exact BK248.out) hg (Kd.R_ne HO258.out BK248.out (by decide)))
            have n3_ := Aside0.mk (hb)
            have n4_ := Aside0.mk (ho)
            clear BK246
            clear BK247
            clear BK248
            clear HB
            clear HO258
            have BK246 := n0_
            have BK247 := n1_
            have BK248 := n2_
            have HB := n3_
            have HO261 := n4_
            clear n0_ n1_ n2_ n3_ n4_
            clear ho hb hg hat
            obtain ⟨Ao52, co52, eo52⟩ := Kd.R_slice HO261.out
            (first | subst eo52 | (injection eo52 with f1_ f2_ f3_; have f4_ := f1_.symm; have f5_ := f3_.symm; clear f1_ f2_ f3_; subst f4_; subst f5_))
            refine hK.out _ _ ⟨(blk_cell BK246.out 0).trans rfl, (blk_cell BK246.out 1).trans rfl, (blk_cell BK246.out 2).trans rfl, (blk_cell BK246.out 3).trans rfl⟩ (fun hHeld => ?_)
            clear hK K
            refine norm_ (a' := ?_) ?_ ?_
            rotate_left
            · show Act.put _ (some 65) _ = _
              simp only [Act.put, List.setIfInBounds_toArray, List.set_cons_zero, List.set_cons_succ, i64_w, i32_w]
              rfl
            refine one_ (i := 8) (N := some 66) #[true, true, true, true, true, true, true, true, true, false] rfl rfl (one_of HT_.out (by kernel_rfl)) (by decide) (fun K hK => ?_)
            refine goes_ Try.func27 (by kernel_rfl) rfl #[.agg #[.slice A0_0 l0_0.length c0_0, .slice A0_1 l0_1.length c0_1, .slice A0_2 l0_2.length c0_2, .int .i64 a0_3], .int .i64 (Int.tmod (wrap64 (a3_0)) 4), .slice A1 l1.length c1, .slice Ao52 y259.length co52] (by rfl) rfl rfl (by (try simp only [List.map_toArray, List.map_cons, List.map_nil]); first | done | rfl | (simp only [List.length_drop, List.length_take]; rfl)) ?_
            with_reducible refine (domain_Left.calls kj4 _ _ l0_0 _ _ l0_1 _ _ l0_2 a0_3 (Int.tmod (wrap64 (a3_0)) 4) _ _ l1 _ _ y259 t262 _ ?side1 ?side2 ?side3 ?side4 ?side5 ?side6 ?side7 ?side8 ?side9 ?side10 A37.out).mono ?_
            (case side1 => repeat (first | exact (Kd.C_below HR0_0.out HB.out) | (with_reducible refine Kd.C_alloc ?_ _) | (with_reducible refine Kd.C_drewN ?_ _) | (with_reducible refine Kd.C_drew ?_)))
            (case side2 => exact HC0_0.out)
            (case side3 => repeat (first | exact (Kd.C_below HR0_1.out HB.out) | (with_reducible refine Kd.C_alloc ?_ _) | (with_reducible refine Kd.C_drewN ?_ _) | (with_reducible refine Kd.C_drew ?_)))
            (case side4 => exact HC0_1.out)
            (case side5 => repeat (first | exact (Kd.C_below HR0_2.out HB.out) | (with_reducible refine Kd.C_alloc ?_ _) | (with_reducible refine Kd.C_drewN ?_ _) | (with_reducible refine Kd.C_drew ?_)))
            (case side6 => exact HC0_2.out)
            (case side7 => repeat (first | exact (Kd.C_below HR1.out HB.out) | (with_reducible refine Kd.C_alloc ?_ _) | (with_reducible refine Kd.C_drewN ?_ _) | (with_reducible refine Kd.C_drew ?_)))
            (case side8 => exact HC1.out)
            (case side9 => repeat (first | exact (zl_ HO261.out).2.2 | (with_reducible refine Kd.C_alloc ?_ _) | (with_reducible refine Kd.C_drewN ?_ _) | (with_reducible refine Kd.C_drew ?_)))
            (case side10 => exact (zl_ HO261.out).2.1)
            rintro e w53 ⟨rfl, hb⟩
            refine ⟨_, rfl, ?_⟩
            have n0_ := Aside0.mk (Kd.R_below (by (with_reducible repeat (first | apply za_ | apply zb_ | apply zc_)); exact HO261.out) hb)
            have n1_ := Aside0.mk (zq_ (g := gb246) (o := .cells #[.slice A0_0 l0_0.length c0_0, .slice A0_1 l0_1.length c0_1, .slice A0_2 l0_2.length c0_2, .int .i64 a0_3] 25 (0, 0)) (by (with_reducible repeat (first | refine zm_ ?_ _ | refine zn_ ?_ | refine zo_ ?_ _)); exact BK246.out) hb)
            have n2_ := Aside0.mk (zq_ (g := gb247) (o := .cells #[.slice A2_0 l2_0.length c2_0, .slice A2_1 l2_1.length c2_1] 38 (0, 0)) (by (with_reducible repeat (first | refine zm_ ?_ _ | refine zn_ ?_ | refine zo_ ?_ _)); exact BK247.out) hb)
            have n3_ := Aside0.mk (zq_ (g := gb248) (o := .cells #[.int .u8 a3_0, .int .u8 a3_1] 39 (0, 0)) (by (with_reducible repeat (first | refine zm_ ?_ _ | refine zn_ ?_ | refine zo_ ?_ _)); exact BK248.out) hb)
            have n4_ := Aside0.mk (zv_ (by repeat (first | (with_reducible first | exact HB.out | apply zs_ | apply zt_ | apply zu_ | refine zr_ ?_ GE246.out | refine zr_ ?_ GE247.out | refine zr_ ?_ GE248.out) | exact HB.out)) hb)
            clear HO261
            clear BK246
            clear BK247
            clear BK248
            clear HB
            have HO261 := n0_
            have BK246 := n1_
            have BK247 := n2_
            have BK248 := n3_
            have HB := n4_
            clear n0_ n1_ n2_ n3_ n4_
            (try clear hb)
            (try clear hb2)
            (try clear hk)
            (try clear hi)
            refine hK.out _ _ ⟨(blk_cell BK246.out 0).trans rfl, (blk_cell BK246.out 1).trans rfl, (blk_cell BK246.out 2).trans rfl, (blk_cell BK246.out 3).trans rfl⟩ (fun hHeld => ?_)
            clear hK K
            refine norm_ (a' := ?_) ?_ ?_
            rotate_left
            · show Act.put _ (some 66) _ = _
              simp only [Act.put, List.setIfInBounds_toArray, List.set_cons_zero, List.set_cons_succ, i64_w, i32_w]
              rfl
            refine pure_ (i := 9) (N := some 14) (v := ?_) (a' := ?_) #[true, true, true, true, true, true, true, true, true, true] rfl rfl (any_of HT_.out (by kernel_rfl)) (fun _ _ _ h => h) (Or.inl ⟨by rfl, ?_⟩) ?_ ?_
            rotate_left
            · intro w'
              go_simp
              with_reducible rfl
            rotate_left
            · simp only [Act.put, List.setIfInBounds_toArray, List.set_cons_zero, List.set_cons_succ, i64_w, i32_w]
              rfl
            refine done_ (done_of HT_.out (by kernel_rfl)) ?_
            go_upto_region 8 with (fail)
            go_cut [87] (fun v87 wc => ∃ (kq : Nat) (x87_37 : Bool), v87 = .bool x87_37 ∧ Aside0 (quietuslaw10_DomainsFailTogether.j1 kq l1 (Int.tmod (wrap64 (a3_0)) 4) t251 x87_37 l0_0 l0_1 l0_2 a0_3 a3_0 a3_1 = some r) ∧ Aside0 (kq ≤ kj4) ∧ Aside0 (wc.heap[gb246]? = some (.cells #[(.slice A0_0 l0_0.length c0_0), (.slice A0_1 l0_1.length c0_1), (.slice A0_2 l0_2.length c0_2), .int .i64 a0_3] 25 (0, 0))) ∧ Aside0 (wc.heap[gb247]? = some (.cells #[(.slice A2_0 l2_0.length c2_0), (.slice A2_1 l2_1.length c2_1)] 38 (0, 0))) ∧ Aside0 (wc.heap[gb248]? = some (.cells #[.int .u8 a3_0, .int .u8 a3_1] 39 (0, 0))) ∧ Aside0 (Below w.heap.size w wc))
            case first =>
              have H := HC38.out
              clear HC38
              by_cases c54 : (Go.bits .andNot .i64 t252 t251) = 0
              · rw [if_pos c54] at H
                have c54b0 : ((Go.bits .andNot .i64 t252 t251) == 0) = true := beq_iff_eq.mpr c54
                have c54b1 : ((Go.bits .andNot .i64 t252 t251) != 0) = false := bne_eq_false_iff_eq.mpr c54
                clear c54
                (first | rw [c54b0] | (simp only [i64_w, i32_w]; rw [c54b0]) | rw [c54b1] | skip)
                by_cases c55 : (Go.bits .andNot .i64 t262 t252) = 0
                · rw [if_pos c55] at H
                  have c55b0 : ((Go.bits .andNot .i64 t262 t252) == 0) = true := beq_iff_eq.mpr c55
                  have c55b1 : ((Go.bits .andNot .i64 t262 t252) != 0) = false := bne_eq_false_iff_eq.mpr c55
                  clear c55
                  replace H := Option.bind_eq_some_iff.mp H
                  obtain ⟨t263, A560, H⟩ := H
                  replace H : (quietuslaw10_DomainsFailTogether.j1 kj4 l1 (Int.tmod (wrap64 (a3_0)) 4) t251 (t262 != (Go.bits .and .i64 t252 t263)) l0_0 l0_1 l0_2 a0_3 a3_0 a3_1) = some r := H
                  have A56 := Aside0.mk A560
                  clear A560
                  have H' := Aside0.mk H
                  clear H
                  have hnb57 := NB246_247.out
                  have hnc57 := NB247_246.out
                  have hnb58 := NB246_248.out
                  have hnc58 := NB248_246.out
                  have hcz59_0 : w53.cell? ⟨gb246, 0, none⟩ = some (.slice A0_0 l0_0.length c0_0) := (blk_cell BK246.out 0).trans rfl
                  have hcz59_1 : w53.cell? ⟨gb246, 1, none⟩ = some (.slice A0_1 l0_1.length c0_1) := (blk_cell BK246.out 1).trans rfl
                  have hcz59_2 : w53.cell? ⟨gb246, 2, none⟩ = some (.slice A0_2 l0_2.length c0_2) := (blk_cell BK246.out 2).trans rfl
                  have hcz59_3 : w53.cell? ⟨gb246, 3, none⟩ = some (.int .i64 a0_3) := (blk_cell BK246.out 3).trans rfl
                  have hfz59_0 := blk_frozen BK246.out 0
                  have hfz59_1 := blk_frozen BK246.out 1
                  have hfz59_2 := blk_frozen BK246.out 2
                  have hfz59_3 := blk_frozen BK246.out 3
                  go_wp2_with (first | (go_at_call 27; (with_reducible refine (domain_Left.calls kj4 _ _ l0_0 _ _ l0_1 _ _ l0_2 a0_3 (Int.tmod (wrap64 (a3_0)) 4) _ _ l1 _ _ l2_1 t263 _ ?side1 ?side2 ?side3 ?side4 ?side5 ?side6 ?side7 ?side8 ?side9 ?side10 A56.out).mono ?_); (case side1 => repeat (first | exact (Kd.C_below HR0_0.out HB.out) | (with_reducible refine Kd.C_alloc ?_ _) | (with_reducible refine Kd.C_drewN ?_ _) | (with_reducible refine Kd.C_drew ?_))); (case side2 => exact HC0_0.out); (case side3 => repeat (first | exact (Kd.C_below HR0_1.out HB.out) | (with_reducible refine Kd.C_alloc ?_ _) | (with_reducible refine Kd.C_drewN ?_ _) | (with_reducible refine Kd.C_drew ?_))); (case side4 => exact HC0_1.out); (case side5 => repeat (first | exact (Kd.C_below HR0_2.out HB.out) | (with_reducible refine Kd.C_alloc ?_ _) | (with_reducible refine Kd.C_drewN ?_ _) | (with_reducible refine Kd.C_drew ?_))); (case side6 => exact HC0_2.out); (case side7 => repeat (first | exact (Kd.C_below HR1.out HB.out) | (with_reducible refine Kd.C_alloc ?_ _) | (with_reducible refine Kd.C_drewN ?_ _) | (with_reducible refine Kd.C_drew ?_))); (case side8 => exact HC1.out); (case side9 => repeat (first | exact (Kd.C_below HR2_1.out HB.out) | (with_reducible refine Kd.C_alloc ?_ _) | (with_reducible refine Kd.C_drewN ?_ _) | (with_reducible refine Kd.C_drew ?_))); (case side10 => exact HC2_1.out); rintro e w60 ⟨rfl, hb⟩; have n0_ := Aside0.mk (Kd.R_below (by (with_reducible repeat (first | apply za_ | apply zb_ | apply zc_)); exact HO261.out) hb); have n1_ := Aside0.mk (zq_ (g := gb246) (o := .cells #[.slice A0_0 l0_0.length c0_0, .slice A0_1 l0_1.length c0_1, .slice A0_2 l0_2.length c0_2, .int .i64 a0_3] 25 (0, 0)) (by (with_reducible repeat (first | refine zm_ ?_ _ | refine zn_ ?_ | refine zo_ ?_ _)); exact BK246.out) hb); have n2_ := Aside0.mk (zq_ (g := gb247) (o := .cells #[.slice A2_0 l2_0.length c2_0, .slice A2_1 l2_1.length c2_1] 38 (0, 0)) (by (with_reducible repeat (first | refine zm_ ?_ _ | refine zn_ ?_ | refine zo_ ?_ _)); exact BK247.out) hb); have n3_ := Aside0.mk (zq_ (g := gb248) (o := .cells #[.int .u8 a3_0, .int .u8 a3_1] 39 (0, 0)) (by (with_reducible repeat (first | refine zm_ ?_ _ | refine zn_ ?_ | refine zo_ ?_ _)); exact BK248.out) hb); have n4_ := Aside0.mk (zv_ (by repeat (first | (with_reducible first | exact HB.out | apply zs_ | apply zt_ | apply zu_ | refine zr_ ?_ GE246.out | refine zr_ ?_ GE247.out | refine zr_ ?_ GE248.out) | exact HB.out)) hb); clear HO261; clear BK246; clear BK247; clear BK248; clear HB; have HO261 := n0_; have BK246 := n1_; have BK247 := n2_; have BK248 := n3_; have HB := n4_; clear n0_ n1_ n2_ n3_ n4_; (try clear hb); (try clear hb2); (try clear hk); (try clear hi)))
                  first | go_meet | (simp only [← hji90]; go_meet) | (simp only [hji90]; go_meet)
                  case rel => exact ⟨_, ((t262 != (Go.bits .and .i64 t252 t263))), (by first | rfl | (simp; done) | (simp [*]; done)), (by first | exact H' | (simp only [hji90]; exact H') | (rw [hji90]; exact H')), ⟨by have := HJ4.out; first | omega | exact Nat.le_refl _⟩, ⟨by (with_reducible repeat (first | refine zm_ ?_ _ | refine zn_ ?_ | refine zo_ ?_ _)); exact BK246.out⟩, ⟨by (with_reducible repeat (first | refine zm_ ?_ _ | refine zn_ ?_ | refine zo_ ?_ _)); exact BK247.out⟩, ⟨by (with_reducible repeat (first | refine zm_ ?_ _ | refine zn_ ?_ | refine zo_ ?_ _)); exact BK248.out⟩, ⟨by repeat (first | (with_reducible first | exact HB.out | apply zs_ | apply zt_ | apply zu_ | refine zr_ ?_ GE246.out | refine zr_ ?_ GE247.out | refine zr_ ?_ GE248.out) | exact HB.out)⟩⟩
                · rw [if_neg c55] at H
                  exact absurd H (by simp)
              · rw [if_neg c54] at H
                exact absurd H (by simp)
            case rest =>
              clear HC38
              try clear c1
              try clear c2
              try clear p2
              try clear c3
              try clear c4
              try clear c5
              try clear p6
              try clear c11
              try clear c11b0
              try clear c11b1
              try clear c12
              try clear c12b0
              try clear c12b1
              try clear c13
              try clear c14
              try clear c15
              try clear c17
              try clear c17b0
              try clear c17b1
              try clear c18
              try clear c19
              try clear c22
              try clear c23
              try clear c26
              try clear c27
              try clear c30
              try clear c35
              try clear c36
              try clear c39
              try clear c40
              try clear c42
              try clear c54
              try clear c54b0
              try clear c54b1
              try clear c55
              try clear c55b0
              try clear c55b1
              try clear c57
              try clear c58
              try clear hcz15_0
              try clear hcz15_1
              try clear hcz15_2
              try clear hcz15_3
              try clear hcz20_0
              try clear hcz20_1
              try clear hcz20_2
              try clear hcz20_3
              try clear hcz24_0
              try clear hcz24_1
              try clear hcz24_2
              try clear hcz24_3
              try clear hcz28_0
              try clear hcz28_1
              try clear hcz28_2
              try clear hcz28_3
              try clear hcz41_0
              try clear hcz41_1
              try clear hcz43_0
              try clear hcz43_1
              try clear hcz43_2
              try clear hcz43_3
              try clear hcz45_0
              try clear hcz45_1
              try clear hcz45_2
              try clear hcz45_3
              try clear hcz59_0
              try clear hcz59_1
              try clear hcz59_2
              try clear hcz59_3
              try clear hfz15_0
              try clear hfz15_1
              try clear hfz15_2
              try clear hfz15_3
              try clear hfz20_0
              try clear hfz20_1
              try clear hfz20_2
              try clear hfz20_3
              try clear hfz24_0
              try clear hfz24_1
              try clear hfz24_2
              try clear hfz24_3
              try clear hfz28_0
              try clear hfz28_1
              try clear hfz28_2
              try clear hfz28_3
              try clear hfz41_0
              try clear hfz41_1
              try clear hfz43_0
              try clear hfz43_1
              try clear hfz43_2
              try clear hfz43_3
              try clear hfz45_0
              try clear hfz45_1
              try clear hfz45_2
              try clear hfz45_3
              try clear hfz59_0
              try clear hfz59_1
              try clear hfz59_2
              try clear hfz59_3
              try clear p2
              obtain ⟨kq, x87_37, rfl, HA, HJ37, BK246, BK247, BK248, HB⟩ := hcut
              cases kq with
              | zero => exact absurd HA.out (by simp [quietuslaw10_DomainsFailTogether.j1])
              | succ kj37 =>
                have H := HA.out
                clear HA
                simp only [quietuslaw10_DomainsFailTogether.j1] at H
                by_cases c61 : x87_37 = true
                · subst c61
                  have H1 : (none) = some r := by rw [if_pos rfl] at H; exact H
                  clear H
                  have H := H1
                  clear H1
                  exact absurd H (by simp)
                · replace c61 := Bool.eq_false_iff.mpr c61
                  subst c61
                  have H1 : ((domain_Size.f l0_0 l0_1 l0_2 a0_3 (Int.tmod (wrap64 (a3_0)) 4)).bind fun t264 => (if t264 = 0 then ((quietuslaw10_sanity.f).bind fun t265 => (if t265 = true then (some (t251 == 0)) else (none))) else ((domain_Left.f kj37 l0_0 l0_1 l0_2 a0_3 (Int.tmod (wrap64 (a3_0)) 4) l1 (([Int.tmod (wrap64 (a3_1)) t264] : List Int))).bind fun t269 => ((domain_Holds.f kj37 l0_0 l0_1 l0_2 a0_3 (Int.tmod (wrap64 (a3_0)) 4) l1).bind fun t270 => (if (t270.length : Int) = t264 then ((quietusref07_Count.f kj37 t251).bind fun t273 => ((quietusref07_Count.f kj37 t269).bind fun t274 => (if 0 ≤ (Int.tmod (wrap64 (a3_1)) t264) then (if (Int.tmod (wrap64 (a3_1)) t264) < (t270.length : Int) then (quietuslaw10_DomainsFailTogether.j2 kj37 l1 (Int.tmod (wrap64 (a3_0)) 4) (Int.tmod (wrap64 (a3_1)) t264) t269 ((wrap64 (t273 - t274)) != (rd t270 (Int.tmod (wrap64 (a3_1)) t264))) l0_0 l0_1 l0_2 a0_3) else (none)) else (none)))) else (none)))))) = some r := by rw [if_neg (show ¬ (false = true) by decide)] at H; exact H
                  clear H
                  have H := H1
                  clear H1
                  replace H := Option.bind_eq_some_iff.mp H
                  obtain ⟨t264, A620, H⟩ := H
                  replace H : (if t264 = 0 then ((quietuslaw10_sanity.f).bind fun t265 => (if t265 = true then (some (t251 == 0)) else (none))) else ((domain_Left.f kj37 l0_0 l0_1 l0_2 a0_3 (Int.tmod (wrap64 (a3_0)) 4) l1 (([Int.tmod (wrap64 (a3_1)) t264] : List Int))).bind fun t269 => ((domain_Holds.f kj37 l0_0 l0_1 l0_2 a0_3 (Int.tmod (wrap64 (a3_0)) 4) l1).bind fun t270 => (if (t270.length : Int) = t264 then ((quietusref07_Count.f kj37 t251).bind fun t273 => ((quietusref07_Count.f kj37 t269).bind fun t274 => (if 0 ≤ (Int.tmod (wrap64 (a3_1)) t264) then (if (Int.tmod (wrap64 (a3_1)) t264) < (t270.length : Int) then (quietuslaw10_DomainsFailTogether.j2 kj37 l1 (Int.tmod (wrap64 (a3_0)) 4) (Int.tmod (wrap64 (a3_1)) t264) t269 ((wrap64 (t273 - t274)) != (rd t270 (Int.tmod (wrap64 (a3_1)) t264))) l0_0 l0_1 l0_2 a0_3) else (none)) else (none)))) else (none))))) = some r := H
                  have A62 := Aside0.mk A620
                  clear A620
                  by_cases c63 : t264 = 0
                  · rw [if_pos c63] at H
                    have c63b0 : (t264 == 0) = true := beq_iff_eq.mpr c63
                    have c63b1 : (t264 != 0) = false := bne_eq_false_iff_eq.mpr c63
                    clear c63
                    replace H := Option.bind_eq_some_iff.mp H
                    obtain ⟨t265, A640, H⟩ := H
                    replace H : (if t265 = true then (some (t251 == 0)) else (none)) = some r := H
                    have A64 := Aside0.mk A640
                    clear A640
                    by_cases c65 : t265 = true
                    · subst c65
                      have H1 : (some (t251 == 0)) = some r := by rw [if_pos rfl] at H; exact H
                      clear H
                      have H := H1
                      clear H1
                      obtain rfl := Option.some.inj H
                      have hnb66 := NB246_247.out
                      have hnc66 := NB247_246.out
                      have hnb67 := NB246_248.out
                      have hnc67 := NB248_246.out
                      have hcz68_0 : wc.cell? ⟨gb246, 0, none⟩ = some (.slice A0_0 l0_0.length c0_0) := (blk_cell BK246.out 0).trans rfl
                      have hcz68_1 : wc.cell? ⟨gb246, 1, none⟩ = some (.slice A0_1 l0_1.length c0_1) := (blk_cell BK246.out 1).trans rfl
                      have hcz68_2 : wc.cell? ⟨gb246, 2, none⟩ = some (.slice A0_2 l0_2.length c0_2) := (blk_cell BK246.out 2).trans rfl
                      have hcz68_3 : wc.cell? ⟨gb246, 3, none⟩ = some (.int .i64 a0_3) := (blk_cell BK246.out 3).trans rfl
                      have hfz68_0 := blk_frozen BK246.out 0
                      have hfz68_1 := blk_frozen BK246.out 1
                      have hfz68_2 := blk_frozen BK246.out 2
                      have hfz68_3 := blk_frozen BK246.out 3
                      go_wp2_with (first | ((with_reducible refine gate_callee (f := 16) rfl ?_); refine goesL_ (some 90) rfl rfl Try.func16 (by kernel_rfl) rfl #[.agg #[.slice A0_0 l0_0.length c0_0, .slice A0_1 l0_1.length c0_1, .slice A0_2 l0_2.length c0_2, .int .i64 a0_3], .int .i64 (Int.tmod (wrap64 (a3_0)) 4)] rfl (by (try simp only [List.map_toArray, List.map_cons, List.map_nil]); first | done | rfl | (simp only [List.length_drop, List.length_take]; rfl)) ?_; (with_reducible refine (domain_Size.calls _ _ l0_0 _ _ l0_1 _ _ l0_2 a0_3 (Int.tmod (wrap64 (a3_0)) 4) t264 _ ?side1 ?side2 ?side3 ?side4 ?side5 ?side6 A62.out).mono ?_); (case side1 => repeat (first | exact (Kd.C_below HR0_0.out HB.out) | (with_reducible refine Kd.C_alloc ?_ _) | (with_reducible refine Kd.C_drewN ?_ _) | (with_reducible refine Kd.C_drew ?_))); (case side2 => exact HC0_0.out); (case side3 => repeat (first | exact (Kd.C_below HR0_1.out HB.out) | (with_reducible refine Kd.C_alloc ?_ _) | (with_reducible refine Kd.C_drewN ?_ _) | (with_reducible refine Kd.C_drew ?_))); (case side4 => exact HC0_1.out); (case side5 => repeat (first | exact (Kd.C_below HR0_2.out HB.out) | (with_reducible refine Kd.C_alloc ?_ _) | (with_reducible refine Kd.C_drewN ?_ _) | (with_reducible refine Kd.C_drew ?_))); (case side6 => exact HC0_2.out); rintro e w69 ⟨rfl, hb⟩; refine ⟨_, rfl, ?_⟩; have n0_ := Aside0.mk (zq_ (g := gb246) (o := .cells #[.slice A0_0 l0_0.length c0_0, .slice A0_1 l0_1.length c0_1, .slice A0_2 l0_2.length c0_2, .int .i64 a0_3] 25 (0, 0)) (by (with_reducible repeat (first | refine zm_ ?_ _ | refine zn_ ?_ | refine zo_ ?_ _)); exact BK246.out) hb); have n1_ := Aside0.mk (zq_ (g := gb247) (o := .cells #[.slice A2_0 l2_0.length c2_0, .slice A2_1 l2_1.length c2_1] 38 (0, 0)) (by (with_reducible repeat (first | refine zm_ ?_ _ | refine zn_ ?_ | refine zo_ ?_ _)); exact BK247.out) hb); have n2_ := Aside0.mk (zq_ (g := gb248) (o := .cells #[.int .u8 a3_0, .int .u8 a3_1] 39 (0, 0)) (by (with_reducible repeat (first | refine zm_ ?_ _ | refine zn_ ?_ | refine zo_ ?_ _)); exact BK248.out) hb); have n3_ := Aside0.mk (zv_ (by repeat (first | (with_reducible first | exact HB.out | apply zs_ | apply zt_ | apply zu_ | refine zr_ ?_ GE246.out | refine zr_ ?_ GE247.out | refine zr_ ?_ GE248.out) | exact HB.out)) hb); clear BK246; clear BK247; clear BK248; clear HB; have BK246 := n0_; have BK247 := n1_; have BK248 := n2_; have HB := n3_; clear n0_ n1_ n2_ n3_; (try clear hb); (try clear hb2); (try clear hk); (try clear hi)) | ((with_reducible refine gate_callee (f := 15) rfl ?_); refine goesL_ (some 93) rfl rfl Try.func15 (by kernel_rfl) rfl #[] rfl (by (try simp only [List.map_toArray, List.map_cons, List.map_nil]); first | done | rfl | (simp only [List.length_drop, List.length_take]; rfl)) ?_; (with_reducible refine (quietuslaw10_sanity.calls  true _ A64.out).mono ?_); rintro e w70 ⟨rfl, hb⟩; refine ⟨_, rfl, ?_⟩; have n0_ := Aside0.mk (zq_ (g := gb246) (o := .cells #[.slice A0_0 l0_0.length c0_0, .slice A0_1 l0_1.length c0_1, .slice A0_2 l0_2.length c0_2, .int .i64 a0_3] 25 (0, 0)) (by (with_reducible repeat (first | refine zm_ ?_ _ | refine zn_ ?_ | refine zo_ ?_ _)); exact BK246.out) hb); have n1_ := Aside0.mk (zq_ (g := gb247) (o := .cells #[.slice A2_0 l2_0.length c2_0, .slice A2_1 l2_1.length c2_1] 38 (0, 0)) (by (with_reducible repeat (first | refine zm_ ?_ _ | refine zn_ ?_ | refine zo_ ?_ _)); exact BK247.out) hb); have n2_ := Aside0.mk (zq_ (g := gb248) (o := .cells #[.int .u8 a3_0, .int .u8 a3_1] 39 (0, 0)) (by (with_reducible repeat (first | refine zm_ ?_ _ | refine zn_ ?_ | refine zo_ ?_ _)); exact BK248.out) hb); have n3_ := Aside0.mk (zv_ (by repeat (first | (with_reducible first | exact HB.out | apply zs_ | apply zt_ | apply zu_ | refine zr_ ?_ GE246.out | refine zr_ ?_ GE247.out | refine zr_ ?_ GE248.out) | exact HB.out)) hb); clear BK246; clear BK247; clear BK248; clear HB; have BK246 := n0_; have BK247 := n1_; have BK248 := n2_; have HB := n3_; clear n0_ n1_ n2_ n3_; (try clear hb); (try clear hb2); (try clear hk); (try clear hi)))
                      go_ret
                      exact ⟨by first | rfl | (simp [errW_none, errW_some] <;> rfl) | (simp [*, errW_none, errW_some] <;> rfl), by repeat (first | (with_reducible first | exact HB.out | apply zs_ | apply zt_ | apply zu_ | refine zr_ ?_ GE246.out | refine zr_ ?_ GE247.out | refine zr_ ?_ GE248.out) | exact HB.out)⟩
                    · replace c65 := Bool.eq_false_iff.mpr c65
                      subst c65
                      have H1 : (none) = some r := by rw [if_neg (show ¬ (false = true) by decide)] at H; exact H
                      clear H
                      have H := H1
                      clear H1
                      exact absurd H (by simp)
                  · rw [if_neg c63] at H
                    have c63b0 : (t264 == 0) = false := beq_eq_false_iff_ne.mpr c63
                    have c63b1 : (t264 != 0) = true := bne_iff_ne.mpr c63
                    obtain ⟨y266, hy266⟩ : ∃ y_ : List Int, y_ = (([Int.tmod (wrap64 (a3_1)) t264] : List Int)) := ⟨_, rfl⟩
                    replace H : ((domain_Left.f kj37 l0_0 l0_1 l0_2 a0_3 (Int.tmod (wrap64 (a3_0)) 4) l1 y266).bind fun t269 => ((domain_Holds.f kj37 l0_0 l0_1 l0_2 a0_3 (Int.tmod (wrap64 (a3_0)) 4) l1).bind fun t270 => (if (t270.length : Int) = t264 then ((quietusref07_Count.f kj37 t251).bind fun t273 => ((quietusref07_Count.f kj37 t269).bind fun t274 => (if 0 ≤ (Int.tmod (wrap64 (a3_1)) t264) then (if (Int.tmod (wrap64 (a3_1)) t264) < (t270.length : Int) then (quietuslaw10_DomainsFailTogether.j2 kj37 l1 (Int.tmod (wrap64 (a3_0)) 4) (Int.tmod (wrap64 (a3_1)) t264) t269 ((wrap64 (t273 - t274)) != (rd t270 (Int.tmod (wrap64 (a3_1)) t264))) l0_0 l0_1 l0_2 a0_3) else (none)) else (none)))) else (none)))) = some r := by first | (rw [hy266]; with_reducible exact H) | (have H2_ := (Option.bind_some _ _).symm.trans H; rw [hy266]; with_reducible exact H2_) | (have H2_ := (Option.bind_some _ _).symm.trans H; with_reducible exact H2_) | with_reducible exact H | (rw [hy266]; exact H) | exact H
                    have Ny266 := Aside0.mk hy266
                    clear hy266
                    replace H := Option.bind_eq_some_iff.mp H
                    obtain ⟨t269, A710, H⟩ := H
                    replace H : ((domain_Holds.f kj37 l0_0 l0_1 l0_2 a0_3 (Int.tmod (wrap64 (a3_0)) 4) l1).bind fun t270 => (if (t270.length : Int) = t264 then ((quietusref07_Count.f kj37 t251).bind fun t273 => ((quietusref07_Count.f kj37 t269).bind fun t274 => (if 0 ≤ (Int.tmod (wrap64 (a3_1)) t264) then (if (Int.tmod (wrap64 (a3_1)) t264) < (t270.length : Int) then (quietuslaw10_DomainsFailTogether.j2 kj37 l1 (Int.tmod (wrap64 (a3_0)) 4) (Int.tmod (wrap64 (a3_1)) t264) t269 ((wrap64 (t273 - t274)) != (rd t270 (Int.tmod (wrap64 (a3_1)) t264))) l0_0 l0_1 l0_2 a0_3) else (none)) else (none)))) else (none))) = some r := H
                    have A71 := Aside0.mk A710
                    clear A710
                    replace H := Option.bind_eq_some_iff.mp H
                    obtain ⟨t270, A720, H⟩ := H
                    replace H : (if (t270.length : Int) = t264 then ((quietusref07_Count.f kj37 t251).bind fun t273 => ((quietusref07_Count.f kj37 t269).bind fun t274 => (if 0 ≤ (Int.tmod (wrap64 (a3_1)) t264) then (if (Int.tmod (wrap64 (a3_1)) t264) < (t270.length : Int) then (quietuslaw10_DomainsFailTogether.j2 kj37 l1 (Int.tmod (wrap64 (a3_0)) 4) (Int.tmod (wrap64 (a3_1)) t264) t269 ((wrap64 (t273 - t274)) != (rd t270 (Int.tmod (wrap64 (a3_1)) t264))) l0_0 l0_1 l0_2 a0_3) else (none)) else (none)))) else (none)) = some r := H
                    have A72 := Aside0.mk A720
                    clear A720
                    have HC73 := Aside0.mk H
                    clear H
                    have hnb74 := NB246_247.out
                    have hnc74 := NB247_246.out
                    have hnb75 := NB246_248.out
                    have hnc75 := NB248_246.out
                    have hcz76_0 : wc.cell? ⟨gb246, 0, none⟩ = some (.slice A0_0 l0_0.length c0_0) := (blk_cell BK246.out 0).trans rfl
                    have hcz76_1 : wc.cell? ⟨gb246, 1, none⟩ = some (.slice A0_1 l0_1.length c0_1) := (blk_cell BK246.out 1).trans rfl
                    have hcz76_2 : wc.cell? ⟨gb246, 2, none⟩ = some (.slice A0_2 l0_2.length c0_2) := (blk_cell BK246.out 2).trans rfl
                    have hcz76_3 : wc.cell? ⟨gb246, 3, none⟩ = some (.int .i64 a0_3) := (blk_cell BK246.out 3).trans rfl
                    have hfz76_0 := blk_frozen BK246.out 0
                    have hfz76_1 := blk_frozen BK246.out 1
                    have hfz76_2 := blk_frozen BK246.out 2
                    have hfz76_3 := blk_frozen BK246.out 3
                    go_upto_region 16 with (first | ((with_reducible refine gate_callee (f := 16) rfl ?_); refine goesL_ (some 90) rfl rfl Try.func16 (by kernel_rfl) rfl #[.agg #[.slice A0_0 l0_0.length c0_0, .slice A0_1 l0_1.length c0_1, .slice A0_2 l0_2.length c0_2, .int .i64 a0_3], .int .i64 (Int.tmod (wrap64 (a3_0)) 4)] rfl (by (try simp only [List.map_toArray, List.map_cons, List.map_nil]); first | done | rfl | (simp only [List.length_drop, List.length_take]; rfl)) ?_; (with_reducible refine (domain_Size.calls _ _ l0_0 _ _ l0_1 _ _ l0_2 a0_3 (Int.tmod (wrap64 (a3_0)) 4) t264 _ ?side1 ?side2 ?side3 ?side4 ?side5 ?side6 A62.out).mono ?_); (case side1 => repeat (first | exact (Kd.C_below HR0_0.out HB.out) | (with_reducible refine Kd.C_alloc ?_ _) | (with_reducible refine Kd.C_drewN ?_ _) | (with_reducible refine Kd.C_drew ?_))); (case side2 => exact HC0_0.out); (case side3 => repeat (first | exact (Kd.C_below HR0_1.out HB.out) | (with_reducible refine Kd.C_alloc ?_ _) | (with_reducible refine Kd.C_drewN ?_ _) | (with_reducible refine Kd.C_drew ?_))); (case side4 => exact HC0_1.out); (case side5 => repeat (first | exact (Kd.C_below HR0_2.out HB.out) | (with_reducible refine Kd.C_alloc ?_ _) | (with_reducible refine Kd.C_drewN ?_ _) | (with_reducible refine Kd.C_drew ?_))); (case side6 => exact HC0_2.out); rintro e w77 ⟨rfl, hb⟩; refine ⟨_, rfl, ?_⟩; have n0_ := Aside0.mk (zq_ (g := gb246) (o := .cells #[.slice A0_0 l0_0.length c0_0, .slice A0_1 l0_1.length c0_1, .slice A0_2 l0_2.length c0_2, .int .i64 a0_3] 25 (0, 0)) (by (with_reducible repeat (first | refine zm_ ?_ _ | refine zn_ ?_ | refine zo_ ?_ _)); exact BK246.out) hb); have n1_ := Aside0.mk (zq_ (g := gb247) (o := .cells #[.slice A2_0 l2_0.length c2_0, .slice A2_1 l2_1.length c2_1] 38 (0, 0)) (by (with_reducible repeat (first | refine zm_ ?_ _ | refine zn_ ?_ | refine zo_ ?_ _)); exact BK247.out) hb); have n2_ := Aside0.mk (zq_ (g := gb248) (o := .cells #[.int .u8 a3_0, .int .u8 a3_1] 39 (0, 0)) (by (with_reducible repeat (first | refine zm_ ?_ _ | refine zn_ ?_ | refine zo_ ?_ _)); exact BK248.out) hb); have n3_ := Aside0.mk (zv_ (by repeat (first | (with_reducible first | exact HB.out | apply zs_ | apply zt_ | apply zu_ | refine zr_ ?_ GE246.out | refine zr_ ?_ GE247.out | refine zr_ ?_ GE248.out) | exact HB.out)) hb); clear BK246; clear BK247; clear BK248; clear HB; have BK246 := n0_; have BK247 := n1_; have BK248 := n2_; have HB := n3_; clear n0_ n1_ n2_ n3_; (try clear hb); (try clear hb2); (try clear hk); (try clear hi); have hnb78 := NB248_247.out; have hnc78 := NB247_248.out; have hcz79_0 : w77.cell? ⟨gb248, 0, none⟩ = some (.int .u8 a3_0) := (blk_cell BK248.out 0).trans rfl; have hcz79_1 : w77.cell? ⟨gb248, 1, none⟩ = some (.int .u8 a3_1) := (blk_cell BK248.out 1).trans rfl; have hfz79_0 := blk_frozen BK248.out 0; have hfz79_1 := blk_frozen BK248.out 1; have hcz80_0 : w77.cell? ⟨gb246, 0, none⟩ = some (.slice A0_0 l0_0.length c0_0) := (blk_cell BK246.out 0).trans rfl; have hcz80_1 : w77.cell? ⟨gb246, 1, none⟩ = some (.slice A0_1 l0_1.length c0_1) := (blk_cell BK246.out 1).trans rfl; have hcz80_2 : w77.cell? ⟨gb246, 2, none⟩ = some (.slice A0_2 l0_2.length c0_2) := (blk_cell BK246.out 2).trans rfl; have hcz80_3 : w77.cell? ⟨gb246, 3, none⟩ = some (.int .i64 a0_3) := (blk_cell BK246.out 3).trans rfl; have hfz80_0 := blk_frozen BK246.out 0; have hfz80_1 := blk_frozen BK246.out 1; have hfz80_2 := blk_frozen BK246.out 2; have hfz80_3 := blk_frozen BK246.out 3) | ((with_reducible refine gate_dst (N := 107) rfl ?_); (try (refine gate_guard (by rfl) ?_; dsimp only)); refine Kd.R_lit (Kd.int .i64) _ 3 ?hg (N := 107) ?hd (xs := ([Int.tmod (wrap64 (a3_1)) t264] : List Int)) (inner := [.int .i64 (Int.tmod (wrap64 (a3_1)) t264)]) (ok := fun _ => True) (okp := fun _ => True) ?hr ?hp (fun _ hk => hk) trivial (Below.refl _ _) (Nat.le_refl _) (by simp) ?_; (case hd => rfl); (case hg => rfl); (case hr => first | (go_simp; done) | (go_simp; rfl)); (case hp => exact (Reps.one (show Kd.M (Kd.int .i64) _ _ _ (Int.tmod (wrap64 (a3_1)) t264) [.int .i64 (Int.tmod (wrap64 (a3_1)) t264)] from rfl) (Reps.none _ _))); intro v267 w81 ho82 hb hg_ hnew_; clear hg_ hnew_; (first | rw [← Ny266.out] at ho82 | (simp only [Int.reduceToNat] at ho82; rw [← Ny266.out] at ho82)); have n0_ := Aside0.mk (zg_ ho82 (zw_ (by repeat (first | (with_reducible first | exact HB.out | apply zs_ | apply zt_ | apply zu_ | refine zr_ ?_ GE246.out | refine zr_ ?_ GE247.out | refine zr_ ?_ GE248.out) | exact HB.out)))); have n1_ := Aside0.mk (zq_ (g := gb246) (o := .cells #[.slice A0_0 l0_0.length c0_0, .slice A0_1 l0_1.length c0_1, .slice A0_2 l0_2.length c0_2, .int .i64 a0_3] 25 (0, 0)) (by (with_reducible repeat (first | refine zm_ ?_ _ | refine zn_ ?_ | refine zo_ ?_ _)); exact BK246.out) hb); have n2_ := Aside0.mk (zq_ (g := gb247) (o := .cells #[.slice A2_0 l2_0.length c2_0, .slice A2_1 l2_1.length c2_1] 38 (0, 0)) (by (with_reducible repeat (first | refine zm_ ?_ _ | refine zn_ ?_ | refine zo_ ?_ _)); exact BK247.out) hb); have n3_ := Aside0.mk (zq_ (g := gb248) (o := .cells #[.int .u8 a3_0, .int .u8 a3_1] 39 (0, 0)) (by (with_reducible repeat (first | refine zm_ ?_ _ | refine zn_ ?_ | refine zo_ ?_ _)); exact BK248.out) hb); have n4_ := Aside0.mk (zv_ (by repeat (first | (with_reducible first | exact HB.out | apply zs_ | apply zt_ | apply zu_ | refine zr_ ?_ GE246.out | refine zr_ ?_ GE247.out | refine zr_ ?_ GE248.out) | exact HB.out)) hb); clear BK246; clear BK247; clear BK248; clear HB; have HO268 := n0_; have BK246 := n1_; have BK247 := n2_; have BK248 := n3_; have HB := n4_; clear n0_ n1_ n2_ n3_ n4_; clear hb ho82; obtain ⟨Ao83, co83, eo83⟩ := Kd.R_slice HO268.out; subst eo83) | ((with_reducible refine gate_callee (f := 27) rfl ?_); refine goesL_ (some 108) rfl rfl Try.func27 (by kernel_rfl) rfl #[.agg #[.slice A0_0 l0_0.length c0_0, .slice A0_1 l0_1.length c0_1, .slice A0_2 l0_2.length c0_2, .int .i64 a0_3], .int .i64 (Int.tmod (wrap64 (a3_0)) 4), .slice A1 l1.length c1, .slice Ao83 y266.length co83] rfl (by (try simp only [List.map_toArray, List.map_cons, List.map_nil]); first | done | rfl | (simp only [List.length_drop, List.length_take]; rfl)) ?_; (with_reducible refine (domain_Left.calls kj37 _ _ l0_0 _ _ l0_1 _ _ l0_2 a0_3 (Int.tmod (wrap64 (a3_0)) 4) _ _ l1 _ _ y266 t269 _ ?side1 ?side2 ?side3 ?side4 ?side5 ?side6 ?side7 ?side8 ?side9 ?side10 A71.out).mono ?_); (case side1 => repeat (first | exact (Kd.C_below HR0_0.out HB.out) | (with_reducible refine Kd.C_alloc ?_ _) | (with_reducible refine Kd.C_drewN ?_ _) | (with_reducible refine Kd.C_drew ?_))); (case side2 => exact HC0_0.out); (case side3 => repeat (first | exact (Kd.C_below HR0_1.out HB.out) | (with_reducible refine Kd.C_alloc ?_ _) | (with_reducible refine Kd.C_drewN ?_ _) | (with_reducible refine Kd.C_drew ?_))); (case side4 => exact HC0_1.out); (case side5 => repeat (first | exact (Kd.C_below HR0_2.out HB.out) | (with_reducible refine Kd.C_alloc ?_ _) | (with_reducible refine Kd.C_drewN ?_ _) | (with_reducible refine Kd.C_drew ?_))); (case side6 => exact HC0_2.out); (case side7 => repeat (first | exact (Kd.C_below HR1.out HB.out) | (with_reducible refine Kd.C_alloc ?_ _) | (with_reducible refine Kd.C_drewN ?_ _) | (with_reducible refine Kd.C_drew ?_))); (case side8 => exact HC1.out); (case side9 => repeat (first | exact (zl_ HO268.out).2.2 | (with_reducible refine Kd.C_alloc ?_ _) | (with_reducible refine Kd.C_drewN ?_ _) | (with_reducible refine Kd.C_drew ?_))); (case side10 => exact (zl_ HO268.out).2.1); rintro e w84 ⟨rfl, hb⟩; refine ⟨_, rfl, ?_⟩; have n0_ := Aside0.mk (Kd.R_below (by (with_reducible repeat (first | apply za_ | apply zb_ | apply zc_)); exact HO268.out) hb); have n1_ := Aside0.mk (zq_ (g := gb246) (o := .cells #[.slice A0_0 l0_0.length c0_0, .slice A0_1 l0_1.length c0_1, .slice A0_2 l0_2.length c0_2, .int .i64 a0_3] 25 (0, 0)) (by (with_reducible repeat (first | refine zm_ ?_ _ | refine zn_ ?_ | refine zo_ ?_ _)); exact BK246.out) hb); have n2_ := Aside0.mk (zq_ (g := gb247) (o := .cells #[.slice A2_0 l2_0.length c2_0, .slice A2_1 l2_1.length c2_1] 38 (0, 0)) (by (with_reducible repeat (first | refine zm_ ?_ _ | refine zn_ ?_ | refine zo_ ?_ _)); exact BK247.out) hb); have n3_ := Aside0.mk (zq_ (g := gb248) (o := .cells #[.int .u8 a3_0, .int .u8 a3_1] 39 (0, 0)) (by (with_reducible repeat (first | refine zm_ ?_ _ | refine zn_ ?_ | refine zo_ ?_ _)); exact BK248.out) hb); have n4_ := Aside0.mk (zv_ (by repeat (first | (with_reducible first | exact HB.out | apply zs_ | apply zt_ | apply zu_ | refine zr_ ?_ GE246.out | refine zr_ ?_ GE247.out | refine zr_ ?_ GE248.out) | exact HB.out)) hb); clear HO268; clear BK246; clear BK247; clear BK248; clear HB; have HO268 := n0_; have BK246 := n1_; have BK247 := n2_; have BK248 := n3_; have HB := n4_; clear n0_ n1_ n2_ n3_ n4_; (try clear hb); (try clear hb2); (try clear hk); (try clear hi); have hcz85_0 : w84.cell? ⟨gb246, 0, none⟩ = some (.slice A0_0 l0_0.length c0_0) := (blk_cell BK246.out 0).trans rfl; have hcz85_1 : w84.cell? ⟨gb246, 1, none⟩ = some (.slice A0_1 l0_1.length c0_1) := (blk_cell BK246.out 1).trans rfl; have hcz85_2 : w84.cell? ⟨gb246, 2, none⟩ = some (.slice A0_2 l0_2.length c0_2) := (blk_cell BK246.out 2).trans rfl; have hcz85_3 : w84.cell? ⟨gb246, 3, none⟩ = some (.int .i64 a0_3) := (blk_cell BK246.out 3).trans rfl; have hfz85_0 := blk_frozen BK246.out 0; have hfz85_1 := blk_frozen BK246.out 1; have hfz85_2 := blk_frozen BK246.out 2; have hfz85_3 := blk_frozen BK246.out 3) | ((with_reducible refine gate_callee (f := 28) rfl ?_); refine goesL_ (some 112) rfl rfl Try.func28 (by kernel_rfl) rfl #[.agg #[.slice A0_0 l0_0.length c0_0, .slice A0_1 l0_1.length c0_1, .slice A0_2 l0_2.length c0_2, .int .i64 a0_3], .int .i64 (Int.tmod (wrap64 (a3_0)) 4), .slice A1 l1.length c1] rfl (by (try simp only [List.map_toArray, List.map_cons, List.map_nil]); first | done | rfl | (simp only [List.length_drop, List.length_take]; rfl)) ?_; (with_reducible refine (domain_Holds.calls kj37 _ _ l0_0 _ _ l0_1 _ _ l0_2 a0_3 (Int.tmod (wrap64 (a3_0)) 4) _ _ l1 t270 _ ?side1 ?side2 ?side3 ?side4 ?side5 ?side6 ?side7 ?side8 A72.out).mono ?_); (case side1 => repeat (first | exact (Kd.C_below HR0_0.out HB.out) | (with_reducible refine Kd.C_alloc ?_ _) | (with_reducible refine Kd.C_drewN ?_ _) | (with_reducible refine Kd.C_drew ?_))); (case side2 => exact HC0_0.out); (case side3 => repeat (first | exact (Kd.C_below HR0_1.out HB.out) | (with_reducible refine Kd.C_alloc ?_ _) | (with_reducible refine Kd.C_drewN ?_ _) | (with_reducible refine Kd.C_drew ?_))); (case side4 => exact HC0_1.out); (case side5 => repeat (first | exact (Kd.C_below HR0_2.out HB.out) | (with_reducible refine Kd.C_alloc ?_ _) | (with_reducible refine Kd.C_drewN ?_ _) | (with_reducible refine Kd.C_drew ?_))); (case side6 => exact HC0_2.out); (case side7 => repeat (first | exact (Kd.C_below HR1.out HB.out) | (with_reducible refine Kd.C_alloc ?_ _) | (with_reducible refine Kd.C_drewN ?_ _) | (with_reducible refine Kd.C_drew ?_))); (case side8 => exact HC1.out); rintro e w86 ⟨v271, rfl, ho0, hb⟩; refine ⟨_, rfl, ?_⟩; have n0_ := Aside0.mk (zj_ (by (with_reducible repeat (first | apply za_ | apply zb_ | apply zc_)); exact HO268.out) (zk_ ho0) hb); have n1_ := Aside0.mk (zg_ (zh_ ho0 (zi_ (by (with_reducible repeat (first | apply za_ | apply zb_ | apply zc_)); exact HO268.out))) (zw_ (by repeat (first | (with_reducible first | exact HB.out | apply zs_ | apply zt_ | apply zu_ | refine zr_ ?_ GE246.out | refine zr_ ?_ GE247.out | refine zr_ ?_ GE248.out) | exact HB.out)))); have n2_ := Aside0.mk (zq_ (g := gb246) (o := .cells #[.slice A0_0 l0_0.length c0_0, .slice A0_1 l0_1.length c0_1, .slice A0_2 l0_2.length c0_2, .int .i64 a0_3] 25 (0, 0)) (by (with_reducible repeat (first | refine zm_ ?_ _ | refine zn_ ?_ | refine zo_ ?_ _)); exact BK246.out) hb); have n3_ := Aside0.mk (zq_ (g := gb247) (o := .cells #[.slice A2_0 l2_0.length c2_0, .slice A2_1 l2_1.length c2_1] 38 (0, 0)) (by (with_reducible repeat (first | refine zm_ ?_ _ | refine zn_ ?_ | refine zo_ ?_ _)); exact BK247.out) hb); have n4_ := Aside0.mk (zq_ (g := gb248) (o := .cells #[.int .u8 a3_0, .int .u8 a3_1] 39 (0, 0)) (by (with_reducible repeat (first | refine zm_ ?_ _ | refine zn_ ?_ | refine zo_ ?_ _)); exact BK248.out) hb); have n5_ := Aside0.mk (zv_ (by repeat (first | (with_reducible first | exact HB.out | apply zs_ | apply zt_ | apply zu_ | refine zr_ ?_ GE246.out | refine zr_ ?_ GE247.out | refine zr_ ?_ GE248.out) | exact HB.out)) hb); clear HO268; clear BK246; clear BK247; clear BK248; clear HB; have HO268 := n0_; have HO272 := n1_; have BK246 := n2_; have BK247 := n3_; have BK248 := n4_; have HB := n5_; clear n0_ n1_ n2_ n3_ n4_ n5_; (try clear hb); (try clear hb2); (try clear hk); (try clear hi); (try clear ho0)))
                    (try simp only [Act.put, List.setIfInBounds_toArray, List.set_cons_zero, List.set_cons_succ])
                    go_cut [128] (fun v128 wc => ∃ (kq : Nat) (x128_72 : Bool), v128 = .bool x128_72 ∧ Aside0 (quietuslaw10_DomainsFailTogether.j2 kq l1 (Int.tmod (wrap64 (a3_0)) 4) (Int.tmod (wrap64 (a3_1)) t264) t269 x128_72 l0_0 l0_1 l0_2 a0_3 = some r) ∧ Aside0 (kq ≤ kj37) ∧ Aside0 (wc.heap[gb246]? = some (.cells #[(.slice A0_0 l0_0.length c0_0), (.slice A0_1 l0_1.length c0_1), (.slice A0_2 l0_2.length c0_2), .int .i64 a0_3] 25 (0, 0))) ∧ Aside0 (wc.heap[gb247]? = some (.cells #[(.slice A2_0 l2_0.length c2_0), (.slice A2_1 l2_1.length c2_1)] 38 (0, 0))) ∧ Aside0 (wc.heap[gb248]? = some (.cells #[.int .u8 a3_0, .int .u8 a3_1] 39 (0, 0))) ∧ Aside0 (Below w.heap.size w wc))
                    case first =>
                      have H := HC73.out
                      clear HC73
                      by_cases c87 : (t270.length : Int) = t264
                      · rw [if_pos c87] at H
                        have c87b0 : ((t270.length : Int) == t264) = true := beq_iff_eq.mpr c87
                        have c87b1 : ((t270.length : Int) != t264) = false := bne_eq_false_iff_eq.mpr c87
                        clear c87
                        (first | rw [c87b0] | (simp only [i64_w, i32_w]; rw [c87b0]) | rw [c87b1] | skip)
                        replace H := Option.bind_eq_some_iff.mp H
                        obtain ⟨t273, A880, H⟩ := H
                        replace H : ((quietusref07_Count.f kj37 t269).bind fun t274 => (if 0 ≤ (Int.tmod (wrap64 (a3_1)) t264) then (if (Int.tmod (wrap64 (a3_1)) t264) < (t270.length : Int) then (quietuslaw10_DomainsFailTogether.j2 kj37 l1 (Int.tmod (wrap64 (a3_0)) 4) (Int.tmod (wrap64 (a3_1)) t264) t269 ((wrap64 (t273 - t274)) != (rd t270 (Int.tmod (wrap64 (a3_1)) t264))) l0_0 l0_1 l0_2 a0_3) else (none)) else (none))) = some r := H
                        have A88 := Aside0.mk A880
                        clear A880
                        replace H := Option.bind_eq_some_iff.mp H
                        obtain ⟨t274, A890, H⟩ := H
                        replace H : (if 0 ≤ (Int.tmod (wrap64 (a3_1)) t264) then (if (Int.tmod (wrap64 (a3_1)) t264) < (t270.length : Int) then (quietuslaw10_DomainsFailTogether.j2 kj37 l1 (Int.tmod (wrap64 (a3_0)) 4) (Int.tmod (wrap64 (a3_1)) t264) t269 ((wrap64 (t273 - t274)) != (rd t270 (Int.tmod (wrap64 (a3_1)) t264))) l0_0 l0_1 l0_2 a0_3) else (none)) else (none)) = some r := H
                        have A89 := Aside0.mk A890
                        clear A890
                        obtain ⟨ji90, hji90⟩ : ∃ j_ : Int, (Int.tmod (wrap64 (a3_1)) t264) = j_ := ⟨_, rfl⟩
                        replace H : (if 0 ≤ (ji90) then (if (ji90) < (t270.length : Int) then (quietuslaw10_DomainsFailTogether.j2 kj37 l1 (Int.tmod (wrap64 (a3_0)) 4) ji90 t269 ((wrap64 (t273 - t274)) != (rd t270 (ji90))) l0_0 l0_1 l0_2 a0_3) else (none)) else (none)) = some r := by first | (rw [hji90] at H; exact H) | (simp only [hji90] at H ⊢; exact H)
                        (try rw [hji90] at A88)
                        (try rw [hji90] at A89)
                        by_cases c91 : 0 ≤ (ji90)
                        · rw [if_pos c91] at H
                          have c91b0 : decide (0 ≤ (ji90)) = true := decide_eq_true c91
                          clear c91
                          by_cases c92 : (ji90) < (t270.length : Int)
                          · rw [if_pos c92] at H
                            have c92b0 : decide ((ji90) < (t270.length : Int)) = true := decide_eq_true c92
                            clear c92
                            have H' := Aside0.mk H
                            clear H
                            try go_wp2
                            have n0_ := Aside0.mk (zc_ HO268.out)
                            have n1_ := Aside0.mk (zc_ HO272.out)
                            have n2_ := Aside0.mk (zn_ BK246.out)
                            have n3_ := Aside0.mk (zn_ BK247.out)
                            have n4_ := Aside0.mk (zn_ BK248.out)
                            have n5_ := Aside0.mk (zu_ HB.out)
                            clear HO268
                            clear HO272
                            clear BK246
                            clear BK247
                            clear BK248
                            clear HB
                            have HO268 := n0_
                            have HO272 := n1_
                            have BK246 := n2_
                            have BK247 := n3_
                            have BK248 := n4_
                            have HB := n5_
                            clear n0_ n1_ n2_ n3_ n4_ n5_
                            obtain ⟨Ao94, co94, eo94⟩ := Kd.R_slice HO272.out
                            (first | subst eo94 | (injection eo94 with f1_ f2_ f3_; have f4_ := f1_.symm; have f5_ := f3_.symm; clear f1_ f2_ f3_; subst f4_; subst f5_))
                            have p275 : 0 ≤ ((ji90) : Int) := of_decide_eq_true (by first | (with_reducible assumption) | assumption)
                            have q275 : (ji90) < (t270.length : Int) := of_decide_eq_true (by first | (with_reducible assumption) | assumption)
                            obtain ⟨ad275, e275, hx275_0⟩ := Kd.at_int (zl_ HO272.out).2.2 (ji90) p275 q275
                            cases e275
                            replace p275 := eq_true p275
                            replace q275 := eq_true q275
                            refine start_ (n := 16) (S := fun w' => w'.cell? (ad275.add ((ji90)).toNat) = some (.int .i64 (rd t270 (ji90)))) (ds := []) #[false, false, false, false, false, false, false, false, false, false, false, false, false, false, false, false] (by kernel_rfl) rfl rfl (hx275_0) (fun hHeld => ?_); refine with_tabW quietuslaw10_DomainsFailTogether.tab16 quietuslaw10_DomainsFailTogether.bits16 (fun HT_ HW_ => ?_)
                            generalize w86.drew = w93 at HO268 HO272 BK246 BK247 BK248 HB hx275_0 hHeld ⊢
                            refine pure_ (i := 0) (N := some 113) (v := ?_) (a' := ?_) #[true, false, false, false, false, false, false, false, false, false, false, false, false, false, false, false] rfl rfl (any_of HT_.out (by kernel_rfl)) (fun _ _ _ h => h) (Or.inl ⟨by rfl, ?_⟩) ?_ ?_
                            rotate_left
                            · intro w'
                              go_simp
                              with_reducible rfl
                            rotate_left
                            · simp only [Act.put, List.setIfInBounds_toArray, List.set_cons_zero, List.set_cons_succ, i64_w, i32_w]
                              rfl
                            refine pure_ (i := 1) (N := some 114) (v := ?_) (a' := ?_) #[true, true, false, false, false, false, false, false, false, false, false, false, false, false, false, false] rfl rfl (any_of HT_.out (by kernel_rfl)) (fun _ _ _ h => h) (Or.inl ⟨by rfl, ?_⟩) ?_ ?_
                            rotate_left
                            · intro w'
                              go_simp
                              with_reducible rfl
                            rotate_left
                            · simp only [Act.put, List.setIfInBounds_toArray, List.set_cons_zero, List.set_cons_succ, i64_w, i32_w]
                              rfl
                            refine pure_ (i := 2) (N := some 115) (v := ?_) (a' := ?_) #[true, true, true, false, false, false, false, false, false, false, false, false, false, false, false, false] rfl rfl (any_of HT_.out (by kernel_rfl)) (fun _ _ _ h => h) (Or.inl ⟨by rfl, ?_⟩) ?_ ?_
                            rotate_left
                            · intro w'
                              go_simp
                              with_reducible rfl
                            rotate_left
                            · simp only [Act.put, List.setIfInBounds_toArray, List.set_cons_zero, List.set_cons_succ, i64_w, i32_w]
                              rfl
                            refine pure_ (i := 3) (N := some 116) (v := ?_) (a' := ?_) #[true, true, true, true, false, false, false, false, false, false, false, false, false, false, false, false] rfl rfl (any_of HT_.out (by kernel_rfl)) (fun _ _ _ h => h) (Or.inl ⟨by rfl, ?_⟩) ?_ ?_
                            rotate_left
                            · intro w'
                              go_simp
                              with_reducible rfl
                            rotate_left
                            · simp only [Act.put, List.setIfInBounds_toArray, List.set_cons_zero, List.set_cons_succ, i64_w, i32_w]
                              rfl
                            refine pure_ (i := 4) (N := some 117) (v := ?_) (a' := ?_) #[true, true, true, true, true, false, false, false, false, false, false, false, false, false, false, false] rfl rfl (any_of HT_.out (by kernel_rfl)) (fun _ _ _ h => h) (Or.inl ⟨by rfl, ?_⟩) ?_ ?_
                            rotate_left
                            · intro w'
                              go_simp
                              with_reducible rfl
                            rotate_left
                            · simp only [Act.put, List.setIfInBounds_toArray, List.set_cons_zero, List.set_cons_succ, i64_w, i32_w]
                              rfl
                            refine pure_ (i := 5) (N := some 118) (v := ?_) (a' := ?_) #[true, true, true, true, true, true, false, false, false, false, false, false, false, false, false, false] rfl rfl (any_of HT_.out (by kernel_rfl)) (fun _ _ _ h => h) (Or.inl ⟨by rfl, ?_⟩) ?_ ?_
                            rotate_left
                            · intro w'
                              go_simp
                              with_reducible rfl
                            rotate_left
                            · simp only [Act.put, List.setIfInBounds_toArray, List.set_cons_zero, List.set_cons_succ, i64_w, i32_w]
                              rfl
                            refine pure_ (i := 7) (N := some 120) (v := ?_) (a' := ?_) #[true, true, true, true, true, true, false, true, false, false, false, false, false, false, false, false] rfl rfl (any_of HT_.out (by kernel_rfl)) (fun _ _ _ h => h) (Or.inl ⟨by rfl, ?_⟩) ?_ ?_
                            rotate_left
                            · intro w'
                              go_simp
                              with_reducible rfl
                            rotate_left
                            · simp only [Act.put, List.setIfInBounds_toArray, List.set_cons_zero, List.set_cons_succ, i64_w, i32_w]
                              rfl
                            refine pure_ (i := 10) (N := some 123) (v := ?_) (a' := ?_) #[true, true, true, true, true, true, false, true, false, false, true, false, false, false, false, false] rfl rfl (any_of HT_.out (by kernel_rfl)) (fun _ _ _ h => h) (Or.inl ⟨by rfl, ?_⟩) ?_ ?_
                            rotate_left
                            · intro w'
                              go_simp
                              with_reducible rfl
                            rotate_left
                            · simp only [Act.put, List.setIfInBounds_toArray, List.set_cons_zero, List.set_cons_succ, i64_w, i32_w]
                              rfl
                            refine pure_ (i := 11) (N := some 124) (v := ?_) (a' := ?_) #[true, true, true, true, true, true, false, true, false, false, true, true, false, false, false, false] rfl rfl (any_of HT_.out (by kernel_rfl)) (fun _ _ _ h => h) (Or.inl ⟨by rfl, ?_⟩) ?_ ?_
                            rotate_left
                            · intro w'
                              go_simp
                              with_reducible rfl
                            rotate_left
                            · simp only [Act.put, List.setIfInBounds_toArray, List.set_cons_zero, List.set_cons_succ, i64_w, i32_w]
                              rfl
                            refine pure_ (i := 12) (N := some 125) (v := ?_) (a' := ?_) #[true, true, true, true, true, true, false, true, false, false, true, true, true, false, false, false] rfl rfl (any_of HT_.out (by kernel_rfl)) (fun _ _ _ h => h) (Or.inl ⟨by rfl, ?_⟩) ?_ ?_
                            rotate_left
                            · intro w'
                              go_simp
                              with_reducible rfl
                            rotate_left
                            · simp only [Act.put, List.setIfInBounds_toArray, List.set_cons_zero, List.set_cons_succ, i64_w, i32_w]
                              rfl
                            refine take_ (i := 13) (N := some 126) (v := ?_) (a' := ?_) #[true, true, true, true, true, true, false, true, false, false, true, true, true, true, false, false] rfl rfl (take_ofW HT_.out HW_.out (by kernel_rfl)) (fun _ _ _ h => h) (Or.inl ⟨by rfl, ?_⟩) hHeld ?_ ?_
                            rotate_left
                            · intro w' s0
                              go_simp
                              with_reducible rfl
                            rotate_left
                            · simp only [Act.put, List.setIfInBounds_toArray, List.set_cons_zero, List.set_cons_succ, i64_w, i32_w]
                              rfl
                            refine one_ (i := 6) (N := some 119) #[true, true, true, true, true, true, true, true, false, false, true, true, true, true, false, false] rfl rfl (one_of HT_.out (by kernel_rfl)) (by decide) (fun K hK => ?_)
                            refine goes_ Try.func29 (by kernel_rfl) rfl #[.int .i64 t251] (by rfl) rfl rfl (by (try simp only [List.map_toArray, List.map_cons, List.map_nil]); first | done | rfl | (simp only [List.length_drop, List.length_take]; rfl)) ?_
                            with_reducible refine (quietusref07_Count.calls kj37 t251 t273 _ A88.out).mono ?_
                            rintro e w' ⟨rfl, ⟨nd, rfl⟩⟩
                            refine ⟨_, rfl, ?_⟩
                            refine hK.out _ _ (hHeld) (fun hHeld => ?_)
                            clear hK K
                            refine norm_ (a' := ?_) ?_ ?_
                            rotate_left
                            · show Act.put _ (some 119) _ = _
                              simp only [Act.put, List.setIfInBounds_toArray, List.set_cons_zero, List.set_cons_succ, i64_w, i32_w]
                              rfl
                            refine one_ (i := 8) (N := some 121) #[true, true, true, true, true, true, true, true, true, false, true, true, true, true, false, false] rfl rfl (one_of HT_.out (by kernel_rfl)) (by decide) (fun K hK => ?_)
                            refine goes_ Try.func29 (by kernel_rfl) rfl #[.int .i64 t269] (by rfl) rfl rfl (by (try simp only [List.map_toArray, List.map_cons, List.map_nil]); first | done | rfl | (simp only [List.length_drop, List.length_take]; rfl)) ?_
                            with_reducible refine (quietusref07_Count.calls kj37 t269 t274 _ A89.out).mono ?_
                            rintro e w' ⟨rfl, ⟨nd, rfl⟩⟩
                            refine ⟨_, rfl, ?_⟩
                            refine hK.out _ _ (hHeld) (fun hHeld => ?_)
                            clear hK K
                            refine norm_ (a' := ?_) ?_ ?_
                            rotate_left
                            · show Act.put _ (some 121) _ = _
                              simp only [Act.put, List.setIfInBounds_toArray, List.set_cons_zero, List.set_cons_succ, i64_w, i32_w]
                              rfl
                            refine pure_ (i := 9) (N := some 122) (v := ?_) (a' := ?_) #[true, true, true, true, true, true, true, true, true, true, true, true, true, true, false, false] rfl rfl (any_of HT_.out (by kernel_rfl)) (fun _ _ _ h => h) (Or.inl ⟨by rfl, ?_⟩) ?_ ?_
                            rotate_left
                            · intro w'
                              go_simp
                              with_reducible rfl
                            rotate_left
                            · simp only [Act.put, List.setIfInBounds_toArray, List.set_cons_zero, List.set_cons_succ, i64_w, i32_w]
                              rfl
                            refine pure_ (i := 14) (N := some 127) (v := ?_) (a' := ?_) #[true, true, true, true, true, true, true, true, true, true, true, true, true, true, true, false] rfl rfl (any_of HT_.out (by kernel_rfl)) (fun _ _ _ h => h) (Or.inl ⟨by rfl, ?_⟩) ?_ ?_
                            rotate_left
                            · intro w'
                              go_simp
                              with_reducible rfl
                            rotate_left
                            · simp only [Act.put, List.setIfInBounds_toArray, List.set_cons_zero, List.set_cons_succ, i64_w, i32_w]
                              rfl
                            refine pure_ (i := 15) (N := some 128) (v := ?_) (a' := ?_) #[true, true, true, true, true, true, true, true, true, true, true, true, true, true, true, true] rfl rfl (any_of HT_.out (by kernel_rfl)) (fun _ _ _ h => h) (Or.inl ⟨by rfl, ?_⟩) ?_ ?_
                            rotate_left
                            · intro w'
                              go_simp
                              with_reducible rfl
                            rotate_left
                            · simp only [Act.put, List.setIfInBounds_toArray, List.set_cons_zero, List.set_cons_succ, i64_w, i32_w]
                              rfl
                            refine done_ (done_of HT_.out (by kernel_rfl)) ?_
                            try go_wp2
                            first | go_meet | (simp only [← hji90]; go_meet) | (simp only [hji90]; go_meet)
                            case rel => exact ⟨_, (((wrap64 (t273 - t274)) != (rd t270 (ji90)))), (by first | rfl | (simp; done) | (simp only [← hji90] <;> (first | rfl | simp)) | (simp [*]; done)), (by first | exact H' | (simp only [hji90]; exact H') | (rw [hji90]; exact H')), ⟨by have := HJ4.out; have := HJ37.out; first | omega | exact Nat.le_refl _⟩, ⟨by (with_reducible repeat (first | refine zm_ ?_ _ | refine zn_ ?_ | refine zo_ ?_ _)); exact BK246.out⟩, ⟨by (with_reducible repeat (first | refine zm_ ?_ _ | refine zn_ ?_ | refine zo_ ?_ _)); exact BK247.out⟩, ⟨by (with_reducible repeat (first | refine zm_ ?_ _ | refine zn_ ?_ | refine zo_ ?_ _)); exact BK248.out⟩, ⟨by repeat (first | (with_reducible first | exact HB.out | apply zs_ | apply zt_ | apply zu_ | refine zr_ ?_ GE246.out | refine zr_ ?_ GE247.out | refine zr_ ?_ GE248.out) | exact HB.out)⟩⟩
                          · rw [if_neg c92] at H
                            exact absurd H (by simp)
                        · rw [if_neg c91] at H
                          exact absurd H (by simp)
                      · rw [if_neg c87] at H
                        exact absurd H (by simp)
                    case rest =>
                      clear HC73
                      try clear c1
                      try clear c2
                      try clear p2
                      try clear q2
                      try clear hx2
                      try clear c3
                      try clear c4
                      try clear c5
                      try clear c6
                      try clear p6
                      try clear c7
                      try clear c8
                      try clear c9
                      try clear c11
                      try clear c11b0
                      try clear c11b1
                      try clear c12
                      try clear c12b0
                      try clear c12b1
                      try clear c13
                      try clear c14
                      try clear c15
                      try clear c16
                      try clear c17
                      try clear c17b0
                      try clear c17b1
                      try clear c18
                      try clear c19
                      try clear c22
                      try clear c23
                      try clear c26
                      try clear c27
                      try clear p27
                      try clear q27
                      try clear hx27
                      try clear c28
                      try clear c29
                      try clear c30
                      try clear c35
                      try clear c36
                      try clear c39
                      try clear c40
                      try clear c42
                      try clear c54
                      try clear c54b0
                      try clear c54b1
                      try clear c55
                      try clear c55b0
                      try clear c55b1
                      try clear c57
                      try clear c58
                      try clear c61
                      try clear c63
                      try clear c63b0
                      try clear c63b1
                      try clear p64
                      try clear c65
                      try clear c66
                      try clear c67
                      try clear c74
                      try clear c75
                      try clear c78
                      try clear c87
                      try clear c87b0
                      try clear c87b1
                      try clear c91
                      try clear c91b0
                      try clear c92
                      try clear c92b0
                      try clear hcz15_0
                      try clear hcz15_1
                      try clear hcz15_2
                      try clear hcz15_3
                      try clear hcz20_0
                      try clear hcz20_1
                      try clear hcz20_2
                      try clear hcz20_3
                      try clear hcz24_0
                      try clear hcz24_1
                      try clear hcz24_2
                      try clear hcz24_3
                      try clear hcz28_0
                      try clear hcz28_1
                      try clear hcz28_2
                      try clear hcz28_3
                      try clear hcz41_0
                      try clear hcz41_1
                      try clear hcz43_0
                      try clear hcz43_1
                      try clear hcz43_2
                      try clear hcz43_3
                      try clear hcz45_0
                      try clear hcz45_1
                      try clear hcz45_2
                      try clear hcz45_3
                      try clear hcz59_0
                      try clear hcz59_1
                      try clear hcz59_2
                      try clear hcz59_3
                      try clear hcz68_0
                      try clear hcz68_1
                      try clear hcz68_2
                      try clear hcz68_3
                      try clear hcz76_0
                      try clear hcz76_1
                      try clear hcz76_2
                      try clear hcz76_3
                      try clear hcz79_0
                      try clear hcz79_1
                      try clear hcz80_0
                      try clear hcz80_1
                      try clear hcz80_2
                      try clear hcz80_3
                      try clear hcz85_0
                      try clear hcz85_1
                      try clear hcz85_2
                      try clear hcz85_3
                      try clear hfz15_0
                      try clear hfz15_1
                      try clear hfz15_2
                      try clear hfz15_3
                      try clear hfz20_0
                      try clear hfz20_1
                      try clear hfz20_2
                      try clear hfz20_3
                      try clear hfz24_0
                      try clear hfz24_1
                      try clear hfz24_2
                      try clear hfz24_3
                      try clear hfz28_0
                      try clear hfz28_1
                      try clear hfz28_2
                      try clear hfz28_3
                      try clear hfz41_0
                      try clear hfz41_1
                      try clear hfz43_0
                      try clear hfz43_1
                      try clear hfz43_2
                      try clear hfz43_3
                      try clear hfz45_0
                      try clear hfz45_1
                      try clear hfz45_2
                      try clear hfz45_3
                      try clear hfz59_0
                      try clear hfz59_1
                      try clear hfz59_2
                      try clear hfz59_3
                      try clear hfz68_0
                      try clear hfz68_1
                      try clear hfz68_2
                      try clear hfz68_3
                      try clear hfz76_0
                      try clear hfz76_1
                      try clear hfz76_2
                      try clear hfz76_3
                      try clear hfz79_0
                      try clear hfz79_1
                      try clear hfz80_0
                      try clear hfz80_1
                      try clear hfz80_2
                      try clear hfz80_3
                      try clear hfz85_0
                      try clear hfz85_1
                      try clear hfz85_2
                      try clear hfz85_3
                      try clear hx275_0
                      try clear p2
                      try clear p275
                      try clear p6
                      try clear q275
                      obtain ⟨kq, x128_72, rfl, HA, HJ72, BK246, BK247, BK248, HB⟩ := hcut
                      cases kq with
                      | zero => exact absurd HA.out (by simp [quietuslaw10_DomainsFailTogether.j2])
                      | succ kj72 =>
                        have H := HA.out
                        clear HA
                        simp only [quietuslaw10_DomainsFailTogether.j2] at H
                        by_cases c95 : x128_72 = true
                        · subst c95
                          have H1 : (none) = some r := by rw [if_pos rfl] at H; exact H
                          clear H
                          have H := H1
                          clear H1
                          exact absurd H (by simp)
                        · replace c95 := Bool.eq_false_iff.mpr c95
                          subst c95
                          have H1 : (if (Int.tmod (wrap64 (a3_0)) 4) = 0 then ((quietuslaw10_sanity.f).bind fun t276 => (some t276)) else ((domain_Members.f l0_0 l0_1 l0_2 a0_3 (Int.tmod (wrap64 (a3_0)) 4) (Int.tmod (wrap64 (a3_1)) t264)).bind fun t277 => (quietuslaw10_DomainsFailTogether.l0 kj72 l1 (Int.tmod (wrap64 (a3_0)) 4) t269 ([] : List Int) t277 (t277.length : Int) 0 l0_0 l0_1 l0_2 a0_3))) = some r := by rw [if_neg (show ¬ (false = true) by decide)] at H; exact H
                          clear H
                          have H := H1
                          clear H1
                          by_cases c96 : (Int.tmod (wrap64 (a3_0)) 4) = 0
                          · rw [if_pos c96] at H
                            have c96b0 : ((Int.tmod (wrap64 (a3_0)) 4) == 0) = true := beq_iff_eq.mpr c96
                            have c96b1 : ((Int.tmod (wrap64 (a3_0)) 4) != 0) = false := bne_eq_false_iff_eq.mpr c96
                            clear c96
                            replace H := Option.bind_eq_some_iff.mp H
                            obtain ⟨t276, A970, H⟩ := H
                            replace H : (some t276) = some r := H
                            have A97 := Aside0.mk A970
                            clear A970
                            obtain rfl := Option.some.inj H
                            go_wp2_with (first | ((with_reducible refine gate_callee (f := 15) rfl ?_); refine goesL_ (some 131) rfl rfl Try.func15 (by kernel_rfl) rfl #[] rfl (by (try simp only [List.map_toArray, List.map_cons, List.map_nil]); first | done | rfl | (simp only [List.length_drop, List.length_take]; rfl)) ?_; (with_reducible refine (quietuslaw10_sanity.calls  t276 _ A97.out).mono ?_); rintro e w98 ⟨rfl, hb⟩; refine ⟨_, rfl, ?_⟩; have n0_ := Aside0.mk (zq_ (g := gb246) (o := .cells #[.slice A0_0 l0_0.length c0_0, .slice A0_1 l0_1.length c0_1, .slice A0_2 l0_2.length c0_2, .int .i64 a0_3] 25 (0, 0)) (by (with_reducible repeat (first | refine zm_ ?_ _ | refine zn_ ?_ | refine zo_ ?_ _)); exact BK246.out) hb); have n1_ := Aside0.mk (zq_ (g := gb247) (o := .cells #[.slice A2_0 l2_0.length c2_0, .slice A2_1 l2_1.length c2_1] 38 (0, 0)) (by (with_reducible repeat (first | refine zm_ ?_ _ | refine zn_ ?_ | refine zo_ ?_ _)); exact BK247.out) hb); have n2_ := Aside0.mk (zq_ (g := gb248) (o := .cells #[.int .u8 a3_0, .int .u8 a3_1] 39 (0, 0)) (by (with_reducible repeat (first | refine zm_ ?_ _ | refine zn_ ?_ | refine zo_ ?_ _)); exact BK248.out) hb); have n3_ := Aside0.mk (zv_ (by repeat (first | (with_reducible first | exact HB.out | apply zs_ | apply zt_ | apply zu_ | refine zr_ ?_ GE246.out | refine zr_ ?_ GE247.out | refine zr_ ?_ GE248.out) | exact HB.out)) hb); clear BK246; clear BK247; clear BK248; clear HB; have BK246 := n0_; have BK247 := n1_; have BK248 := n2_; have HB := n3_; clear n0_ n1_ n2_ n3_; (try clear hb); (try clear hb2); (try clear hk); (try clear hi)))
                            go_ret
                            exact ⟨by first | rfl | (simp [errW_none, errW_some] <;> rfl) | (simp [*, errW_none, errW_some] <;> rfl), by repeat (first | (with_reducible first | exact HB.out | apply zs_ | apply zt_ | apply zu_ | refine zr_ ?_ GE246.out | refine zr_ ?_ GE247.out | refine zr_ ?_ GE248.out) | exact HB.out)⟩
                          · rw [if_neg c96] at H
                            have c96b0 : ((Int.tmod (wrap64 (a3_0)) 4) == 0) = false := beq_eq_false_iff_ne.mpr c96
                            have c96b1 : ((Int.tmod (wrap64 (a3_0)) 4) != 0) = true := bne_iff_ne.mpr c96
                            replace H := Option.bind_eq_some_iff.mp H
                            obtain ⟨t277, A990, H⟩ := H
                            replace H : (quietuslaw10_DomainsFailTogether.l0 kj72 l1 (Int.tmod (wrap64 (a3_0)) 4) t269 ([] : List Int) t277 (t277.length : Int) 0 l0_0 l0_1 l0_2 a0_3) = some r := H
                            have A99 := Aside0.mk A990
                            clear A990
                            have H' := Aside0.mk H
                            clear H
                            have hnb100 := NB246_247.out
                            have hnc100 := NB247_246.out
                            have hnb101 := NB246_248.out
                            have hnc101 := NB248_246.out
                            have hcz102_0 : wc.cell? ⟨gb246, 0, none⟩ = some (.slice A0_0 l0_0.length c0_0) := (blk_cell BK246.out 0).trans rfl
                            have hcz102_1 : wc.cell? ⟨gb246, 1, none⟩ = some (.slice A0_1 l0_1.length c0_1) := (blk_cell BK246.out 1).trans rfl
                            have hcz102_2 : wc.cell? ⟨gb246, 2, none⟩ = some (.slice A0_2 l0_2.length c0_2) := (blk_cell BK246.out 2).trans rfl
                            have hcz102_3 : wc.cell? ⟨gb246, 3, none⟩ = some (.int .i64 a0_3) := (blk_cell BK246.out 3).trans rfl
                            have hfz102_0 := blk_frozen BK246.out 0
                            have hfz102_1 := blk_frozen BK246.out 1
                            have hfz102_2 := blk_frozen BK246.out 2
                            have hfz102_3 := blk_frozen BK246.out 3
                            go_wp2_with (first | ((with_reducible refine gate_callee (f := 21) rfl ?_); refine goesL_ (some 135) rfl rfl Try.func21 (by kernel_rfl) rfl #[.agg #[.slice A0_0 l0_0.length c0_0, .slice A0_1 l0_1.length c0_1, .slice A0_2 l0_2.length c0_2, .int .i64 a0_3], .int .i64 (Int.tmod (wrap64 (a3_0)) 4), .int .i64 (Int.tmod (wrap64 (a3_1)) t264)] rfl (by (try simp only [List.map_toArray, List.map_cons, List.map_nil]); first | done | rfl | (simp only [List.length_drop, List.length_take]; rfl)) ?_; (with_reducible refine (domain_Members.calls _ _ l0_0 _ _ l0_1 _ _ l0_2 a0_3 (Int.tmod (wrap64 (a3_0)) 4) (Int.tmod (wrap64 (a3_1)) t264) t277 _ ?side1 ?side2 ?side3 ?side4 ?side5 ?side6 A99.out).mono ?_); (case side1 => repeat (first | exact (Kd.C_below HR0_0.out HB.out) | (with_reducible refine Kd.C_alloc ?_ _) | (with_reducible refine Kd.C_drewN ?_ _) | (with_reducible refine Kd.C_drew ?_))); (case side2 => exact HC0_0.out); (case side3 => repeat (first | exact (Kd.C_below HR0_1.out HB.out) | (with_reducible refine Kd.C_alloc ?_ _) | (with_reducible refine Kd.C_drewN ?_ _) | (with_reducible refine Kd.C_drew ?_))); (case side4 => exact HC0_1.out); (case side5 => repeat (first | exact (Kd.C_below HR0_2.out HB.out) | (with_reducible refine Kd.C_alloc ?_ _) | (with_reducible refine Kd.C_drewN ?_ _) | (with_reducible refine Kd.C_drew ?_))); (case side6 => exact HC0_2.out); rintro e w103 ⟨v278, rfl, ho0, hb⟩; refine ⟨_, rfl, ?_⟩; have n0_ := Aside0.mk (zg_ ho0 (zw_ (by repeat (first | (with_reducible first | exact HB.out | apply zs_ | apply zt_ | apply zu_ | refine zr_ ?_ GE246.out | refine zr_ ?_ GE247.out | refine zr_ ?_ GE248.out) | exact HB.out)))); have n1_ := Aside0.mk (zq_ (g := gb246) (o := .cells #[.slice A0_0 l0_0.length c0_0, .slice A0_1 l0_1.length c0_1, .slice A0_2 l0_2.length c0_2, .int .i64 a0_3] 25 (0, 0)) (by (with_reducible repeat (first | refine zm_ ?_ _ | refine zn_ ?_ | refine zo_ ?_ _)); exact BK246.out) hb); have n2_ := Aside0.mk (zq_ (g := gb247) (o := .cells #[.slice A2_0 l2_0.length c2_0, .slice A2_1 l2_1.length c2_1] 38 (0, 0)) (by (with_reducible repeat (first | refine zm_ ?_ _ | refine zn_ ?_ | refine zo_ ?_ _)); exact BK247.out) hb); have n3_ := Aside0.mk (zq_ (g := gb248) (o := .cells #[.int .u8 a3_0, .int .u8 a3_1] 39 (0, 0)) (by (with_reducible repeat (first | refine zm_ ?_ _ | refine zn_ ?_ | refine zo_ ?_ _)); exact BK248.out) hb); have n4_ := Aside0.mk (zv_ (by repeat (first | (with_reducible first | exact HB.out | apply zs_ | apply zt_ | apply zu_ | refine zr_ ?_ GE246.out | refine zr_ ?_ GE247.out | refine zr_ ?_ GE248.out) | exact HB.out)) hb); clear BK246; clear BK247; clear BK248; clear HB; have HO279 := n0_; have BK246 := n1_; have BK247 := n2_; have BK248 := n3_; have HB := n4_; clear n0_ n1_ n2_ n3_ n4_; (try clear hb); (try clear hb2); (try clear hk); (try clear hi); (try clear ho0); obtain ⟨Ao104, co104, eo104⟩ := Kd.R_slice HO279.out; subst eo104))
                            go_loopg [19, 137] kj72 (fun kq v19 v137 w' => ∃ (x19_4 : List Int) (x137_4 : Int), v137 = .int .i64 x137_4 ∧ Aside0 (quietuslaw10_DomainsFailTogether.l0 kq l1 (Int.tmod (wrap64 (a3_0)) 4) t269 x19_4 t277 (t277.length : Int) x137_4 l0_0 l0_1 l0_2 a0_3 = some r) ∧ Aside0 (kq ≤ kj72) ∧ Aside0 (Kd.R (Kd.int .i64) 3 w' w.heap.size (fun k_ => some k_ ≠ ((.slice Ao104 t277.length co104) : Value).ownBlock) v19 x19_4) ∧ Aside0 (Kd.R (Kd.int .i64) 3 w' w.heap.size (fun k_ => some k_ ≠ (v19 : Value).ownBlock) (.slice Ao104 t277.length co104) t277) ∧ Aside0 (w'.heap[gb246]? = some (.cells #[(.slice A0_0 l0_0.length c0_0), (.slice A0_1 l0_1.length c0_1), (.slice A0_2 l0_2.length c0_2), .int .i64 a0_3] 25 (0, 0))) ∧ Aside0 (w'.heap[gb247]? = some (.cells #[(.slice A2_0 l2_0.length c2_0), (.slice A2_1 l2_1.length c2_1)] 38 (0, 0))) ∧ Aside0 (w'.heap[gb248]? = some (.cells #[.int .u8 a3_0, .int .u8 a3_1] 39 (0, 0))) ∧ Aside0 (Below w.heap.size w w'))
                            case atStart => exact ⟨(([] : List Int)), (0), (by first | rfl | (simp; done) | (simp [*]; done)), H', ⟨Nat.le_refl _⟩, ⟨by first | exact Kd.R_nil _ _ _ _ _ | exact Kd.N_nil _ _ _ _ _ | exact Kd.V_nil _ _ _ _ _ | exact Kd.Q_nil _ _ _ _ _ | exact Kd.S_nil _ _ _ _ _⟩, ⟨by (with_reducible repeat (first | apply za_ | apply zb_ | apply zc_)); exact zd_ HO279.out (fun _ hk => (by simp [Value.ownBlock]))⟩, ⟨by (with_reducible repeat (first | refine zm_ ?_ _ | refine zn_ ?_ | refine zo_ ?_ _)); exact BK246.out⟩, ⟨by (with_reducible repeat (first | refine zm_ ?_ _ | refine zn_ ?_ | refine zo_ ?_ _)); exact BK247.out⟩, ⟨by (with_reducible repeat (first | refine zm_ ?_ _ | refine zn_ ?_ | refine zo_ ?_ _)); exact BK248.out⟩, ⟨by repeat (first | (with_reducible first | exact HB.out | apply zs_ | apply zt_ | apply zu_ | refine zr_ ?_ GE246.out | refine zr_ ?_ GE247.out | refine zr_ ?_ GE248.out) | exact HB.out)⟩⟩
                            case round =>
                              clear H'
                              try clear c1
                              try clear c2
                              try clear p2
                              try clear q2
                              try clear hx2
                              try clear c3
                              try clear c4
                              try clear c5
                              try clear c6
                              try clear p6
                              try clear c7
                              try clear c8
                              try clear c9
                              try clear c10
                              try clear c11
                              try clear c11b0
                              try clear c11b1
                              try clear c12
                              try clear c12b0
                              try clear c12b1
                              try clear c13
                              try clear c14
                              try clear c15
                              try clear c16
                              try clear c17
                              try clear c17b0
                              try clear c17b1
                              try clear c18
                              try clear c19
                              try clear c21
                              try clear c22
                              try clear c23
                              try clear c26
                              try clear c27
                              try clear p27
                              try clear q27
                              try clear hx27
                              try clear c28
                              try clear c29
                              try clear c30
                              try clear c35
                              try clear c36
                              try clear c39
                              try clear c40
                              try clear c42
                              try clear c54
                              try clear c54b0
                              try clear c54b1
                              try clear c55
                              try clear c55b0
                              try clear c55b1
                              try clear c57
                              try clear c58
                              try clear c61
                              try clear c63
                              try clear c63b0
                              try clear c63b1
                              try clear p64
                              try clear c65
                              try clear c66
                              try clear c67
                              try clear c74
                              try clear c75
                              try clear c78
                              try clear c87
                              try clear c87b0
                              try clear c87b1
                              try clear c91
                              try clear c91b0
                              try clear c92
                              try clear c92b0
                              try clear c95
                              try clear c96
                              try clear c96b0
                              try clear c96b1
                              try clear c100
                              try clear c101
                              try clear hcz102_0
                              try clear hcz102_1
                              try clear hcz102_2
                              try clear hcz102_3
                              try clear hcz15_0
                              try clear hcz15_1
                              try clear hcz15_2
                              try clear hcz15_3
                              try clear hcz20_0
                              try clear hcz20_1
                              try clear hcz20_2
                              try clear hcz20_3
                              try clear hcz24_0
                              try clear hcz24_1
                              try clear hcz24_2
                              try clear hcz24_3
                              try clear hcz28_0
                              try clear hcz28_1
                              try clear hcz28_2
                              try clear hcz28_3
                              try clear hcz41_0
                              try clear hcz41_1
                              try clear hcz43_0
                              try clear hcz43_1
                              try clear hcz43_2
                              try clear hcz43_3
                              try clear hcz45_0
                              try clear hcz45_1
                              try clear hcz45_2
                              try clear hcz45_3
                              try clear hcz59_0
                              try clear hcz59_1
                              try clear hcz59_2
                              try clear hcz59_3
                              try clear hcz68_0
                              try clear hcz68_1
                              try clear hcz68_2
                              try clear hcz68_3
                              try clear hcz76_0
                              try clear hcz76_1
                              try clear hcz76_2
                              try clear hcz76_3
                              try clear hcz79_0
                              try clear hcz79_1
                              try clear hcz80_0
                              try clear hcz80_1
                              try clear hcz80_2
                              try clear hcz80_3
                              try clear hcz85_0
                              try clear hcz85_1
                              try clear hcz85_2
                              try clear hcz85_3
                              try clear hfz102_0
                              try clear hfz102_1
                              try clear hfz102_2
                              try clear hfz102_3
                              try clear hfz15_0
                              try clear hfz15_1
                              try clear hfz15_2
                              try clear hfz15_3
                              try clear hfz20_0
                              try clear hfz20_1
                              try clear hfz20_2
                              try clear hfz20_3
                              try clear hfz24_0
                              try clear hfz24_1
                              try clear hfz24_2
                              try clear hfz24_3
                              try clear hfz28_0
                              try clear hfz28_1
                              try clear hfz28_2
                              try clear hfz28_3
                              try clear hfz41_0
                              try clear hfz41_1
                              try clear hfz43_0
                              try clear hfz43_1
                              try clear hfz43_2
                              try clear hfz43_3
                              try clear hfz45_0
                              try clear hfz45_1
                              try clear hfz45_2
                              try clear hfz45_3
                              try clear hfz59_0
                              try clear hfz59_1
                              try clear hfz59_2
                              try clear hfz59_3
                              try clear hfz68_0
                              try clear hfz68_1
                              try clear hfz68_2
                              try clear hfz68_3
                              try clear hfz76_0
                              try clear hfz76_1
                              try clear hfz76_2
                              try clear hfz76_3
                              try clear hfz79_0
                              try clear hfz79_1
                              try clear hfz80_0
                              try clear hfz80_1
                              try clear hfz80_2
                              try clear hfz80_3
                              try clear hfz85_0
                              try clear hfz85_1
                              try clear hfz85_2
                              try clear hfz85_3
                              try clear hx275_0
                              try clear p2
                              try clear p27
                              try clear p275
                              try clear p6
                              try clear p64
                              try clear q2
                              try clear q27
                              try clear q275
                              obtain ⟨x19_4, x137_4, rfl, HA, HK4, HO_19, HO_135, BK246, BK247, BK248, HB⟩ := hrel
                              cases gk with
                              | zero => exact absurd HA.out (by simp [quietuslaw10_DomainsFailTogether.l0])
                              | succ k4 =>
                                have H := HA.out
                                clear HA
                                simp only [quietuslaw10_DomainsFailTogether.l0] at H
                                by_cases c105 : x137_4 < (t277.length : Int)
                                · rw [if_pos c105] at H
                                  have c105b0 : decide (x137_4 < (t277.length : Int)) = true := decide_eq_true c105
                                  clear c105
                                  by_cases c106 : 0 ≤ x137_4
                                  · rw [if_pos c106] at H
                                    have c106b0 : decide (0 ≤ x137_4) = true := decide_eq_true c106
                                    clear c106
                                    by_cases c107 : x137_4 < (t277.length : Int)
                                    · rw [if_pos c107] at H
                                      have c107b0 : decide (x137_4 < (t277.length : Int)) = true := decide_eq_true c107
                                      clear c107
                                      replace H := Option.bind_eq_some_iff.mp H
                                      obtain ⟨t281, A1080, H⟩ := H
                                      replace H : (if x19_4.length < 17592186044416 then (quietuslaw10_DomainsFailTogether.l0 k4 l1 (Int.tmod (wrap64 (a3_0)) 4) t269 (x19_4 ++ [t281]) t277 (t277.length : Int) (wrap64 (x137_4 + 1)) l0_0 l0_1 l0_2 a0_3) else (none)) = some r := H
                                      have A108 := Aside0.mk A1080
                                      clear A1080
                                      by_cases c109 : x19_4.length < 17592186044416
                                      · rw [if_pos c109] at H
                                        have LMc109 := Aside0.mk c109
                                        clear c109
                                        obtain ⟨y282, hy282⟩ : ∃ y_ : List Int, y_ = (x19_4 ++ [t281]) := ⟨_, rfl⟩
                                        replace H : (quietuslaw10_DomainsFailTogether.l0 k4 l1 (Int.tmod (wrap64 (a3_0)) 4) t269 y282 t277 (t277.length : Int) (wrap64 (x137_4 + 1)) l0_0 l0_1 l0_2 a0_3) = some r := by first | (rw [hy282]; with_reducible exact H) | (have H2_ := (Option.bind_some _ _).symm.trans H; rw [hy282]; with_reducible exact H2_) | (have H2_ := (Option.bind_some _ _).symm.trans H; with_reducible exact H2_) | with_reducible exact H | (rw [hy282]; exact H) | exact H
                                        have Ny282 := Aside0.mk hy282
                                        clear hy282
                                        have H' := Aside0.mk H
                                        clear H
                                        have p280 : 0 ≤ (x137_4 : Int) := of_decide_eq_true (by first | (with_reducible assumption) | assumption)
                                        have q280 : x137_4 < (t277.length : Int) := of_decide_eq_true (by first | (with_reducible assumption) | assumption)
                                        obtain ⟨ad280, e280, hx280_0⟩ := Kd.at_int (zl_ HO_135.out).2.2 x137_4 p280 q280
                                        cases e280
                                        replace p280 := eq_true p280
                                        replace q280 := eq_true q280
                                        have hnb110 := NB246_247.out
                                        have hnc110 := NB247_246.out
                                        have hnb111 := NB246_248.out
                                        have hnc111 := NB248_246.out
                                        have hcz112_0 : wr.cell? ⟨gb246, 0, none⟩ = some (.slice A0_0 l0_0.length c0_0) := (blk_cell BK246.out 0).trans rfl
                                        have hcz112_1 : wr.cell? ⟨gb246, 1, none⟩ = some (.slice A0_1 l0_1.length c0_1) := (blk_cell BK246.out 1).trans rfl
                                        have hcz112_2 : wr.cell? ⟨gb246, 2, none⟩ = some (.slice A0_2 l0_2.length c0_2) := (blk_cell BK246.out 2).trans rfl
                                        have hcz112_3 : wr.cell? ⟨gb246, 3, none⟩ = some (.int .i64 a0_3) := (blk_cell BK246.out 3).trans rfl
                                        have hfz112_0 := blk_frozen BK246.out 0
                                        have hfz112_1 := blk_frozen BK246.out 1
                                        have hfz112_2 := blk_frozen BK246.out 2
                                        have hfz112_3 := blk_frozen BK246.out 3
                                        go_wp2_with (first | ((with_reducible refine gate_callee (f := 18) rfl ?_); refine goesL_ (some 146) rfl rfl Try.func18 (by kernel_rfl) rfl #[.agg #[.slice A0_0 l0_0.length c0_0, .slice A0_1 l0_1.length c0_1, .slice A0_2 l0_2.length c0_2, .int .i64 a0_3], .int .i64 (wrap64 ((Int.tmod (wrap64 (a3_0)) 4) - 1)), .int .i64 (rd t277 x137_4)] rfl (by (try simp only [List.map_toArray, List.map_cons, List.map_nil]); first | done | rfl | (simp only [List.length_drop, List.length_take]; rfl)) ?_; (with_reducible refine (domain_Of.calls k4 _ _ l0_0 _ _ l0_1 _ _ l0_2 a0_3 (wrap64 ((Int.tmod (wrap64 (a3_0)) 4) - 1)) (rd t277 x137_4) t281 _ ?side1 ?side2 ?side3 ?side4 ?side5 ?side6 A108.out).mono ?_); (case side1 => repeat (first | exact (Kd.C_below HR0_0.out HB.out) | (with_reducible refine Kd.C_alloc ?_ _) | (with_reducible refine Kd.C_drewN ?_ _) | (with_reducible refine Kd.C_drew ?_))); (case side2 => exact HC0_0.out); (case side3 => repeat (first | exact (Kd.C_below HR0_1.out HB.out) | (with_reducible refine Kd.C_alloc ?_ _) | (with_reducible refine Kd.C_drewN ?_ _) | (with_reducible refine Kd.C_drew ?_))); (case side4 => exact HC0_1.out); (case side5 => repeat (first | exact (Kd.C_below HR0_2.out HB.out) | (with_reducible refine Kd.C_alloc ?_ _) | (with_reducible refine Kd.C_drewN ?_ _) | (with_reducible refine Kd.C_drew ?_))); (case side6 => exact HC0_2.out); rintro e w113 ⟨rfl, hb⟩; refine ⟨_, rfl, ?_⟩; have n0_ := Aside0.mk (Kd.R_below (by (with_reducible repeat (first | apply za_ | apply zb_ | apply zc_)); exact HO_19.out) hb); have n1_ := Aside0.mk (Kd.R_below (by (with_reducible repeat (first | apply za_ | apply zb_ | apply zc_)); exact HO_135.out) hb); have n2_ := Aside0.mk (zq_ (g := gb246) (o := .cells #[.slice A0_0 l0_0.length c0_0, .slice A0_1 l0_1.length c0_1, .slice A0_2 l0_2.length c0_2, .int .i64 a0_3] 25 (0, 0)) (by (with_reducible repeat (first | refine zm_ ?_ _ | refine zn_ ?_ | refine zo_ ?_ _)); exact BK246.out) hb); have n3_ := Aside0.mk (zq_ (g := gb247) (o := .cells #[.slice A2_0 l2_0.length c2_0, .slice A2_1 l2_1.length c2_1] 38 (0, 0)) (by (with_reducible repeat (first | refine zm_ ?_ _ | refine zn_ ?_ | refine zo_ ?_ _)); exact BK247.out) hb); have n4_ := Aside0.mk (zq_ (g := gb248) (o := .cells #[.int .u8 a3_0, .int .u8 a3_1] 39 (0, 0)) (by (with_reducible repeat (first | refine zm_ ?_ _ | refine zn_ ?_ | refine zo_ ?_ _)); exact BK248.out) hb); have n5_ := Aside0.mk (zv_ (by repeat (first | (with_reducible first | exact HB.out | apply zs_ | apply zt_ | apply zu_ | refine zr_ ?_ GE246.out | refine zr_ ?_ GE247.out | refine zr_ ?_ GE248.out) | exact HB.out)) hb); clear HO_19; clear HO_135; clear BK246; clear BK247; clear BK248; clear HB; have HO_19 := n0_; have HO_135 := n1_; have BK246 := n2_; have BK247 := n3_; have BK248 := n4_; have HB := n5_; clear n0_ n1_ n2_ n3_ n4_ n5_; (try clear hb); (try clear hb2); (try clear hk); (try clear hi)) | ((with_reducible refine gate_builtin (b := .append) (xs := #[.tmp 141, .tmp 147]) rfl ?_); (try (refine gate_guard (by rfl) ?_; dsimp only)); at_builtin; refine Kd.R_append (Kd.int .i64) (w0 := w) w.heap.size rfl (.tmp 141) (.tmp 147) 22 3 (.int .i64 0) 8 rfl Try.underlying22 info3 rfl (by decide) (by omega) u19 x19_4 t281 [.int .i64 t281] (fun k_ => some k_ ≠ (.slice (some ad280) t277.length co104 : Value).ownBlock) (fun _ => False) rfl rfl ?aP (fun _ hk => hk.elim) ?aF ?aO ?aB ?aS ?aL ?_; (case aP => exact rfl); (case aB => exact (by repeat (first | (with_reducible first | exact HB.out | apply zs_ | apply zt_ | apply zu_ | refine zr_ ?_ GE246.out | refine zr_ ?_ GE247.out | refine zr_ ?_ GE248.out) | exact HB.out))); (case aF => exact (fun k_ hk => Kd.fresh' (zi_ (by (with_reducible repeat (first | apply za_ | apply zb_ | apply zc_)); exact HO_135.out)) k_ hk)); (case aO => exact (by (with_reducible repeat (first | apply za_ | apply zb_ | apply zc_)); exact HO_19.out)); (case aS => exact (zw_ (by repeat (first | (with_reducible first | exact HB.out | apply zs_ | apply zt_ | apply zu_ | refine zr_ ?_ GE246.out | refine zr_ ?_ GE247.out | refine zr_ ?_ GE248.out) | exact HB.out)))); (case aL => have := LMc109.out; omega); intro v283 w114 ho hb hg hat; rw [← Ny282.out] at ho; have n0_ := Aside0.mk (Kd.R_after (ok := (fun _ => True)) (by (with_reducible repeat (first | apply za_ | apply zb_ | apply zc_)); exact zd_ HO_135.out (fun _ hk => ⟨trivial, hk⟩)) hg hat); have n1_ := Aside0.mk (blk_grown (g := gb246) (o := .cells #[.slice A0_0 l0_0.length c0_0, .slice A0_1 l0_1.length c0_1, .slice A0_2 l0_2.length c0_2, .int .i64 a0_3] 25 (0, 0)) (by (with_reducible repeat (first | refine zm_ ?_ _ | refine zn_ ?_ | refine zo_ ?_ _)); exact BK246.out) hg (Kd.R_ne HO_19.out BK246.out (by decide))); have n2_ := Aside0.mk (blk_grown (g := gb247) (o := .cells #[.slice A2_0 l2_0.length c2_0, .slice A2_1 l2_1.length c2_1] 38 (0, 0)) (by (with_reducible repeat (first | refine zm_ ?_ _ | refine zn_ ?_ | refine zo_ ?_ _)); exact BK247.out) hg (Kd.R_ne HO_19.out BK247.out (by decide))); have n3_ := Aside0.mk (blk_grown (g := gb248) (o := .cells #[.int .u8 a3_0, .int .u8 a3_1] 39 (0, 0)) (by (with_reducible repeat (first | refine zm_ ?_ _ | refine zn_ ?_ | refine zo_ ?_ _)); exact BK248.out) hg (Kd.R_ne HO_19.out BK248.out (by decide))); have n4_ := Aside0.mk (hb); have n5_ := Aside0.mk (ho); clear HO_135; clear BK246; clear BK247; clear BK248; clear HB; clear HO_19; have HO_135 := n0_; have BK246 := n1_; have BK247 := n2_; have BK248 := n3_; have HB := n4_; have HO284 := n5_; clear n0_ n1_ n2_ n3_ n4_ n5_; clear ho hb hg hat))
                                        go_roundg k4
                                        case measure => have := HJ4.out; have := HJ37.out; have := HJ72.out; have := HK4.out; omega
                                        case rel => exact ⟨(y282), (wrap64 (x137_4 + 1)), (by first | rfl | (simp; done) | (simp [*]; done)), (by first | exact H' | (simp only [hji90]; exact H') | (rw [hji90]; exact H')), ⟨by have := HJ4.out; have := HJ37.out; have := HJ72.out; have := HK4.out; omega⟩, ⟨by (with_reducible repeat (first | apply za_ | apply zb_ | apply zc_)); exact HO284.out⟩, ⟨by (with_reducible repeat (first | apply za_ | apply zb_ | apply zc_)); exact zd_ HO_135.out (fun _ hk => hk.2)⟩, ⟨by (with_reducible repeat (first | refine zm_ ?_ _ | refine zn_ ?_ | refine zo_ ?_ _)); exact BK246.out⟩, ⟨by (with_reducible repeat (first | refine zm_ ?_ _ | refine zn_ ?_ | refine zo_ ?_ _)); exact BK247.out⟩, ⟨by (with_reducible repeat (first | refine zm_ ?_ _ | refine zn_ ?_ | refine zo_ ?_ _)); exact BK248.out⟩, ⟨by repeat (first | (with_reducible first | exact HB.out | apply zs_ | apply zt_ | apply zu_ | refine zr_ ?_ GE246.out | refine zr_ ?_ GE247.out | refine zr_ ?_ GE248.out) | exact HB.out)⟩⟩
                                      · rw [if_neg c109] at H
                                        exact absurd H (by simp)
                                    · rw [if_neg c107] at H
                                      exact absurd H (by simp)
                                  · rw [if_neg c106] at H
                                    exact absurd H (by simp)
                                · rw [if_neg c105] at H
                                  have c105b0 : decide (x137_4 < (t277.length : Int)) = false := decide_eq_false c105
                                  clear c105
                                  replace H := Option.bind_eq_some_iff.mp H
                                  obtain ⟨t285, A1150, H⟩ := H
                                  replace H : (if t285 = true then ((domain_Left.f k4 l0_0 l0_1 l0_2 a0_3 (wrap64 ((Int.tmod (wrap64 (a3_0)) 4) - 1)) l1 x19_4).bind fun t286 => (some (t269 == t286))) else (none)) = some r := H
                                  have A115 := Aside0.mk A1150
                                  clear A1150
                                  by_cases c116 : t285 = true
                                  · subst c116
                                    have H1 : ((domain_Left.f k4 l0_0 l0_1 l0_2 a0_3 (wrap64 ((Int.tmod (wrap64 (a3_0)) 4) - 1)) l1 x19_4).bind fun t286 => (some (t269 == t286))) = some r := by rw [if_pos rfl] at H; exact H
                                    clear H
                                    have H := H1
                                    clear H1
                                    replace H := Option.bind_eq_some_iff.mp H
                                    obtain ⟨t286, A1170, H⟩ := H
                                    replace H : (some (t269 == t286)) = some r := H
                                    have A117 := Aside0.mk A1170
                                    clear A1170
                                    obtain rfl := Option.some.inj H
                                    go_wp2_with (first | ((with_reducible refine gate_callee (f := 15) rfl ?_); refine goesL_ (some 150) rfl rfl Try.func15 (by kernel_rfl) rfl #[] rfl (by (try simp only [List.map_toArray, List.map_cons, List.map_nil]); first | done | rfl | (simp only [List.length_drop, List.length_take]; rfl)) ?_; (with_reducible refine (quietuslaw10_sanity.calls  true _ A115.out).mono ?_); rintro e w118 ⟨rfl, hb⟩; refine ⟨_, rfl, ?_⟩; have n0_ := Aside0.mk (Kd.R_below (by (with_reducible repeat (first | apply za_ | apply zb_ | apply zc_)); exact HO_19.out) hb); have n1_ := Aside0.mk (Kd.R_below (by (with_reducible repeat (first | apply za_ | apply zb_ | apply zc_)); exact HO_135.out) hb); have n2_ := Aside0.mk (zq_ (g := gb246) (o := .cells #[.slice A0_0 l0_0.length c0_0, .slice A0_1 l0_1.length c0_1, .slice A0_2 l0_2.length c0_2, .int .i64 a0_3] 25 (0, 0)) (by (with_reducible repeat (first | refine zm_ ?_ _ | refine zn_ ?_ | refine zo_ ?_ _)); exact BK246.out) hb); have n3_ := Aside0.mk (zq_ (g := gb247) (o := .cells #[.slice A2_0 l2_0.length c2_0, .slice A2_1 l2_1.length c2_1] 38 (0, 0)) (by (with_reducible repeat (first | refine zm_ ?_ _ | refine zn_ ?_ | refine zo_ ?_ _)); exact BK247.out) hb); have n4_ := Aside0.mk (zq_ (g := gb248) (o := .cells #[.int .u8 a3_0, .int .u8 a3_1] 39 (0, 0)) (by (with_reducible repeat (first | refine zm_ ?_ _ | refine zn_ ?_ | refine zo_ ?_ _)); exact BK248.out) hb); have n5_ := Aside0.mk (zv_ (by repeat (first | (with_reducible first | exact HB.out | apply zs_ | apply zt_ | apply zu_ | refine zr_ ?_ GE246.out | refine zr_ ?_ GE247.out | refine zr_ ?_ GE248.out) | exact HB.out)) hb); clear HO_19; clear HO_135; clear BK246; clear BK247; clear BK248; clear HB; have HO_19 := n0_; have HO_135 := n1_; have BK246 := n2_; have BK247 := n3_; have BK248 := n4_; have HB := n5_; clear n0_ n1_ n2_ n3_ n4_ n5_; (try clear hb); (try clear hb2); (try clear hk); (try clear hi); have hnb119 := NB246_247.out; have hnc119 := NB247_246.out; have hnb120 := NB246_248.out; have hnc120 := NB248_246.out; have hcz121_0 : w118.cell? ⟨gb246, 0, none⟩ = some (.slice A0_0 l0_0.length c0_0) := (blk_cell BK246.out 0).trans rfl; have hcz121_1 : w118.cell? ⟨gb246, 1, none⟩ = some (.slice A0_1 l0_1.length c0_1) := (blk_cell BK246.out 1).trans rfl; have hcz121_2 : w118.cell? ⟨gb246, 2, none⟩ = some (.slice A0_2 l0_2.length c0_2) := (blk_cell BK246.out 2).trans rfl; have hcz121_3 : w118.cell? ⟨gb246, 3, none⟩ = some (.int .i64 a0_3) := (blk_cell BK246.out 3).trans rfl; have hfz121_0 := blk_frozen BK246.out 0; have hfz121_1 := blk_frozen BK246.out 1; have hfz121_2 := blk_frozen BK246.out 2; have hfz121_3 := blk_frozen BK246.out 3; obtain ⟨Ao122, co122, eo122⟩ := Kd.R_slice HO_19.out; subst eo122) | (go_at_call 27; (with_reducible refine (domain_Left.calls k4 _ _ l0_0 _ _ l0_1 _ _ l0_2 a0_3 (wrap64 ((Int.tmod (wrap64 (a3_0)) 4) - 1)) _ _ l1 _ _ x19_4 t286 _ ?side1 ?side2 ?side3 ?side4 ?side5 ?side6 ?side7 ?side8 ?side9 ?side10 A117.out).mono ?_); (case side1 => repeat (first | exact (Kd.C_below HR0_0.out HB.out) | (with_reducible refine Kd.C_alloc ?_ _) | (with_reducible refine Kd.C_drewN ?_ _) | (with_reducible refine Kd.C_drew ?_))); (case side2 => exact HC0_0.out); (case side3 => repeat (first | exact (Kd.C_below HR0_1.out HB.out) | (with_reducible refine Kd.C_alloc ?_ _) | (with_reducible refine Kd.C_drewN ?_ _) | (with_reducible refine Kd.C_drew ?_))); (case side4 => exact HC0_1.out); (case side5 => repeat (first | exact (Kd.C_below HR0_2.out HB.out) | (with_reducible refine Kd.C_alloc ?_ _) | (with_reducible refine Kd.C_drewN ?_ _) | (with_reducible refine Kd.C_drew ?_))); (case side6 => exact HC0_2.out); (case side7 => repeat (first | exact (Kd.C_below HR1.out HB.out) | (with_reducible refine Kd.C_alloc ?_ _) | (with_reducible refine Kd.C_drewN ?_ _) | (with_reducible refine Kd.C_drew ?_))); (case side8 => exact HC1.out); (case side9 => repeat (first | exact (zl_ HO_19.out).2.2 | (with_reducible refine Kd.C_alloc ?_ _) | (with_reducible refine Kd.C_drewN ?_ _) | (with_reducible refine Kd.C_drew ?_))); (case side10 => exact (zl_ HO_19.out).2.1); rintro e w123 ⟨rfl, hb⟩; have n0_ := Aside0.mk (Kd.R_below (by (with_reducible repeat (first | apply za_ | apply zb_ | apply zc_)); exact HO_19.out) hb); have n1_ := Aside0.mk (Kd.R_below (by (with_reducible repeat (first | apply za_ | apply zb_ | apply zc_)); exact HO_135.out) hb); have n2_ := Aside0.mk (zq_ (g := gb246) (o := .cells #[.slice A0_0 l0_0.length c0_0, .slice A0_1 l0_1.length c0_1, .slice A0_2 l0_2.length c0_2, .int .i64 a0_3] 25 (0, 0)) (by (with_reducible repeat (first | refine zm_ ?_ _ | refine zn_ ?_ | refine zo_ ?_ _)); exact BK246.out) hb); have n3_ := Aside0.mk (zq_ (g := gb247) (o := .cells #[.slice A2_0 l2_0.length c2_0, .slice A2_1 l2_1.length c2_1] 38 (0, 0)) (by (with_reducible repeat (first | refine zm_ ?_ _ | refine zn_ ?_ | refine zo_ ?_ _)); exact BK247.out) hb); have n4_ := Aside0.mk (zq_ (g := gb248) (o := .cells #[.int .u8 a3_0, .int .u8 a3_1] 39 (0, 0)) (by (with_reducible repeat (first | refine zm_ ?_ _ | refine zn_ ?_ | refine zo_ ?_ _)); exact BK248.out) hb); have n5_ := Aside0.mk (zv_ (by repeat (first | (with_reducible first | exact HB.out | apply zs_ | apply zt_ | apply zu_ | refine zr_ ?_ GE246.out | refine zr_ ?_ GE247.out | refine zr_ ?_ GE248.out) | exact HB.out)) hb); clear HO_19; clear HO_135; clear BK246; clear BK247; clear BK248; clear HB; have HO_19 := n0_; have HO_135 := n1_; have BK246 := n2_; have BK247 := n3_; have BK248 := n4_; have HB := n5_; clear n0_ n1_ n2_ n3_ n4_ n5_; (try clear hb); (try clear hb2); (try clear hk); (try clear hi)))
                                    go_ret
                                    exact ⟨by first | rfl | (simp [errW_none, errW_some] <;> rfl) | (simp [*, errW_none, errW_some] <;> rfl), by repeat (first | (with_reducible first | exact HB.out | apply zs_ | apply zt_ | apply zu_ | refine zr_ ?_ GE246.out | refine zr_ ?_ GE247.out | refine zr_ ?_ GE248.out) | exact HB.out)⟩
                                  · replace c116 := Bool.eq_false_iff.mpr c116
                                    subst c116
                                    have H1 : (none) = some r := by rw [if_neg (show ¬ (false = true) by decide)] at H; exact H
                                    clear H
                                    have H := H1
                                    clear H1
                                    exact absurd H (by simp)
          · rw [if_neg c36] at H
            exact absurd H (by simp)
        · rw [if_neg c35] at H
          exact absurd H (by simp)

end Go.Proofs.Yteknbadjfojmbaa.QA
