-- What this claim does not use was left out by prune.py, a program of this session.
import Derived.Test.YteknbadjfojmbaaQA0
namespace Go.Proofs.Yteknbadjfojmbaa.QA
open Go.RowKit Go.Proofs.YteknbadjfojmbaaW.PrintWords Go.Proofs.YteknbadjfojmbaaW.PrintLast Go.Proofs.YteknbadjfojmbaaW.PrintMore
attribute [local go_sem] max2_int min2_int max_two min_two max_three min_three max_four min_four
set_option linter.unusedVariables false
set_option linter.unusedSimpArgs false
def quietusref14_instant.f (a0 : Int) : Option (Bool) := if a0 ≥ 0 then (some (decide (a0 ≤ 3600000000))) else (some false)
open Go.Proofs.YteknbadjfojmbaaW.PrintWords renaming blk_drewN → zm_, blk_drew → zn_, blk_alloc → zo_, below_set → zr_, below_alloc → zs_, pw_below_drewN → zt_, below_drew1 → zu_, below_step → zv_, below_size → zw_
def quietusref14_Valid.f (a0_0 : Int) (a0_1 : Int) : Option (Bool) := (quietusref14_instant.f a0_0).bind fun t454 => ((quietusref14_instant.f a0_1).bind fun t455 => (if t454 = true then (if t455 = true then (some (decide (a0_0 ≤ a0_1))) else (some false)) else (some false)))
def quietusref14_read.f (a0_0 : Int) (a0_1 : Int) (a0_2 : Int) : Option (Bool) := (quietusref14_instant.f a0_0).bind fun t457 => ((quietusref14_Valid.f a0_1 a0_2).bind fun t458 => (if t457 = true then (some t458) else (some false)))
open Go.Proofs.YteknbadjfojmbaaW.PrintWords renaming blk_drewN → zm_, blk_drew → zn_, blk_alloc → zo_, blk_below → zq_, below_set → zr_, below_alloc → zs_, pw_below_drewN → zt_, below_drew1 → zu_, below_step → zv_, below_size → zw_
mutual
def quietusref14_Check.j0 : Nat → Bool → Int → List (S58) → Option (Int)
  | 0, _, _, _ => none
  | k + 1, x12, x460000, x460001 => if x12 = true then (some 3) else (if (x460001.length : Int) > 16 then (some 2) else (quietusref14_Check.l0 k 0 x460000 x460001))
def quietusref14_Check.l0 : Nat → Int → Int → List (S58) → Option (Int)
  | 0, _, _, _ => none
  | k + 1, x3, x460000, x460001 => if x3 < (x460001.length : Int) then (if 0 ≤ x3 then ((quietusref14_read.f ((rd_T58 x460001 x3).f0) ((rd_T58 x460001 x3).f1.f0) ((rd_T58 x460001 x3).f1.f1)).bind fun t461 => (if t461 = true then (if x3 > 0 then (if 0 ≤ (wrap64 (x3 - 1)) then (if (wrap64 (x3 - 1)) < (x460001.length : Int) then (if ((rd_T58 x460001 x3).f0) ≤ ((rd_T58 x460001 (wrap64 (x3 - 1))).f0) then (some 1) else (quietusref14_Check.l0 k (wrap64 (x3 + 1)) x460000 x460001)) else (none)) else (none)) else (quietusref14_Check.l0 k (wrap64 (x3 + 1)) x460000 x460001)) else (some 3))) else (none)) else (some 0)
end
def quietusref14_Check.f (k : Nat) (a0_0 : Int) (l0_1 : List (S58)) : Option (Int) := if a0_0 < 0 then (quietusref14_Check.j0 k true a0_0 l0_1) else (quietusref14_Check.j0 k (decide (a0_0 > 100000)) a0_0 l0_1)
open Go.Proofs.YteknbadjfojmbaaW.PrintWords renaming blk_drewN → zm_, blk_drew → zn_, blk_alloc → zo_, blk_below → zq_, below_set → zr_, below_alloc → zs_, pw_below_drewN → zt_, below_drew1 → zu_, below_step → zv_, below_size → zw_
end Go.Proofs.Yteknbadjfojmbaa.QA
