-- What this claim does not use was left out by prune.py, a program of this session.
import Derived.Test.YtgfnllaajaoljaaDoorQA0
import Derived.Test.YtgfnllaajaoljaaDoorQA2
import Derived.Test.YtgfnllaajaoljaaDoorQA3
import Derived.Test.YtgfnllaajaoljaaDoorQA6
namespace Go.Proofs.YtgfnllaajaoljaaDoor.QA
open Go.RowKit Go.Proofs.YtgfnllaajaoljaaDoorW.PrintWords Go.Proofs.YtgfnllaajaoljaaDoorW.PrintLast Go.Proofs.YtgfnllaajaoljaaDoorW.PrintMore
attribute [local go_sem] max2_int min2_int max_two min_two max_three min_three max_four min_four
set_option linter.unusedVariables false
set_option linter.unusedSimpArgs false
def gf_Scale.at_ (c : Int) (s : ByteArray) (k : Nat) : Int := ((gmul c.toNat (bt s k).toNat : Nat) : Int)
def gf_Scale.f (a0 : Int) (a1 : ByteArray) : Option ByteArray :=
  if 0 ≤ a0 ∧ a0 < 256 ∧ a1.size ≤ 140737488351232 then some (strOfNums ((List.range a1.size).map (gf_Scale.at_ a0 a1))) else none
theorem gf_Scale_1h.calls (c : Int) (s : ByteArray) (pc ps : Nat) (k : Nat) (w : World) (hc : w.cell? ⟨pc, 0, none⟩ = some (.int .u8 c)) (hs : w.cell? ⟨ps, 0, none⟩ = some (.string s)) (hk : k < s.size) (hmax : s.size ≤ 140737488351232) (h0 : 0 ≤ c) (h1 : c < 256) (hrG : Kd.C (Kd.int .u8) w (some ⟨0, 0, none⟩) 16 highTbl) :
    Calls Tryd.prog 55 #[.int .i64 (k : Int), .pointer (some ⟨pc, 0, none⟩), .pointer (some ⟨ps, 0, none⟩)] w fun e w' => e = .returned (.int .u8 (gf_Scale.at_ c s k)) ∧ Drawn0 w w' := by
  have i0 : (0 : Int) ≤ (k : Int) := by omega
  have i1 : (k : Int) < (s.size : Int) := by omega
  have hm : Aside0 (gf_MulW.f c ((s[k]'hk).toNat : Int) = some (gf_Scale.at_ c s k)) := ⟨by
    have hb := bt_range s (k : Int)
    rw [bt_nat s k hk]
    unfold gf_MulW.f gf_Scale.at_
    rw [if_pos ⟨h0, h1, hb.1, by omega⟩]⟩
  have HRG := Aside0.mk hrG
  clear hrG
  go_enter Tryd.func55, Tryd.ntmps55
  go_wp2
  go_quiet ((go_at_call 16; (with_reducible refine (gf_MulW.calls _ _ _ _ ?sideG hm.out).mono ?_); (case sideG => repeat (first | exact HRG.out | (with_reducible refine Kd.C_drewN ?_ _) | (with_reducible refine Kd.C_drew ?_))); rintro e w' ⟨rfl, ⟨nd, rfl⟩⟩; (try first | exact ⟨rfl, _, World.drewN_drewN _ _ _⟩ | exact ⟨rfl, _, Eq.trans (World.drewN_drewN _ _ _) (congrArg (World.drewN _) (Nat.add_assoc _ _ _))⟩)))
  go_wp2
  go_ret
  exact ⟨rfl, ⟨⟨_, rfl⟩⟩⟩
theorem gf_Scale.calls (a0 : Int) (a1 : ByteArray) (r : ByteArray) (w : World) (hrG : Kd.C (Kd.int .u8) w (some ⟨0, 0, none⟩) 16 highTbl) (h : gf_Scale.f a0 a1 = some r) :
    Calls Tryd.prog 28 #[.int .u8 a0, .string a1] w fun e w' => e = .returned (.string r) ∧ Below w.heap.size w w' := by
  have H : (if 0 ≤ a0 ∧ a0 < 256 ∧ a1.size ≤ 140737488351232 then some (strOfNums ((List.range a1.size).map (gf_Scale.at_ a0 a1))) else none) = some r := h
  clear h
  by_cases hc : 0 ≤ a0 ∧ a0 < 256 ∧ a1.size ≤ 140737488351232
  · rw [if_pos hc] at H
    obtain rfl := Option.some.inj H
    clear H
    have HRG := Aside0.mk hrG
    clear hrG
    have hmf : ∀ (fn : Fn) (first cap : Array Value) (w : World), (Instr.makeFunc fn first cap).run Tryd.prog w = .ok (.func fn first cap) w := fun _ _ _ _ => rfl
    obtain ⟨h0, h1, h2⟩ := hc
    go_enter Tryd.func28, Tryd.ntmps28
    go_wp2_with fail
    refine (gf_build.calls a1.size 55 #[.pointer (some ⟨w.heap.size, 0, none⟩), .pointer (some ⟨w.heap.size + 1, 0, none⟩)] (gf_Scale.at_ a0 a1) _ h2 (enters_fn Tryd.func55 (by kernel_rfl) rfl) ?hcl).mono ?_
    case hcl =>
      intro k hk W hb
      refine gf_Scale_1h.calls a0 a1 w.heap.size (w.heap.size + 1) k W ((hb.cell (p := ⟨w.heap.size, 0, none⟩) (by simp; omega)).trans (by simp [go_sem])) ((hb.cell (p := ⟨w.heap.size + 1, 0, none⟩) (by simp)).trans (by simp [go_sem])) hk h2 h0 h1 ?_
      exact Kd.C_below (Kd.C_alloc (Kd.C_alloc HRG.out _) _) hb
    rintro e w' ⟨rfl, hb⟩
    have hB := Aside0.mk ((((Below.refl w.heap.size w).alloc (Nat.le_refl _) _).alloc (by simp) _).trans (hb.mono (by simp; omega)))
    clear hb
    go_wp2
    go_ret
    exact ⟨rfl, hB.out⟩
  · rw [if_neg hc] at H; cases H
end Go.Proofs.YtgfnllaajaoljaaDoor.QA
