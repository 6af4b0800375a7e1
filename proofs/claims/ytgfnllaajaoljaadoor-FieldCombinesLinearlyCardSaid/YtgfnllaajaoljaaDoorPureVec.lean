-- What this claim does not use was left out by prune.py, a program of this session.
import Derived.Test.YtgfnllaajaoljaaDoorQA3
import Derived.Test.YtgfnllaajaoljaaDoorQA3
import Derived.Test.YtgfnllaajaoljaaDoorQA7
import Derived.Test.YtgfnllaajaoljaaDoorQA6
import Derived.Test.YtgfnllaajaoljaaDoorQA7
import Derived.Test.YtgfnllaajaoljaaDoorQA7
import Derived.Test.YtgfnllaajaoljaaDoorQA6
import Derived.Test.YtgfnllaajaoljaaDoorPureGf
namespace Go.Proofs.YtgfnllaajaoljaaDoor.QA
open Go.RowKit Go.Proofs.YtgfnllaajaoljaaDoorW.PrintWords Go.Proofs.YtgfnllaajaoljaaDoorW.PrintLast Go.Proofs.YtgfnllaajaoljaaDoorW.PrintMore
attribute [local go_sem] max2_int min2_int max_two min_two max_three min_three max_four min_four
set_option linter.unusedVariables false
set_option linter.unusedSimpArgs false
def vec (n : Nat) (F : Nat → Nat) : ByteArray := strOfNums ((List.range n).map fun k => ((F k : Nat) : Int))
theorem vec_size (n : Nat) (F : Nat → Nat) : (vec n F).size = n := by unfold vec; rw [strOfNums_size]; simp
theorem vec_congr {n m : Nat} {F G : Nat → Nat} (hn : n = m) (h : ∀ k, k < n → F k = G k) : vec n F = vec m G := by
  subst hn
  unfold vec
  congr 1
  apply List.map_congr_left
  intro k hk
  rw [h k (List.mem_range.1 hk)]
def byt (s : ByteArray) (k : Nat) : Nat := (bt s (k : Int)).toNat
theorem byt_lt (s : ByteArray) (k : Nat) : byt s k < 256 := by have := bt_range s (k : Int); unfold byt; omega
theorem byt_bt (s : ByteArray) (k : Nat) : bt s (k : Int) = ((byt s k : Nat) : Int) := by have := bt_range s (k : Int); unfold byt; omega
theorem byt_out (s : ByteArray) (k : Nat) (h : s.size ≤ k) : byt s k = 0 := by
  unfold byt bt
  rw [dif_neg (by simp; omega)]
  rfl
theorem byt_in (s : ByteArray) (k : Nat) (h : k < s.size) : byt s k = (s[k]'h).toNat := by
  unfold byt
  rw [← bt_nat s k h]
  rfl
theorem byt_vec (n : Nat) (F : Nat → Nat) (hF : ∀ k, k < n → F k < 256) (k : Nat) : byt (vec n F) k = if k < n then F k else 0 := by
  split
  · rename_i h
    have h2 : k < (vec n F).size := by rw [vec_size]; exact h
    rw [byt_in _ _ h2]
    have hl : (vec n F).data.toList = ((List.range n).map fun k => ((F k : Nat) : Int)).map fun m => UInt8.ofNat m.toNat := strOfNums_data _
    have e : (vec n F)[k] = UInt8.ofNat (F k) := by
      have e1 : (vec n F).data.toList[k]? = some (UInt8.ofNat (F k)) := by rw [hl]; simp [h]
      have e2 : (vec n F).data.toList[k]? = some ((vec n F)[k]) := by
        have h3 : k < (vec n F).data.toList.length := by rw [Array.length_toList]; exact h2
        rw [List.getElem?_eq_getElem h3, Array.getElem_toList]
        rfl
      exact Option.some.inj (e2.symm.trans e1)
    rw [e, UInt8.toNat_ofNat']
    exact Nat.mod_eq_of_lt (hF k h)
  · exact byt_out _ _ (by rw [vec_size]; omega)
theorem strOfNums_vec (n : Nat) (F : Nat → Nat) (G : Nat → Int) (h : ∀ k, k < n → G k = ((F k : Nat) : Int)) : strOfNums ((List.range n).map G) = vec n F := by
  unfold vec
  congr 1
  apply List.map_congr_left
  intro k hk
  exact h k (List.mem_range.1 hk)
def sumB (a b : ByteArray) : ByteArray := vec (max a.size b.size) (fun k => byt a k ^^^ byt b k)
theorem sumB_size (a b : ByteArray) : (sumB a b).size = max a.size b.size := vec_size _ _
theorem byt_sumB (a b : ByteArray) (k : Nat) : byt (sumB a b) k = byt a k ^^^ byt b k := by
  unfold sumB
  rw [byt_vec _ _ (fun k _ => xor256 _ _ (byt_lt a k) (byt_lt b k))]
  split
  · rfl
  · rw [byt_out a k (by omega), byt_out b k (by omega)]; rfl
theorem sum_some (a b : ByteArray) (ha : a.size ≤ 140737488351232) (hb : b.size ≤ 140737488351232) : gf_Sum.f a b = some (sumB a b) := by
  have hat : ∀ (x y : ByteArray) (k : Nat), gf_Sum.at_ x y k = ((byt x k ^^^ byt y k : Nat) : Int) := by
    intro x y k
    unfold gf_Sum.at_
    rw [byt_bt, byt_bt]
    split
    · exact xor8 _ _ (byt_lt x k) (byt_lt y k)
    · rw [byt_out y k (by omega), Nat.xor_zero]
  unfold gf_Sum.f
  rw [if_pos ha, if_pos hb]
  split
  · rw [strOfNums_vec b.size (fun k => byt a k ^^^ byt b k) _ (fun k _ => by rw [hat, Nat.xor_comm])]
    congr 1
    exact vec_congr (by omega) (fun _ _ => rfl)
  · rw [strOfNums_vec a.size (fun k => byt a k ^^^ byt b k) _ (fun k _ => hat a b k)]
    congr 1
    exact vec_congr (by omega) (fun _ _ => rfl)
theorem range_snoc {α : Type} (i : Nat) (F : Nat → α) : (List.range i).map F ++ [F i] = (List.range (i + 1)).map F := by rw [List.range_succ]; simp
def scaleB (c : Nat) (s : ByteArray) : ByteArray := vec s.size (fun k => gmul c (byt s k))
theorem scale_some (c : Nat) (s : ByteArray) (hc : c < 256) (hs : s.size ≤ 140737488351232) : gf_Scale.f (c : Int) s = some (scaleB c s) := by
  unfold gf_Scale.f
  rw [if_pos ⟨by omega, by omega, hs⟩]
  rw [strOfNums_vec s.size (fun k => gmul c (byt s k)) (gf_Scale.at_ (c : Int) s) (fun k _ => by unfold gf_Scale.at_; rw [Int.toNat_natCast]; rfl)]
  rfl
theorem rd_nat (l : List Int) (i : Nat) : rd l (i : Int) = l.getD i 0 := by unfold rd; rw [Int.toNat_natCast]
theorem rdOf_nat {α : Type} (d : α) (l : List α) (i : Nat) : rdOf d l (i : Int) = l.getD i d := by unfold rdOf; rw [Int.toNat_natCast]
def combB (l : List Int) (p : List ByteArray) : ByteArray := vec (gf_Combine.len p) (fun k => combN l p k l.length)
theorem combine_some (l : List Int) (p : List ByteArray) (hl : l.length = p.length) (he : gf_Combine.even p = true) (hb : gf_Combine.bytes l = true) (hm : gf_Combine.len p ≤ 140737488351232) :
    gf_Combine.f l p = some (combB l p, 0) := by
  unfold gf_Combine.f
  rw [if_pos hl, if_pos he, if_pos ⟨hb, hm⟩]
  rfl
end Go.Proofs.YtgfnllaajaoljaaDoor.QA
