import Derived.Test.YtgfnllaajaoljaaQA1
import Derived.Test.YtgfnllaajaoljaaQA2
import Derived.Test.YtgfnllaajaoljaaQA3
import Derived.Test.YtgfnllaajaoljaaQA6
import Derived.Test.YtgfnllaajaoljaaQA7
namespace Go.Proofs.Ytgfnllaajaoljaa.QA
open Go.RowKit Go.Proofs.YtgfnllaajaoljaaW.PrintWords Go.Proofs.YtgfnllaajaoljaaW.PrintLast Go.Proofs.YtgfnllaajaoljaaW.PrintMore
attribute [local go_sem] max2_int min2_int max_two min_two max_three min_three max_four min_four
set_option linter.unusedVariables false
set_option linter.unusedSimpArgs false
theorem Ev.pos_ {α : Type} {c : Prop} [Decidable c] {A B : Nat → Option α} {r : α} (h : c) (k : Ev A r) : Ev (fun n => if c then A n else B n) r := by simpa only [if_pos h] using k
theorem Ev.neg_ {α : Type} {c : Prop} [Decidable c] {A B : Nat → Option α} {r : α} (h : ¬ c) (k : Ev B r) : Ev (fun n => if c then A n else B n) r := by simpa only [if_neg h] using k
theorem Ev.const_ {α : Type} {o : Option α} {r : α} (h : o = some r) : Ev (fun _ => o) r := ⟨0, fun _ _ => h⟩
theorem Ev.known_ {α β : Type} {o : Option α} {f : Nat → α → Option β} {a : α} {r : β} (h : o = some a) (k : Ev (fun n => f n a) r) : Ev (fun n => o.bind (f n)) r := Ev.bind (Ev.const_ h) k
theorem Ev.eq_ {α : Type} {g : Nat → Option α} {r r' : α} (h : Ev g r) (e : r = r') : Ev g r' := e ▸ h
theorem Ev.uniq_ {α : Type} {g : Nat → Option α} {r r' : α} (h : Ev g r) (h' : Ev g r') : r = r' := by
  obtain ⟨k, hk⟩ := h
  obtain ⟨k', hk'⟩ := h'
  have a := hk (max k k') (by omega)
  have b := hk' (max k k') (by omega)
  rw [a] at b
  exact Option.some.inj b
theorem w64 {n : Int} (h0 : -9223372036854775808 ≤ n) (h1 : n < 9223372036854775808) : wrap64 n = n := by unfold wrap64; omega
theorem xor8 (a b : Nat) (ha : a < 256) (hb : b < 256) : Go.bits .xor .u8 (a : Int) (b : Int) = ((a ^^^ b : Nat) : Int) := by
  have hx := Nat.xor_lt_two_pow (n := 8) ha hb
  show IntKind.u8.wrap ((BitVec.ofInt 8 (a : Int) ^^^ BitVec.ofInt 8 (b : Int)).toNat : Int) = _
  rw [BitVec.toNat_xor, BitVec.ofInt_natCast, BitVec.ofInt_natCast, BitVec.toNat_ofNat, BitVec.toNat_ofNat, Nat.mod_eq_of_lt (show a < 2 ^ 8 by omega), Nat.mod_eq_of_lt (show b < 2 ^ 8 by omega), IntKind.wrap_u8]
  omega
theorem xor256 (a b : Nat) (ha : a < 256) (hb : b < 256) : a ^^^ b < 256 := Nat.xor_lt_two_pow (n := 8) ha hb
/-! Strings as vectors of bytes. -/
def vec (n : Nat) (F : Nat → Nat) : ByteArray := strOfNums ((List.range n).map fun k => ((F k : Nat) : Int))
theorem vec_size (n : Nat) (F : Nat → Nat) : (vec n F).size = n := by unfold vec; rw [strOfNums_size]; simp
theorem vec_congr {n m : Nat} {F G : Nat → Nat} (hn : n = m) (h : ∀ k, k < n → F k = G k) : vec n F = vec m G := by
  subst hn
  unfold vec
  congr 1
  apply List.map_congr_left
  intro k hk
  rw [h k (List.mem_range.1 hk)]
theorem bt_nn (s : ByteArray) (k : Int) : ∃ m : Nat, bt s k = (m : Int) ∧ m < 256 ∧ (bt s k).toNat = m := by
  have := bt_range s k
  exact ⟨(bt s k).toNat, by omega, by omega, rfl⟩
/-- The byte at a place, 0 behind the end. -/
def byt (s : ByteArray) (k : Nat) : Nat := (bt s (k : Int)).toNat
theorem byt_lt (s : ByteArray) (k : Nat) : byt s k < 256 := by have := bt_range s (k : Int); unfold byt; omega
theorem byt_bt (s : ByteArray) (k : Nat) : bt s (k : Int) = ((byt s k : Nat) : Int) := by have := bt_range s (k : Int); unfold byt; omega
theorem byt_out (s : ByteArray) (k : Nat) (h : s.size ≤ k) : byt s k = 0 := by
  unfold byt bt
  rw [dif_neg (by simp; omega)]
  rfl
theorem byt_in (s : ByteArray) (k : Nat) (h : k < s.size) : byt s k = (s[k]'h).toNat := by
  unfold byt
  rw [← bt_nat s k h]
  rfl
theorem byt_vec (n : Nat) (F : Nat → Nat) (hF : ∀ k, k < n → F k < 256) (k : Nat) : byt (vec n F) k = if k < n then F k else 0 := by
  split
  · rename_i h
    have h2 : k < (vec n F).size := by rw [vec_size]; exact h
    rw [byt_in _ _ h2]
    have hl : (vec n F).data.toList = ((List.range n).map fun k => ((F k : Nat) : Int)).map fun m => UInt8.ofNat m.toNat := strOfNums_data _
    have e : (vec n F)[k] = UInt8.ofNat (F k) := by
      have e1 : (vec n F).data.toList[k]? = some (UInt8.ofNat (F k)) := by rw [hl]; simp [h]
      have e2 : (vec n F).data.toList[k]? = some ((vec n F)[k]) := by
        have h3 : k < (vec n F).data.toList.length := by rw [Array.length_toList]; exact h2
        rw [List.getElem?_eq_getElem h3, Array.getElem_toList]
        rfl
      exact Option.some.inj (e2.symm.trans e1)
    rw [e, UInt8.toNat_ofNat']
    exact Nat.mod_eq_of_lt (hF k h)
  · exact byt_out _ _ (by rw [vec_size]; omega)
theorem str_ext {s t : ByteArray} (hs : s.size = t.size) (h : ∀ k, k < s.size → byt s k = byt t k) : s = t := by
  apply ByteArray.ext
  apply Array.ext
  · exact hs
  · intro i h1 h2
    have := h i h1
    rw [byt_in s i h1, byt_in t i h2] at this
    exact UInt8.toNat_inj.1 this
theorem vec_self (s : ByteArray) : vec s.size (byt s) = s := by
  apply str_ext (vec_size _ _)
  intro k hk
  rw [vec_size] at hk
  rw [byt_vec _ _ (fun k _ => byt_lt s k), if_pos hk]
theorem vec_zero (F : Nat → Nat) : vec 0 F = ⟨#[]⟩ := rfl
theorem strOfNums_vec (n : Nat) (F : Nat → Nat) (G : Nat → Int) (h : ∀ k, k < n → G k = ((F k : Nat) : Int)) : strOfNums ((List.range n).map G) = vec n F := by
  unfold vec
  congr 1
  apply List.map_congr_left
  intro k hk
  exact h k (List.mem_range.1 hk)
/-- The sum of two strings. -/
def sumB (a b : ByteArray) : ByteArray := vec (max a.size b.size) (fun k => byt a k ^^^ byt b k)
theorem sumB_size (a b : ByteArray) : (sumB a b).size = max a.size b.size := vec_size _ _
theorem byt_sumB (a b : ByteArray) (k : Nat) : byt (sumB a b) k = byt a k ^^^ byt b k := by
  unfold sumB
  rw [byt_vec _ _ (fun k _ => xor256 _ _ (byt_lt a k) (byt_lt b k))]
  split
  · rfl
  · rw [byt_out a k (by omega), byt_out b k (by omega)]; rfl
theorem sum_some (a b : ByteArray) (ha : a.size ≤ 140737488351232) (hb : b.size ≤ 140737488351232) : gf_Sum.f a b = some (sumB a b) := by
  have hat : ∀ (x y : ByteArray) (k : Nat), gf_Sum.at_ x y k = ((byt x k ^^^ byt y k : Nat) : Int) := by
    intro x y k
    unfold gf_Sum.at_
    rw [byt_bt, byt_bt]
    split
    · exact xor8 _ _ (byt_lt x k) (byt_lt y k)
    · rw [byt_out y k (by omega), Nat.xor_zero]
  unfold gf_Sum.f
  rw [if_pos ha, if_pos hb]
  split
  · rw [strOfNums_vec b.size (fun k => byt a k ^^^ byt b k) _ (fun k _ => by rw [hat, Nat.xor_comm])]
    congr 1
    exact vec_congr (by omega) (fun _ _ => rfl)
  · rw [strOfNums_vec a.size (fun k => byt a k ^^^ byt b k) _ (fun k _ => hat a b k)]
    congr 1
    exact vec_congr (by omega) (fun _ _ => rfl)
theorem rat_some (s : ByteArray) (k : Nat) : quietusref04_at.f s (k : Int) = some ((byt s k : Nat) : Int) := by
  unfold quietusref04_at.f
  split
  · rw [if_pos (by omega), byt_bt]
  · rw [byt_out s k (by omega)]; rfl
theorem range_snoc {α : Type} (i : Nat) (F : Nat → α) : (List.range i).map F ++ [F i] = (List.range (i + 1)).map F := by rw [List.range_succ]; simp
theorem mx_nat (a b : Nat) : mx (a : Int) (b : Int) = ((max a b : Nat) : Int) := by unfold mx; split <;> omega
theorem rSum_l (a b : ByteArray) (ha : a.size ≤ 140737488351232) (hb : b.size ≤ 140737488351232) : ∀ (d i : Nat), i + d = max a.size b.size →
    Ev (fun k => quietusref04_Sum.l0 k a b ((List.range i).map fun k => ((byt a k ^^^ byt b k : Nat) : Int)) (i : Int)) (sumB a b) := by
  intro d
  induction d with
  | zero =>
    intro i hi
    refine Ev.step (fun k => by rw [quietusref04_Sum.l0]) ?_
    rw [mx_nat]
    refine Ev.neg_ (by omega) (Ev.eq_ (Ev.now _) ?_)
    exact vec_congr (by omega) (fun _ _ => rfl)
  | succ d ih =>
    intro i hi
    refine Ev.step (fun k => by rw [quietusref04_Sum.l0]) ?_
    rw [mx_nat]
    refine Ev.pos_ (by omega) (Ev.known_ (rat_some a i) (Ev.known_ (rat_some b i) (Ev.pos_ (by simp; omega) ?_)))
    rw [xor8 _ _ (byt_lt a i) (byt_lt b i), w64 (by omega) (by omega), range_snoc i (fun k => ((byt a k ^^^ byt b k : Nat) : Int))]
    exact ih (i + 1) (by omega)
theorem rSum_ev (a b : ByteArray) (ha : a.size ≤ 140737488351232) (hb : b.size ≤ 140737488351232) : Ev (fun k => quietusref04_Sum.f k a b) (sumB a b) := rSum_l a b ha hb (max a.size b.size) 0 (by omega)

end Go.Proofs.Ytgfnllaajaoljaa.QA
