/- Proved here: strings of bytes as vectors; Sum, Scale and Combine of package gf and of its specification. No condition. -/
import Derived.Test.YtgfnllaajaoljaaDoorQA2
import Derived.Test.YtgfnllaajaoljaaDoorQA3
import Derived.Test.YtgfnllaajaoljaaDoorQA4
import Derived.Test.YtgfnllaajaoljaaDoorQA5
import Derived.Test.YtgfnllaajaoljaaDoorQA8
import Derived.Test.YtgfnllaajaoljaaDoorQA9
import Derived.Test.YtgfnllaajaoljaaDoorPureGf
namespace Go.Proofs.YtgfnllaajaoljaaDoor.QA
open Go.RowKit Go.Proofs.YtgfnllaajaoljaaDoorW.PrintWords Go.Proofs.YtgfnllaajaoljaaDoorW.PrintLast Go.Proofs.YtgfnllaajaoljaaDoorW.PrintMore
attribute [local go_sem] max2_int min2_int max_two min_two max_three min_three max_four min_four
set_option linter.unusedVariables false
set_option linter.unusedSimpArgs false
/-! Strings as vectors of bytes. -/
def vec (n : Nat) (F : Nat → Nat) : ByteArray := strOfNums ((List.range n).map fun k => ((F k : Nat) : Int))
theorem vec_size (n : Nat) (F : Nat → Nat) : (vec n F).size = n := by unfold vec; rw [strOfNums_size]; simp
theorem vec_congr {n m : Nat} {F G : Nat → Nat} (hn : n = m) (h : ∀ k, k < n → F k = G k) : vec n F = vec m G := by
  subst hn
  unfold vec
  congr 1
  apply List.map_congr_left
  intro k hk
  rw [h k (List.mem_range.1 hk)]
theorem bt_nn (s : ByteArray) (k : Int) : ∃ m : Nat, bt s k = (m : Int) ∧ m < 256 ∧ (bt s k).toNat = m := by
  have := bt_range s k
  exact ⟨(bt s k).toNat, by omega, by omega, rfl⟩
/-- The byte at a place, 0 behind the end. -/
def byt (s : ByteArray) (k : Nat) : Nat := (bt s (k : Int)).toNat
theorem byt_lt (s : ByteArray) (k : Nat) : byt s k < 256 := by have := bt_range s (k : Int); unfold byt; omega
theorem byt_bt (s : ByteArray) (k : Nat) : bt s (k : Int) = ((byt s k : Nat) : Int) := by have := bt_range s (k : Int); unfold byt; omega
theorem byt_out (s : ByteArray) (k : Nat) (h : s.size ≤ k) : byt s k = 0 := by
  unfold byt bt
  rw [dif_neg (by simp; omega)]
  rfl
theorem byt_in (s : ByteArray) (k : Nat) (h : k < s.size) : byt s k = (s[k]'h).toNat := by
  unfold byt
  rw [← bt_nat s k h]
  rfl
theorem byt_vec (n : Nat) (F : Nat → Nat) (hF : ∀ k, k < n → F k < 256) (k : Nat) : byt (vec n F) k = if k < n then F k else 0 := by
  split
  · rename_i h
    have h2 : k < (vec n F).size := by rw [vec_size]; exact h
    rw [byt_in _ _ h2]
    have hl : (vec n F).data.toList = ((List.range n).map fun k => ((F k : Nat) : Int)).map fun m => UInt8.ofNat m.toNat := strOfNums_data _
    have e : (vec n F)[k] = UInt8.ofNat (F k) := by
      have e1 : (vec n F).data.toList[k]? = some (UInt8.ofNat (F k)) := by rw [hl]; simp [h]
      have e2 : (vec n F).data.toList[k]? = some ((vec n F)[k]) := by
        have h3 : k < (vec n F).data.toList.length := by rw [Array.length_toList]; exact h2
        rw [List.getElem?_eq_getElem h3, Array.getElem_toList]
        rfl
      exact Option.some.inj (e2.symm.trans e1)
    rw [e, UInt8.toNat_ofNat']
    exact Nat.mod_eq_of_lt (hF k h)
  · exact byt_out _ _ (by rw [vec_size]; omega)
theorem str_ext {s t : ByteArray} (hs : s.size = t.size) (h : ∀ k, k < s.size → byt s k = byt t k) : s = t := by
  apply ByteArray.ext
  apply Array.ext
  · exact hs
  · intro i h1 h2
    have := h i h1
    rw [byt_in s i h1, byt_in t i h2] at this
    exact UInt8.toNat_inj.1 this
theorem vec_self (s : ByteArray) : vec s.size (byt s) = s := by
  apply str_ext (vec_size _ _)
  intro k hk
  rw [vec_size] at hk
  rw [byt_vec _ _ (fun k _ => byt_lt s k), if_pos hk]
theorem vec_zero (F : Nat → Nat) : vec 0 F = ⟨#[]⟩ := rfl
theorem strOfNums_vec (n : Nat) (F : Nat → Nat) (G : Nat → Int) (h : ∀ k, k < n → G k = ((F k : Nat) : Int)) : strOfNums ((List.range n).map G) = vec n F := by
  unfold vec
  congr 1
  apply List.map_congr_left
  intro k hk
  exact h k (List.mem_range.1 hk)
/-- The sum of two strings. -/
def sumB (a b : ByteArray) : ByteArray := vec (max a.size b.size) (fun k => byt a k ^^^ byt b k)
theorem sumB_size (a b : ByteArray) : (sumB a b).size = max a.size b.size := vec_size _ _
theorem byt_sumB (a b : ByteArray) (k : Nat) : byt (sumB a b) k = byt a k ^^^ byt b k := by
  unfold sumB
  rw [byt_vec _ _ (fun k _ => xor256 _ _ (byt_lt a k) (byt_lt b k))]
  split
  · rfl
  · rw [byt_out a k (by omega), byt_out b k (by omega)]; rfl
theorem sum_some (a b : ByteArray) (ha : a.size ≤ 140737488351232) (hb : b.size ≤ 140737488351232) : gf_Sum.f a b = some (sumB a b) := by
  have hat : ∀ (x y : ByteArray) (k : Nat), gf_Sum.at_ x y k = ((byt x k ^^^ byt y k : Nat) : Int) := by
    intro x y k
    unfold gf_Sum.at_
    rw [byt_bt, byt_bt]
    split
    · exact xor8 _ _ (byt_lt x k) (byt_lt y k)
    · rw [byt_out y k (by omega), Nat.xor_zero]
  unfold gf_Sum.f
  rw [if_pos ha, if_pos hb]
  split
  · rw [strOfNums_vec b.size (fun k => byt a k ^^^ byt b k) _ (fun k _ => by rw [hat, Nat.xor_comm])]
    congr 1
    exact vec_congr (by omega) (fun _ _ => rfl)
  · rw [strOfNums_vec a.size (fun k => byt a k ^^^ byt b k) _ (fun k _ => hat a b k)]
    congr 1
    exact vec_congr (by omega) (fun _ _ => rfl)
theorem rat_some (s : ByteArray) (k : Nat) : quietusref04_at.f s (k : Int) = some ((byt s k : Nat) : Int) := by
  unfold quietusref04_at.f
  split
  · rw [if_pos (by omega), byt_bt]
  · rw [byt_out s k (by omega)]; rfl
theorem range_snoc {α : Type} (i : Nat) (F : Nat → α) : (List.range i).map F ++ [F i] = (List.range (i + 1)).map F := by rw [List.range_succ]; simp
theorem mx_nat (a b : Nat) : mx (a : Int) (b : Int) = ((max a b : Nat) : Int) := by unfold mx; split <;> omega
theorem rSum_l (a b : ByteArray) (ha : a.size ≤ 140737488351232) (hb : b.size ≤ 140737488351232) : ∀ (d i : Nat), i + d = max a.size b.size →
    Ev (fun k => quietusref04_Sum.l0 k a b ((List.range i).map fun k => ((byt a k ^^^ byt b k : Nat) : Int)) (i : Int)) (sumB a b) := by
  intro d
  induction d with
  | zero =>
    intro i hi
    refine Ev.step (fun k => by rw [quietusref04_Sum.l0]) ?_
    rw [mx_nat]
    refine Ev.neg_ (by omega) (Ev.eq_ (Ev.now _) ?_)
    exact vec_congr (by omega) (fun _ _ => rfl)
  | succ d ih =>
    intro i hi
    refine Ev.step (fun k => by rw [quietusref04_Sum.l0]) ?_
    rw [mx_nat]
    refine Ev.pos_ (by omega) (Ev.known_ (rat_some a i) (Ev.known_ (rat_some b i) (Ev.pos_ (by simp; omega) ?_)))
    rw [xor8 _ _ (byt_lt a i) (byt_lt b i), w64 (by omega) (by omega), range_snoc i (fun k => ((byt a k ^^^ byt b k : Nat) : Int))]
    exact ih (i + 1) (by omega)
theorem rSum_ev (a b : ByteArray) (ha : a.size ≤ 140737488351232) (hb : b.size ≤ 140737488351232) : Ev (fun k => quietusref04_Sum.f k a b) (sumB a b) := rSum_l a b ha hb (max a.size b.size) 0 (by omega)
/-- A byte times a string. -/
def scaleB (c : Nat) (s : ByteArray) : ByteArray := vec s.size (fun k => gmul c (byt s k))
theorem scaleB_size (c : Nat) (s : ByteArray) : (scaleB c s).size = s.size := vec_size _ _
theorem byt_scaleB (c : Nat) (s : ByteArray) (hc : c < 256) (k : Nat) : byt (scaleB c s) k = gmul c (byt s k) := by
  unfold scaleB
  rw [byt_vec _ _ (fun k _ => gmul_lt c _ hc)]
  split
  · rfl
  · rw [byt_out s k (by omega), gmul_zero]
theorem scale_some (c : Nat) (s : ByteArray) (hc : c < 256) (hs : s.size ≤ 140737488351232) : gf_Scale.f (c : Int) s = some (scaleB c s) := by
  unfold gf_Scale.f
  rw [if_pos ⟨by omega, by omega, hs⟩]
  rw [strOfNums_vec s.size (fun k => gmul c (byt s k)) (gf_Scale.at_ (c : Int) s) (fun k _ => by unfold gf_Scale.at_; rw [Int.toNat_natCast]; rfl)]
  rfl
theorem empty_size : (⟨#[]⟩ : ByteArray).size = 0 := rfl
theorem rScale_l (c : Nat) (s : ByteArray) (hc : c < 256) (hs : s.size ≤ 140737488351232) : ∀ (d i : Nat), i + d = s.size →
    Ev (fun k => quietusref04_Scale.l0 k (c : Int) s ((List.range i).map fun k => ((gmul c (byt s k) : Nat) : Int)) (i : Int)) (scaleB c s) := by
  intro d
  induction d with
  | zero =>
    intro i hi
    refine Ev.step (fun k => by rw [quietusref04_Scale.l0]) ?_
    refine Ev.neg_ (by omega) (Ev.eq_ (Ev.now _) ?_)
    exact vec_congr (by omega) (fun _ _ => rfl)
  | succ d ih =>
    intro i hi
    refine Ev.step (fun k => by rw [quietusref04_Scale.l0]) ?_
    refine Ev.pos_ (by omega) (Ev.pos_ (by omega) ?_)
    rw [byt_bt]
    refine Ev.bind (rMul_ev c (byt s i) hc (byt_lt s i)) (Ev.pos_ (by simp; omega) ?_)
    rw [w64 (by omega) (by omega), range_snoc i (fun k => ((gmul c (byt s k) : Nat) : Int))]
    exact ih (i + 1) (by omega)
theorem rScale_ev (c : Nat) (s : ByteArray) (hc : c < 256) (hs : s.size ≤ 140737488351232) : Ev (fun k => quietusref04_Scale.f k (c : Int) s) (scaleB c s) := rScale_l c s hc hs s.size 0 (by omega)
/-- Of a list, at a natural place. -/
theorem rd_nat (l : List Int) (i : Nat) : rd l (i : Int) = l.getD i 0 := by unfold rd; rw [Int.toNat_natCast]
theorem rdOf_nat {α : Type} (d : α) (l : List α) (i : Nat) : rdOf d l (i : Int) = l.getD i d := by unfold rdOf; rw [Int.toNat_natCast]
theorem bytes_at {l : List Int} (h : gf_Combine.bytes l = true) (i : Nat) : ∃ m : Nat, rd l (i : Int) = (m : Int) ∧ m < 256 := by
  have := rd_byte h (i : Int)
  exact ⟨(rd l (i : Int)).toNat, by omega, by omega⟩
theorem bytes_of {l : List Int} (h : ∀ x ∈ l, (Lit.int .u8 x).wf = true) : gf_Combine.bytes l = true := by
  unfold gf_Combine.bytes
  rw [List.all_eq_true]
  intro x hx
  obtain ⟨n, rfl, hn⟩ := wf_u8 (h x hx)
  simp
  omega
/-- What Combine makes. -/
def combB (l : List Int) (p : List ByteArray) : ByteArray := vec (gf_Combine.len p) (fun k => combN l p k l.length)
theorem combine_some (l : List Int) (p : List ByteArray) (hl : l.length = p.length) (he : gf_Combine.even p = true) (hb : gf_Combine.bytes l = true) (hm : gf_Combine.len p ≤ 140737488351232) :
    gf_Combine.f l p = some (combB l p, 0) := by
  unfold gf_Combine.f
  rw [if_pos hl, if_pos he, if_pos ⟨hb, hm⟩]
  rfl
theorem combine_fail (l : List Int) (p : List ByteArray) (h : ¬ (l.length = p.length ∧ gf_Combine.even p = true)) : gf_Combine.f l p = some (⟨#[]⟩, 1) := by
  unfold gf_Combine.f
  split
  · rw [if_neg (fun h2 => h ⟨‹_›, h2⟩)]
  · rfl
theorem rComb_fail (l : List Int) (p : List ByteArray) (hl : l.length = p.length) (hb : gf_Combine.bytes l = true) (hm : ∀ s ∈ p, s.size ≤ 140737488351232) (hmax : p.length ≤ 9223372036854775806) (j : Nat) (hj : j < p.length)
    (hne : (rdOf ByteArray.empty p (j : Int)).size ≠ gf_Combine.len p) : ∀ (d i : Nat) (out : ByteArray), i + d = j → (∀ q, q < j → (rdOf ByteArray.empty p (q : Int)).size = gf_Combine.len p) → out.size ≤ gf_Combine.len p →
    Ev (fun k => quietusref04_Combine.l0 k l p out (i : Int)) (⟨#[]⟩, 1) := by
  have hlen : gf_Combine.len p ≤ 140737488351232 := by
    unfold gf_Combine.len
    rw [show (0 : Int) = ((0 : Nat) : Int) from rfl, rdOf_nat, List.getD_eq_getElem?_getD, List.getElem?_eq_getElem (by omega)]
    exact hm _ (List.getElem_mem _)
  have h00 : ((rdOf ByteArray.empty p 0).size : Int) = (gf_Combine.len p : Int) := rfl
  intro d
  induction d with
  | zero =>
    intro i out hi _ _
    obtain rfl : i = j := by omega
    refine Ev.step (fun k => by rw [quietusref04_Combine.l0]) ?_
    refine Ev.pos_ (by omega) (Ev.pos_ (by omega) (Ev.pos_ (by omega) (Ev.neg_ ?_ (Ev.now _))))
    rw [h00]
    omega
  | succ d ih =>
    intro i out hi hq ho
    refine Ev.step (fun k => by rw [quietusref04_Combine.l0]) ?_
    have hsz := hq i (by omega)
    obtain ⟨c, hc, hc2⟩ := bytes_at hb i
    refine Ev.pos_ (by omega) (Ev.pos_ (by omega) (Ev.pos_ (by omega) (Ev.pos_ (by rw [h00]; omega) (Ev.pos_ (by omega) ?_))))
    rw [hc]
    refine Ev.bind (rScale_ev c _ hc2 (by omega)) (Ev.bind (rSum_ev out _ (by omega) (by rw [scaleB_size]; omega)) ?_)
    rw [w64 (by omega) (by omega)]
    refine ih (i + 1) _ (by omega) hq ?_
    rw [sumB_size, scaleB_size]
    omega
theorem comb_step (l : List Int) (p : List ByteArray) (hb : gf_Combine.bytes l = true) (i : Nat) (out : ByteArray) (hi : i < p.length) (he : gf_Combine.even p = true) (ho : out = if i = 0 then (⟨#[]⟩ : ByteArray) else vec (gf_Combine.len p) (fun k => combN l p k i)) (c : Nat) (hc : rd l (i : Int) = (c : Int)) (hc2 : c < 256) :
    sumB out (scaleB c (rdOf ByteArray.empty p (i : Int))) = vec (gf_Combine.len p) (fun k => combN l p k (i + 1)) := by
  have hsz := even_at he i hi
  have hos : out.size ≤ gf_Combine.len p := by
    rw [ho]
    split
    · rw [empty_size]; omega
    · rw [vec_size]; omega
  apply str_ext
  · rw [sumB_size, scaleB_size, vec_size, hsz]; omega
  · intro k hk
    rw [sumB_size, scaleB_size, hsz] at hk
    rw [byt_sumB, byt_scaleB _ _ hc2, byt_vec _ _ (fun k _ => combN_lt l p k (i + 1) hb), if_pos (by omega)]
    show _ = combN l p k i ^^^ gmul (rd l (i : Int)).toNat (byt (rdOf ByteArray.empty p (i : Int)) k)
    rw [hc, Int.toNat_natCast]
    congr 1
    rw [ho]
    split
    · rename_i h0
      subst h0
      rw [byt_out _ _ (by rw [empty_size]; omega)]
      rfl
    · rw [byt_vec _ _ (fun k _ => combN_lt l p k i hb), if_pos (by omega)]
theorem rComb_l (l : List Int) (p : List ByteArray) (hl : l.length = p.length) (hb : gf_Combine.bytes l = true) (he : gf_Combine.even p = true) (hm : gf_Combine.len p ≤ 140737488351232) (hmax : p.length ≤ 9223372036854775806) :
    ∀ (d i : Nat) (out : ByteArray), i + d = p.length → (out = if i = 0 then (⟨#[]⟩ : ByteArray) else vec (gf_Combine.len p) (fun k => combN l p k i)) →
    Ev (fun k => quietusref04_Combine.l0 k l p out (i : Int)) (combB l p, 0) := by
  have h00 : ((rdOf ByteArray.empty p 0).size : Int) = (gf_Combine.len p : Int) := rfl
  intro d
  induction d with
  | zero =>
    intro i out hi ho
    refine Ev.step (fun k => by rw [quietusref04_Combine.l0]) ?_
    refine Ev.neg_ (by omega) (Ev.eq_ (Ev.now _) ?_)
    rw [ho]
    unfold combB
    split
    · rename_i h0
      have : p = [] := List.eq_nil_of_length_eq_zero (by omega)
      subst this
      rfl
    · rw [hl, show i = p.length by omega]
  | succ d ih =>
    intro i out hi ho
    refine Ev.step (fun k => by rw [quietusref04_Combine.l0]) ?_
    have hsz := even_at he i (by omega)
    obtain ⟨c, hc, hc2⟩ := bytes_at hb i
    have hst := comb_step l p hb i out (by omega) he ho c hc hc2
    have hos : out.size ≤ gf_Combine.len p := by
      rw [ho]
      split
      · rw [empty_size]; omega
      · rw [vec_size]; omega
    refine Ev.pos_ (by omega) (Ev.pos_ (by omega) (Ev.pos_ (by omega) (Ev.pos_ (by rw [h00]; omega) (Ev.pos_ (by omega) ?_))))
    rw [hc]
    refine Ev.bind (rScale_ev c _ hc2 (by omega)) (Ev.bind (rSum_ev out _ (by omega) (by rw [scaleB_size]; omega)) ?_)
    rw [w64 (by omega) (by omega), hst]
    exact ih (i + 1) _ (by omega) (by rw [if_neg (by omega)])
theorem first_odd (p : List ByteArray) (h : gf_Combine.even p ≠ true) : ∃ j, j < p.length ∧ (rdOf ByteArray.empty p (j : Int)).size ≠ gf_Combine.len p ∧ ∀ q, q < j → (rdOf ByteArray.empty p (q : Int)).size = gf_Combine.len p := by
  have hex : ∃ j, j < p.length ∧ (rdOf ByteArray.empty p (j : Int)).size ≠ gf_Combine.len p := by
    apply Classical.byContradiction
    intro hno
    refine h (even_all fun j hj => ?_)
    apply Classical.byContradiction
    intro h2
    exact hno ⟨j, hj, h2⟩
  have hmin : ∀ n, (∃ j, j < n ∧ j < p.length ∧ (rdOf ByteArray.empty p (j : Int)).size ≠ gf_Combine.len p) → ∃ j, j < p.length ∧ (rdOf ByteArray.empty p (j : Int)).size ≠ gf_Combine.len p ∧ ∀ q, q < j → (rdOf ByteArray.empty p (q : Int)).size = gf_Combine.len p := by
    intro n
    induction n with
    | zero => rintro ⟨j, h1, _⟩; omega
    | succ n ih =>
      rintro ⟨j, h1, h2, h3⟩
      by_cases hlow : ∃ j, j < n ∧ j < p.length ∧ (rdOf ByteArray.empty p (j : Int)).size ≠ gf_Combine.len p
      · exact ih hlow
      · refine ⟨j, h2, h3, fun q hq => ?_⟩
        apply Classical.byContradiction
        intro h4
        exact hlow ⟨q, by omega, by omega, h4⟩
  obtain ⟨j, h1, h2⟩ := hex
  exact hmin (j + 1) ⟨j, by omega, h1, h2⟩
/-- The specification's Combine is the program's. -/
theorem rCombine_ev (l : List Int) (p : List ByteArray) (hb : gf_Combine.bytes l = true) (hm : ∀ s ∈ p, s.size ≤ 140737488351232) (hmax : p.length ≤ 9223372036854775806) :
    ∃ r, gf_Combine.f l p = some r ∧ Ev (fun k => quietusref04_Combine.f k l p) r := by
  have hlen : gf_Combine.len p ≤ 140737488351232 := by
    unfold gf_Combine.len
    rw [show (0 : Int) = ((0 : Nat) : Int) from rfl, rdOf_nat, List.getD_eq_getElem?_getD]
    rcases Nat.eq_zero_or_pos p.length with h | h
    · rw [List.getElem?_eq_none (by omega)]; simp
    · rw [List.getElem?_eq_getElem h]
      exact hm _ (List.getElem_mem _)
  by_cases hl : l.length = p.length
  · by_cases he : gf_Combine.even p = true
    · refine ⟨_, combine_some l p hl he hb hlen, ?_⟩
      exact Ev.pos_ (by omega) (rComb_l l p hl hb he hlen hmax p.length 0 _ (by omega) rfl)
    · refine ⟨_, combine_fail l p (fun h => he h.2), ?_⟩
      obtain ⟨j, h1, h2, h3⟩ := first_odd p he
      exact Ev.pos_ (by omega) (rComb_fail l p hl hb hm hmax j h1 h2 j 0 _ (by omega) h3 (by rw [empty_size]; omega))
  · refine ⟨_, combine_fail l p (fun h => hl h.1), ?_⟩
    exact Ev.neg_ (by omega) (Ev.now _)

end Go.Proofs.YtgfnllaajaoljaaDoor.QA
