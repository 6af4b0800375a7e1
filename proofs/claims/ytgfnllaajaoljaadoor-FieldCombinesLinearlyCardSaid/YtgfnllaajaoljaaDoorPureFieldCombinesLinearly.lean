-- What this claim does not use was left out by prune.py, a program of this session.
import Derived.Test.YtgfnllaajaoljaaDoorSFieldCombinesLinearly
import Derived.Test.YtgfnllaajaoljaaDoorPureVec
namespace Go.Proofs.YtgfnllaajaoljaaDoor.QA
open Go.RowKit Go.Proofs.YtgfnllaajaoljaaDoorW.PrintWords Go.Proofs.YtgfnllaajaoljaaDoorW.PrintLast Go.Proofs.YtgfnllaajaoljaaDoorW.PrintMore
attribute [local go_sem] max2_int min2_int max_two min_two max_three min_three max_four min_four
set_option linter.unusedVariables false
set_option linter.unusedSimpArgs false
namespace PureFieldCombinesLinearly
def up {α : Type} (m : Nat) (F : Nat → α) : List α := (List.range m).map F
theorem up_len {α : Type} (m : Nat) (F : Nat → α) : (up m F).length = m := by unfold up; simp
theorem up_get {α : Type} (m : Nat) (F : Nat → α) (d : α) (j : Nat) (h : j < m) : (up m F).getD j d = F j := by
  unfold up
  rw [List.getD_eq_getElem?_getD, List.getElem?_map, List.getElem?_range h]
  rfl
theorem up_rd (m : Nat) (F : Nat → Int) (j : Nat) (h : j < m) : rd (up m F) (j : Int) = F j := by rw [rd_nat, up_get m F 0 j h]
theorem up_rdOf (m : Nat) (F : Nat → ByteArray) (j : Nat) (h : j < m) : rdOf ByteArray.empty (up m F) (j : Int) = F j := by rw [rdOf_nat, up_get m F _ j h]
theorem up_bytes (m : Nat) (F : Nat → Nat) (h : ∀ j, j < m → F j < 256) : gf_Combine.bytes (up m fun j => ((F j : Nat) : Int)) = true := by
  unfold gf_Combine.bytes up
  rw [List.all_eq_true]
  intro x hx
  obtain ⟨j, hj, rfl⟩ := List.mem_map.1 hx
  have := h j (List.mem_range.1 hj)
  simp
  omega
def cN (A : Nat → Nat) (p : Nat → ByteArray) (k : Nat) : Nat → Nat
  | 0 => 0
  | i + 1 => cN A p k i ^^^ gmul (A i) (byt (p i) k)
theorem cN_combN (m : Nat) (A : Nat → Nat) (l : List ByteArray) (p : Nat → ByteArray) (hp : ∀ j, j < m → rdOf ByteArray.empty l (j : Int) = p j) (k : Nat) : ∀ i, i ≤ m → combN (up m fun j => ((A j : Nat) : Int)) l k i = cN A p k i
  | 0, _ => rfl
  | i + 1, hi => by
    unfold combN cN
    rw [cN_combN m A l p hp k i (by omega), up_rd m _ i (by omega), hp i (by omega), Int.toNat_natCast]
    rfl
theorem cN_lt (A : Nat → Nat) (hA : ∀ j, A j < 256) (p : Nat → ByteArray) (k : Nat) : ∀ i, cN A p k i < 256
  | 0 => by unfold cN; omega
  | i + 1 => by unfold cN; exact xor256 _ _ (cN_lt A hA p k i) (gmul_lt _ _ (hA i))
theorem xor_swap (a b c d : Nat) : a ^^^ b ^^^ (c ^^^ d) = a ^^^ c ^^^ (b ^^^ d) := by
  rw [Nat.xor_assoc, Nat.xor_assoc, ← Nat.xor_assoc b c d, Nat.xor_comm b c, Nat.xor_assoc c b d]
theorem cN_coef (A B : Nat → Nat) (p : Nat → ByteArray) (k : Nat) : ∀ i, cN (fun j => A j ^^^ B j) p k i = cN A p k i ^^^ cN B p k i
  | 0 => by simp [cN]
  | i + 1 => by unfold cN; rw [cN_coef A B p k i, gmul_xor_left, xor_swap]
theorem cN_part (A : Nat → Nat) (p q : Nat → ByteArray) (k : Nat) : ∀ i, cN A (fun j => sumB (p j) (q j)) k i = cN A p k i ^^^ cN A q k i
  | 0 => by simp [cN]
  | i + 1 => by unfold cN; rw [cN_part A p q k i, byt_sumB, gmul_xor, xor_swap]
theorem cN_scale (c : Nat) (hc : c < 256) (A : Nat → Nat) (p : Nat → ByteArray) (k m : Nat) (hA : ∀ j, j < m → A j < 256) : ∀ i, i ≤ m → cN (fun j => gmul c (A j)) p k i = gmul c (cN A p k i)
  | 0, _ => by unfold cN; rw [gmul_zero]
  | i + 1, hi => by unfold cN; rw [cN_scale c hc A p k m hA i (by omega), gmul_assoc _ _ _ hc (hA i (by omega)) (byt_lt _ _), gmul_xor]
theorem comb_up (m n : Nat) (A : Nat → Nat) (hA : ∀ j, j < m → A j < 256) (l : List ByteArray) (p : Nat → ByteArray) (hl : l.length = m) (hp : ∀ j, j < m → rdOf ByteArray.empty l (j : Int) = p j) (hs : ∀ j, j < m → (p j).size = n) (hn : n ≤ 1000) (h0 : m = 0 → n = 0) :
    gf_Combine.f (up m fun j => ((A j : Nat) : Int)) l = some (vec n (fun k => cN A p k m), 0) := by
  have hlen : gf_Combine.len l = n := by
    unfold gf_Combine.len
    by_cases h : m = 0
    · have : l = [] := List.eq_nil_of_length_eq_zero (by omega)
      rw [this, h0 h]
      rfl
    · have := hp 0 (by omega)
      rw [show (0 : Int) = ((0 : Nat) : Int) from rfl, this, hs 0 (by omega)]
  have heven : gf_Combine.even l = true := by
    unfold gf_Combine.even
    rw [List.all_eq_true]
    intro s hs'
    obtain ⟨j, hj, rfl⟩ := List.mem_iff_getElem.1 hs'
    have h1 := hp j (by omega)
    rw [rdOf_nat, List.getD_eq_getElem?_getD, List.getElem?_eq_getElem hj] at h1
    have h2 : l[j] = p j := h1
    rw [h2, hlen]
    exact decide_eq_true (hs j (by omega))
  rw [combine_some _ l (by rw [up_len]; omega) heven (up_bytes m A hA) (by rw [hlen]; omega)]
  congr 2
  unfold combB
  rw [hlen, up_len]
  exact vec_congr rfl (fun k _ => cN_combN m A l p hp k m (Nat.le_refl _))
theorem vec_sum (n : Nat) (F G : Nat → Nat) (hF : ∀ k, F k < 256) (hG : ∀ k, G k < 256) : sumB (vec n F) (vec n G) = vec n (fun k => F k ^^^ G k) := by
  unfold sumB
  refine vec_congr (by rw [vec_size, vec_size]; omega) (fun k hk => ?_)
  rw [vec_size, vec_size] at hk
  rw [byt_vec _ _ (fun k _ => hF k), byt_vec _ _ (fun k _ => hG k), if_pos (by omega), if_pos (by omega)]
theorem vec_scale (n c : Nat) (F : Nat → Nat) (hF : ∀ k, F k < 256) : scaleB c (vec n F) = vec n (fun k => gmul c (F k)) := by
  unfold scaleB
  refine vec_congr (vec_size _ _) (fun k hk => ?_)
  rw [vec_size] at hk
  rw [byt_vec _ _ (fun k _ => hF k), if_pos hk]
theorem up_snoc {α : Type} (i : Nat) (F : Nat → α) : up i F ++ [F i] = up (i + 1) F := range_snoc i F
theorem proof : FieldCombinesLinearly.Pure := by
  intro l x y cc hl hxy hcc
  refine Ev.rounds ?_
  obtain ⟨c, rfl, hc⟩ := wf_u8 hcc
  have hout : Ev (fun k => quietuslaw04_FieldCombinesLinearly.j0 k l (c : Int) x y true) true := by
    refine Ev.step (fun k => by rw [quietuslaw04_FieldCombinesLinearly.j0]) ?_
    exact Ev.pos_ rfl (Ev.bind sane04 (Ev.now _))
  unfold quietuslaw04_FieldCombinesLinearly.f
  by_cases h1 : (l.length : Int) > 8
  · exact Ev.pos_ h1 hout
  refine Ev.neg_ h1 ?_
  by_cases h2 : (x.length : Int) = (l.length : Int)
  rotate_left
  · exact Ev.neg_ h2 hout
  refine Ev.pos_ h2 ?_
  by_cases h3 : (y.length : Int) = (l.length : Int)
  rotate_left
  · have : ((y.length : Int) != (l.length : Int)) = true := by simpa using h3
    rw [this]; exact hout
  have : ((y.length : Int) != (l.length : Int)) = false := by simpa using h3
  rw [this]
  refine Ev.step (fun k => by rw [quietuslaw04_FieldCombinesLinearly.j0]) (Ev.neg_ (by decide) ?_)
  have hpair : ∀ j : Nat, ∃ a b : Nat, (rd_T48 l (j : Int)).f0 = (a : Int) ∧ (rd_T48 l (j : Int)).f1 = (b : Int) ∧ a < 256 ∧ b < 256 := by
    intro j
    by_cases hj : j < l.length
    · have e : rd_T48 l (j : Int) = l[j] := by
        unfold rd_T48
        rw [Int.toNat_natCast, List.getD_eq_getElem?_getD, List.getElem?_eq_getElem hj]
        rfl
      rw [e]
      obtain ⟨w1, w2⟩ := hl.2 _ (List.getElem_mem hj)
      obtain ⟨a, ha, ha2⟩ := wf_u8 w1
      obtain ⟨b, hb, hb2⟩ := wf_u8 w2
      exact ⟨a, b, ha, hb, ha2, hb2⟩
    · have e : rd_T48 l (j : Int) = z48 := by
        unfold rd_T48
        rw [Int.toNat_natCast, List.getD_eq_getElem?_getD, List.getElem?_eq_none (by omega)]
        rfl
      rw [e]
      exact ⟨0, 0, rfl, rfl, by omega, by omega⟩
  obtain ⟨A, hA'⟩ := Classical.axiomOfChoice hpair
  obtain ⟨B, hAB⟩ := Classical.axiomOfChoice hA'
  have hx0 : ∀ j : Nat, j < x.length → (rdOf ByteArray.empty x (j : Int)) ∈ x := by
    intro j hj
    rw [rdOf_nat, List.getD_eq_getElem?_getD, List.getElem?_eq_getElem hj]
    exact List.getElem_mem hj
  have hy0 : ∀ j : Nat, j < y.length → (rdOf ByteArray.empty y (j : Int)) ∈ y := by
    intro j hj
    rw [rdOf_nat, List.getD_eq_getElem?_getD, List.getElem?_eq_getElem hj]
    exact List.getElem_mem hj
  obtain ⟨X, hX⟩ : ∃ X : Nat → ByteArray, X = fun j => rdOf ByteArray.empty x ((j : Nat) : Int) := ⟨_, rfl⟩
  obtain ⟨Y, hY⟩ : ∃ Y : Nat → ByteArray, Y = fun j => rdOf ByteArray.empty y ((j : Nat) : Int) := ⟨_, rfl⟩
  have hXj : ∀ j : Nat, rdOf ByteArray.empty x (j : Int) = X j := fun j => by rw [hX]
  have hYj : ∀ j : Nat, rdOf ByteArray.empty y (j : Int) = Y j := fun j => by rw [hY]
  have loop : ∀ (d i : Nat), i + d = l.length → (∀ j, j < i → (X j).size = (X 0).size ∧ (Y j).size = (X 0).size ∧ (X j).size ≤ 100) →
      Ev (fun k => quietuslaw04_FieldCombinesLinearly.l0 k (c : Int) x y (up i fun j => ((A j : Nat) : Int)) (up i fun j => ((B j : Nat) : Int)) (up i fun j => ((A j ^^^ B j : Nat) : Int)) (up i fun j => ((gmul c (A j) : Nat) : Int)) (up i fun j => sumB (X j) (Y j)) l (l.length : Int) (i : Int)) true := by
    intro d
    induction d with
    | zero =>
      intro i hi hs
      have him : i = l.length := by omega
      refine Ev.step (fun k => by rw [quietuslaw04_FieldCombinesLinearly.l0]) (Ev.neg_ (by omega) ?_)
      obtain ⟨n, hn⟩ : ∃ n : Nat, n = if i = 0 then 0 else (X 0).size := ⟨_, rfl⟩
      have hsx : ∀ j, j < i → (X j).size = n := fun j hj => by rw [hn, if_neg (by omega)]; exact (hs j hj).1
      have hsy : ∀ j, j < i → (Y j).size = n := fun j hj => by rw [hn, if_neg (by omega)]; exact (hs j hj).2.1
      have hss : ∀ j, j < i → (sumB (X j) (Y j)).size = n := fun j hj => by rw [sumB_size, hsx j hj, hsy j hj]; omega
      have hn1 : n ≤ 1000 := by
        by_cases h : i = 0
        · rw [hn, if_pos h]; omega
        · have := (hs 0 (by omega)).2.2
          rw [hn, if_neg h]; omega
      have hn0 : i = 0 → n = 0 := fun h => by rw [hn, if_pos h]
      have gA : ∀ j, A j < 256 := fun j => (hAB j).2.2.1
      have gB : ∀ j, B j < 256 := fun j => (hAB j).2.2.2
      have bA : ∀ j, j < i → A j < 256 := fun j _ => (hAB j).2.2.1
      have bB : ∀ j, j < i → B j < 256 := fun j _ => (hAB j).2.2.2
      refine Ev.known_ (comb_up i n A bA x X (by omega) (fun j _ => hXj j) hsx hn1 hn0) ?_
      refine Ev.known_ (comb_up i n B bB x X (by omega) (fun j _ => hXj j) hsx hn1 hn0) ?_
      refine Ev.known_ (comb_up i n (fun j => A j ^^^ B j) (fun j hj => xor256 _ _ (bA j hj) (bB j hj)) x X (by omega) (fun j _ => hXj j) hsx hn1 hn0) ?_
      refine Ev.known_ (comb_up i n A bA y Y (by omega) (fun j _ => hYj j) hsy hn1 hn0) ?_
      refine Ev.known_ (comb_up i n A bA (up i fun j => sumB (X j) (Y j)) (fun j => sumB (X j) (Y j)) (up_len _ _) (fun j hj => up_rdOf i _ j hj) hss hn1 hn0) ?_
      refine Ev.known_ (comb_up i n (fun j => gmul c (A j)) (fun j _ => gmul_lt _ _ hc) x X (by omega) (fun j _ => hXj j) hsx hn1 hn0) ?_
      refine Ev.pos_ rfl (Ev.pos_ rfl (Ev.pos_ rfl (Ev.pos_ rfl (Ev.pos_ rfl ?_))))
      refine Ev.step (fun k => by rw [quietuslaw04_FieldCombinesLinearly.j3]) ?_
      refine Ev.neg_ (by simp) (Ev.bind sane04 (Ev.pos_ rfl ?_))
      have z1 : ∀ F : Nat → Nat, (vec n F).size ≤ 140737488351232 := fun F => by rw [vec_size]; omega
      refine Ev.known_ (sum_some _ _ (z1 _) (z1 _)) (Ev.pos_ ?_ (Ev.known_ (sum_some _ _ (z1 _) (z1 _)) (Ev.pos_ ?_ (Ev.known_ (scale_some c _ hc (z1 _)) (Ev.const_ ?_)))))
      · rw [vec_sum n _ _ (fun k => cN_lt _ gA _ _ _) (fun k => cN_lt _ gB _ _ _)]
        congr 1
        exact vec_congr rfl (fun k _ => cN_coef A B X k i)
      · rw [vec_sum n _ _ (fun k => cN_lt _ gA _ _ _) (fun k => cN_lt _ gA _ _ _)]
        congr 1
        exact vec_congr rfl (fun k _ => cN_part A X Y k i)
      · rw [vec_scale n c _ (fun k => cN_lt _ gA _ _ _)]
        have e : vec n (fun k => cN (fun j => gmul c (A j)) X k i) = vec n (fun k => gmul c (cN A X k i)) := vec_congr rfl (fun k _ => cN_scale c hc A X k i bA i (Nat.le_refl _))
        rw [e]
        simp
    | succ d ih =>
      intro i hi hs
      have hw : wrap64 ((i : Int) + 1) = ((i + 1 : Nat) : Int) := by rw [w64 (by omega) (by omega)]; omega
      refine Ev.step (fun k => by rw [quietuslaw04_FieldCombinesLinearly.l0]) (Ev.pos_ (by omega) (Ev.pos_ (by omega) (Ev.pos_ (by omega) (Ev.pos_ (by omega) (Ev.pos_ (by omega) ?_)))))
      have e0 : rdOf ByteArray.empty x 0 = X 0 := hXj 0
      rw [hXj i, hYj i, e0, (hAB i).1, (hAB i).2.1]
      have j2 : ∀ b : Bool, (b = false → (X i).size = (X 0).size ∧ (Y i).size = (X 0).size ∧ (X i).size ≤ 100) →
          Ev (fun k => quietuslaw04_FieldCombinesLinearly.j2 k (c : Int) x y (up i fun j => ((A j : Nat) : Int)) (up i fun j => ((B j : Nat) : Int)) (up i fun j => ((A j ^^^ B j : Nat) : Int)) (up i fun j => ((gmul c (A j) : Nat) : Int)) (up i fun j => sumB (X j) (Y j)) (i : Int) l (l.length : Int) (i : Int) b ((A i : Nat) : Int) ((B i : Nat) : Int)) true := by
        intro b hb
        refine Ev.step (fun k => by rw [quietuslaw04_FieldCombinesLinearly.j2]) ?_
        cases b with
        | true => exact Ev.pos_ rfl (Ev.bind sane04 (Ev.now _))
        | false =>
          obtain ⟨q1, q2, q3⟩ := hb rfl
          rw [hXj i, hYj i, hw]
          have s1 : (X i).size ≤ 140737488351232 := by omega
          have s2 : (Y i).size ≤ 140737488351232 := by omega
          have ul : ∀ {α : Type} (F : Nat → α), (up i F).length = i := fun F => up_len i F
          refine Ev.neg_ (by decide) (Ev.known_ rfl (Ev.pos_ (by rw [ul]; simp; omega) (Ev.known_ rfl (Ev.pos_ (by rw [ul]; simp; omega) (Ev.known_ rfl (Ev.pos_ (by rw [ul]; simp; omega) (Ev.known_ (mulW_some c (A i) hc (hAB i).2.2.1) (Ev.known_ rfl (Ev.pos_ (by rw [ul]; simp; omega) ?_)))))))))
          refine Ev.pos_ (by omega) (Ev.pos_ (by omega) (Ev.pos_ (by omega) (Ev.known_ (sum_some _ _ s1 s2) (Ev.known_ rfl (Ev.pos_ (by rw [ul]; simp; omega) ?_)))))
          rw [xor8 _ _ (hAB i).2.2.1 (hAB i).2.2.2]
          rw [up_snoc i (fun j => ((A j : Nat) : Int)), up_snoc i (fun j => ((B j : Nat) : Int)), up_snoc i (fun j => ((A j ^^^ B j : Nat) : Int)), up_snoc i (fun j => ((gmul c (A j) : Nat) : Int)), up_snoc i (fun j => sumB (X j) (Y j))]
          refine ih (i + 1) (by omega) (fun j hj => ?_)
          by_cases e : j = i
          · rw [e]; exact ⟨q1, q2, q3⟩
          · exact hs j (by omega)
      by_cases c1 : ((X i).size : Int) = ((X 0).size : Int)
      · refine Ev.pos_ c1 (Ev.pos_ (by omega) ?_)
        by_cases c2 : ((Y i).size : Int) = ((X 0).size : Int)
        · refine Ev.pos_ c2 (j2 _ (fun h => ?_))
          rw [decide_eq_false_iff_not] at h
          omega
        · exact Ev.neg_ c2 (j2 true (fun h => by cases h))
      · exact Ev.neg_ c1 (j2 true (fun h => by cases h))
  exact loop l.length 0 (by omega) (fun j hj => absurd hj (by omega))
end PureFieldCombinesLinearly
end Go.Proofs.YtgfnllaajaoljaaDoor.QA
