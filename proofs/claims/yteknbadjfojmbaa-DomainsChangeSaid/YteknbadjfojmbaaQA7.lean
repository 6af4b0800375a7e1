-- What this claim does not use was left out by prune.py, a program of this session.
import Derived.Test.YteknbadjfojmbaaQA0
import Derived.Test.YteknbadjfojmbaaQA4
import Derived.Test.YteknbadjfojmbaaQA6
namespace Go.Proofs.Yteknbadjfojmbaa.QA
open Go.RowKit Go.Proofs.YteknbadjfojmbaaW.PrintWords Go.Proofs.YteknbadjfojmbaaW.PrintLast Go.Proofs.YteknbadjfojmbaaW.PrintMore
attribute [local go_sem] max2_int min2_int max_two min_two max_three min_three max_four min_four
set_option linter.unusedVariables false
set_option linter.unusedSimpArgs false
def domain_Members.hit (l0_0 : List Int) (l0_1 : List S117) (l0_2 : List Int) (a0_3 a1 a2 : Int) (i : Nat) : Bool := decide (0 ≤ a2) && (domain_Of.f 9 l0_0 l0_1 l0_2 a0_3 a1 (i : Int) == some a2)
def domain_Members.up (l0_0 : List Int) (l0_1 : List S117) (l0_2 : List Int) (a0_3 a1 a2 : Int) (k : Nat) : List Int := ((List.range k).filter (domain_Members.hit l0_0 l0_1 l0_2 a0_3 a1 a2)).map fun i : Nat => (i : Int)
def domain_Members.f (l0_0 : List Int) (l0_1 : List S117) (l0_2 : List Int) (a0_3 a1 a2 : Int) : Option (List Int) :=
  if l0_0.length ≤ 17592186040320 ∧ (List.range l0_0.length).all (fun i => decide (a2 < 0) || (domain_Of.f 9 l0_0 l0_1 l0_2 a0_3 a1 (i : Int)).isSome) = true then some (domain_Members.up l0_0 l0_1 l0_2 a0_3 a1 a2 l0_0.length) else none
def domain_Members.kept (n₀ gd gn gl : Nat) (W W' : World) : Prop := Below n₀ W W' ∧ W'.heap[gd]? = W.heap[gd]? ∧ W'.heap[gn]? = W.heap[gn]? ∧ W'.heap[gl]? = W.heap[gl]?
theorem domain_Members.up_hit {l0_0 : List Int} {l0_1 : List S117} {l0_2 : List Int} {a0_3 a1 a2 : Int} {k : Nat} (h : domain_Members.hit l0_0 l0_1 l0_2 a0_3 a1 a2 k = true) :
    domain_Members.up l0_0 l0_1 l0_2 a0_3 a1 a2 (k + 1) = domain_Members.up l0_0 l0_1 l0_2 a0_3 a1 a2 k ++ [(k : Int)] := by
  unfold domain_Members.up
  rw [List.range_succ, List.filter_append, List.filter_cons, if_pos h, List.map_append]
  rfl
theorem domain_Members.up_miss {l0_0 : List Int} {l0_1 : List S117} {l0_2 : List Int} {a0_3 a1 a2 : Int} {k : Nat} (h : domain_Members.hit l0_0 l0_1 l0_2 a0_3 a1 a2 k = false) :
    domain_Members.up l0_0 l0_1 l0_2 a0_3 a1 a2 (k + 1) = domain_Members.up l0_0 l0_1 l0_2 a0_3 a1 a2 k := by
  unfold domain_Members.up
  rw [List.range_succ, List.filter_append, List.filter_cons, if_neg (by rw [h]; simp), List.filter_nil, List.append_nil]
theorem domain_Members.up_prefix {l0_0 : List Int} {l0_1 : List S117} {l0_2 : List Int} {a0_3 a1 a2 : Int} (k d : Nat) :
    domain_Members.up l0_0 l0_1 l0_2 a0_3 a1 a2 k <+: domain_Members.up l0_0 l0_1 l0_2 a0_3 a1 a2 (k + d) := by
  induction d with
  | zero => exact List.prefix_refl _
  | succ d ih =>
    refine ih.trans ?_
    rw [← Nat.add_assoc]
    cases h : domain_Members.hit l0_0 l0_1 l0_2 a0_3 a1 a2 (k + d)
    · rw [domain_Members.up_miss h]
      exact List.prefix_refl _
    · rw [domain_Members.up_hit h]
      exact List.prefix_append _ _
section
attribute [local go_sem] Oper.semAt_some
set_option maxRecDepth 100000 in
set_option maxHeartbeats 4000000 in
theorem domain_Members_1h.stops (n : Nat) (hn : 1 ≤ n) (n₀ gd gn gl : Nat) (A0_0 : Option Addr) (c0_0 : Nat) (l0_0 : List Int) (A0_1 : Option Addr) (c0_1 : Nat) (l0_1 : List S117) (A0_2 : Option Addr) (c0_2 : Nat) (l0_2 : List Int) (a0_3 a1 a2 : Int) (w : World) (hn₀ : n₀ ≤ w.heap.size) (hmx : l0_0.length ≤ 17592186040320)
    (hd : w.heap[gd]? = some (.cells #[.slice A0_0 l0_0.length c0_0, .slice A0_1 l0_1.length c0_1, .slice A0_2 l0_2.length c0_2, .int .i64 a0_3] 25 (0, 0))) (hN : w.heap[gn]? = some (.cells #[.int .i64 a2] 3 (0, 0))) (hL : w.heap[gl]? = some (.cells #[.int .i64 a1] 3 (0, 0)))
    (hOf : ∀ i : Nat, i < l0_0.length → 0 ≤ a2 → ∃ t, domain_Of.f 9 l0_0 l0_1 l0_2 a0_3 a1 (i : Int) = some t ∧ ∀ W, Below n₀ w W → Calls Try.prog 18 #[.agg #[.slice A0_0 l0_0.length c0_0, .slice A0_1 l0_1.length c0_1, .slice A0_2 l0_2.length c0_2, .int .i64 a0_3], .int .i64 a1, .int .i64 (i : Int)] W fun e W' => e = .returned (.int .i64 t) ∧ Below W.heap.size W W') :
    SeqStopsK Fence.wide n Try.prog 83 #[.pointer (some ⟨gd, 0, none⟩), .pointer (some ⟨gn, 0, none⟩), .pointer (some ⟨gl, 0, none⟩)] (fun x : Int => #[Value.int .i64 x]) (domain_Members.kept n₀ gd gn gl) (fun ys => ys = domain_Members.up l0_0 l0_1 l0_2 a0_3 a1 a2 l0_0.length) (fun pre => pre <+: domain_Members.up l0_0 l0_1 l0_2 a0_3 a1 a2 l0_0.length) (domain_Members.up l0_0 l0_1 l0_2 a0_3 a1 a2 l0_0.length).length w := by
  intro l J Jx W hW hJ hJx hY h0
  have HOf := Aside0.mk hOf
  have HY := Aside0.mk hY
  have HD := Aside0.mk (blk_below hd hW)
  have HN := Aside0.mk (blk_below hN hW)
  have HL := Aside0.mk (blk_below hL hW)
  have HB := Aside0.mk (hW.mono hn₀)
  have hcd : W.cell? ⟨gd, 0, none⟩ = some (.slice A0_0 l0_0.length c0_0) := (blk_cell HD.out 0).trans rfl
  clear hd hN hL hOf hY
  refine callsIn_of_wp Try.func83 rfl trivial ?_ rfl
  simp only [Try.ntmps83, List.size_toArray, List.length_cons, List.length_nil, Nat.reduceAdd, Nat.reduceSub, Array.replicate_succ, Array.replicate_zero, List.push_toArray, List.append_toArray, List.nil_append, List.cons_append]
  gi_wp2
  gi_loopw [9] (fun p wr => ∃ i : Nat, i ≤ l0_0.length ∧ p = .int .i64 (i : Int) ∧ J (domain_Members.up l0_0 l0_1 l0_2 a0_3 a1 a2 i) wr ∧ Aside0 (Below n₀ w wr) ∧ Aside0 (wr.heap[gd]? = some (.cells #[.slice A0_0 l0_0.length c0_0, .slice A0_1 l0_1.length c0_1, .slice A0_2 l0_2.length c0_2, .int .i64 a0_3] 25 (0, 0))) ∧ Aside0 (wr.heap[gn]? = some (.cells #[.int .i64 a2] 3 (0, 0))) ∧ Aside0 (wr.heap[gl]? = some (.cells #[.int .i64 a1] 3 (0, 0)))) (fun p _ => l0_0.length - (intOf p).toNat)
  case atStart => exact ⟨0, Nat.zero_le _, rfl, h0, HB, HD, HN, HL⟩
  case round =>
    obtain ⟨i, hi, rfl, hJi, HBr, HDr, HNr, HLr⟩ := hrel
    by_cases hlt : i < l0_0.length
    · have hdl : decide ((i : Int) < (l0_0.length : Int)) = true := decide_eq_true (by omega)
      have hc0 : wr.cell? ⟨gn, 0, none⟩ = some (.int .i64 a2) := (blk_cell HNr.out 0).trans rfl
      have hc1 : wr.cell? ⟨gl, 0, none⟩ = some (.int .i64 a1) := (blk_cell HLr.out 0).trans rfl
      have hd0 : wr.cell? ⟨gd, 0, none⟩ = some (.slice A0_0 l0_0.length c0_0) := (blk_cell HDr.out 0).trans rfl
      have hd1 : wr.cell? ⟨gd, 1, none⟩ = some (.slice A0_1 l0_1.length c0_1) := (blk_cell HDr.out 1).trans rfl
      have hd2 : wr.cell? ⟨gd, 2, none⟩ = some (.slice A0_2 l0_2.length c0_2) := (blk_cell HDr.out 2).trans rfl
      have hd3 : wr.cell? ⟨gd, 3, none⟩ = some (.int .i64 a0_3) := (blk_cell HDr.out 3).trans rfl
      obtain ⟨S, hSdef⟩ : ∃ S : World → Prop, S = fun X => X.heap[gd]? = some (.cells #[.slice A0_0 l0_0.length c0_0, .slice A0_1 l0_1.length c0_1, .slice A0_2 l0_2.length c0_2, .int .i64 a0_3] 25 (0, 0)) ∧ X.heap[gn]? = some (.cells #[.int .i64 a2] 3 (0, 0)) ∧ X.heap[gl]? = some (.cells #[.int .i64 a1] 3 (0, 0)) := ⟨_, rfl⟩
      have HS0 : Aside0 (S wr.drew) := ⟨by rw [hSdef]; exact ⟨HDr.out, HNr.out, HLr.out⟩⟩
      have ln : Aside0 (∀ X : World, S X → X.cell? ⟨gn, 0, none⟩ = some (.int .i64 a2)) := ⟨fun X h => by rw [hSdef] at h; exact (blk_cell h.2.1 0).trans rfl⟩
      have ll : Aside0 (∀ X : World, S X → X.cell? ⟨gl, 0, none⟩ = some (.int .i64 a1)) := ⟨fun X h => by rw [hSdef] at h; exact (blk_cell h.2.2 0).trans rfl⟩
      have ld : Aside0 (∀ X : World, S X → X.cell? ⟨gd, 0, none⟩ = some (.slice A0_0 l0_0.length c0_0) ∧ X.cell? ⟨gd, 1, none⟩ = some (.slice A0_1 l0_1.length c0_1) ∧ X.cell? ⟨gd, 2, none⟩ = some (.slice A0_2 l0_2.length c0_2) ∧ X.cell? ⟨gd, 3, none⟩ = some (.int .i64 a0_3)) := ⟨fun X h => by rw [hSdef] at h; exact ⟨(blk_cell h.1 0).trans rfl, (blk_cell h.1 1).trans rfl, (blk_cell h.1 2).trans rfl, (blk_cell h.1 3).trans rfl⟩⟩
      have hmix : Try.prog.follows .mixedOrders = true := by kernel_rfl
      by_cases h2 : 0 ≤ a2
      · have hg : decide (0 ≤ a2) = true := decide_eq_true h2
        obtain ⟨t, ht, hC⟩ := HOf.out i hlt h2
        have HC := Aside0.mk hC
        have HT := Aside0.mk ht
        clear hC ht
        gi_wp2
        refine wpIn_region_held S 13 hmix ?_
        refine wpAnyHI_take (i := 0) (v := .int .i64 a2) (fun _ => trivial) rfl (by kernel_rfl) (fun _ _ _ h => h) (Or.inl ⟨by kernel_rfl, fun X hX => ?_⟩) HS0.out ?_
        · have := ln.out X hX
          go_simp
        refine wpAnyHI_take (i := 1) (v := .bool true) (fun _ => trivial) rfl (by kernel_rfl) (fun _ _ _ h => h) (Or.inl ⟨by kernel_rfl, fun X hX => ?_⟩) HS0.out ?_
        · go_simp
        refine wpAnyHI_take (i := 2) (v := .bool true) (fun _ => trivial) rfl (by kernel_rfl) (fun _ _ _ h => h) (Or.inl ⟨by kernel_rfl, fun X hX => ?_⟩) HS0.out ?_
        · go_simp
        refine wpAnyHI_take (i := 3) (v := .agg #[.slice A0_0 l0_0.length c0_0, .slice A0_1 l0_1.length c0_1, .slice A0_2 l0_2.length c0_2, .int .i64 a0_3]) (fun _ => trivial) rfl (by kernel_rfl) (fun _ _ _ h => h) (Or.inl ⟨by kernel_rfl, fun X hX => ?_⟩) HS0.out ?_
        · obtain ⟨q0, q1, q2, q3⟩ := ld.out X hX
          go_simp
        refine wpAnyHI_take (i := 4) (v := .int .i64 a1) (fun _ => trivial) rfl (by kernel_rfl) (fun _ _ _ h => h) (Or.inl ⟨by kernel_rfl, fun X hX => ?_⟩) HS0.out ?_
        · have := ll.out X hX
          go_simp
        refine wpAnyHI_take (i := 5) (v := .int .i64 (i : Int)) (fun _ => trivial) rfl (by kernel_rfl) (fun _ _ _ h => h) (Or.inl ⟨by kernel_rfl, fun X hX => ?_⟩) HS0.out ?_
        · go_simp
        refine wpAnyHI_take (i := 7) (v := .int .i64 a2) (fun _ => trivial) rfl (by kernel_rfl) (fun _ _ _ h => h) (Or.inl ⟨by kernel_rfl, fun X hX => ?_⟩) HS0.out ?_
        · have := ln.out X hX
          go_simp
        refine wpAnyHI_one (i := 6) (fun _ => trivial) rfl (by kernel_rfl) (fun K' hK => ?_)
        rw [if_pos (by kernel_rfl)]
        go_simp
        refine ⟨trivial, (callsIn_wide.2 (HC.out _ HBr.out.drew)).mono ?_⟩
        rintro e W2 ⟨rfl, hb⟩
        dsimp only
        have hJ2 : J (domain_Members.up l0_0 l0_1 l0_2 a0_3 a1 a2 i) W2 := hJ _ _ _ none hJi ⟨hb.os, hb.tape, hb.output, hb.size, fun k hk _ => hb.block k hk⟩ (fun r e => by cases e)
        have HB2 : Aside0 (Below n₀ w W2) := ⟨HBr.out.drew.trans (hb.mono (Nat.le_trans hn₀ HBr.out.size))⟩
        have HD2 : Aside0 (W2.heap[gd]? = some (.cells #[.slice A0_0 l0_0.length c0_0, .slice A0_1 l0_1.length c0_1, .slice A0_2 l0_2.length c0_2, .int .i64 a0_3] 25 (0, 0))) := ⟨blk_below (w := wr.drew) HDr.out hb⟩
        have HN2 : Aside0 (W2.heap[gn]? = some (.cells #[.int .i64 a2] 3 (0, 0))) := ⟨blk_below (w := wr.drew) HNr.out hb⟩
        have HL2 : Aside0 (W2.heap[gl]? = some (.cells #[.int .i64 a1] 3 (0, 0))) := ⟨blk_below (w := wr.drew) HLr.out hb⟩
        have HS2 : Aside0 (S W2) := ⟨by rw [hSdef]; exact ⟨HD2.out, HN2.out, HL2.out⟩⟩
        clear hb
        refine hK _ _ HS2.out ?_
        clear hK K'
        by_cases htt : t = a2
        · subst htt
          have hm : domain_Members.hit l0_0 l0_1 l0_2 a0_3 a1 t i = true := by unfold domain_Members.hit; rw [hg, HT.out]; simp
          have hlen : (domain_Members.up l0_0 l0_1 l0_2 a0_3 a1 t i).length < (domain_Members.up l0_0 l0_1 l0_2 a0_3 a1 t l0_0.length).length := by
            have h9 := (domain_Members.up_prefix (l0_0 := l0_0) (l0_1 := l0_1) (l0_2 := l0_2) (a0_3 := a0_3) (a1 := a1) (a2 := t) (i + 1) (l0_0.length - (i + 1))).length_le
            rw [show i + 1 + (l0_0.length - (i + 1)) = l0_0.length by omega, domain_Members.up_hit hm, List.length_append] at h9
            simp at h9
            omega
          obtain ⟨fn, tmps, assign, body, hy, hR⟩ := HY.out _ (i : Int) W2 hJ2 hlen
          have HR := Aside0.mk hR
          clear hR hlen
          refine wpAnyHI_take (i := 8) (v := .bool true) (fun _ => trivial) rfl (by kernel_rfl) (fun _ _ _ h => h) (Or.inl ⟨by kernel_rfl, fun X hX => ?_⟩) HS2.out ?_
          · go_simp
          refine wpAnyHI_take (i := 9) (v := .bool true) (fun _ => trivial) rfl (by kernel_rfl) (fun _ _ _ h => h) (Or.inl ⟨by kernel_rfl, fun X hX => ?_⟩) HS2.out ?_
          · go_simp
          refine wpAnyHI_take (i := 10) (v := .bool true) (fun _ => trivial) rfl (by kernel_rfl) (fun _ _ _ h => h) (Or.inl ⟨by kernel_rfl, fun X hX => ?_⟩) HS2.out ?_
          · go_simp
          refine wpAnyHI_take (i := 11) (v := .func (.yield l) #[] #[]) (fun _ => trivial) rfl (by kernel_rfl) (fun _ _ _ h => h) (Or.inl ⟨by kernel_rfl, fun X hX => ?_⟩) HS2.out ?_
          · go_simp
          refine wpAnyHI_take (i := 12) (v := .int .i64 (i : Int)) (fun _ => trivial) rfl (by kernel_rfl) (fun _ _ _ h => h) (Or.inl ⟨by kernel_rfl, fun X hX => ?_⟩) HS2.out ?_
          · go_simp
          refine wpAnyHI_mid (fun _ => trivial) rfl (by kernel_rfl) (fun K' hK => ?_)
          rw [if_pos (by kernel_rfl)]
          go_simp
          refine HR.out.mono ?_
          rintro e W3 (⟨rfl, hJ3, hk3⟩ | ⟨rfl, hJx3⟩)
          · dsimp only
            rw [← domain_Members.up_hit hm] at hJ3
            obtain ⟨hkb, hkd, hkn, hkl⟩ := hk3
            have HB3 : Aside0 (Below n₀ w W3) := ⟨HB2.out.trans hkb⟩
            have HD3 : Aside0 (W3.heap[gd]? = some (.cells #[.slice A0_0 l0_0.length c0_0, .slice A0_1 l0_1.length c0_1, .slice A0_2 l0_2.length c0_2, .int .i64 a0_3] 25 (0, 0))) := ⟨hkd.trans HD2.out⟩
            have HN3 : Aside0 (W3.heap[gn]? = some (.cells #[.int .i64 t] 3 (0, 0))) := ⟨hkn.trans HN2.out⟩
            have HL3 : Aside0 (W3.heap[gl]? = some (.cells #[.int .i64 a1] 3 (0, 0))) := ⟨hkl.trans HL2.out⟩
            clear hkb hkd hkn hkl
            refine hK _ _ ?_
            clear hK K'
            refine wpAnyIn_take1 (i := 14) (v := .bool false) (fun _ => trivial) rfl (by kernel_rfl) (Or.inl ⟨by kernel_rfl, fun X hX => ?_⟩) ?_
            · go_simp
            refine wpAnyIn_take1 (i := 15) (v := .bool false) (fun _ => trivial) rfl (by kernel_rfl) (Or.inl ⟨by kernel_rfl, fun X hX => ?_⟩) ?_
            · go_simp
            refine wpAnyIn_done (by kernel_rfl) ?_ _
            go_simp
            gi_wp2
            go_roundw
            case rel => exact ⟨i + 1, by omega, by go_num, hJ3, HB3, HD3, HN3, HL3⟩
            case measure => simp [intOf]; omega
          · dsimp only
            rw [← domain_Members.up_hit hm] at hJx3
            have hpre : domain_Members.up l0_0 l0_1 l0_2 a0_3 a1 t (i + 1) <+: domain_Members.up l0_0 l0_1 l0_2 a0_3 a1 t l0_0.length := by
              have h9 := domain_Members.up_prefix (l0_0 := l0_0) (l0_1 := l0_1) (l0_2 := l0_2) (a0_3 := a0_3) (a1 := a1) (a2 := t) (i + 1) (l0_0.length - (i + 1))
              rw [show i + 1 + (l0_0.length - (i + 1)) = l0_0.length by omega] at h9
              exact h9
            refine hK _ _ ?_
            clear hK K'
            refine wpAnyIn_take1 (i := 14) (v := .bool true) (fun _ => trivial) rfl (by kernel_rfl) (Or.inl ⟨by kernel_rfl, fun X hX => ?_⟩) ?_
            · go_simp
            refine wpAnyIn_take1 (i := 15) (v := .bool true) (fun _ => trivial) rfl (by kernel_rfl) (Or.inl ⟨by kernel_rfl, fun X hX => ?_⟩) ?_
            · go_simp
            refine wpAnyIn_done (by kernel_rfl) ?_ _
            go_simp
            gi_wp2
            refine bodyPost_ret (results_none rfl _ _ _) rfl ?_
            exact ⟨⟨_, rfl⟩, .inr ⟨_, hpre, hJx3⟩⟩
        · have hm : domain_Members.hit l0_0 l0_1 l0_2 a0_3 a1 a2 i = false := by unfold domain_Members.hit; rw [hg, HT.out]; simpa using htt
          have he : decide (t = a2) = false := decide_eq_false htt
          refine wpAnyHI_take (i := 8) (v := .bool false) (fun _ => trivial) rfl (by kernel_rfl) (fun _ _ _ h => h) (Or.inl ⟨by kernel_rfl, fun X hX => ?_⟩) HS2.out ?_
          · go_simp
          refine wpAnyHI_take (i := 9) (v := .bool false) (fun _ => trivial) rfl (by kernel_rfl) (fun _ _ _ h => h) (Or.inl ⟨by kernel_rfl, fun X hX => ?_⟩) HS2.out ?_
          · go_simp
          refine wpAnyHI_take (i := 10) (v := .bool false) (fun _ => trivial) rfl (by kernel_rfl) (fun _ _ _ h => h) (Or.inl ⟨by kernel_rfl, fun X hX => ?_⟩) HS2.out ?_
          · go_simp
          refine wpAnyHI_take (i := 11) (v := undef) (fun _ => trivial) rfl (by kernel_rfl) (fun _ _ _ h => h) (Or.inr ⟨by kernel_rfl, rfl⟩) HS2.out ?_
          refine wpAnyHI_take (i := 12) (v := undef) (fun _ => trivial) rfl (by kernel_rfl) (fun _ _ _ h => h) (Or.inr ⟨by kernel_rfl, rfl⟩) HS2.out ?_
          refine wpAnyHI_mid_not (fun _ => trivial) rfl (by kernel_rfl) (by kernel_rfl) ?_
          refine wpAnyIn_take1 (i := 14) (v := undef) (fun _ => trivial) rfl (by kernel_rfl) (Or.inr ⟨by kernel_rfl, rfl⟩) ?_
          refine wpAnyIn_take1 (i := 15) (v := .bool false) (fun _ => trivial) rfl (by kernel_rfl) (Or.inl ⟨by kernel_rfl, fun X hX => ?_⟩) ?_
          · go_simp
          refine wpAnyIn_done (by kernel_rfl) ?_ _
          go_simp
          gi_wp2
          go_roundw
          case rel => exact ⟨i + 1, by omega, by go_num, by rw [domain_Members.up_miss hm]; exact hJ2, HB2, HD2, HN2, HL2⟩
          case measure => simp [intOf]; omega
      · have hg : decide (0 ≤ a2) = false := decide_eq_false h2
        have hm : domain_Members.hit l0_0 l0_1 l0_2 a0_3 a1 a2 i = false := by unfold domain_Members.hit; rw [hg]; rfl
        gi_wp2
        refine wpIn_region_held S 13 hmix ?_
        refine wpAnyHI_take (i := 0) (v := .int .i64 a2) (fun _ => trivial) rfl (by kernel_rfl) (fun _ _ _ h => h) (Or.inl ⟨by kernel_rfl, fun X hX => ?_⟩) HS0.out ?_
        · have := ln.out X hX
          go_simp
        refine wpAnyHI_take (i := 1) (v := .bool false) (fun _ => trivial) rfl (by kernel_rfl) (fun _ _ _ h => h) (Or.inl ⟨by kernel_rfl, fun X hX => ?_⟩) HS0.out ?_
        · go_simp
        refine wpAnyHI_take (i := 2) (v := .bool false) (fun _ => trivial) rfl (by kernel_rfl) (fun _ _ _ h => h) (Or.inl ⟨by kernel_rfl, fun X hX => ?_⟩) HS0.out ?_
        · go_simp
        refine wpAnyHI_take (i := 3) (v := undef) (fun _ => trivial) rfl (by kernel_rfl) (fun _ _ _ h => h) (Or.inr ⟨by kernel_rfl, rfl⟩) HS0.out ?_
        refine wpAnyHI_take (i := 4) (v := undef) (fun _ => trivial) rfl (by kernel_rfl) (fun _ _ _ h => h) (Or.inr ⟨by kernel_rfl, rfl⟩) HS0.out ?_
        refine wpAnyHI_take (i := 5) (v := undef) (fun _ => trivial) rfl (by kernel_rfl) (fun _ _ _ h => h) (Or.inr ⟨by kernel_rfl, rfl⟩) HS0.out ?_
        refine wpAnyHI_take (i := 6) (v := undef) (fun _ => trivial) rfl (by kernel_rfl) (fun _ _ _ h => h) (Or.inr ⟨by kernel_rfl, rfl⟩) HS0.out ?_
        refine wpAnyHI_take (i := 7) (v := undef) (fun _ => trivial) rfl (by kernel_rfl) (fun _ _ _ h => h) (Or.inr ⟨by kernel_rfl, rfl⟩) HS0.out ?_
        refine wpAnyHI_take (i := 8) (v := undef) (fun _ => trivial) rfl (by kernel_rfl) (fun _ _ _ h => h) (Or.inr ⟨by kernel_rfl, rfl⟩) HS0.out ?_
        refine wpAnyHI_take (i := 9) (v := .bool false) (fun _ => trivial) rfl (by kernel_rfl) (fun _ _ _ h => h) (Or.inl ⟨by kernel_rfl, fun X hX => ?_⟩) HS0.out ?_
        · go_simp
        refine wpAnyHI_take (i := 10) (v := .bool false) (fun _ => trivial) rfl (by kernel_rfl) (fun _ _ _ h => h) (Or.inl ⟨by kernel_rfl, fun X hX => ?_⟩) HS0.out ?_
        · go_simp
        refine wpAnyHI_take (i := 11) (v := undef) (fun _ => trivial) rfl (by kernel_rfl) (fun _ _ _ h => h) (Or.inr ⟨by kernel_rfl, rfl⟩) HS0.out ?_
        refine wpAnyHI_take (i := 12) (v := undef) (fun _ => trivial) rfl (by kernel_rfl) (fun _ _ _ h => h) (Or.inr ⟨by kernel_rfl, rfl⟩) HS0.out ?_
        refine wpAnyHI_mid_not (fun _ => trivial) rfl (by kernel_rfl) (by kernel_rfl) ?_
        refine wpAnyIn_take1 (i := 14) (v := undef) (fun _ => trivial) rfl (by kernel_rfl) (Or.inr ⟨by kernel_rfl, rfl⟩) ?_
        refine wpAnyIn_take1 (i := 15) (v := .bool false) (fun _ => trivial) rfl (by kernel_rfl) (Or.inl ⟨by kernel_rfl, fun X hX => ?_⟩) ?_
        · go_simp
        refine wpAnyIn_done (by kernel_rfl) ?_ _
        go_simp
        gi_wp2
        go_roundw
        case rel => exact ⟨i + 1, by omega, by go_num, by rw [domain_Members.up_miss hm]; exact hJ _ _ _ none hJi ⟨rfl, rfl, rfl, Nat.le_refl _, fun _ _ _ => rfl⟩ (fun r e => by cases e), ⟨HBr.out.drew⟩, ⟨HDr.out⟩, ⟨HNr.out⟩, ⟨HLr.out⟩⟩
        case measure => simp [intOf]; omega
    · have hdl : decide ((i : Int) < (l0_0.length : Int)) = false := decide_eq_false (by omega)
      obtain rfl : i = l0_0.length := by omega
      gi_wp2
      go_end0
      exact ⟨⟨_, rfl⟩, .inl ⟨_, rfl, hJi⟩⟩
end
set_option maxHeartbeats 1000000 in
theorem domain_members_h.calls (A0_0 : Option Addr) (c0_0 n0 : Nat) (A0_1 : Option Addr) (c0_1 n1 : Nat) (A0_2 : Option Addr) (c0_2 n2 : Nat) (a0_3 a1 a2 : Int) (w : World) :
    Calls Try.prog 61 #[.agg #[.slice A0_0 n0 c0_0, .slice A0_1 n1 c0_1, .slice A0_2 n2 c0_2, .int .i64 a0_3], .int .i64 a1, .int .i64 a2] w fun e w' => ∃ gd gn gl, e = .returned (.func (.func 83) #[] #[.pointer (some ⟨gd, 0, none⟩), .pointer (some ⟨gn, 0, none⟩), .pointer (some ⟨gl, 0, none⟩)]) ∧ gd < w'.heap.size ∧ gn < w'.heap.size ∧ gl < w'.heap.size ∧
      w.heap.size ≤ gd ∧ w.heap.size ≤ gn ∧ w.heap.size ≤ gl ∧
      w'.heap[gd]? = some (.cells #[.slice A0_0 n0 c0_0, .slice A0_1 n1 c0_1, .slice A0_2 n2 c0_2, .int .i64 a0_3] 25 (0, 0)) ∧ w'.heap[gn]? = some (.cells #[.int .i64 a2] 3 (0, 0)) ∧ w'.heap[gl]? = some (.cells #[.int .i64 a1] 3 (0, 0)) ∧ Below w.heap.size w w' := by
  go_enter Try.func61, Try.ntmps61
  go_wp2
  go_ret
  refine ⟨_, _, _, rfl, ?_, ?_, ?_, ?_, ?_, ?_, ?_, ?_, ?_, ?_⟩
  · simp; omega
  · simp
  · simp
  · omega
  · omega
  · omega
  · exact (Below.heap_alloc _ _ _ (by simp; omega)).trans ((Below.heap_alloc _ _ _ (by simp)).trans (World.alloc_heap_new w _))
  · have h := World.alloc_heap_new ((w.alloc (Obj.cells #[.slice A0_0 n0 c0_0, .slice A0_1 n1 c0_1, .slice A0_2 n2 c0_2, .int .i64 a0_3] 25)).alloc (Obj.cells #[.int .i64 a1] 3)) (Obj.cells #[.int .i64 a2] 3)
    simp only [World.size_alloc] at h
    exact h
  · have h := World.alloc_heap_new (w.alloc (Obj.cells #[.slice A0_0 n0 c0_0, .slice A0_1 n1 c0_1, .slice A0_2 n2 c0_2, .int .i64 a0_3] 25)) (Obj.cells #[.int .i64 a1] 3)
    simp only [World.size_alloc] at h
    exact (Below.heap_alloc _ _ _ (by simp)).trans h
  · exact (((Below.refl _ w).alloc (Nat.le_refl _) _).alloc (by simp) _).alloc (by simp; omega) _
section
attribute [local go_sem] Oper.semAt_some
set_option maxRecDepth 100000 in
set_option maxHeartbeats 4000000 in
theorem domain_Members.calls (A0_0 : Option Addr) (c0_0 : Nat) (l0_0 : List Int) (A0_1 : Option Addr) (c0_1 : Nat) (l0_1 : List S117) (A0_2 : Option Addr) (c0_2 : Nat) (l0_2 : List Int) (a0_3 a1 a2 : Int) (r : List Int) (w : World) (hr0_0 : Kd.C (Kd.int .i64) w A0_0 l0_0.length l0_0) (hc0_0 : l0_0.length ≤ c0_0) (hr0_1 : Kd.C k117 w A0_1 l0_1.length l0_1) (hc0_1 : l0_1.length ≤ c0_1) (hr0_2 : Kd.C (Kd.int .i64) w A0_2 l0_2.length l0_2) (hc0_2 : l0_2.length ≤ c0_2) (h : domain_Members.f l0_0 l0_1 l0_2 a0_3 a1 a2 = some r) :
    Calls Try.prog 21 #[.agg #[.slice A0_0 l0_0.length c0_0, .slice A0_1 l0_1.length c0_1, .slice A0_2 l0_2.length c0_2, .int .i64 a0_3], .int .i64 a1, .int .i64 a2] w fun e w' => ∃ v0_ : Value, e = .returned v0_ ∧ Kd.R (Kd.int .i64) 3 w' w.heap.size (fun _ => True) v0_ r ∧ Below w.heap.size w w' := by
  unfold domain_Members.f at h
  split at h
  case isFalse => cases h
  rename_i hh
  obtain rfl := Option.some.inj h
  clear h
  obtain ⟨hmx, hall⟩ := hh
  have hupl : (domain_Members.up l0_0 l0_1 l0_2 a0_3 a1 a2 l0_0.length).length ≤ l0_0.length := by
    unfold domain_Members.up
    rw [List.length_map]
    exact Nat.le_trans (List.length_filter_le _ _) (by simp)
  have HOf : Aside0 (∀ w1, Below w.heap.size w w1 → ∀ i : Nat, i < l0_0.length → 0 ≤ a2 → ∃ t, domain_Of.f 9 l0_0 l0_1 l0_2 a0_3 a1 (i : Int) = some t ∧ ∀ W, Below w.heap.size w1 W → Calls Try.prog 18 #[.agg #[.slice A0_0 l0_0.length c0_0, .slice A0_1 l0_1.length c0_1, .slice A0_2 l0_2.length c0_2, .int .i64 a0_3], .int .i64 a1, .int .i64 (i : Int)] W fun e W' => e = .returned (.int .i64 t) ∧ Below W.heap.size W W') := ⟨by
    intro w1 hb1 i hi h2
    have h3 := List.all_eq_true.1 hall i (List.mem_range.2 hi)
    rw [decide_eq_false (by omega), Bool.false_or] at h3
    obtain ⟨t, ht⟩ := Option.isSome_iff_exists.1 h3
    exact ⟨t, ht, fun W hW => domain_Of.calls 9 A0_0 c0_0 l0_0 A0_1 c0_1 l0_1 A0_2 c0_2 l0_2 a0_3 a1 (i : Int) t W (Kd.C_below hr0_0 (hb1.trans hW)) hc0_0 (Kd.C_below hr0_1 (hb1.trans hW)) hc0_1 (Kd.C_below hr0_2 (hb1.trans hW)) hc0_2 ht⟩⟩
  clear hr0_0 hr0_1 hr0_2 hc0_0 hc0_1 hc0_2 hall
  obtain ⟨i0, hi, hz0, hz1, hz2⟩ := info_parts info3
  refine (callsIn_wide (n := 3)).1 ?_
  refine callsIn_of_wp_marks Try.func21 rfl trivial ?_
  simp only [Try.ntmps21, List.size_toArray, List.length_cons, List.length_nil, Nat.reduceAdd, Nat.reduceSub, Array.replicate_succ, Array.replicate_zero, List.push_toArray, List.append_toArray, List.nil_append, List.cons_append]
  gi_wp2_with ((refine ⟨trivial, ?_⟩); gi_at_call 61; refine (callsIn_wide.2 (domain_members_h.calls A0_0 c0_0 l0_0.length A0_1 c0_1 l0_1.length A0_2 c0_2 l0_2.length a0_3 a1 a2 _)).mono ?_; rintro e w1 ⟨gd, gn, gl, rfl, g1, g2, g3, g4, g5, g6, hd, hn, hl, hb⟩; have HD := Aside0.mk hd; have HN := Aside0.mk hn; have HL := Aside0.mk hl; have HB := Aside0.mk hb; clear hd hn hl hb)
  simp only [World.size_alloc] at g4 g5 g6
  have hsz : w.heap.size + 1 + 1 ≤ w1.heap.size := by have := HB.out.size; simp at this; omega
  have hw1 : Below w.heap.size w w1 := (((Below.refl _ w).alloc (Nat.le_refl _) _).alloc (by simp) _).trans (HB.out.mono (by simp; omega))
  have bO : Boxed w1 (w.heap.size + 1) 22 (.slice none 0 0) := by
    have h := World.alloc_heap_new (w.alloc (Obj.cells #[.slice A0_0 l0_0.length c0_0, .slice A0_1 l0_1.length c0_1, .slice A0_2 l0_2.length c0_2, .int .i64 a0_3] 25)) (Obj.cells #[.slice none 0 0] 22)
    simp only [World.size_alloc] at h
    exact (HB.out.block _ (by simp)).trans h
  refine wpIn_rangeFunc_ownG rfl (by omega) (gf := 83) (lb := #[.pointer (some ⟨gd, 0, none⟩), .pointer (some ⟨gn, 0, none⟩), .pointer (some ⟨gl, 0, none⟩)]) rfl trivial (enters_of Try.func83 (by kernel_rfl) rfl)
    (domain_Members_1h.stops 2 (by omega) w.heap.size gd gn gl A0_0 c0_0 l0_0 A0_1 c0_1 l0_1 A0_2 c0_2 l0_2 a0_3 a1 a2 w1 (by omega) hmx HD.out HN.out HL.out (HOf.out w1 hw1))
    (fun h k => ⟨h.1.trans k.1, k.2.1.trans h.2.1, k.2.2.1.trans h.2.2.1, k.2.2.2.trans h.2.2.2⟩)
    (fun W l o o' hl h hc hw => ⟨belowK_b (w := w1) (by omega) W l o o' hl h hc hw, World.putObj_heap_other (by omega), World.putObj_heap_other (by omega), World.putObj_heap_other (by omega)⟩)
    (Below.refl _ _) (fun _ => rfl)
    (fun pre W => (∃ v, Boxed W (w.heap.size + 1) 22 v ∧ W.ownsRow w1.heap.size 3 1 v pre.length (pre.map (Value.int .i64)) ∧ True) ∧ Below w.heap.size w1 W)
    (fun _ _ _ => False)
    (OwnFrom.and (Own.from (holdsRow_own w1.heap.size (w.heap.size + 1) 22 3 1 (fun pre : List Int => pre.length) (fun pre => pre.map (Value.int .i64)) (fun _ _ => True)) _) (ownFrom_below (by omega) (by omega)))
    (fun _ _ _ _ _ hs _ _ => hs)
    ⟨⟨_, bO, World.ownsRow_nil _ _ _ _, trivial⟩, Below.refl _ _⟩
    (fun x => { tmps := #[.agg #[.slice A0_0 l0_0.length c0_0, .slice A0_1 l0_1.length c0_1, .slice A0_2 l0_2.length c0_2, .int .i64 a0_3], .int .i64 a1, .int .i64 a2, .pointer (some ⟨w.heap.size, 0, none⟩), undef, undef, .slice none 0 0, .pointer (some ⟨w.heap.size + 1, 0, none⟩), .int .i64 x, .agg #[.slice A0_0 l0_0.length c0_0, .slice A0_1 l0_1.length c0_1, .slice A0_2 l0_2.length c0_2, .int .i64 a0_3], .int .i64 a1, .int .i64 a2, .func (.func 83) #[] #[.pointer (some ⟨gd, 0, none⟩), .pointer (some ⟨gn, 0, none⟩), .pointer (some ⟨gl, 0, none⟩)], .int .i64 x, undef, undef, undef, undef, undef], defers := [] }) ?assign ?body ?done ?stop
  case assign =>
    intro l x W K hK
    gi_wp2
    exact hK
  case body =>
    rintro l pre x W ⟨⟨v, hv, hrow, _⟩, hB⟩ hlt
    have hc := hv.cell
    have hlt2 : pre.length < l0_0.length := Nat.lt_of_lt_of_le hlt hupl
    have HRow := Aside0.mk hrow
    have HV := Aside0.mk hv
    have HBW := Aside0.mk hB
    clear hlt hupl hrow hv hB
    gi_wp2_with (gi_at_builtin; refine wpListIn_append_own _ rfl _ _ 22 rfl w1.heap.size 3 i0 (.int .i64 0) 1 8 Try.underlying22 hi hz0 hz1 hz2 rfl (by decide) _ _ _ rfl (HRow.out.alloc _) ⟨W.heap.size, 0, none⟩ 1 1 [.int .i64 x] rfl rfl (cell_one_new _ _ _) (by simp [Value.oneCell']) (by unfold maxLen; omega) (by omega) (by have := HBW.out.size; simp; omega) ?_; intro v' w2 hown' hgrow _; obtain ⟨g', cap', rfl⟩ := ownsRow_succ hown'; obtain ⟨hv1, hv2, hr2, hk2, hb2⟩ := HV.out.appended (by decide) (own_weaken HRow.out (show w.heap.size ≤ w1.heap.size by omega)) (show w.heap.size ≤ W.heap.size by have := HBW.out.size; omega) (show w.heap.size ≤ w.heap.size + 1 by omega) (own_weaken hown' (show w.heap.size ≤ w1.heap.size by omega)) hgrow; have hc1 := hv1.cell; have hf1 := hv1.frozen; have HO2 : Aside0 ((w2.setCell ⟨w.heap.size + 1, 0, none⟩ (.slice (some ⟨g', 0, none⟩) (pre.length + 1) cap')).ownsRow w1.heap.size 3 1 (.slice (some ⟨g', 0, none⟩) (pre.length + 1) cap') (pre.length + 1) (pre.map (Value.int .i64) ++ [.int .i64 x])) := ⟨hown'.kept (grownBy_setCell' w2 (w.heap.size + 1) _) (.inr (hv1.not_row (by decide) hown').symm)⟩; have HG2 := Aside0.mk hgrow; have HK2 := Aside0.mk hk2; have HB2 := Aside0.mk hb2; have HV2 := Aside0.mk hv2; clear hv1 hv2 hr2 hk2 hb2 hown' hgrow)
    have hoth : ∀ g, g < w1.heap.size → g ≠ w.heap.size + 1 → (w2.setCell ⟨w.heap.size + 1, 0, none⟩ (.slice (some ⟨g', 0, none⟩) (pre.length + 1) cap')).heap[g]? = W.heap[g]? := by
      intro g hg hne
      have hgW : g < W.heap.size := by have := HBW.out.size; omega
      refine (Below.heap_setCell _ _ _ _ hne).trans ?_
      refine (HG2.out.block g (by simp; omega) ?_).trans (Below.heap_alloc _ _ _ hgW)
      intro e
      have := own_base HRow.out g e.symm
      omega
    exact ⟨HK2.out.from _, ⟨HB2.out, hoth gd g1 (by omega), hoth gn g2 (by omega), hoth gl g3 (by omega)⟩, ⟨_, HV2.out, by simpa using HO2.out, trivial⟩, HBW.out.trans HB2.out⟩
  case done =>
    rintro D ys W hD rfl ⟨⟨v, hv, hrow, _⟩, hB⟩ hK
    have hc := hv.cell
    gi_wp2
    refine ⟨by simp, .inl ⟨_, _, rfl, run_takeDeferred hK, ?_⟩⟩
    refine ⟨_, results_tmp rfl _ _ _, v, rfl, R_of_own ?_, ?_⟩
    · exact ownsRow_putObj (own_weaken hrow (by omega)) _ hK rfl
    · exact (hw1.trans hB).trans (belowK_b (w := w) (Nat.le_refl _) W D _ _ (by omega) hK rfl rfl)
  case stop =>
    rintro D c pre W _ _ h _
    exact h.elim
end
open Go.Proofs.YteknbadjfojmbaaW.PrintWords renaming blk_drewN → zm_, blk_drew → zn_, blk_alloc → zo_, blk_below → zq_, below_set → zr_, below_alloc → zs_, pw_below_drewN → zt_, below_drew1 → zu_, below_step → zv_, below_size → zw_
def domain_Relate.l0 : Nat → Int → Int → Int → List Int → List (S117) → List Int → Int → Option (Int)
  | 0, _, _, _, _, _, _, _ => none
  | k + 1, x1, x2, x9, x114000, x114001, x114002, x114003 => if x9 < 4 then ((domain_Of.f k x114000 x114001 x114002 x114003 x9 x1).bind fun t114 => (if t114 ≥ 0 then ((domain_Of.f k x114000 x114001 x114002 x114003 x9 x2).bind fun t115 => (if t114 = t115 then (some x9) else (domain_Relate.l0 k x1 x2 (wrap64 (x9 + 1)) x114000 x114001 x114002 x114003))) else (domain_Relate.l0 k x1 x2 (wrap64 (x9 + 1)) x114000 x114001 x114002 x114003))) else (some 4)
def domain_Relate.f (k : Nat) (l0_0 : List Int) (l0_1 : List (S117)) (l0_2 : List Int) (a0_3 : Int) (a1 : Int) (a2 : Int) : Option (Int) := domain_Relate.l0 k a1 a2 0 l0_0 l0_1 l0_2 a0_3
set_option maxHeartbeats 8000000 in
set_option maxRecDepth 100000 in
theorem domain_Relate.calls (k : Nat) (A0_0 : Option Addr) (c0_0 : Nat) (l0_0 : List Int) (A0_1 : Option Addr) (c0_1 : Nat) (l0_1 : List (S117)) (A0_2 : Option Addr) (c0_2 : Nat) (l0_2 : List Int) (a0_3 : Int) (a1 : Int) (a2 : Int) (r : Int) (w : World) (hr0_0 : Kd.C (Kd.int .i64) w A0_0 l0_0.length l0_0) (hc0_0 : l0_0.length ≤ c0_0) (hr0_1 : Kd.C k117 w A0_1 l0_1.length l0_1) (hc0_1 : l0_1.length ≤ c0_1) (hr0_2 : Kd.C (Kd.int .i64) w A0_2 l0_2.length l0_2) (hc0_2 : l0_2.length ≤ c0_2) (h : domain_Relate.f k l0_0 l0_1 l0_2 a0_3 a1 a2 = some r) :
    Calls Try.prog 25 #[.agg #[.slice A0_0 l0_0.length c0_0, .slice A0_1 l0_1.length c0_1, .slice A0_2 l0_2.length c0_2, .int .i64 a0_3], .int .i64 a1, .int .i64 a2] w fun e w' => e = .returned (.int .i64 r) ∧ Below w.heap.size w w' := by
  have hu25 := Try.underlying25
  have HR0_0 := Aside0.mk hr0_0
  have HC0_0 := Aside0.mk hc0_0
  clear hr0_0 hc0_0
  have HR0_1 := Aside0.mk hr0_1
  have HC0_1 := Aside0.mk hc0_1
  clear hr0_1 hc0_1
  have HR0_2 := Aside0.mk hr0_2
  have HC0_2 := Aside0.mk hc0_2
  clear hr0_2 hc0_2
  have HB := Aside0.mk (Below.refl w.heap.size w)
  have H : (domain_Relate.l0 k a1 a2 0 l0_0 l0_1 l0_2 a0_3) = some r := h
  clear h
  have H' := Aside0.mk H
  clear H
  go_enter Try.func25, Try.ntmps25
  go_wp2_with (first | ((with_reducible refine gate_dst (N := 3) rfl ?_); refine box_event ?hg (N := 3) ?hd (cs := #[.slice A0_0 l0_0.length c0_0, .slice A0_1 l0_1.length c0_1, .slice A0_2 l0_2.length c0_2, .int .i64 a0_3]) (t := 25) ?hr ?_; (case hd => rfl); (case hg => rfl); (case hr => first | (go_simp; done) | (go_simp; rfl)); intro gb113 hg w4 hbox hb; have n0_ := Aside0.mk (zv_ (by repeat (first | (with_reducible first | exact HB.out | apply zs_ | apply zt_ | apply zu_) | exact HB.out)) hb); have n1_ := Aside0.mk (hbox); have n2_ := Aside0.mk ((by rw [hg]; exact (zw_ (by repeat (first | (with_reducible first | exact HB.out | apply zs_ | apply zt_ | apply zu_) | exact HB.out))) : w.heap.size ≤ gb113)); have n3_ := Aside0.mk ((by rw [hg]; exact (zw_ (by repeat (first | (with_reducible first | exact HB.out | apply zs_ | apply zt_ | apply zu_) | exact HB.out))) : w.heap.size ≤ gb113)); clear HB; have HB := n0_; have BK113 := n1_; have GW113 := n2_; have GE113 := n3_; clear n0_ n1_ n2_ n3_; clear hb hbox hg))
  go_loopg [9] k (fun kq v9 w' => ∃ (x9_1 : Int), v9 = .int .i64 x9_1 ∧ Aside0 (domain_Relate.l0 kq a1 a2 x9_1 l0_0 l0_1 l0_2 a0_3 = some r) ∧ Aside0 (kq ≤ k) ∧ Aside0 (w'.heap[gb113]? = some (.cells #[(.slice A0_0 l0_0.length c0_0), (.slice A0_1 l0_1.length c0_1), (.slice A0_2 l0_2.length c0_2), .int .i64 a0_3] 25 (0, 0))) ∧ Aside0 (Below w.heap.size w w'))
  case atStart => exact ⟨(0), (by first | rfl | (simp; done) | (simp [*]; done)), H', ⟨Nat.le_refl _⟩, ⟨by (with_reducible repeat (first | refine zm_ ?_ _ | refine zn_ ?_ | refine zo_ ?_ _)); exact BK113.out⟩, ⟨by repeat (first | (with_reducible first | exact HB.out | apply zs_ | apply zt_ | apply zu_ | refine zr_ ?_ GE113.out) | exact HB.out)⟩⟩
  case round =>
    clear H'
    try clear c2
    try clear p2
    obtain ⟨x9_1, rfl, HA, HK1, BK113, HB⟩ := hrel
    cases gk with
    | zero => exact absurd HA.out (by simp [domain_Relate.l0])
    | succ k1 =>
      have H := HA.out
      clear HA
      simp only [domain_Relate.l0] at H
      by_cases c5 : x9_1 < 4
      · rw [if_pos c5] at H
        have c5b0 : decide (x9_1 < 4) = true := decide_eq_true c5
        clear c5
        replace H := Option.bind_eq_some_iff.mp H
        obtain ⟨t114, A60, H⟩ := H
        replace H : (if t114 ≥ 0 then ((domain_Of.f k1 l0_0 l0_1 l0_2 a0_3 x9_1 a2).bind fun t115 => (if t114 = t115 then (some x9_1) else (domain_Relate.l0 k1 a1 a2 (wrap64 (x9_1 + 1)) l0_0 l0_1 l0_2 a0_3))) else (domain_Relate.l0 k1 a1 a2 (wrap64 (x9_1 + 1)) l0_0 l0_1 l0_2 a0_3)) = some r := H
        have A6 := Aside0.mk A60
        clear A60
        by_cases c7 : t114 ≥ 0
        · rw [if_pos c7] at H
          have c7b0 : decide (0 ≤ t114) = true := decide_eq_true c7
          clear c7
          replace H := Option.bind_eq_some_iff.mp H
          obtain ⟨t115, A80, H⟩ := H
          replace H : (if t114 = t115 then (some x9_1) else (domain_Relate.l0 k1 a1 a2 (wrap64 (x9_1 + 1)) l0_0 l0_1 l0_2 a0_3)) = some r := H
          have A8 := Aside0.mk A80
          clear A80
          by_cases c9 : t114 = t115
          · rw [if_pos c9] at H
            have c9b0 : (t114 == t115) = true := beq_iff_eq.mpr c9
            have c9b1 : (t114 != t115) = false := bne_eq_false_iff_eq.mpr c9
            clear c9
            obtain rfl := Option.some.inj H
            have hcz10_0 : wr.cell? ⟨gb113, 0, none⟩ = some (.slice A0_0 l0_0.length c0_0) := (blk_cell BK113.out 0).trans rfl
            have hcz10_1 : wr.cell? ⟨gb113, 1, none⟩ = some (.slice A0_1 l0_1.length c0_1) := (blk_cell BK113.out 1).trans rfl
            have hcz10_2 : wr.cell? ⟨gb113, 2, none⟩ = some (.slice A0_2 l0_2.length c0_2) := (blk_cell BK113.out 2).trans rfl
            have hcz10_3 : wr.cell? ⟨gb113, 3, none⟩ = some (.int .i64 a0_3) := (blk_cell BK113.out 3).trans rfl
            have hfz10_0 := blk_frozen BK113.out 0
            have hfz10_1 := blk_frozen BK113.out 1
            have hfz10_2 := blk_frozen BK113.out 2
            have hfz10_3 := blk_frozen BK113.out 3
            go_wp2_with (first | ((with_reducible refine gate_callee (f := 18) rfl ?_); refine goesL_ (some 15) rfl rfl Try.func18 (by kernel_rfl) rfl #[.agg #[.slice A0_0 l0_0.length c0_0, .slice A0_1 l0_1.length c0_1, .slice A0_2 l0_2.length c0_2, .int .i64 a0_3], .int .i64 x9_1, .int .i64 a1] rfl (by (try simp only [List.map_toArray, List.map_cons, List.map_nil]); first | done | rfl | (simp only [List.length_drop, List.length_take]; rfl)) ?_; (with_reducible refine (domain_Of.calls k1 _ _ l0_0 _ _ l0_1 _ _ l0_2 a0_3 x9_1 a1 t114 _ ?side1 ?side2 ?side3 ?side4 ?side5 ?side6 A6.out).mono ?_); (case side1 => repeat (first | exact (Kd.C_below HR0_0.out HB.out) | (with_reducible refine Kd.C_alloc ?_ _) | (with_reducible refine Kd.C_drewN ?_ _) | (with_reducible refine Kd.C_drew ?_))); (case side2 => exact HC0_0.out); (case side3 => repeat (first | exact (Kd.C_below HR0_1.out HB.out) | (with_reducible refine Kd.C_alloc ?_ _) | (with_reducible refine Kd.C_drewN ?_ _) | (with_reducible refine Kd.C_drew ?_))); (case side4 => exact HC0_1.out); (case side5 => repeat (first | exact (Kd.C_below HR0_2.out HB.out) | (with_reducible refine Kd.C_alloc ?_ _) | (with_reducible refine Kd.C_drewN ?_ _) | (with_reducible refine Kd.C_drew ?_))); (case side6 => exact HC0_2.out); rintro e w11 ⟨rfl, hb⟩; refine ⟨_, rfl, ?_⟩; have n0_ := Aside0.mk (zq_ (g := gb113) (o := .cells #[.slice A0_0 l0_0.length c0_0, .slice A0_1 l0_1.length c0_1, .slice A0_2 l0_2.length c0_2, .int .i64 a0_3] 25 (0, 0)) (by (with_reducible repeat (first | refine zm_ ?_ _ | refine zn_ ?_ | refine zo_ ?_ _)); exact BK113.out) hb); have n1_ := Aside0.mk (zv_ (by repeat (first | (with_reducible first | exact HB.out | apply zs_ | apply zt_ | apply zu_ | refine zr_ ?_ GE113.out) | exact HB.out)) hb); clear BK113; clear HB; have BK113 := n0_; have HB := n1_; clear n0_ n1_; (try clear hb); (try clear hb2); (try clear hk); (try clear hi); have hcz12_0 : w11.cell? ⟨gb113, 0, none⟩ = some (.slice A0_0 l0_0.length c0_0) := (blk_cell BK113.out 0).trans rfl; have hcz12_1 : w11.cell? ⟨gb113, 1, none⟩ = some (.slice A0_1 l0_1.length c0_1) := (blk_cell BK113.out 1).trans rfl; have hcz12_2 : w11.cell? ⟨gb113, 2, none⟩ = some (.slice A0_2 l0_2.length c0_2) := (blk_cell BK113.out 2).trans rfl; have hcz12_3 : w11.cell? ⟨gb113, 3, none⟩ = some (.int .i64 a0_3) := (blk_cell BK113.out 3).trans rfl; have hfz12_0 := blk_frozen BK113.out 0; have hfz12_1 := blk_frozen BK113.out 1; have hfz12_2 := blk_frozen BK113.out 2; have hfz12_3 := blk_frozen BK113.out 3) | (go_at_call 18; (with_reducible refine (domain_Of.calls k1 _ _ l0_0 _ _ l0_1 _ _ l0_2 a0_3 x9_1 a2 t115 _ ?side1 ?side2 ?side3 ?side4 ?side5 ?side6 A8.out).mono ?_); (case side1 => repeat (first | exact (Kd.C_below HR0_0.out HB.out) | (with_reducible refine Kd.C_alloc ?_ _) | (with_reducible refine Kd.C_drewN ?_ _) | (with_reducible refine Kd.C_drew ?_))); (case side2 => exact HC0_0.out); (case side3 => repeat (first | exact (Kd.C_below HR0_1.out HB.out) | (with_reducible refine Kd.C_alloc ?_ _) | (with_reducible refine Kd.C_drewN ?_ _) | (with_reducible refine Kd.C_drew ?_))); (case side4 => exact HC0_1.out); (case side5 => repeat (first | exact (Kd.C_below HR0_2.out HB.out) | (with_reducible refine Kd.C_alloc ?_ _) | (with_reducible refine Kd.C_drewN ?_ _) | (with_reducible refine Kd.C_drew ?_))); (case side6 => exact HC0_2.out); rintro e w13 ⟨rfl, hb⟩; have n0_ := Aside0.mk (zq_ (g := gb113) (o := .cells #[.slice A0_0 l0_0.length c0_0, .slice A0_1 l0_1.length c0_1, .slice A0_2 l0_2.length c0_2, .int .i64 a0_3] 25 (0, 0)) (by (with_reducible repeat (first | refine zm_ ?_ _ | refine zn_ ?_ | refine zo_ ?_ _)); exact BK113.out) hb); have n1_ := Aside0.mk (zv_ (by repeat (first | (with_reducible first | exact HB.out | apply zs_ | apply zt_ | apply zu_ | refine zr_ ?_ GE113.out) | exact HB.out)) hb); clear BK113; clear HB; have BK113 := n0_; have HB := n1_; clear n0_ n1_; (try clear hb); (try clear hb2); (try clear hk); (try clear hi)))
            go_ret
            exact ⟨by first | rfl | (simp [errW_none, errW_some] <;> rfl) | (simp [*, errW_none, errW_some] <;> rfl), by repeat (first | (with_reducible first | exact HB.out | apply zs_ | apply zt_ | apply zu_ | refine zr_ ?_ GE113.out) | exact HB.out)⟩
          · rw [if_neg c9] at H
            have c9b0 : (t114 == t115) = false := beq_eq_false_iff_ne.mpr c9
            have c9b1 : (t114 != t115) = true := bne_iff_ne.mpr c9
            have H' := Aside0.mk H
            clear H
            have hcz14_0 : wr.cell? ⟨gb113, 0, none⟩ = some (.slice A0_0 l0_0.length c0_0) := (blk_cell BK113.out 0).trans rfl
            have hcz14_1 : wr.cell? ⟨gb113, 1, none⟩ = some (.slice A0_1 l0_1.length c0_1) := (blk_cell BK113.out 1).trans rfl
            have hcz14_2 : wr.cell? ⟨gb113, 2, none⟩ = some (.slice A0_2 l0_2.length c0_2) := (blk_cell BK113.out 2).trans rfl
            have hcz14_3 : wr.cell? ⟨gb113, 3, none⟩ = some (.int .i64 a0_3) := (blk_cell BK113.out 3).trans rfl
            have hfz14_0 := blk_frozen BK113.out 0
            have hfz14_1 := blk_frozen BK113.out 1
            have hfz14_2 := blk_frozen BK113.out 2
            have hfz14_3 := blk_frozen BK113.out 3
            go_wp2_with (first | ((with_reducible refine gate_callee (f := 18) rfl ?_); refine goesL_ (some 15) rfl rfl Try.func18 (by kernel_rfl) rfl #[.agg #[.slice A0_0 l0_0.length c0_0, .slice A0_1 l0_1.length c0_1, .slice A0_2 l0_2.length c0_2, .int .i64 a0_3], .int .i64 x9_1, .int .i64 a1] rfl (by (try simp only [List.map_toArray, List.map_cons, List.map_nil]); first | done | rfl | (simp only [List.length_drop, List.length_take]; rfl)) ?_; (with_reducible refine (domain_Of.calls k1 _ _ l0_0 _ _ l0_1 _ _ l0_2 a0_3 x9_1 a1 t114 _ ?side1 ?side2 ?side3 ?side4 ?side5 ?side6 A6.out).mono ?_); (case side1 => repeat (first | exact (Kd.C_below HR0_0.out HB.out) | (with_reducible refine Kd.C_alloc ?_ _) | (with_reducible refine Kd.C_drewN ?_ _) | (with_reducible refine Kd.C_drew ?_))); (case side2 => exact HC0_0.out); (case side3 => repeat (first | exact (Kd.C_below HR0_1.out HB.out) | (with_reducible refine Kd.C_alloc ?_ _) | (with_reducible refine Kd.C_drewN ?_ _) | (with_reducible refine Kd.C_drew ?_))); (case side4 => exact HC0_1.out); (case side5 => repeat (first | exact (Kd.C_below HR0_2.out HB.out) | (with_reducible refine Kd.C_alloc ?_ _) | (with_reducible refine Kd.C_drewN ?_ _) | (with_reducible refine Kd.C_drew ?_))); (case side6 => exact HC0_2.out); rintro e w15 ⟨rfl, hb⟩; refine ⟨_, rfl, ?_⟩; have n0_ := Aside0.mk (zq_ (g := gb113) (o := .cells #[.slice A0_0 l0_0.length c0_0, .slice A0_1 l0_1.length c0_1, .slice A0_2 l0_2.length c0_2, .int .i64 a0_3] 25 (0, 0)) (by (with_reducible repeat (first | refine zm_ ?_ _ | refine zn_ ?_ | refine zo_ ?_ _)); exact BK113.out) hb); have n1_ := Aside0.mk (zv_ (by repeat (first | (with_reducible first | exact HB.out | apply zs_ | apply zt_ | apply zu_ | refine zr_ ?_ GE113.out) | exact HB.out)) hb); clear BK113; clear HB; have BK113 := n0_; have HB := n1_; clear n0_ n1_; (try clear hb); (try clear hb2); (try clear hk); (try clear hi); have hcz16_0 : w15.cell? ⟨gb113, 0, none⟩ = some (.slice A0_0 l0_0.length c0_0) := (blk_cell BK113.out 0).trans rfl; have hcz16_1 : w15.cell? ⟨gb113, 1, none⟩ = some (.slice A0_1 l0_1.length c0_1) := (blk_cell BK113.out 1).trans rfl; have hcz16_2 : w15.cell? ⟨gb113, 2, none⟩ = some (.slice A0_2 l0_2.length c0_2) := (blk_cell BK113.out 2).trans rfl; have hcz16_3 : w15.cell? ⟨gb113, 3, none⟩ = some (.int .i64 a0_3) := (blk_cell BK113.out 3).trans rfl; have hfz16_0 := blk_frozen BK113.out 0; have hfz16_1 := blk_frozen BK113.out 1; have hfz16_2 := blk_frozen BK113.out 2; have hfz16_3 := blk_frozen BK113.out 3) | (go_at_call 18; (with_reducible refine (domain_Of.calls k1 _ _ l0_0 _ _ l0_1 _ _ l0_2 a0_3 x9_1 a2 t115 _ ?side1 ?side2 ?side3 ?side4 ?side5 ?side6 A8.out).mono ?_); (case side1 => repeat (first | exact (Kd.C_below HR0_0.out HB.out) | (with_reducible refine Kd.C_alloc ?_ _) | (with_reducible refine Kd.C_drewN ?_ _) | (with_reducible refine Kd.C_drew ?_))); (case side2 => exact HC0_0.out); (case side3 => repeat (first | exact (Kd.C_below HR0_1.out HB.out) | (with_reducible refine Kd.C_alloc ?_ _) | (with_reducible refine Kd.C_drewN ?_ _) | (with_reducible refine Kd.C_drew ?_))); (case side4 => exact HC0_1.out); (case side5 => repeat (first | exact (Kd.C_below HR0_2.out HB.out) | (with_reducible refine Kd.C_alloc ?_ _) | (with_reducible refine Kd.C_drewN ?_ _) | (with_reducible refine Kd.C_drew ?_))); (case side6 => exact HC0_2.out); rintro e w17 ⟨rfl, hb⟩; have n0_ := Aside0.mk (zq_ (g := gb113) (o := .cells #[.slice A0_0 l0_0.length c0_0, .slice A0_1 l0_1.length c0_1, .slice A0_2 l0_2.length c0_2, .int .i64 a0_3] 25 (0, 0)) (by (with_reducible repeat (first | refine zm_ ?_ _ | refine zn_ ?_ | refine zo_ ?_ _)); exact BK113.out) hb); have n1_ := Aside0.mk (zv_ (by repeat (first | (with_reducible first | exact HB.out | apply zs_ | apply zt_ | apply zu_ | refine zr_ ?_ GE113.out) | exact HB.out)) hb); clear BK113; clear HB; have BK113 := n0_; have HB := n1_; clear n0_ n1_; (try clear hb); (try clear hb2); (try clear hk); (try clear hi)))
            go_roundg k1
            case measure => have := HK1.out; omega
            case rel => exact ⟨(wrap64 (x9_1 + 1)), (by first | rfl | (simp; done) | (simp [*]; done)), H', ⟨by have := HK1.out; omega⟩, ⟨by (with_reducible repeat (first | refine zm_ ?_ _ | refine zn_ ?_ | refine zo_ ?_ _)); exact BK113.out⟩, ⟨by repeat (first | (with_reducible first | exact HB.out | apply zs_ | apply zt_ | apply zu_ | refine zr_ ?_ GE113.out) | exact HB.out)⟩⟩
        · rw [if_neg c7] at H
          have c7b0 : decide (0 ≤ t114) = false := decide_eq_false c7
          clear c7
          have H' := Aside0.mk H
          clear H
          have hcz18_0 : wr.cell? ⟨gb113, 0, none⟩ = some (.slice A0_0 l0_0.length c0_0) := (blk_cell BK113.out 0).trans rfl
          have hcz18_1 : wr.cell? ⟨gb113, 1, none⟩ = some (.slice A0_1 l0_1.length c0_1) := (blk_cell BK113.out 1).trans rfl
          have hcz18_2 : wr.cell? ⟨gb113, 2, none⟩ = some (.slice A0_2 l0_2.length c0_2) := (blk_cell BK113.out 2).trans rfl
          have hcz18_3 : wr.cell? ⟨gb113, 3, none⟩ = some (.int .i64 a0_3) := (blk_cell BK113.out 3).trans rfl
          have hfz18_0 := blk_frozen BK113.out 0
          have hfz18_1 := blk_frozen BK113.out 1
          have hfz18_2 := blk_frozen BK113.out 2
          have hfz18_3 := blk_frozen BK113.out 3
          go_wp2_with (first | ((with_reducible refine gate_callee (f := 18) rfl ?_); refine goesL_ (some 15) rfl rfl Try.func18 (by kernel_rfl) rfl #[.agg #[.slice A0_0 l0_0.length c0_0, .slice A0_1 l0_1.length c0_1, .slice A0_2 l0_2.length c0_2, .int .i64 a0_3], .int .i64 x9_1, .int .i64 a1] rfl (by (try simp only [List.map_toArray, List.map_cons, List.map_nil]); first | done | rfl | (simp only [List.length_drop, List.length_take]; rfl)) ?_; (with_reducible refine (domain_Of.calls k1 _ _ l0_0 _ _ l0_1 _ _ l0_2 a0_3 x9_1 a1 t114 _ ?side1 ?side2 ?side3 ?side4 ?side5 ?side6 A6.out).mono ?_); (case side1 => repeat (first | exact (Kd.C_below HR0_0.out HB.out) | (with_reducible refine Kd.C_alloc ?_ _) | (with_reducible refine Kd.C_drewN ?_ _) | (with_reducible refine Kd.C_drew ?_))); (case side2 => exact HC0_0.out); (case side3 => repeat (first | exact (Kd.C_below HR0_1.out HB.out) | (with_reducible refine Kd.C_alloc ?_ _) | (with_reducible refine Kd.C_drewN ?_ _) | (with_reducible refine Kd.C_drew ?_))); (case side4 => exact HC0_1.out); (case side5 => repeat (first | exact (Kd.C_below HR0_2.out HB.out) | (with_reducible refine Kd.C_alloc ?_ _) | (with_reducible refine Kd.C_drewN ?_ _) | (with_reducible refine Kd.C_drew ?_))); (case side6 => exact HC0_2.out); rintro e w19 ⟨rfl, hb⟩; refine ⟨_, rfl, ?_⟩; have n0_ := Aside0.mk (zq_ (g := gb113) (o := .cells #[.slice A0_0 l0_0.length c0_0, .slice A0_1 l0_1.length c0_1, .slice A0_2 l0_2.length c0_2, .int .i64 a0_3] 25 (0, 0)) (by (with_reducible repeat (first | refine zm_ ?_ _ | refine zn_ ?_ | refine zo_ ?_ _)); exact BK113.out) hb); have n1_ := Aside0.mk (zv_ (by repeat (first | (with_reducible first | exact HB.out | apply zs_ | apply zt_ | apply zu_ | refine zr_ ?_ GE113.out) | exact HB.out)) hb); clear BK113; clear HB; have BK113 := n0_; have HB := n1_; clear n0_ n1_; (try clear hb); (try clear hb2); (try clear hk); (try clear hi)))
          go_roundg k1
          case measure => have := HK1.out; omega
          case rel => exact ⟨(wrap64 (x9_1 + 1)), (by first | rfl | (simp; done) | (simp [*]; done)), H', ⟨by have := HK1.out; omega⟩, ⟨by (with_reducible repeat (first | refine zm_ ?_ _ | refine zn_ ?_ | refine zo_ ?_ _)); exact BK113.out⟩, ⟨by repeat (first | (with_reducible first | exact HB.out | apply zs_ | apply zt_ | apply zu_ | refine zr_ ?_ GE113.out) | exact HB.out)⟩⟩
      · rw [if_neg c5] at H
        have c5b0 : decide (x9_1 < 4) = false := decide_eq_false c5
        clear c5
        obtain rfl := Option.some.inj H
        go_wp2
        go_ret
        exact ⟨by first | rfl | (simp [errW_none, errW_some] <;> rfl) | (simp [*, errW_none, errW_some] <;> rfl), by repeat (first | (with_reducible first | exact HB.out | apply zs_ | apply zt_ | apply zu_ | refine zr_ ?_ GE113.out) | exact HB.out)⟩
def slices_Index_int_int.l0 : Nat → List Int → Int → Int → Int → Option (Int)
  | 0, _, _, _, _ => none
  | k + 1, x0, x1, x7, x8 => if x8 < x7 then (if 0 ≤ x8 then (if x8 < (x0.length : Int) then (if x1 = (rd x0 x8) then (some x8) else (slices_Index_int_int.l0 k x0 x1 x7 (wrap64 (x8 + 1)))) else (none)) else (none)) else (some (-1))
def slices_Index_int_int.f (k : Nat) (l0 : List Int) (a1 : Int) : Option (Int) := slices_Index_int_int.l0 k l0 a1 (l0.length : Int) 0
set_option maxHeartbeats 8000000 in
set_option maxRecDepth 100000 in
theorem slices_Index_int_int.calls (k : Nat) (A0 : Option Addr) (c0 : Nat) (l0 : List Int) (a1 : Int) (r : Int) (w : World) (hr0 : Kd.C (Kd.int .i64) w A0 l0.length l0) (hc0 : l0.length ≤ c0) (h : slices_Index_int_int.f k l0 a1 = some r) :
    Calls Try.prog 86 #[.slice A0 l0.length c0, .int .i64 a1] w fun e w' => e = .returned (.int .i64 r) ∧ Drawn0 w w' := by
  have HR0 := Aside0.mk hr0
  have HC0 := Aside0.mk hc0
  clear hr0 hc0
  have H : (slices_Index_int_int.l0 k l0 a1 (l0.length : Int) 0) = some r := h
  clear h
  have H' := Aside0.mk H
  clear H
  go_enter Try.func86, Try.ntmps86
  go_wp2
  go_loopg [8] k (fun kq v8 w' => ∃ (x8_1 : Int), v8 = .int .i64 x8_1 ∧ Aside0 (slices_Index_int_int.l0 kq l0 a1 (l0.length : Int) x8_1 = some r) ∧ Aside0 (kq ≤ k) ∧ Drawn0 w w')
  case atStart => exact ⟨(0), (by first | rfl | (simp; done) | (simp [*]; done)), H', ⟨Nat.le_refl _⟩, by repeat (first | exact Drawn0.refl _ | apply Drawn0.step)⟩
  case round =>
    clear H'
    try clear p2
    obtain ⟨x8_1, rfl, HA, HK1, ⟨m1, rfl⟩⟩ := hrel
    cases gk with
    | zero => exact absurd HA.out (by simp [slices_Index_int_int.l0])
    | succ k1 =>
      have H := HA.out
      clear HA
      simp only [slices_Index_int_int.l0] at H
      by_cases c3 : x8_1 < (l0.length : Int)
      · rw [if_pos c3] at H
        have c3b0 : decide (x8_1 < (l0.length : Int)) = true := decide_eq_true c3
        clear c3
        by_cases c4 : 0 ≤ x8_1
        · rw [if_pos c4] at H
          have c4b0 : decide (0 ≤ x8_1) = true := decide_eq_true c4
          clear c4
          by_cases c5 : x8_1 < (l0.length : Int)
          · rw [if_pos c5] at H
            have c5b0 : decide (x8_1 < (l0.length : Int)) = true := decide_eq_true c5
            clear c5
            by_cases c6 : a1 = (rd l0 x8_1)
            · rw [if_pos c6] at H
              have c6b0 : (a1 == (rd l0 x8_1)) = true := beq_iff_eq.mpr c6
              have c6b1 : (a1 != (rd l0 x8_1)) = false := bne_eq_false_iff_eq.mpr c6
              clear c6
              obtain rfl := Option.some.inj H
              have p116 : 0 ≤ (x8_1 : Int) := of_decide_eq_true (by first | (with_reducible assumption) | assumption)
              have q116 : x8_1 < (l0.length : Int) := of_decide_eq_true (by first | (with_reducible assumption) | assumption)
              obtain ⟨ad116, e116, hx116_0⟩ := Kd.at_int HR0.out x8_1 p116 q116
              cases e116
              replace p116 := eq_true p116
              replace q116 := eq_true q116
              go_wp2
              go_ret
              exact ⟨by first | rfl | (simp; done) | (simp [*]; done), by repeat (first | exact Drawn0.refl _ | apply Drawn0.step)⟩
            · rw [if_neg c6] at H
              have c6b0 : (a1 == (rd l0 x8_1)) = false := beq_eq_false_iff_ne.mpr c6
              have c6b1 : (a1 != (rd l0 x8_1)) = true := bne_iff_ne.mpr c6
              have H' := Aside0.mk H
              clear H
              have p116 : 0 ≤ (x8_1 : Int) := of_decide_eq_true (by first | (with_reducible assumption) | assumption)
              have q116 : x8_1 < (l0.length : Int) := of_decide_eq_true (by first | (with_reducible assumption) | assumption)
              obtain ⟨ad116, e116, hx116_0⟩ := Kd.at_int HR0.out x8_1 p116 q116
              cases e116
              replace p116 := eq_true p116
              replace q116 := eq_true q116
              go_wp2
              go_roundg k1
              case measure => have := HK1.out; omega
              case rel => exact ⟨(wrap64 (x8_1 + 1)), (by first | rfl | (simp; done) | (simp [*]; done)), H', ⟨by have := HK1.out; omega⟩, by repeat (first | exact Drawn0.refl _ | apply Drawn0.step)⟩
          · rw [if_neg c5] at H
            exact absurd H (by simp)
        · rw [if_neg c4] at H
          exact absurd H (by simp)
      · rw [if_neg c3] at H
        have c3b0 : decide (x8_1 < (l0.length : Int)) = false := decide_eq_false c3
        clear c3
        obtain rfl := Option.some.inj H
        go_wp2
        go_ret
        exact ⟨by first | rfl | (simp; done) | (simp [*]; done), by repeat (first | exact Drawn0.refl _ | apply Drawn0.step)⟩
def slices_Contains_int_int.f (k : Nat) (l0 : List Int) (a1 : Int) : Option (Bool) := (slices_Index_int_int.f k l0 a1).bind fun t117 => (some (decide (t117 ≥ 0)))
set_option maxHeartbeats 8000000 in
set_option maxRecDepth 100000 in
theorem slices_Contains_int_int.calls (k : Nat) (A0 : Option Addr) (c0 : Nat) (l0 : List Int) (a1 : Int) (r : Bool) (w : World) (hr0 : Kd.C (Kd.int .i64) w A0 l0.length l0) (hc0 : l0.length ≤ c0) (h : slices_Contains_int_int.f k l0 a1 = some r) :
    Calls Try.prog 67 #[.slice A0 l0.length c0, .int .i64 a1] w fun e w' => e = .returned (.bool r) ∧ Drawn0 w w' := by
  have HR0 := Aside0.mk hr0
  have HC0 := Aside0.mk hc0
  clear hr0 hc0
  have H : ((slices_Index_int_int.f k l0 a1).bind fun t117 => (some (decide (t117 ≥ 0)))) = some r := h
  clear h
  replace H := Option.bind_eq_some_iff.mp H
  obtain ⟨t117, A30, H⟩ := H
  replace H : (some (decide (t117 ≥ 0))) = some r := H
  have A3 := Aside0.mk A30
  clear A30
  obtain rfl := Option.some.inj H
  go_enter Try.func67, Try.ntmps67
  go_wp2_with (first | ((with_reducible refine gate_callee (f := 86) rfl ?_); refine goesL_ (some 7) rfl rfl Try.func86 (by kernel_rfl) rfl #[.slice A0 l0.length c0, .int .i64 a1] rfl (by (try simp only [List.map_toArray, List.map_cons, List.map_nil]); first | done | rfl | (simp only [List.length_drop, List.length_take]; rfl)) ?_; (with_reducible refine (slices_Index_int_int.calls k _ _ l0 a1 t117 _ ?side1 ?side2 A3.out).mono ?_); (case side1 => repeat (first | exact HR0.out | (with_reducible refine Kd.C_alloc ?_ _) | (with_reducible refine Kd.C_drewN ?_ _) | (with_reducible refine Kd.C_drew ?_))); (case side2 => exact HC0.out); rintro e w' ⟨rfl, ⟨nd, rfl⟩⟩; refine ⟨_, rfl, ?_⟩))
  go_ret
  exact ⟨by first | rfl | (simp; done) | (simp [*]; done), by repeat (first | exact Drawn0.refl _ | apply Drawn0.step)⟩
open Go.Proofs.YteknbadjfojmbaaW.PrintWords renaming blk_drewN → zm_, blk_drew → zn_, blk_alloc → zo_, blk_below → zq_, below_set → zr_, below_alloc → zs_, pw_below_drewN → zt_, below_drew1 → zu_, below_step → zv_, below_size → zw_
def domain_Left.l0 : Nat → Int → List Int → Int → List Int → Int → Int → List Int → List (S117) → List Int → Int → Option (Int)
  | 0, _, _, _, _, _, _, _, _, _, _ => none
  | k + 1, x1, x3, x9, x17, x18, x19, x119000, x119001, x119002, x119003 => if x19 < x18 then (if 0 ≤ x19 then (if x19 < (x17.length : Int) then ((domain_Of.f k x119000 x119001 x119002 x119003 x1 (rd x17 x19)).bind fun t120 => (if t120 ≥ 0 then ((slices_Contains_int_int.f k x3 t120).bind fun t121 => (if t121 = true then (domain_Left.l0 k x1 x3 x9 x17 x18 (wrap64 (x19 + 1)) x119000 x119001 x119002 x119003) else (domain_Left.l0 k x1 x3 (Go.bits .or .i64 x9 (shl .i64 1 x19)) x17 x18 (wrap64 (x19 + 1)) x119000 x119001 x119002 x119003))) else (domain_Left.l0 k x1 x3 x9 x17 x18 (wrap64 (x19 + 1)) x119000 x119001 x119002 x119003))) else (none)) else (none)) else (some x9)
def domain_Left.f (k : Nat) (l0_0 : List Int) (l0_1 : List (S117)) (l0_2 : List Int) (a0_3 : Int) (a1 : Int) (l2 : List Int) (l3 : List Int) : Option (Int) := if (l2.length : Int) > 24 then (some 0) else (domain_Left.l0 k a1 l3 0 l2 (l2.length : Int) 0 l0_0 l0_1 l0_2 a0_3)
set_option maxHeartbeats 8000000 in
set_option maxRecDepth 100000 in
theorem domain_Left.calls (k : Nat) (A0_0 : Option Addr) (c0_0 : Nat) (l0_0 : List Int) (A0_1 : Option Addr) (c0_1 : Nat) (l0_1 : List (S117)) (A0_2 : Option Addr) (c0_2 : Nat) (l0_2 : List Int) (a0_3 : Int) (a1 : Int) (A2 : Option Addr) (c2 : Nat) (l2 : List Int) (A3 : Option Addr) (c3 : Nat) (l3 : List Int) (r : Int) (w : World) (hr0_0 : Kd.C (Kd.int .i64) w A0_0 l0_0.length l0_0) (hc0_0 : l0_0.length ≤ c0_0) (hr0_1 : Kd.C k117 w A0_1 l0_1.length l0_1) (hc0_1 : l0_1.length ≤ c0_1) (hr0_2 : Kd.C (Kd.int .i64) w A0_2 l0_2.length l0_2) (hc0_2 : l0_2.length ≤ c0_2) (hr2 : Kd.C (Kd.int .i64) w A2 l2.length l2) (hc2 : l2.length ≤ c2) (hr3 : Kd.C (Kd.int .i64) w A3 l3.length l3) (hc3 : l3.length ≤ c3) (h : domain_Left.f k l0_0 l0_1 l0_2 a0_3 a1 l2 l3 = some r) :
    Calls Try.prog 27 #[.agg #[.slice A0_0 l0_0.length c0_0, .slice A0_1 l0_1.length c0_1, .slice A0_2 l0_2.length c0_2, .int .i64 a0_3], .int .i64 a1, .slice A2 l2.length c2, .slice A3 l3.length c3] w fun e w' => e = .returned (.int .i64 r) ∧ Below w.heap.size w w' := by
  have hu25 := Try.underlying25
  have HR0_0 := Aside0.mk hr0_0
  have HC0_0 := Aside0.mk hc0_0
  clear hr0_0 hc0_0
  have HR0_1 := Aside0.mk hr0_1
  have HC0_1 := Aside0.mk hc0_1
  clear hr0_1 hc0_1
  have HR0_2 := Aside0.mk hr0_2
  have HC0_2 := Aside0.mk hc0_2
  clear hr0_2 hc0_2
  have HR2 := Aside0.mk hr2
  have HC2 := Aside0.mk hc2
  clear hr2 hc2
  have HR3 := Aside0.mk hr3
  have HC3 := Aside0.mk hc3
  clear hr3 hc3
  have HB := Aside0.mk (Below.refl w.heap.size w)
  have H : (if (l2.length : Int) > 24 then (some 0) else (domain_Left.l0 k a1 l3 0 l2 (l2.length : Int) 0 l0_0 l0_1 l0_2 a0_3)) = some r := h
  clear h
  by_cases c5 : (l2.length : Int) > 24
  · rw [if_pos c5] at H
    have c5b0 : decide (24 < (l2.length : Int)) = true := decide_eq_true c5
    have c5b1 : decide (24 < l2.length) = true := decide_eq_true (by omega)
    clear c5
    obtain rfl := Option.some.inj H
    go_enter Try.func27, Try.ntmps27
    go_wp2_with (first | ((with_reducible refine gate_dst (N := 4) rfl ?_); refine box_event ?hg (N := 4) ?hd (cs := #[.slice A0_0 l0_0.length c0_0, .slice A0_1 l0_1.length c0_1, .slice A0_2 l0_2.length c0_2, .int .i64 a0_3]) (t := 25) ?hr ?_; (case hd => rfl); (case hg => rfl); (case hr => first | (go_simp; done) | (go_simp; rfl)); intro gb118 hg w6 hbox hb; have n0_ := Aside0.mk (zv_ (by repeat (first | (with_reducible first | exact HB.out | apply zs_ | apply zt_ | apply zu_) | exact HB.out)) hb); have n1_ := Aside0.mk (hbox); have n2_ := Aside0.mk ((by rw [hg]; exact (zw_ (by repeat (first | (with_reducible first | exact HB.out | apply zs_ | apply zt_ | apply zu_) | exact HB.out))) : w.heap.size ≤ gb118)); have n3_ := Aside0.mk ((by rw [hg]; exact (zw_ (by repeat (first | (with_reducible first | exact HB.out | apply zs_ | apply zt_ | apply zu_) | exact HB.out))) : w.heap.size ≤ gb118)); clear HB; have HB := n0_; have BK118 := n1_; have GW118 := n2_; have GE118 := n3_; clear n0_ n1_ n2_ n3_; clear hb hbox hg))
    go_ret
    exact ⟨by first | rfl | (simp [errW_none, errW_some] <;> rfl) | (simp [*, errW_none, errW_some] <;> rfl), by repeat (first | (with_reducible first | exact HB.out | apply zs_ | apply zt_ | apply zu_ | refine zr_ ?_ GE118.out) | exact HB.out)⟩
  · rw [if_neg c5] at H
    have c5b0 : decide (24 < (l2.length : Int)) = false := decide_eq_false c5
    have c5b1 : decide (24 < l2.length) = false := decide_eq_false (by omega)
    clear c5
    have H' := Aside0.mk H
    clear H
    go_enter Try.func27, Try.ntmps27
    go_wp2_with (first | ((with_reducible refine gate_dst (N := 4) rfl ?_); refine box_event ?hg (N := 4) ?hd (cs := #[.slice A0_0 l0_0.length c0_0, .slice A0_1 l0_1.length c0_1, .slice A0_2 l0_2.length c0_2, .int .i64 a0_3]) (t := 25) ?hr ?_; (case hd => rfl); (case hg => rfl); (case hr => first | (go_simp; done) | (go_simp; rfl)); intro gb118 hg w7 hbox hb; have n0_ := Aside0.mk (zv_ (by repeat (first | (with_reducible first | exact HB.out | apply zs_ | apply zt_ | apply zu_) | exact HB.out)) hb); have n1_ := Aside0.mk (hbox); have n2_ := Aside0.mk ((by rw [hg]; exact (zw_ (by repeat (first | (with_reducible first | exact HB.out | apply zs_ | apply zt_ | apply zu_) | exact HB.out))) : w.heap.size ≤ gb118)); have n3_ := Aside0.mk ((by rw [hg]; exact (zw_ (by repeat (first | (with_reducible first | exact HB.out | apply zs_ | apply zt_ | apply zu_) | exact HB.out))) : w.heap.size ≤ gb118)); clear HB; have HB := n0_; have BK118 := n1_; have GW118 := n2_; have GE118 := n3_; clear n0_ n1_ n2_ n3_; clear hb hbox hg))
    go_loopg [9, 19] k (fun kq v9 v19 w' => ∃ (x9_1 : Int) (x19_1 : Int), v9 = .int .i64 x9_1 ∧ v19 = .int .i64 x19_1 ∧ Aside0 (domain_Left.l0 kq a1 l3 x9_1 l2 (l2.length : Int) x19_1 l0_0 l0_1 l0_2 a0_3 = some r) ∧ Aside0 (kq ≤ k) ∧ Aside0 (w'.heap[gb118]? = some (.cells #[(.slice A0_0 l0_0.length c0_0), (.slice A0_1 l0_1.length c0_1), (.slice A0_2 l0_2.length c0_2), .int .i64 a0_3] 25 (0, 0))) ∧ Aside0 (Below w.heap.size w w'))
    case atStart => exact ⟨(0), (0), (by first | rfl | (simp; done) | (simp [*]; done)), (by first | rfl | (simp; done) | (simp [*]; done)), H', ⟨Nat.le_refl _⟩, ⟨by (with_reducible repeat (first | refine zm_ ?_ _ | refine zn_ ?_ | refine zo_ ?_ _)); exact BK118.out⟩, ⟨by repeat (first | (with_reducible first | exact HB.out | apply zs_ | apply zt_ | apply zu_ | refine zr_ ?_ GE118.out) | exact HB.out)⟩⟩
    case round =>
      clear H'
      try clear c2
      try clear p2
      try clear c3
      try clear c5
      try clear c5b0
      try clear c5b1
      obtain ⟨x9_1, x19_1, rfl, rfl, HA, HK1, BK118, HB⟩ := hrel
      cases gk with
      | zero => exact absurd HA.out (by simp [domain_Left.l0])
      | succ k1 =>
        have H := HA.out
        clear HA
        simp only [domain_Left.l0] at H
        by_cases c8 : x19_1 < (l2.length : Int)
        · rw [if_pos c8] at H
          have c8b0 : decide (x19_1 < (l2.length : Int)) = true := decide_eq_true c8
          clear c8
          by_cases c9 : 0 ≤ x19_1
          · rw [if_pos c9] at H
            have c9b0 : decide (0 ≤ x19_1) = true := decide_eq_true c9
            clear c9
            by_cases c10 : x19_1 < (l2.length : Int)
            · rw [if_pos c10] at H
              have c10b0 : decide (x19_1 < (l2.length : Int)) = true := decide_eq_true c10
              clear c10
              replace H := Option.bind_eq_some_iff.mp H
              obtain ⟨t120, A110, H⟩ := H
              replace H : (if t120 ≥ 0 then ((slices_Contains_int_int.f k1 l3 t120).bind fun t121 => (if t121 = true then (domain_Left.l0 k1 a1 l3 x9_1 l2 (l2.length : Int) (wrap64 (x19_1 + 1)) l0_0 l0_1 l0_2 a0_3) else (domain_Left.l0 k1 a1 l3 (Go.bits .or .i64 x9_1 (shl .i64 1 x19_1)) l2 (l2.length : Int) (wrap64 (x19_1 + 1)) l0_0 l0_1 l0_2 a0_3))) else (domain_Left.l0 k1 a1 l3 x9_1 l2 (l2.length : Int) (wrap64 (x19_1 + 1)) l0_0 l0_1 l0_2 a0_3)) = some r := H
              have A11 := Aside0.mk A110
              clear A110
              by_cases c12 : t120 ≥ 0
              · rw [if_pos c12] at H
                have c12b0 : decide (0 ≤ t120) = true := decide_eq_true c12
                clear c12
                replace H := Option.bind_eq_some_iff.mp H
                obtain ⟨t121, A130, H⟩ := H
                replace H : (if t121 = true then (domain_Left.l0 k1 a1 l3 x9_1 l2 (l2.length : Int) (wrap64 (x19_1 + 1)) l0_0 l0_1 l0_2 a0_3) else (domain_Left.l0 k1 a1 l3 (Go.bits .or .i64 x9_1 (shl .i64 1 x19_1)) l2 (l2.length : Int) (wrap64 (x19_1 + 1)) l0_0 l0_1 l0_2 a0_3)) = some r := H
                have A13 := Aside0.mk A130
                clear A130
                by_cases c14 : t121 = true
                · subst c14
                  have H1 : (domain_Left.l0 k1 a1 l3 x9_1 l2 (l2.length : Int) (wrap64 (x19_1 + 1)) l0_0 l0_1 l0_2 a0_3) = some r := by rw [if_pos rfl] at H; exact H
                  clear H
                  have H := H1
                  clear H1
                  have H' := Aside0.mk H
                  clear H
                  have p119 : 0 ≤ (x19_1 : Int) := of_decide_eq_true (by first | (with_reducible assumption) | assumption)
                  have q119 : x19_1 < (l2.length : Int) := of_decide_eq_true (by first | (with_reducible assumption) | assumption)
                  obtain ⟨ad119, e119, hx119_0⟩ := Kd.at_int HR2.out x19_1 p119 q119
                  cases e119
                  replace hx119_0 := (HB.out.cell (World.block_lt_of_cell? w _ hx119_0)).trans hx119_0
                  replace p119 := eq_true p119
                  replace q119 := eq_true q119
                  have hcz15_0 : wr.cell? ⟨gb118, 0, none⟩ = some (.slice A0_0 l0_0.length c0_0) := (blk_cell BK118.out 0).trans rfl
                  have hcz15_1 : wr.cell? ⟨gb118, 1, none⟩ = some (.slice A0_1 l0_1.length c0_1) := (blk_cell BK118.out 1).trans rfl
                  have hcz15_2 : wr.cell? ⟨gb118, 2, none⟩ = some (.slice A0_2 l0_2.length c0_2) := (blk_cell BK118.out 2).trans rfl
                  have hcz15_3 : wr.cell? ⟨gb118, 3, none⟩ = some (.int .i64 a0_3) := (blk_cell BK118.out 3).trans rfl
                  have hfz15_0 := blk_frozen BK118.out 0
                  have hfz15_1 := blk_frozen BK118.out 1
                  have hfz15_2 := blk_frozen BK118.out 2
                  have hfz15_3 := blk_frozen BK118.out 3
                  go_wp2_with (first | ((with_reducible refine gate_callee (f := 18) rfl ?_); refine goesL_ (some 27) rfl rfl Try.func18 (by kernel_rfl) rfl #[.agg #[.slice A0_0 l0_0.length c0_0, .slice A0_1 l0_1.length c0_1, .slice A0_2 l0_2.length c0_2, .int .i64 a0_3], .int .i64 a1, .int .i64 (rd l2 x19_1)] rfl (by (try simp only [List.map_toArray, List.map_cons, List.map_nil]); first | done | rfl | (simp only [List.length_drop, List.length_take]; rfl)) ?_; (with_reducible refine (domain_Of.calls k1 _ _ l0_0 _ _ l0_1 _ _ l0_2 a0_3 a1 (rd l2 x19_1) t120 _ ?side1 ?side2 ?side3 ?side4 ?side5 ?side6 A11.out).mono ?_); (case side1 => repeat (first | exact (Kd.C_below HR0_0.out HB.out) | (with_reducible refine Kd.C_alloc ?_ _) | (with_reducible refine Kd.C_drewN ?_ _) | (with_reducible refine Kd.C_drew ?_))); (case side2 => exact HC0_0.out); (case side3 => repeat (first | exact (Kd.C_below HR0_1.out HB.out) | (with_reducible refine Kd.C_alloc ?_ _) | (with_reducible refine Kd.C_drewN ?_ _) | (with_reducible refine Kd.C_drew ?_))); (case side4 => exact HC0_1.out); (case side5 => repeat (first | exact (Kd.C_below HR0_2.out HB.out) | (with_reducible refine Kd.C_alloc ?_ _) | (with_reducible refine Kd.C_drewN ?_ _) | (with_reducible refine Kd.C_drew ?_))); (case side6 => exact HC0_2.out); rintro e w16 ⟨rfl, hb⟩; refine ⟨_, rfl, ?_⟩; have n0_ := Aside0.mk (zq_ (g := gb118) (o := .cells #[.slice A0_0 l0_0.length c0_0, .slice A0_1 l0_1.length c0_1, .slice A0_2 l0_2.length c0_2, .int .i64 a0_3] 25 (0, 0)) (by (with_reducible repeat (first | refine zm_ ?_ _ | refine zn_ ?_ | refine zo_ ?_ _)); exact BK118.out) hb); have n1_ := Aside0.mk (zv_ (by repeat (first | (with_reducible first | exact HB.out | apply zs_ | apply zt_ | apply zu_ | refine zr_ ?_ GE118.out) | exact HB.out)) hb); clear BK118; clear HB; have BK118 := n0_; have HB := n1_; clear n0_ n1_; (try clear hb); (try clear hb2); (try clear hk); (try clear hi)) | (go_at_call 67; (with_reducible refine (slices_Contains_int_int.calls k1 _ _ l3 t120 true _ ?side1 ?side2 A13.out).mono ?_); (case side1 => repeat (first | exact (Kd.C_below HR3.out HB.out) | (with_reducible refine Kd.C_alloc ?_ _) | (with_reducible refine Kd.C_drewN ?_ _) | (with_reducible refine Kd.C_drew ?_))); (case side2 => exact HC3.out); rintro e w' ⟨rfl, ⟨nd, rfl⟩⟩))
                  go_roundg k1
                  case measure => have := HK1.out; omega
                  case rel => exact ⟨(x9_1), (wrap64 (x19_1 + 1)), (by first | rfl | (simp; done) | (simp [*]; done)), (by first | rfl | (simp; done) | (simp [*]; done)), (by first | exact H' | (simp only [hji18]; exact H') | (rw [hji18]; exact H')), ⟨by have := HK1.out; omega⟩, ⟨by (with_reducible repeat (first | refine zm_ ?_ _ | refine zn_ ?_ | refine zo_ ?_ _)); exact BK118.out⟩, ⟨by repeat (first | (with_reducible first | exact HB.out | apply zs_ | apply zt_ | apply zu_ | refine zr_ ?_ GE118.out) | exact HB.out)⟩⟩
                · replace c14 := Bool.eq_false_iff.mpr c14
                  subst c14
                  have H1 : (domain_Left.l0 k1 a1 l3 (Go.bits .or .i64 x9_1 (shl .i64 1 x19_1)) l2 (l2.length : Int) (wrap64 (x19_1 + 1)) l0_0 l0_1 l0_2 a0_3) = some r := by rw [if_neg (show ¬ (false = true) by decide)] at H; exact H
                  clear H
                  have H := H1
                  clear H1
                  have c17b0 := eq_true (of_decide_eq_true (by first | (with_reducible assumption) | assumption) : 0 ≤ x19_1)
                  obtain ⟨ji18, hji18⟩ : ∃ j_ : Int, (shl .i64 1 x19_1) = j_ := ⟨_, rfl⟩
                  replace H : (domain_Left.l0 k1 a1 l3 (Go.bits .or .i64 x9_1 (ji18)) l2 (l2.length : Int) (wrap64 (x19_1 + 1)) l0_0 l0_1 l0_2 a0_3) = some r := by first | (rw [hji18] at H; exact H) | (simp only [hji18] at H ⊢; exact H)
                  (try rw [hji18] at A11)
                  (try rw [hji18] at A13)
                  have hji18_ : (IntKind.i64.wrap (1 * 2 ^ min x19_1.toNat 64)) = ji18 := hji18
                  have hji18z : x19_1 ≤ 64 → (IntKind.i64.wrap (1 * 2 ^ x19_1.toNat)) = ji18 := shl_small hji18
                  have hji18u : (IntKind.i64.wrap (2 ^ min x19_1.toNat 64)) = ji18 := by have h_ := hji18_; rw [Int.one_mul] at h_; exact h_
                  have hji18v : x19_1 ≤ 64 → (IntKind.i64.wrap (2 ^ x19_1.toNat)) = ji18 := fun hle_ => by have h_ := hji18z hle_; rw [Int.one_mul] at h_; exact h_
                  have hji18y : (wrap64 (1 * 2 ^ min x19_1.toNat 64)) = ji18 := (i64_w _).symm.trans hji18_
                  have hji18x : x19_1 ≤ 64 → (wrap64 (1 * 2 ^ x19_1.toNat)) = ji18 := fun h_ => (i64_w _).symm.trans (hji18z h_)
                  have H' := Aside0.mk H
                  clear H
                  have p119 : 0 ≤ (x19_1 : Int) := of_decide_eq_true (by first | (with_reducible assumption) | assumption)
                  have q119 : x19_1 < (l2.length : Int) := of_decide_eq_true (by first | (with_reducible assumption) | assumption)
                  obtain ⟨ad119, e119, hx119_0⟩ := Kd.at_int HR2.out x19_1 p119 q119
                  cases e119
                  replace hx119_0 := (HB.out.cell (World.block_lt_of_cell? w _ hx119_0)).trans hx119_0
                  replace p119 := eq_true p119
                  replace q119 := eq_true q119
                  have hcz19_0 : wr.cell? ⟨gb118, 0, none⟩ = some (.slice A0_0 l0_0.length c0_0) := (blk_cell BK118.out 0).trans rfl
                  have hcz19_1 : wr.cell? ⟨gb118, 1, none⟩ = some (.slice A0_1 l0_1.length c0_1) := (blk_cell BK118.out 1).trans rfl
                  have hcz19_2 : wr.cell? ⟨gb118, 2, none⟩ = some (.slice A0_2 l0_2.length c0_2) := (blk_cell BK118.out 2).trans rfl
                  have hcz19_3 : wr.cell? ⟨gb118, 3, none⟩ = some (.int .i64 a0_3) := (blk_cell BK118.out 3).trans rfl
                  have hfz19_0 := blk_frozen BK118.out 0
                  have hfz19_1 := blk_frozen BK118.out 1
                  have hfz19_2 := blk_frozen BK118.out 2
                  have hfz19_3 := blk_frozen BK118.out 3
                  go_wp2_with (first | ((with_reducible refine gate_callee (f := 18) rfl ?_); refine goesL_ (some 27) rfl rfl Try.func18 (by kernel_rfl) rfl #[.agg #[.slice A0_0 l0_0.length c0_0, .slice A0_1 l0_1.length c0_1, .slice A0_2 l0_2.length c0_2, .int .i64 a0_3], .int .i64 a1, .int .i64 (rd l2 x19_1)] rfl (by (try simp only [List.map_toArray, List.map_cons, List.map_nil]); first | done | rfl | (simp only [List.length_drop, List.length_take]; rfl)) ?_; (with_reducible refine (domain_Of.calls k1 _ _ l0_0 _ _ l0_1 _ _ l0_2 a0_3 a1 (rd l2 x19_1) t120 _ ?side1 ?side2 ?side3 ?side4 ?side5 ?side6 A11.out).mono ?_); (case side1 => repeat (first | exact (Kd.C_below HR0_0.out HB.out) | (with_reducible refine Kd.C_alloc ?_ _) | (with_reducible refine Kd.C_drewN ?_ _) | (with_reducible refine Kd.C_drew ?_))); (case side2 => exact HC0_0.out); (case side3 => repeat (first | exact (Kd.C_below HR0_1.out HB.out) | (with_reducible refine Kd.C_alloc ?_ _) | (with_reducible refine Kd.C_drewN ?_ _) | (with_reducible refine Kd.C_drew ?_))); (case side4 => exact HC0_1.out); (case side5 => repeat (first | exact (Kd.C_below HR0_2.out HB.out) | (with_reducible refine Kd.C_alloc ?_ _) | (with_reducible refine Kd.C_drewN ?_ _) | (with_reducible refine Kd.C_drew ?_))); (case side6 => exact HC0_2.out); rintro e w20 ⟨rfl, hb⟩; refine ⟨_, rfl, ?_⟩; have n0_ := Aside0.mk (zq_ (g := gb118) (o := .cells #[.slice A0_0 l0_0.length c0_0, .slice A0_1 l0_1.length c0_1, .slice A0_2 l0_2.length c0_2, .int .i64 a0_3] 25 (0, 0)) (by (with_reducible repeat (first | refine zm_ ?_ _ | refine zn_ ?_ | refine zo_ ?_ _)); exact BK118.out) hb); have n1_ := Aside0.mk (zv_ (by repeat (first | (with_reducible first | exact HB.out | apply zs_ | apply zt_ | apply zu_ | refine zr_ ?_ GE118.out) | exact HB.out)) hb); clear BK118; clear HB; have BK118 := n0_; have HB := n1_; clear n0_ n1_; (try clear hb); (try clear hb2); (try clear hk); (try clear hi)) | (go_at_call 67; (with_reducible refine (slices_Contains_int_int.calls k1 _ _ l3 t120 false _ ?side1 ?side2 A13.out).mono ?_); (case side1 => repeat (first | exact (Kd.C_below HR3.out HB.out) | (with_reducible refine Kd.C_alloc ?_ _) | (with_reducible refine Kd.C_drewN ?_ _) | (with_reducible refine Kd.C_drew ?_))); (case side2 => exact HC3.out); rintro e w' ⟨rfl, ⟨nd, rfl⟩⟩))
                  go_roundg k1
                  case measure => have := HK1.out; omega
                  case rel => exact ⟨(Go.bits .or .i64 x9_1 (ji18)), (wrap64 (x19_1 + 1)), (by first | rfl | (simp; done) | (simp only [← hji18] <;> (first | rfl | simp)) | (simp [*]; done)), (by first | rfl | (simp; done) | (simp [*]; done)), (by first | exact H' | (simp only [hji18]; exact H') | (rw [hji18]; exact H')), ⟨by have := HK1.out; omega⟩, ⟨by (with_reducible repeat (first | refine zm_ ?_ _ | refine zn_ ?_ | refine zo_ ?_ _)); exact BK118.out⟩, ⟨by repeat (first | (with_reducible first | exact HB.out | apply zs_ | apply zt_ | apply zu_ | refine zr_ ?_ GE118.out) | exact HB.out)⟩⟩
              · rw [if_neg c12] at H
                have c12b0 : decide (0 ≤ t120) = false := decide_eq_false c12
                clear c12
                have H' := Aside0.mk H
                clear H
                have p119 : 0 ≤ (x19_1 : Int) := of_decide_eq_true (by first | (with_reducible assumption) | assumption)
                have q119 : x19_1 < (l2.length : Int) := of_decide_eq_true (by first | (with_reducible assumption) | assumption)
                obtain ⟨ad119, e119, hx119_0⟩ := Kd.at_int HR2.out x19_1 p119 q119
                cases e119
                replace hx119_0 := (HB.out.cell (World.block_lt_of_cell? w _ hx119_0)).trans hx119_0
                replace p119 := eq_true p119
                replace q119 := eq_true q119
                have hcz21_0 : wr.cell? ⟨gb118, 0, none⟩ = some (.slice A0_0 l0_0.length c0_0) := (blk_cell BK118.out 0).trans rfl
                have hcz21_1 : wr.cell? ⟨gb118, 1, none⟩ = some (.slice A0_1 l0_1.length c0_1) := (blk_cell BK118.out 1).trans rfl
                have hcz21_2 : wr.cell? ⟨gb118, 2, none⟩ = some (.slice A0_2 l0_2.length c0_2) := (blk_cell BK118.out 2).trans rfl
                have hcz21_3 : wr.cell? ⟨gb118, 3, none⟩ = some (.int .i64 a0_3) := (blk_cell BK118.out 3).trans rfl
                have hfz21_0 := blk_frozen BK118.out 0
                have hfz21_1 := blk_frozen BK118.out 1
                have hfz21_2 := blk_frozen BK118.out 2
                have hfz21_3 := blk_frozen BK118.out 3
                go_wp2_with (first | ((with_reducible refine gate_callee (f := 18) rfl ?_); refine goesL_ (some 27) rfl rfl Try.func18 (by kernel_rfl) rfl #[.agg #[.slice A0_0 l0_0.length c0_0, .slice A0_1 l0_1.length c0_1, .slice A0_2 l0_2.length c0_2, .int .i64 a0_3], .int .i64 a1, .int .i64 (rd l2 x19_1)] rfl (by (try simp only [List.map_toArray, List.map_cons, List.map_nil]); first | done | rfl | (simp only [List.length_drop, List.length_take]; rfl)) ?_; (with_reducible refine (domain_Of.calls k1 _ _ l0_0 _ _ l0_1 _ _ l0_2 a0_3 a1 (rd l2 x19_1) t120 _ ?side1 ?side2 ?side3 ?side4 ?side5 ?side6 A11.out).mono ?_); (case side1 => repeat (first | exact (Kd.C_below HR0_0.out HB.out) | (with_reducible refine Kd.C_alloc ?_ _) | (with_reducible refine Kd.C_drewN ?_ _) | (with_reducible refine Kd.C_drew ?_))); (case side2 => exact HC0_0.out); (case side3 => repeat (first | exact (Kd.C_below HR0_1.out HB.out) | (with_reducible refine Kd.C_alloc ?_ _) | (with_reducible refine Kd.C_drewN ?_ _) | (with_reducible refine Kd.C_drew ?_))); (case side4 => exact HC0_1.out); (case side5 => repeat (first | exact (Kd.C_below HR0_2.out HB.out) | (with_reducible refine Kd.C_alloc ?_ _) | (with_reducible refine Kd.C_drewN ?_ _) | (with_reducible refine Kd.C_drew ?_))); (case side6 => exact HC0_2.out); rintro e w22 ⟨rfl, hb⟩; refine ⟨_, rfl, ?_⟩; have n0_ := Aside0.mk (zq_ (g := gb118) (o := .cells #[.slice A0_0 l0_0.length c0_0, .slice A0_1 l0_1.length c0_1, .slice A0_2 l0_2.length c0_2, .int .i64 a0_3] 25 (0, 0)) (by (with_reducible repeat (first | refine zm_ ?_ _ | refine zn_ ?_ | refine zo_ ?_ _)); exact BK118.out) hb); have n1_ := Aside0.mk (zv_ (by repeat (first | (with_reducible first | exact HB.out | apply zs_ | apply zt_ | apply zu_ | refine zr_ ?_ GE118.out) | exact HB.out)) hb); clear BK118; clear HB; have BK118 := n0_; have HB := n1_; clear n0_ n1_; (try clear hb); (try clear hb2); (try clear hk); (try clear hi)))
                go_roundg k1
                case measure => have := HK1.out; omega
                case rel => exact ⟨(x9_1), (wrap64 (x19_1 + 1)), (by first | rfl | (simp; done) | (simp [*]; done)), (by first | rfl | (simp; done) | (simp [*]; done)), (by first | exact H' | (simp only [hji18]; exact H') | (rw [hji18]; exact H')), ⟨by have := HK1.out; omega⟩, ⟨by (with_reducible repeat (first | refine zm_ ?_ _ | refine zn_ ?_ | refine zo_ ?_ _)); exact BK118.out⟩, ⟨by repeat (first | (with_reducible first | exact HB.out | apply zs_ | apply zt_ | apply zu_ | refine zr_ ?_ GE118.out) | exact HB.out)⟩⟩
            · rw [if_neg c10] at H
              exact absurd H (by simp)
          · rw [if_neg c9] at H
            exact absurd H (by simp)
        · rw [if_neg c8] at H
          have c8b0 : decide (x19_1 < (l2.length : Int)) = false := decide_eq_false c8
          clear c8
          obtain rfl := Option.some.inj H
          go_wp2
          go_ret
          exact ⟨by first | rfl | (simp [errW_none, errW_some] <;> rfl) | (simp [*, errW_none, errW_some] <;> rfl), by repeat (first | (with_reducible first | exact HB.out | apply zs_ | apply zt_ | apply zu_ | refine zr_ ?_ GE118.out) | exact HB.out)⟩
end Go.Proofs.Yteknbadjfojmbaa.QA
